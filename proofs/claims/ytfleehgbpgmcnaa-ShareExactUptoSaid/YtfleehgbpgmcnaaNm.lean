import Derived.Test.YtfleehgbpgmcnaaNl
set_option maxRecDepth 100000
set_option linter.unusedVariables false
namespace Go.Proofs.Ytfleehgbpgmcnaa
open Go Go.Sl

set_option maxHeartbeats 4000000
attribute [local irreducible] valL pw cmpZ p2
theorem one_lt5 : (((-1 : Int)).natAbs : Int) < pw 5 := Int.lt_of_lt_of_le mone_lt (pw_le (by decide))
/-- what 'do' answers -/
def DoPost (i : Sl.Instr) (rs : List (List Int)) (H0 : Hp) (v : Value) (G' : Imm) (Ho : Hp) : Prop :=
  ∃ rv, v = .tuple #[rv, .bool (decide (doI i rs ≠ none))] ∧ (∀ zs, doI i rs = some zs → ∃ s : SV, rv = .slice s.a s.n s.c ∧ RowS G' s zs) ∧ Ho = H0
theorem do_some {i : Sl.Instr} {rs : List (List Int)} {H0 : Hp} {s : SV} {G' : Imm} {zs : List Int} (h : doI i rs = some zs) (hs : RowS G' s zs) : DoPost i rs H0 (.tuple #[.slice s.a s.n s.c, .bool true]) G' H0 :=
  ⟨_, by rw [decide_eq_true (show doI i rs ≠ none from fun e => by rw [e] at h; cases h)], fun zs' h' => by rw [h] at h'; cases h'; exact ⟨s, rfl, hs⟩, rfl⟩
theorem do_over {i : Sl.Instr} {rs : List (List Int)} {H0 : Hp} {rv : Value} {G' : Imm} {y : Int} {xs : List Int} (h : doI i rs = if AllDiv y xs then some (xs.map (· / y)) else none)
    (hs : AllDiv y xs → ∃ s : SV, rv = .slice s.a s.n s.c ∧ RowS G' s (xs.map (· / y))) : DoPost i rs H0 (.tuple #[rv, .bool (decide (AllDiv y xs))]) G' H0 := by
  by_cases ha : AllDiv y xs
  · rw [if_pos ha] at h
    obtain ⟨s, e1, e2⟩ := hs ha
    subst e1
    rw [decide_eq_true ha]
    exact do_some h e2
  · rw [if_neg ha] at h
    refine ⟨rv, by rw [decide_eq_false ha, decide_eq_false (show ¬ doI i rs ≠ none from fun e => e h)], (fun zs hz => by rw [h] at hz; cases hz), rfl⟩
theorem c62 (G : Imm) (i : Sl.Instr) (o : Option Addr) (d : Nat) (r : List SV) (j : List Value) (rs : List (List Int)) (m N : Nat) (hob : OwnA o d r j) (hg : Grid G r rs) (he : Even m N rs) (hN : N ≤ 1048576) (hm : 5 + m ≤ 134217728)
    (hop : 1 ≤ i.op ∧ i.op ≤ 8) (ha : 0 ≤ i.a ∧ i.a < r.length) (hb : i.op = 3 ∨ i.op = 4 → 0 ≤ i.b ∧ i.b < r.length) (hcc : constOk i.op i.c = true) (hr : r.length ≤ 1048576) (hz : i.op ≠ 1 → i.op ≠ 2 → i.op ≠ 3 → i.op ≠ 4 → cst i ≠ 0 ∧ ((cst i).natAbs : Int) < pw 5)
    (hc1 : i.op = 5 ∨ i.op = 6 → -9223372036854775808 ≤ i.c ∧ i.c ≤ 9223372036854775807) (hc2 : ¬ (i.op = 5 ∨ i.op = 6) → 0 ≤ i.c ∧ i.c ≤ 64) :
    Does Try.prog 62 [.agg (Cells.enc i).toArray, .slice o r.length d] G [(0, o.map (·.block), Row 40 r j)] (fun v G' Ho => DoPost i rs [(0, o.map (·.block), Row 40 r j)] v G' Ho) := by
  have hgl := hg.1
  have hca := hob.le
  have haR := hg.at ha
  obtain ⟨haL, haB⟩ := he.at (k := i.a) (by omega)
  have haN : (r[i.a.toNat]?.getD default).n ≤ 1048576 := by rw [haR.len, haL]; exact hN
  have hm1 : 1 + m ≤ 134217728 := by omega
  have hm2 : m ≤ 134217728 := by omega
  have hmone := one_lt5
  refine Does.enter Try.func62 rfl Try.ntmps62 rfl (fun w => ?_)
  by_cases h2 : i.op = 2
  · refine Wc.seq ?_
    refine Wc.region rfl ?_
    refine Wl.box 1 rfl rfl rfl (fun b1 => ?_)
    refine Wl.q rfl (Qy.assign rfl) ?_
    refine Wl.q rfl (Qy.assign rfl) ?_
    refine Wl.done ?_
    refine Ar.next ?_
    refine Wc.seq ?_
    refine Wc.region rfl ?_
    refine Wl.q rfl (Qy.move rfl) ?_
    refine Wl.q rfl (Qy.fieldAddr T.fa34_2 rfl) ?_
    refine Wl.q rfl (Qy.load 1 T.one3 rfl rfl rfl) ?_
    refine Wl.q rfl (Qy.indexAddrO (α := SV) T.sl37 rfl rfl (by assumption) (by omega)) ?_
    refine Wl.q rfl (Qy.loadO 0 0 T.one40 rfl rfl (by assumption) (by omega) rfl rfl) ?_
    refine Wl.q rfl (Qy.assign rfl) ?_
    refine Wl.done ?_
    refine Ar.next ?_
    refine Wc.seq ?_
    refine Wc.seq ?_
    refine Wc.region rfl ?_
    refine Wl.q rfl (Qy.fieldAddr T.fa34_0 rfl) ?_
    refine Wl.q rfl (Qy.load 1 T.one3 rfl rfl rfl) ?_
    refine Wl.q rfl (Qy.eql rfl rfl) ?_
    refine Wl.done ?_
    refine Ar.next ?_
    refine Wc.condP rfl (by first | assumption | omega) ?_
    refine Wc.seq ?_
    refine Wc.region rfl ?_
    refine Wl.q rfl (Qy.move rfl) ?_
    refine Wl.call 2 rfl T.fn20 rfl (num_of _ _ ⟨by decide, by decide⟩) (tags_of trivial) (fun v1 G1 Ho1 hle1 hp => ?_)
    obtain ⟨ri1, rfl, hri1, rfl⟩ := hp
    replace hg := hg.up hle1
    replace haR := haR.up hle1
    refine Wl.call 2 rfl T.fn85 rfl (row_scale _ _ _ _ _ (by assumption) (by assumption) m hm (by assumption) (by assumption) (by assumption)) (tags_of trivial) (fun v2 G2 Ho2 hle2 hp => ?_)
    obtain ⟨rs2, rfl, hrs2, rfl⟩ := hp
    replace hri1 := hri1.up hle2
    replace hg := hg.up hle2
    replace haR := haR.up hle2
    refine Wl.q rfl (Qy.assign rfl) ?_
    refine Wl.q rfl (Qy.assign rfl) ?_
    refine Wl.done ?_
    refine Ar.next ?_
    refine Wc.ret ?_
    refine Ar.passRet ?_
    refine Ar.out2 (.inr rfl) (Ho := [(0, o.map (·.block), Row 40 r j)]) rfl (.tmp rfl) (.tmp rfl) ⟨rfl, trivial⟩ ?_
    exact do_some (by unfold doI; exact if_pos h2) hrs2
  by_cases h34 : i.op = 3 ∨ i.op = 4
  · have hb := hb h34
    have hbR := hg.at hb
    obtain ⟨hbL, hbB⟩ := he.at (k := i.b) (by omega)
    have hll : (rs[i.a.toNat]?.getD []).length = (rs[i.b.toNat]?.getD []).length := by rw [haL, hbL]
    by_cases h3 : i.op = 3
    · refine Wc.seq ?_
      refine Wc.region rfl ?_
      refine Wl.box 1 rfl rfl rfl (fun b1 => ?_)
      refine Wl.q rfl (Qy.assign rfl) ?_
      refine Wl.q rfl (Qy.assign rfl) ?_
      refine Wl.done ?_
      refine Ar.next ?_
      refine Wc.seq ?_
      refine Wc.region rfl ?_
      refine Wl.q rfl (Qy.move rfl) ?_
      refine Wl.q rfl (Qy.fieldAddr T.fa34_2 rfl) ?_
      refine Wl.q rfl (Qy.load 1 T.one3 rfl rfl rfl) ?_
      refine Wl.q rfl (Qy.indexAddrO (α := SV) T.sl37 rfl rfl (by assumption) (by omega)) ?_
      refine Wl.q rfl (Qy.loadO 0 0 T.one40 rfl rfl (by assumption) (by omega) rfl rfl) ?_
      refine Wl.q rfl (Qy.assign rfl) ?_
      refine Wl.done ?_
      refine Ar.next ?_
      refine Wc.seq ?_
      refine Wc.seq ?_
      refine Wc.region rfl ?_
      refine Wl.q rfl (Qy.fieldAddr T.fa34_0 rfl) ?_
      refine Wl.q rfl (Qy.load 1 T.one3 rfl rfl rfl) ?_
      refine Wl.q rfl (Qy.eql rfl rfl) ?_
      refine Wl.done ?_
      refine Ar.next ?_
      refine Wc.condN rfl (by first | assumption | omega) ?_
      refine Wc.skip ?_
      refine Ar.next ?_
      refine Wc.seq ?_
      refine Wc.seq ?_
      refine Wc.region rfl ?_
      refine Wl.q rfl (Qy.fieldAddr T.fa34_0 rfl) ?_
      refine Wl.q rfl (Qy.load 1 T.one3 rfl rfl rfl) ?_
      refine Wl.q rfl (Qy.eql rfl rfl) ?_
      refine Wl.done ?_
      refine Ar.next ?_
      refine Wc.condP rfl (by first | assumption | omega) ?_
      refine Wc.seq ?_
      refine Wc.region rfl ?_
      refine Wl.q rfl (Qy.move rfl) ?_
      refine Wl.q rfl (Qy.move rfl) ?_
      refine Wl.q rfl (Qy.fieldAddr T.fa34_3 rfl) ?_
      refine Wl.q rfl (Qy.load 1 T.one3 rfl rfl rfl) ?_
      refine Wl.q rfl (Qy.indexAddrO (α := SV) T.sl37 rfl rfl (by assumption) (by omega)) ?_
      refine Wl.q rfl (Qy.loadO 0 0 T.one40 rfl rfl (by assumption) (by omega) rfl rfl) ?_
      refine Wl.call 2 rfl T.fn86 rfl (row_add _ _ _ _ _ (by assumption) hbR hll m hm1 (by assumption) hbB (by assumption)) (tags_of trivial) (fun v1 G1 Ho1 hle1 hp => ?_)
      obtain ⟨rs1, rfl, hrs1, rfl⟩ := hp
      replace hg := hg.up hle1
      replace haR := haR.up hle1
      replace hbR := hbR.up hle1
      refine Wl.q rfl (Qy.assign rfl) ?_
      refine Wl.q rfl (Qy.assign rfl) ?_
      refine Wl.done ?_
      refine Ar.next ?_
      refine Wc.ret ?_
      refine Ar.passRet ?_
      refine Ar.out2 (.inr rfl) (Ho := [(0, o.map (·.block), Row 40 r j)]) rfl (.tmp rfl) (.tmp rfl) ⟨rfl, trivial⟩ ?_
      exact do_some (by unfold doI; exact (if_neg h2).trans (if_pos h3)) hrs1
    · have h4 : i.op = 4 := by omega
      refine Wc.seq ?_
      refine Wc.region rfl ?_
      refine Wl.box 1 rfl rfl rfl (fun b1 => ?_)
      refine Wl.q rfl (Qy.assign rfl) ?_
      refine Wl.q rfl (Qy.assign rfl) ?_
      refine Wl.done ?_
      refine Ar.next ?_
      refine Wc.seq ?_
      refine Wc.region rfl ?_
      refine Wl.q rfl (Qy.move rfl) ?_
      refine Wl.q rfl (Qy.fieldAddr T.fa34_2 rfl) ?_
      refine Wl.q rfl (Qy.load 1 T.one3 rfl rfl rfl) ?_
      refine Wl.q rfl (Qy.indexAddrO (α := SV) T.sl37 rfl rfl (by assumption) (by omega)) ?_
      refine Wl.q rfl (Qy.loadO 0 0 T.one40 rfl rfl (by assumption) (by omega) rfl rfl) ?_
      refine Wl.q rfl (Qy.assign rfl) ?_
      refine Wl.done ?_
      refine Ar.next ?_
      refine Wc.seq ?_
      refine Wc.seq ?_
      refine Wc.region rfl ?_
      refine Wl.q rfl (Qy.fieldAddr T.fa34_0 rfl) ?_
      refine Wl.q rfl (Qy.load 1 T.one3 rfl rfl rfl) ?_
      refine Wl.q rfl (Qy.eql rfl rfl) ?_
      refine Wl.done ?_
      refine Ar.next ?_
      refine Wc.condN rfl (by first | assumption | omega) ?_
      refine Wc.skip ?_
      refine Ar.next ?_
      refine Wc.seq ?_
      refine Wc.seq ?_
      refine Wc.region rfl ?_
      refine Wl.q rfl (Qy.fieldAddr T.fa34_0 rfl) ?_
      refine Wl.q rfl (Qy.load 1 T.one3 rfl rfl rfl) ?_
      refine Wl.q rfl (Qy.eql rfl rfl) ?_
      refine Wl.done ?_
      refine Ar.next ?_
      refine Wc.condN rfl (by first | assumption | omega) ?_
      refine Wc.skip ?_
      refine Ar.next ?_
      refine Wc.seq ?_
      refine Wc.seq ?_
      refine Wc.region rfl ?_
      refine Wl.q rfl (Qy.fieldAddr T.fa34_0 rfl) ?_
      refine Wl.q rfl (Qy.load 1 T.one3 rfl rfl rfl) ?_
      refine Wl.q rfl (Qy.eql rfl rfl) ?_
      refine Wl.done ?_
      refine Ar.next ?_
      refine Wc.condP rfl (by first | assumption | omega) ?_
      refine Wc.seq ?_
      refine Wc.region rfl ?_
      refine Wl.q rfl (Qy.move rfl) ?_
      refine Wl.q rfl (Qy.move rfl) ?_
      refine Wl.q rfl (Qy.fieldAddr T.fa34_3 rfl) ?_
      refine Wl.q rfl (Qy.load 1 T.one3 rfl rfl rfl) ?_
      refine Wl.q rfl (Qy.indexAddrO (α := SV) T.sl37 rfl rfl (by assumption) (by omega)) ?_
      refine Wl.q rfl (Qy.loadO 0 0 T.one40 rfl rfl (by assumption) (by omega) rfl rfl) ?_
      refine Wl.call 2 rfl T.fn87 rfl (row_sub _ _ _ _ _ (by assumption) hbR hll m hm1 (by assumption) hbB (by assumption)) (tags_of trivial) (fun v1 G1 Ho1 hle1 hp => ?_)
      obtain ⟨rs1, rfl, hrs1, rfl⟩ := hp
      replace hg := hg.up hle1
      replace haR := haR.up hle1
      replace hbR := hbR.up hle1
      refine Wl.q rfl (Qy.assign rfl) ?_
      refine Wl.q rfl (Qy.assign rfl) ?_
      refine Wl.done ?_
      refine Ar.next ?_
      refine Wc.ret ?_
      refine Ar.passRet ?_
      refine Ar.out2 (.inr rfl) (Ho := [(0, o.map (·.block), Row 40 r j)]) rfl (.tmp rfl) (.tmp rfl) ⟨rfl, trivial⟩ ?_
      exact do_some (by unfold doI; exact (if_neg h2).trans ((if_neg h3).trans (if_pos h4))) hrs1
  by_cases h1 : i.op = 1
  · refine Wc.seq ?_
    refine Wc.region rfl ?_
    refine Wl.box 1 rfl rfl rfl (fun b1 => ?_)
    refine Wl.q rfl (Qy.assign rfl) ?_
    refine Wl.q rfl (Qy.assign rfl) ?_
    refine Wl.done ?_
    refine Ar.next ?_
    refine Wc.seq ?_
    refine Wc.region rfl ?_
    refine Wl.q rfl (Qy.move rfl) ?_
    refine Wl.q rfl (Qy.fieldAddr T.fa34_2 rfl) ?_
    refine Wl.q rfl (Qy.load 1 T.one3 rfl rfl rfl) ?_
    refine Wl.q rfl (Qy.indexAddrO (α := SV) T.sl37 rfl rfl (by assumption) (by omega)) ?_
    refine Wl.q rfl (Qy.loadO 0 0 T.one40 rfl rfl (by assumption) (by omega) rfl rfl) ?_
    refine Wl.q rfl (Qy.assign rfl) ?_
    refine Wl.done ?_
    refine Ar.next ?_
    refine Wc.seq ?_
    refine Wc.seq ?_
    refine Wc.region rfl ?_
    refine Wl.q rfl (Qy.fieldAddr T.fa34_0 rfl) ?_
    refine Wl.q rfl (Qy.load 1 T.one3 rfl rfl rfl) ?_
    refine Wl.q rfl (Qy.eql rfl rfl) ?_
    refine Wl.done ?_
    refine Ar.next ?_
    refine Wc.condN rfl (by first | assumption | omega) ?_
    refine Wc.skip ?_
    refine Ar.next ?_
    refine Wc.seq ?_
    refine Wc.seq ?_
    refine Wc.region rfl ?_
    refine Wl.q rfl (Qy.fieldAddr T.fa34_0 rfl) ?_
    refine Wl.q rfl (Qy.load 1 T.one3 rfl rfl rfl) ?_
    refine Wl.q rfl (Qy.eql rfl rfl) ?_
    refine Wl.done ?_
    refine Ar.next ?_
    refine Wc.condN rfl (by first | assumption | omega) ?_
    refine Wc.skip ?_
    refine Ar.next ?_
    refine Wc.seq ?_
    refine Wc.seq ?_
    refine Wc.region rfl ?_
    refine Wl.q rfl (Qy.fieldAddr T.fa34_0 rfl) ?_
    refine Wl.q rfl (Qy.load 1 T.one3 rfl rfl rfl) ?_
    refine Wl.q rfl (Qy.eql rfl rfl) ?_
    refine Wl.done ?_
    refine Ar.next ?_
    refine Wc.condN rfl (by first | assumption | omega) ?_
    refine Wc.skip ?_
    refine Ar.next ?_
    refine Wc.seq ?_
    refine Wc.seq ?_
    refine Wc.region rfl ?_
    refine Wl.q rfl (Qy.fieldAddr T.fa34_0 rfl) ?_
    refine Wl.q rfl (Qy.load 1 T.one3 rfl rfl rfl) ?_
    refine Wl.q rfl (Qy.eql rfl rfl) ?_
    refine Wl.q rfl (Qy.move rfl) ?_
    refine Wl.no 41 rfl (by first | assumption | omega) ?_
    refine Wl.want rfl rfl ?_
    refine Wl.q rfl (Qy.fieldAddr T.fa34_0 rfl) ?_
    refine Wl.want rfl rfl ?_
    refine Wl.q rfl (Qy.load 1 T.one3 rfl rfl rfl) ?_
    refine Wl.want rfl rfl ?_
    refine Wl.q rfl (Qy.eql rfl rfl) ?_
    refine Wl.q rfl (Qy.pick rfl rfl) ?_
    refine Wl.done ?_
    refine Ar.next ?_
    refine Wc.condN rfl (by first | assumption | omega) ?_
    refine Wc.skip ?_
    refine Ar.next ?_
    refine Wc.seq ?_
    refine Wc.seq ?_
    refine Wc.region rfl ?_
    refine Wl.q rfl (Qy.fieldAddr T.fa34_0 rfl) ?_
    refine Wl.q rfl (Qy.load 1 T.one3 rfl rfl rfl) ?_
    refine Wl.q rfl (Qy.eql rfl rfl) ?_
    refine Wl.q rfl (Qy.move rfl) ?_
    refine Wl.no 53 rfl (by first | assumption | omega) ?_
    refine Wl.want rfl rfl ?_
    refine Wl.q rfl (Qy.fieldAddr T.fa34_0 rfl) ?_
    refine Wl.want rfl rfl ?_
    refine Wl.q rfl (Qy.load 1 T.one3 rfl rfl rfl) ?_
    refine Wl.want rfl rfl ?_
    refine Wl.q rfl (Qy.eql rfl rfl) ?_
    refine Wl.q rfl (Qy.pick rfl rfl) ?_
    refine Wl.done ?_
    refine Ar.next ?_
    refine Wc.condN rfl (by first | assumption | omega) ?_
    refine Wc.skip ?_
    refine Ar.next ?_
    refine Wc.seq ?_
    refine Wc.region rfl ?_
    refine Wl.q rfl (Qy.move rfl) ?_
    refine Wl.q rfl (Qy.assign rfl) ?_
    refine Wl.q rfl (Qy.assign rfl) ?_
    refine Wl.done ?_
    refine Ar.next ?_
    refine Wc.ret ?_
    refine Ar.out2 (.inr rfl) (Ho := [(0, o.map (·.block), Row 40 r j)]) rfl (.tmp rfl) (.tmp rfl) ⟨rfl, trivial⟩ ?_
    exact do_some (by unfold doI; exact (if_neg h2).trans ((if_neg (fun e => h34 (.inl e))).trans ((if_neg (fun e => h34 (.inr e))).trans ((if_neg (by omega)).trans (if_neg (by omega)))))) haR
  obtain ⟨hy0, hyb⟩ := hz h1 h2 (by omega) (by omega)
  by_cases h5 : i.op = 5
  · refine Wc.seq ?_
    refine Wc.region rfl ?_
    refine Wl.box 1 rfl rfl rfl (fun b1 => ?_)
    refine Wl.q rfl (Qy.assign rfl) ?_
    refine Wl.q rfl (Qy.assign rfl) ?_
    refine Wl.done ?_
    refine Ar.next ?_
    refine Wc.seq ?_
    refine Wc.region rfl ?_
    refine Wl.q rfl (Qy.move rfl) ?_
    refine Wl.q rfl (Qy.fieldAddr T.fa34_2 rfl) ?_
    refine Wl.q rfl (Qy.load 1 T.one3 rfl rfl rfl) ?_
    refine Wl.q rfl (Qy.indexAddrO (α := SV) T.sl37 rfl rfl (by assumption) (by omega)) ?_
    refine Wl.q rfl (Qy.loadO 0 0 T.one40 rfl rfl (by assumption) (by omega) rfl rfl) ?_
    refine Wl.q rfl (Qy.assign rfl) ?_
    refine Wl.done ?_
    refine Ar.next ?_
    refine Wc.seq ?_
    refine Wc.seq ?_
    refine Wc.region rfl ?_
    refine Wl.q rfl (Qy.fieldAddr T.fa34_0 rfl) ?_
    refine Wl.q rfl (Qy.load 1 T.one3 rfl rfl rfl) ?_
    refine Wl.q rfl (Qy.eql rfl rfl) ?_
    refine Wl.done ?_
    refine Ar.next ?_
    refine Wc.condN rfl (by first | assumption | omega) ?_
    refine Wc.skip ?_
    refine Ar.next ?_
    refine Wc.seq ?_
    refine Wc.seq ?_
    refine Wc.region rfl ?_
    refine Wl.q rfl (Qy.fieldAddr T.fa34_0 rfl) ?_
    refine Wl.q rfl (Qy.load 1 T.one3 rfl rfl rfl) ?_
    refine Wl.q rfl (Qy.eql rfl rfl) ?_
    refine Wl.done ?_
    refine Ar.next ?_
    refine Wc.condN rfl (by first | assumption | omega) ?_
    refine Wc.skip ?_
    refine Ar.next ?_
    refine Wc.seq ?_
    refine Wc.seq ?_
    refine Wc.region rfl ?_
    refine Wl.q rfl (Qy.fieldAddr T.fa34_0 rfl) ?_
    refine Wl.q rfl (Qy.load 1 T.one3 rfl rfl rfl) ?_
    refine Wl.q rfl (Qy.eql rfl rfl) ?_
    refine Wl.done ?_
    refine Ar.next ?_
    refine Wc.condN rfl (by first | assumption | omega) ?_
    refine Wc.skip ?_
    refine Ar.next ?_
    refine Wc.seq ?_
    refine Wc.seq ?_
    refine Wc.region rfl ?_
    refine Wl.q rfl (Qy.fieldAddr T.fa34_0 rfl) ?_
    refine Wl.q rfl (Qy.load 1 T.one3 rfl rfl rfl) ?_
    refine Wl.q rfl (Qy.eql rfl rfl) ?_
    refine Wl.q rfl (Qy.move rfl) ?_
    refine Wl.yes 41 rfl (by first | assumption | omega) ?_
    refine Wl.pass rfl rfl rfl ?_
    refine Wl.pass rfl rfl rfl ?_
    refine Wl.pass rfl rfl rfl ?_
    refine Wl.q rfl (Qy.pick rfl rfl) ?_
    refine Wl.done ?_
    refine Ar.next ?_
    refine Wc.condT rfl ?_
    refine Wc.seq ?_
    refine Wc.region rfl ?_
    refine Wl.q rfl (Qy.move rfl) ?_
    refine Wl.q rfl (Qy.loadAll 1 T.agg34 rfl rfl rfl) ?_
    refine Wl.call 2 rfl T.fn88 rfl (c88 _ i hc1 hc2) (tags_of trivial) (fun v1 G1 Ho1 hle1 hp => ?_)
    obtain ⟨ri1, rfl, hri1, rfl⟩ := hp
    replace hg := hg.up hle1
    replace haR := haR.up hle1
    refine Wl.call 2 rfl T.fn85 rfl (row_scale _ _ _ _ _ (by assumption) (by assumption) m hm (by assumption) (by assumption) (by assumption)) (tags_of trivial) (fun v2 G2 Ho2 hle2 hp => ?_)
    obtain ⟨rs2, rfl, hrs2, rfl⟩ := hp
    replace hri1 := hri1.up hle2
    replace hg := hg.up hle2
    replace haR := haR.up hle2
    refine Wl.q rfl (Qy.assign rfl) ?_
    refine Wl.q rfl (Qy.assign rfl) ?_
    refine Wl.done ?_
    refine Ar.next ?_
    refine Wc.ret ?_
    refine Ar.passRet ?_
    refine Ar.out2 (.inr rfl) (Ho := [(0, o.map (·.block), Row 40 r j)]) rfl (.tmp rfl) (.tmp rfl) ⟨rfl, trivial⟩ ?_
    exact do_some (by unfold doI; exact (if_neg h2).trans ((if_neg (fun e => h34 (.inl e))).trans ((if_neg (fun e => h34 (.inr e))).trans (if_pos (.inl h5))))) hrs2
  by_cases h7 : i.op = 7
  · refine Wc.seq ?_
    refine Wc.region rfl ?_
    refine Wl.box 1 rfl rfl rfl (fun b1 => ?_)
    refine Wl.q rfl (Qy.assign rfl) ?_
    refine Wl.q rfl (Qy.assign rfl) ?_
    refine Wl.done ?_
    refine Ar.next ?_
    refine Wc.seq ?_
    refine Wc.region rfl ?_
    refine Wl.q rfl (Qy.move rfl) ?_
    refine Wl.q rfl (Qy.fieldAddr T.fa34_2 rfl) ?_
    refine Wl.q rfl (Qy.load 1 T.one3 rfl rfl rfl) ?_
    refine Wl.q rfl (Qy.indexAddrO (α := SV) T.sl37 rfl rfl (by assumption) (by omega)) ?_
    refine Wl.q rfl (Qy.loadO 0 0 T.one40 rfl rfl (by assumption) (by omega) rfl rfl) ?_
    refine Wl.q rfl (Qy.assign rfl) ?_
    refine Wl.done ?_
    refine Ar.next ?_
    refine Wc.seq ?_
    refine Wc.seq ?_
    refine Wc.region rfl ?_
    refine Wl.q rfl (Qy.fieldAddr T.fa34_0 rfl) ?_
    refine Wl.q rfl (Qy.load 1 T.one3 rfl rfl rfl) ?_
    refine Wl.q rfl (Qy.eql rfl rfl) ?_
    refine Wl.done ?_
    refine Ar.next ?_
    refine Wc.condN rfl (by first | assumption | omega) ?_
    refine Wc.skip ?_
    refine Ar.next ?_
    refine Wc.seq ?_
    refine Wc.seq ?_
    refine Wc.region rfl ?_
    refine Wl.q rfl (Qy.fieldAddr T.fa34_0 rfl) ?_
    refine Wl.q rfl (Qy.load 1 T.one3 rfl rfl rfl) ?_
    refine Wl.q rfl (Qy.eql rfl rfl) ?_
    refine Wl.done ?_
    refine Ar.next ?_
    refine Wc.condN rfl (by first | assumption | omega) ?_
    refine Wc.skip ?_
    refine Ar.next ?_
    refine Wc.seq ?_
    refine Wc.seq ?_
    refine Wc.region rfl ?_
    refine Wl.q rfl (Qy.fieldAddr T.fa34_0 rfl) ?_
    refine Wl.q rfl (Qy.load 1 T.one3 rfl rfl rfl) ?_
    refine Wl.q rfl (Qy.eql rfl rfl) ?_
    refine Wl.done ?_
    refine Ar.next ?_
    refine Wc.condN rfl (by first | assumption | omega) ?_
    refine Wc.skip ?_
    refine Ar.next ?_
    refine Wc.seq ?_
    refine Wc.seq ?_
    refine Wc.region rfl ?_
    refine Wl.q rfl (Qy.fieldAddr T.fa34_0 rfl) ?_
    refine Wl.q rfl (Qy.load 1 T.one3 rfl rfl rfl) ?_
    refine Wl.q rfl (Qy.eql rfl rfl) ?_
    refine Wl.q rfl (Qy.move rfl) ?_
    refine Wl.no 41 rfl (by first | assumption | omega) ?_
    refine Wl.want rfl rfl ?_
    refine Wl.q rfl (Qy.fieldAddr T.fa34_0 rfl) ?_
    refine Wl.want rfl rfl ?_
    refine Wl.q rfl (Qy.load 1 T.one3 rfl rfl rfl) ?_
    refine Wl.want rfl rfl ?_
    refine Wl.q rfl (Qy.eql rfl rfl) ?_
    refine Wl.q rfl (Qy.pick rfl rfl) ?_
    refine Wl.done ?_
    refine Ar.next ?_
    refine Wc.condP rfl (by first | assumption | omega) ?_
    refine Wc.seq ?_
    refine Wc.region rfl ?_
    refine Wl.q rfl (Qy.move rfl) ?_
    refine Wl.q rfl (Qy.loadAll 1 T.agg34 rfl rfl rfl) ?_
    refine Wl.call 2 rfl T.fn88 rfl (c88 _ i hc1 hc2) (tags_of trivial) (fun v1 G1 Ho1 hle1 hp => ?_)
    obtain ⟨ri1, rfl, hri1, rfl⟩ := hp
    replace hg := hg.up hle1
    replace haR := haR.up hle1
    refine Wl.call 2 rfl T.fn85 rfl (row_scale _ _ _ _ _ (by assumption) (by assumption) m hm (by assumption) (by assumption) (by assumption)) (tags_of trivial) (fun v2 G2 Ho2 hle2 hp => ?_)
    obtain ⟨rs2, rfl, hrs2, rfl⟩ := hp
    replace hri1 := hri1.up hle2
    replace hg := hg.up hle2
    replace haR := haR.up hle2
    refine Wl.q rfl (Qy.assign rfl) ?_
    refine Wl.q rfl (Qy.assign rfl) ?_
    refine Wl.done ?_
    refine Ar.next ?_
    refine Wc.ret ?_
    refine Ar.passRet ?_
    refine Ar.out2 (.inr rfl) (Ho := [(0, o.map (·.block), Row 40 r j)]) rfl (.tmp rfl) (.tmp rfl) ⟨rfl, trivial⟩ ?_
    exact do_some (by unfold doI; exact (if_neg h2).trans ((if_neg (fun e => h34 (.inl e))).trans ((if_neg (fun e => h34 (.inr e))).trans (if_pos (.inr h7))))) hrs2
  by_cases h6 : i.op = 6
  · refine Wc.seq ?_
    refine Wc.region rfl ?_
    refine Wl.box 1 rfl rfl rfl (fun b1 => ?_)
    refine Wl.q rfl (Qy.assign rfl) ?_
    refine Wl.q rfl (Qy.assign rfl) ?_
    refine Wl.done ?_
    refine Ar.next ?_
    refine Wc.seq ?_
    refine Wc.region rfl ?_
    refine Wl.q rfl (Qy.move rfl) ?_
    refine Wl.q rfl (Qy.fieldAddr T.fa34_2 rfl) ?_
    refine Wl.q rfl (Qy.load 1 T.one3 rfl rfl rfl) ?_
    refine Wl.q rfl (Qy.indexAddrO (α := SV) T.sl37 rfl rfl (by assumption) (by omega)) ?_
    refine Wl.q rfl (Qy.loadO 0 0 T.one40 rfl rfl (by assumption) (by omega) rfl rfl) ?_
    refine Wl.q rfl (Qy.assign rfl) ?_
    refine Wl.done ?_
    refine Ar.next ?_
    refine Wc.seq ?_
    refine Wc.seq ?_
    refine Wc.region rfl ?_
    refine Wl.q rfl (Qy.fieldAddr T.fa34_0 rfl) ?_
    refine Wl.q rfl (Qy.load 1 T.one3 rfl rfl rfl) ?_
    refine Wl.q rfl (Qy.eql rfl rfl) ?_
    refine Wl.done ?_
    refine Ar.next ?_
    refine Wc.condN rfl (by first | assumption | omega) ?_
    refine Wc.skip ?_
    refine Ar.next ?_
    refine Wc.seq ?_
    refine Wc.seq ?_
    refine Wc.region rfl ?_
    refine Wl.q rfl (Qy.fieldAddr T.fa34_0 rfl) ?_
    refine Wl.q rfl (Qy.load 1 T.one3 rfl rfl rfl) ?_
    refine Wl.q rfl (Qy.eql rfl rfl) ?_
    refine Wl.done ?_
    refine Ar.next ?_
    refine Wc.condN rfl (by first | assumption | omega) ?_
    refine Wc.skip ?_
    refine Ar.next ?_
    refine Wc.seq ?_
    refine Wc.seq ?_
    refine Wc.region rfl ?_
    refine Wl.q rfl (Qy.fieldAddr T.fa34_0 rfl) ?_
    refine Wl.q rfl (Qy.load 1 T.one3 rfl rfl rfl) ?_
    refine Wl.q rfl (Qy.eql rfl rfl) ?_
    refine Wl.done ?_
    refine Ar.next ?_
    refine Wc.condN rfl (by first | assumption | omega) ?_
    refine Wc.skip ?_
    refine Ar.next ?_
    refine Wc.seq ?_
    refine Wc.seq ?_
    refine Wc.region rfl ?_
    refine Wl.q rfl (Qy.fieldAddr T.fa34_0 rfl) ?_
    refine Wl.q rfl (Qy.load 1 T.one3 rfl rfl rfl) ?_
    refine Wl.q rfl (Qy.eql rfl rfl) ?_
    refine Wl.q rfl (Qy.move rfl) ?_
    refine Wl.no 41 rfl (by first | assumption | omega) ?_
    refine Wl.want rfl rfl ?_
    refine Wl.q rfl (Qy.fieldAddr T.fa34_0 rfl) ?_
    refine Wl.want rfl rfl ?_
    refine Wl.q rfl (Qy.load 1 T.one3 rfl rfl rfl) ?_
    refine Wl.want rfl rfl ?_
    refine Wl.q rfl (Qy.eql rfl rfl) ?_
    refine Wl.q rfl (Qy.pick rfl rfl) ?_
    refine Wl.done ?_
    refine Ar.next ?_
    refine Wc.condN rfl (by first | assumption | omega) ?_
    refine Wc.skip ?_
    refine Ar.next ?_
    refine Wc.seq ?_
    refine Wc.seq ?_
    refine Wc.region rfl ?_
    refine Wl.q rfl (Qy.fieldAddr T.fa34_0 rfl) ?_
    refine Wl.q rfl (Qy.load 1 T.one3 rfl rfl rfl) ?_
    refine Wl.q rfl (Qy.eql rfl rfl) ?_
    refine Wl.q rfl (Qy.move rfl) ?_
    refine Wl.yes 53 rfl (by first | assumption | omega) ?_
    refine Wl.pass rfl rfl rfl ?_
    refine Wl.pass rfl rfl rfl ?_
    refine Wl.pass rfl rfl rfl ?_
    refine Wl.q rfl (Qy.pick rfl rfl) ?_
    refine Wl.done ?_
    refine Ar.next ?_
    refine Wc.condT rfl ?_
    refine Wc.seq ?_
    refine Wc.region rfl ?_
    refine Wl.q rfl (Qy.move rfl) ?_
    refine Wl.q rfl (Qy.loadAll 1 T.agg34 rfl rfl rfl) ?_
    refine Wl.call 2 rfl T.fn88 rfl (c88 _ i hc1 hc2) (tags_of trivial) (fun v1 G1 Ho1 hle1 hp => ?_)
    obtain ⟨ri1, rfl, hri1, rfl⟩ := hp
    replace hg := hg.up hle1
    replace haR := haR.up hle1
    refine Wl.call 2 rfl T.fn89 rfl (row_over _ _ _ _ _ (by assumption) (by assumption) m hm2 (by assumption) (by assumption) hy0 (by assumption)) (tags_of trivial) (fun v2 G2 Ho2 hle2 hp => ?_)
    obtain ⟨rv2, rfl, hrv2, rfl⟩ := hp
    replace hri1 := hri1.up hle2
    replace hg := hg.up hle2
    replace haR := haR.up hle2
    refine Wl.q rfl (Qy.extract rfl rfl) ?_
    refine Wl.q rfl (Qy.extract rfl rfl) ?_
    refine Wl.q rfl (Qy.assign rfl) ?_
    refine Wl.q rfl (Qy.assign rfl) ?_
    refine Wl.done ?_
    refine Ar.next ?_
    refine Wc.ret ?_
    refine Ar.passRet ?_
    refine Ar.out2 (.inr rfl) (Ho := [(0, o.map (·.block), Row 40 r j)]) rfl (.tmp rfl) (.tmp rfl) ⟨rfl, trivial⟩ ?_
    exact do_over (by unfold doI; exact (if_neg h2).trans ((if_neg (fun e => h34 (.inl e))).trans ((if_neg (fun e => h34 (.inr e))).trans ((if_neg (by omega)).trans (if_pos (.inl h6)))))) hrv2
  · have h8 : i.op = 8 := by omega
    refine Wc.seq ?_
    refine Wc.region rfl ?_
    refine Wl.box 1 rfl rfl rfl (fun b1 => ?_)
    refine Wl.q rfl (Qy.assign rfl) ?_
    refine Wl.q rfl (Qy.assign rfl) ?_
    refine Wl.done ?_
    refine Ar.next ?_
    refine Wc.seq ?_
    refine Wc.region rfl ?_
    refine Wl.q rfl (Qy.move rfl) ?_
    refine Wl.q rfl (Qy.fieldAddr T.fa34_2 rfl) ?_
    refine Wl.q rfl (Qy.load 1 T.one3 rfl rfl rfl) ?_
    refine Wl.q rfl (Qy.indexAddrO (α := SV) T.sl37 rfl rfl (by assumption) (by omega)) ?_
    refine Wl.q rfl (Qy.loadO 0 0 T.one40 rfl rfl (by assumption) (by omega) rfl rfl) ?_
    refine Wl.q rfl (Qy.assign rfl) ?_
    refine Wl.done ?_
    refine Ar.next ?_
    refine Wc.seq ?_
    refine Wc.seq ?_
    refine Wc.region rfl ?_
    refine Wl.q rfl (Qy.fieldAddr T.fa34_0 rfl) ?_
    refine Wl.q rfl (Qy.load 1 T.one3 rfl rfl rfl) ?_
    refine Wl.q rfl (Qy.eql rfl rfl) ?_
    refine Wl.done ?_
    refine Ar.next ?_
    refine Wc.condN rfl (by first | assumption | omega) ?_
    refine Wc.skip ?_
    refine Ar.next ?_
    refine Wc.seq ?_
    refine Wc.seq ?_
    refine Wc.region rfl ?_
    refine Wl.q rfl (Qy.fieldAddr T.fa34_0 rfl) ?_
    refine Wl.q rfl (Qy.load 1 T.one3 rfl rfl rfl) ?_
    refine Wl.q rfl (Qy.eql rfl rfl) ?_
    refine Wl.done ?_
    refine Ar.next ?_
    refine Wc.condN rfl (by first | assumption | omega) ?_
    refine Wc.skip ?_
    refine Ar.next ?_
    refine Wc.seq ?_
    refine Wc.seq ?_
    refine Wc.region rfl ?_
    refine Wl.q rfl (Qy.fieldAddr T.fa34_0 rfl) ?_
    refine Wl.q rfl (Qy.load 1 T.one3 rfl rfl rfl) ?_
    refine Wl.q rfl (Qy.eql rfl rfl) ?_
    refine Wl.done ?_
    refine Ar.next ?_
    refine Wc.condN rfl (by first | assumption | omega) ?_
    refine Wc.skip ?_
    refine Ar.next ?_
    refine Wc.seq ?_
    refine Wc.seq ?_
    refine Wc.region rfl ?_
    refine Wl.q rfl (Qy.fieldAddr T.fa34_0 rfl) ?_
    refine Wl.q rfl (Qy.load 1 T.one3 rfl rfl rfl) ?_
    refine Wl.q rfl (Qy.eql rfl rfl) ?_
    refine Wl.q rfl (Qy.move rfl) ?_
    refine Wl.no 41 rfl (by first | assumption | omega) ?_
    refine Wl.want rfl rfl ?_
    refine Wl.q rfl (Qy.fieldAddr T.fa34_0 rfl) ?_
    refine Wl.want rfl rfl ?_
    refine Wl.q rfl (Qy.load 1 T.one3 rfl rfl rfl) ?_
    refine Wl.want rfl rfl ?_
    refine Wl.q rfl (Qy.eql rfl rfl) ?_
    refine Wl.q rfl (Qy.pick rfl rfl) ?_
    refine Wl.done ?_
    refine Ar.next ?_
    refine Wc.condN rfl (by first | assumption | omega) ?_
    refine Wc.skip ?_
    refine Ar.next ?_
    refine Wc.seq ?_
    refine Wc.seq ?_
    refine Wc.region rfl ?_
    refine Wl.q rfl (Qy.fieldAddr T.fa34_0 rfl) ?_
    refine Wl.q rfl (Qy.load 1 T.one3 rfl rfl rfl) ?_
    refine Wl.q rfl (Qy.eql rfl rfl) ?_
    refine Wl.q rfl (Qy.move rfl) ?_
    refine Wl.no 53 rfl (by first | assumption | omega) ?_
    refine Wl.want rfl rfl ?_
    refine Wl.q rfl (Qy.fieldAddr T.fa34_0 rfl) ?_
    refine Wl.want rfl rfl ?_
    refine Wl.q rfl (Qy.load 1 T.one3 rfl rfl rfl) ?_
    refine Wl.want rfl rfl ?_
    refine Wl.q rfl (Qy.eql rfl rfl) ?_
    refine Wl.q rfl (Qy.pick rfl rfl) ?_
    refine Wl.done ?_
    refine Ar.next ?_
    refine Wc.condP rfl (by first | assumption | omega) ?_
    refine Wc.seq ?_
    refine Wc.region rfl ?_
    refine Wl.q rfl (Qy.move rfl) ?_
    refine Wl.q rfl (Qy.loadAll 1 T.agg34 rfl rfl rfl) ?_
    refine Wl.call 2 rfl T.fn88 rfl (c88 _ i hc1 hc2) (tags_of trivial) (fun v1 G1 Ho1 hle1 hp => ?_)
    obtain ⟨ri1, rfl, hri1, rfl⟩ := hp
    replace hg := hg.up hle1
    replace haR := haR.up hle1
    refine Wl.call 2 rfl T.fn89 rfl (row_over _ _ _ _ _ (by assumption) (by assumption) m hm2 (by assumption) (by assumption) hy0 (by assumption)) (tags_of trivial) (fun v2 G2 Ho2 hle2 hp => ?_)
    obtain ⟨rv2, rfl, hrv2, rfl⟩ := hp
    replace hri1 := hri1.up hle2
    replace hg := hg.up hle2
    replace haR := haR.up hle2
    refine Wl.q rfl (Qy.extract rfl rfl) ?_
    refine Wl.q rfl (Qy.extract rfl rfl) ?_
    refine Wl.q rfl (Qy.assign rfl) ?_
    refine Wl.q rfl (Qy.assign rfl) ?_
    refine Wl.done ?_
    refine Ar.next ?_
    refine Wc.ret ?_
    refine Ar.passRet ?_
    refine Ar.out2 (.inr rfl) (Ho := [(0, o.map (·.block), Row 40 r j)]) rfl (.tmp rfl) (.tmp rfl) ⟨rfl, trivial⟩ ?_
    exact do_over (by unfold doI; exact (if_neg h2).trans ((if_neg (fun e => h34 (.inl e))).trans ((if_neg (fun e => h34 (.inr e))).trans ((if_neg (by omega)).trans (if_pos (.inr h8)))))) hrv2
end Go.Proofs.Ytfleehgbpgmcnaa
