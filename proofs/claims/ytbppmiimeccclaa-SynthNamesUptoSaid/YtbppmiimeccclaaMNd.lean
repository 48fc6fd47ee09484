/- Parts of the proof (part 4): what the rows' text needs of the texts that lead to it. -/
import Derived.Test.YtbppmiimeccclaaMNc
set_option maxRecDepth 100000
set_option linter.unusedVariables false
namespace Go.Proofs.Ytbppmiimeccclaa
open Go Go.Sl
set_option maxHeartbeats 4000000
attribute [local irreducible] valL pw cmpZ p2
theorem one_lt5 : (((-1 : Int)).natAbs : Int) < pw 5 := Int.lt_of_lt_of_le mone_lt (pw_le (by decide))
/-- what 'do' answers -/
def DoPostN (i : Sl.Instr) (rs : List (List Int)) (H0 : Hp) (v : Value) (G' : Imm) (Ho : Hp) : Prop :=
  ∃ rv, v = .tuple #[rv, .bool (decide (doI i rs ≠ none))] ∧ (∀ zs, doI i rs = some zs → ∃ s : SV, rv = .slice s.a s.n s.c ∧ RowS G' s zs) ∧ Ho = H0
theorem do_someN {i : Sl.Instr} {rs : List (List Int)} {H0 : Hp} {s : SV} {G' : Imm} {zs : List Int} (h : doI i rs = some zs) (hs : RowS G' s zs) : DoPostN i rs H0 (.tuple #[.slice s.a s.n s.c, .bool true]) G' H0 :=
  ⟨_, by rw [decide_eq_true (show doI i rs ≠ none from fun e => by rw [e] at h; cases h)], fun zs' h' => by rw [h] at h'; cases h'; exact ⟨s, rfl, hs⟩, rfl⟩
theorem do_overN {i : Sl.Instr} {rs : List (List Int)} {H0 : Hp} {rv : Value} {G' : Imm} {y : Int} {xs : List Int} (h : doI i rs = if AllDiv y xs then some (xs.map (· / y)) else none)
    (hs : AllDiv y xs → ∃ s : SV, rv = .slice s.a s.n s.c ∧ RowS G' s (xs.map (· / y))) : DoPostN i rs H0 (.tuple #[rv, .bool (decide (AllDiv y xs))]) G' H0 := by
  by_cases ha : AllDiv y xs
  · rw [if_pos ha] at h
    obtain ⟨s, e1, e2⟩ := hs ha
    subst e1
    rw [decide_eq_true ha]
    exact do_someN h e2
  · rw [if_neg ha] at h
    refine ⟨rv, by rw [decide_eq_false ha, decide_eq_false (show ¬ doI i rs ≠ none from fun e => e h)], (fun zs hz => by rw [h] at hz; cases hz), rfl⟩
theorem c129 (G : Imm) (i : Sl.Instr) (o : Option Addr) (d : Nat) (r : List SV) (j : List Value) (rs : List (List Int)) (m N : Nat) (hob : OwnA o d r j) (hg : Grid G r rs) (he : Even m N rs) (hN : N ≤ 1048576) (hm : 5 + m ≤ 134217728)
    (hop : 1 ≤ i.op ∧ i.op ≤ 8) (ha : 0 ≤ i.a ∧ i.a < r.length) (hb : i.op = 3 ∨ i.op = 4 → 0 ≤ i.b ∧ i.b < r.length) (hcc : constOk i.op i.c = true) (hr : r.length ≤ 1048576) (hz : i.op ≠ 1 → i.op ≠ 2 → i.op ≠ 3 → i.op ≠ 4 → cst i ≠ 0 ∧ ((cst i).natAbs : Int) < pw 5)
    (hc1 : i.op = 5 ∨ i.op = 6 → -9223372036854775808 ≤ i.c ∧ i.c ≤ 9223372036854775807) (hc2 : ¬ (i.op = 5 ∨ i.op = 6) → 0 ≤ i.c ∧ i.c ≤ 64) :
    Does Try.prog 129 [.agg (Cells.enc i).toArray, .slice o r.length d] G [(0, o.map (·.block), Row 57 r j)] (fun v G' Ho => DoPostN i rs [(0, o.map (·.block), Row 57 r j)] v G' Ho) := by
  have hgl := hg.1
  have hca := hob.le
  have haR := hg.at ha
  obtain ⟨haL, haB⟩ := he.at (k := i.a) (by omega)
  have haN : (r[i.a.toNat]?.getD default).n ≤ 1048576 := by rw [haR.len, haL]; exact hN
  have hm1 : 1 + m ≤ 134217728 := by omega
  have hm2 : m ≤ 134217728 := by omega
  have hmone := one_lt5
  refine Does.enter Try.func129 rfl Try.ntmps129 rfl (fun w => ?_)
  by_cases h2 : i.op = 2
  · refine Wc.seq ?_
    refine Wc.region rfl ?_
    refine Wl.box 1 rfl rfl rfl (fun b1 => ?_)
    refine Wl.q rfl (Qy.assign rfl) ?_
    refine Wl.q rfl (Qy.assign rfl) ?_
    refine Wl.done ?_
    refine Ar.next ?_
    refine Wc.seq ?_
    refine Wc.region rfl ?_
    refine Wl.q rfl (Qy.move rfl) ?_
    refine Wl.q rfl (Qy.fieldAddr T.fa72_2 rfl) ?_
    refine Wl.q rfl (Qy.load 1 T.one3 rfl rfl rfl) ?_
    refine Wl.q rfl (Qy.indexAddrO (α := SV) T.sl54 rfl rfl (by assumption) (by omega)) ?_
    refine Wl.q rfl (Qy.loadO 0 0 T.one57 rfl rfl (by assumption) (by omega) rfl rfl) ?_
    refine Wl.q rfl (Qy.assign rfl) ?_
    refine Wl.done ?_
    refine Ar.next ?_
    refine Wc.seq ?_
    refine Wc.seq ?_
    refine Wc.region rfl ?_
    refine Wl.q rfl (Qy.fieldAddr T.fa72_0 rfl) ?_
    refine Wl.q rfl (Qy.load 1 T.one3 rfl rfl rfl) ?_
    refine Wl.q rfl (Qy.eql rfl rfl) ?_
    refine Wl.done ?_
    refine Ar.next ?_
    refine Wc.condP rfl (by first | assumption | omega) ?_
    refine Wc.seq ?_
    refine Wc.region rfl ?_
    refine Wl.q rfl (Qy.move rfl) ?_
    refine Wl.call 2 rfl T.fn85 rfl (num_of _ _ ⟨by decide, by decide⟩) (tags_of trivial) (fun v1 G1 Ho1 hle1 hp => ?_)
    obtain ⟨ri1, rfl, hri1, rfl⟩ := hp
    replace hg := hg.up hle1
    replace haR := haR.up hle1
    refine Wl.call 2 rfl T.fn163 rfl (row_scale _ _ _ _ _ (by assumption) (by assumption) m hm (by assumption) (by assumption) (by assumption)) (tags_of trivial) (fun v2 G2 Ho2 hle2 hp => ?_)
    obtain ⟨rs2, rfl, hrs2, rfl⟩ := hp
    replace hri1 := hri1.up hle2
    replace hg := hg.up hle2
    replace haR := haR.up hle2
    refine Wl.q rfl (Qy.assign rfl) ?_
    refine Wl.q rfl (Qy.assign rfl) ?_
    refine Wl.done ?_
    refine Ar.next ?_
    refine Wc.ret ?_
    refine Ar.passRet ?_
    refine Ar.out2 (.inr rfl) (Ho := [(0, o.map (·.block), Row 57 r j)]) rfl (.tmp rfl) (.tmp rfl) ⟨rfl, trivial⟩ ?_
    exact do_someN (by unfold doI; exact if_pos h2) hrs2
  by_cases h34 : i.op = 3 ∨ i.op = 4
  · have hb := hb h34
    have hbR := hg.at hb
    obtain ⟨hbL, hbB⟩ := he.at (k := i.b) (by omega)
    have hll : (rs[i.a.toNat]?.getD []).length = (rs[i.b.toNat]?.getD []).length := by rw [haL, hbL]
    by_cases h3 : i.op = 3
    · refine Wc.seq ?_
      refine Wc.region rfl ?_
      refine Wl.box 1 rfl rfl rfl (fun b1 => ?_)
      refine Wl.q rfl (Qy.assign rfl) ?_
      refine Wl.q rfl (Qy.assign rfl) ?_
      refine Wl.done ?_
      refine Ar.next ?_
      refine Wc.seq ?_
      refine Wc.region rfl ?_
      refine Wl.q rfl (Qy.move rfl) ?_
      refine Wl.q rfl (Qy.fieldAddr T.fa72_2 rfl) ?_
      refine Wl.q rfl (Qy.load 1 T.one3 rfl rfl rfl) ?_
      refine Wl.q rfl (Qy.indexAddrO (α := SV) T.sl54 rfl rfl (by assumption) (by omega)) ?_
      refine Wl.q rfl (Qy.loadO 0 0 T.one57 rfl rfl (by assumption) (by omega) rfl rfl) ?_
      refine Wl.q rfl (Qy.assign rfl) ?_
      refine Wl.done ?_
      refine Ar.next ?_
      refine Wc.seq ?_
      refine Wc.seq ?_
      refine Wc.region rfl ?_
      refine Wl.q rfl (Qy.fieldAddr T.fa72_0 rfl) ?_
      refine Wl.q rfl (Qy.load 1 T.one3 rfl rfl rfl) ?_
      refine Wl.q rfl (Qy.eql rfl rfl) ?_
      refine Wl.done ?_
      refine Ar.next ?_
      refine Wc.condN rfl (by first | assumption | omega) ?_
      refine Wc.skip ?_
      refine Ar.next ?_
      refine Wc.seq ?_
      refine Wc.seq ?_
      refine Wc.region rfl ?_
      refine Wl.q rfl (Qy.fieldAddr T.fa72_0 rfl) ?_
      refine Wl.q rfl (Qy.load 1 T.one3 rfl rfl rfl) ?_
      refine Wl.q rfl (Qy.eql rfl rfl) ?_
      refine Wl.done ?_
      refine Ar.next ?_
      refine Wc.condP rfl (by first | assumption | omega) ?_
      refine Wc.seq ?_
      refine Wc.region rfl ?_
      refine Wl.q rfl (Qy.move rfl) ?_
      refine Wl.q rfl (Qy.move rfl) ?_
      refine Wl.q rfl (Qy.fieldAddr T.fa72_3 rfl) ?_
      refine Wl.q rfl (Qy.load 1 T.one3 rfl rfl rfl) ?_
      refine Wl.q rfl (Qy.indexAddrO (α := SV) T.sl54 rfl rfl (by assumption) (by omega)) ?_
      refine Wl.q rfl (Qy.loadO 0 0 T.one57 rfl rfl (by assumption) (by omega) rfl rfl) ?_
      refine Wl.call 2 rfl T.fn164 rfl (row_add _ _ _ _ _ (by assumption) hbR hll m hm1 (by assumption) hbB (by assumption)) (tags_of trivial) (fun v1 G1 Ho1 hle1 hp => ?_)
      obtain ⟨rs1, rfl, hrs1, rfl⟩ := hp
      replace hg := hg.up hle1
      replace haR := haR.up hle1
      replace hbR := hbR.up hle1
      refine Wl.q rfl (Qy.assign rfl) ?_
      refine Wl.q rfl (Qy.assign rfl) ?_
      refine Wl.done ?_
      refine Ar.next ?_
      refine Wc.ret ?_
      refine Ar.passRet ?_
      refine Ar.out2 (.inr rfl) (Ho := [(0, o.map (·.block), Row 57 r j)]) rfl (.tmp rfl) (.tmp rfl) ⟨rfl, trivial⟩ ?_
      exact do_someN (by unfold doI; exact (if_neg h2).trans (if_pos h3)) hrs1
    · have h4 : i.op = 4 := by omega
      refine Wc.seq ?_
      refine Wc.region rfl ?_
      refine Wl.box 1 rfl rfl rfl (fun b1 => ?_)
      refine Wl.q rfl (Qy.assign rfl) ?_
      refine Wl.q rfl (Qy.assign rfl) ?_
      refine Wl.done ?_
      refine Ar.next ?_
      refine Wc.seq ?_
      refine Wc.region rfl ?_
      refine Wl.q rfl (Qy.move rfl) ?_
      refine Wl.q rfl (Qy.fieldAddr T.fa72_2 rfl) ?_
      refine Wl.q rfl (Qy.load 1 T.one3 rfl rfl rfl) ?_
      refine Wl.q rfl (Qy.indexAddrO (α := SV) T.sl54 rfl rfl (by assumption) (by omega)) ?_
      refine Wl.q rfl (Qy.loadO 0 0 T.one57 rfl rfl (by assumption) (by omega) rfl rfl) ?_
      refine Wl.q rfl (Qy.assign rfl) ?_
      refine Wl.done ?_
      refine Ar.next ?_
      refine Wc.seq ?_
      refine Wc.seq ?_
      refine Wc.region rfl ?_
      refine Wl.q rfl (Qy.fieldAddr T.fa72_0 rfl) ?_
      refine Wl.q rfl (Qy.load 1 T.one3 rfl rfl rfl) ?_
      refine Wl.q rfl (Qy.eql rfl rfl) ?_
      refine Wl.done ?_
      refine Ar.next ?_
      refine Wc.condN rfl (by first | assumption | omega) ?_
      refine Wc.skip ?_
      refine Ar.next ?_
      refine Wc.seq ?_
      refine Wc.seq ?_
      refine Wc.region rfl ?_
      refine Wl.q rfl (Qy.fieldAddr T.fa72_0 rfl) ?_
      refine Wl.q rfl (Qy.load 1 T.one3 rfl rfl rfl) ?_
      refine Wl.q rfl (Qy.eql rfl rfl) ?_
      refine Wl.done ?_
      refine Ar.next ?_
      refine Wc.condN rfl (by first | assumption | omega) ?_
      refine Wc.skip ?_
      refine Ar.next ?_
      refine Wc.seq ?_
      refine Wc.seq ?_
      refine Wc.region rfl ?_
      refine Wl.q rfl (Qy.fieldAddr T.fa72_0 rfl) ?_
      refine Wl.q rfl (Qy.load 1 T.one3 rfl rfl rfl) ?_
      refine Wl.q rfl (Qy.eql rfl rfl) ?_
      refine Wl.done ?_
      refine Ar.next ?_
      refine Wc.condP rfl (by first | assumption | omega) ?_
      refine Wc.seq ?_
      refine Wc.region rfl ?_
      refine Wl.q rfl (Qy.move rfl) ?_
      refine Wl.q rfl (Qy.move rfl) ?_
      refine Wl.q rfl (Qy.fieldAddr T.fa72_3 rfl) ?_
      refine Wl.q rfl (Qy.load 1 T.one3 rfl rfl rfl) ?_
      refine Wl.q rfl (Qy.indexAddrO (α := SV) T.sl54 rfl rfl (by assumption) (by omega)) ?_
      refine Wl.q rfl (Qy.loadO 0 0 T.one57 rfl rfl (by assumption) (by omega) rfl rfl) ?_
      refine Wl.call 2 rfl T.fn165 rfl (row_sub _ _ _ _ _ (by assumption) hbR hll m hm1 (by assumption) hbB (by assumption)) (tags_of trivial) (fun v1 G1 Ho1 hle1 hp => ?_)
      obtain ⟨rs1, rfl, hrs1, rfl⟩ := hp
      replace hg := hg.up hle1
      replace haR := haR.up hle1
      replace hbR := hbR.up hle1
      refine Wl.q rfl (Qy.assign rfl) ?_
      refine Wl.q rfl (Qy.assign rfl) ?_
      refine Wl.done ?_
      refine Ar.next ?_
      refine Wc.ret ?_
      refine Ar.passRet ?_
      refine Ar.out2 (.inr rfl) (Ho := [(0, o.map (·.block), Row 57 r j)]) rfl (.tmp rfl) (.tmp rfl) ⟨rfl, trivial⟩ ?_
      exact do_someN (by unfold doI; exact (if_neg h2).trans ((if_neg h3).trans (if_pos h4))) hrs1
  by_cases h1 : i.op = 1
  · refine Wc.seq ?_
    refine Wc.region rfl ?_
    refine Wl.box 1 rfl rfl rfl (fun b1 => ?_)
    refine Wl.q rfl (Qy.assign rfl) ?_
    refine Wl.q rfl (Qy.assign rfl) ?_
    refine Wl.done ?_
    refine Ar.next ?_
    refine Wc.seq ?_
    refine Wc.region rfl ?_
    refine Wl.q rfl (Qy.move rfl) ?_
    refine Wl.q rfl (Qy.fieldAddr T.fa72_2 rfl) ?_
    refine Wl.q rfl (Qy.load 1 T.one3 rfl rfl rfl) ?_
    refine Wl.q rfl (Qy.indexAddrO (α := SV) T.sl54 rfl rfl (by assumption) (by omega)) ?_
    refine Wl.q rfl (Qy.loadO 0 0 T.one57 rfl rfl (by assumption) (by omega) rfl rfl) ?_
    refine Wl.q rfl (Qy.assign rfl) ?_
    refine Wl.done ?_
    refine Ar.next ?_
    refine Wc.seq ?_
    refine Wc.seq ?_
    refine Wc.region rfl ?_
    refine Wl.q rfl (Qy.fieldAddr T.fa72_0 rfl) ?_
    refine Wl.q rfl (Qy.load 1 T.one3 rfl rfl rfl) ?_
    refine Wl.q rfl (Qy.eql rfl rfl) ?_
    refine Wl.done ?_
    refine Ar.next ?_
    refine Wc.condN rfl (by first | assumption | omega) ?_
    refine Wc.skip ?_
    refine Ar.next ?_
    refine Wc.seq ?_
    refine Wc.seq ?_
    refine Wc.region rfl ?_
    refine Wl.q rfl (Qy.fieldAddr T.fa72_0 rfl) ?_
    refine Wl.q rfl (Qy.load 1 T.one3 rfl rfl rfl) ?_
    refine Wl.q rfl (Qy.eql rfl rfl) ?_
    refine Wl.done ?_
    refine Ar.next ?_
    refine Wc.condN rfl (by first | assumption | omega) ?_
    refine Wc.skip ?_
    refine Ar.next ?_
    refine Wc.seq ?_
    refine Wc.seq ?_
    refine Wc.region rfl ?_
    refine Wl.q rfl (Qy.fieldAddr T.fa72_0 rfl) ?_
    refine Wl.q rfl (Qy.load 1 T.one3 rfl rfl rfl) ?_
    refine Wl.q rfl (Qy.eql rfl rfl) ?_
    refine Wl.done ?_
    refine Ar.next ?_
    refine Wc.condN rfl (by first | assumption | omega) ?_
    refine Wc.skip ?_
    refine Ar.next ?_
    refine Wc.seq ?_
    refine Wc.seq ?_
    refine Wc.region rfl ?_
    refine Wl.q rfl (Qy.fieldAddr T.fa72_0 rfl) ?_
    refine Wl.q rfl (Qy.load 1 T.one3 rfl rfl rfl) ?_
    refine Wl.q rfl (Qy.eql rfl rfl) ?_
    refine Wl.q rfl (Qy.move rfl) ?_
    refine Wl.no 41 rfl (by first | assumption | omega) ?_
    refine Wl.want rfl rfl ?_
    refine Wl.q rfl (Qy.fieldAddr T.fa72_0 rfl) ?_
    refine Wl.want rfl rfl ?_
    refine Wl.q rfl (Qy.load 1 T.one3 rfl rfl rfl) ?_
    refine Wl.want rfl rfl ?_
    refine Wl.q rfl (Qy.eql rfl rfl) ?_
    refine Wl.q rfl (Qy.pick rfl rfl) ?_
    refine Wl.done ?_
    refine Ar.next ?_
    refine Wc.condN rfl (by first | assumption | omega) ?_
    refine Wc.skip ?_
    refine Ar.next ?_
    refine Wc.seq ?_
    refine Wc.seq ?_
    refine Wc.region rfl ?_
    refine Wl.q rfl (Qy.fieldAddr T.fa72_0 rfl) ?_
    refine Wl.q rfl (Qy.load 1 T.one3 rfl rfl rfl) ?_
    refine Wl.q rfl (Qy.eql rfl rfl) ?_
    refine Wl.q rfl (Qy.move rfl) ?_
    refine Wl.no 53 rfl (by first | assumption | omega) ?_
    refine Wl.want rfl rfl ?_
    refine Wl.q rfl (Qy.fieldAddr T.fa72_0 rfl) ?_
    refine Wl.want rfl rfl ?_
    refine Wl.q rfl (Qy.load 1 T.one3 rfl rfl rfl) ?_
    refine Wl.want rfl rfl ?_
    refine Wl.q rfl (Qy.eql rfl rfl) ?_
    refine Wl.q rfl (Qy.pick rfl rfl) ?_
    refine Wl.done ?_
    refine Ar.next ?_
    refine Wc.condN rfl (by first | assumption | omega) ?_
    refine Wc.skip ?_
    refine Ar.next ?_
    refine Wc.seq ?_
    refine Wc.region rfl ?_
    refine Wl.q rfl (Qy.move rfl) ?_
    refine Wl.q rfl (Qy.assign rfl) ?_
    refine Wl.q rfl (Qy.assign rfl) ?_
    refine Wl.done ?_
    refine Ar.next ?_
    refine Wc.ret ?_
    refine Ar.out2 (.inr rfl) (Ho := [(0, o.map (·.block), Row 57 r j)]) rfl (.tmp rfl) (.tmp rfl) ⟨rfl, trivial⟩ ?_
    exact do_someN (by unfold doI; exact (if_neg h2).trans ((if_neg (fun e => h34 (.inl e))).trans ((if_neg (fun e => h34 (.inr e))).trans ((if_neg (by omega)).trans (if_neg (by omega)))))) haR
  obtain ⟨hy0, hyb⟩ := hz h1 h2 (by omega) (by omega)
  by_cases h5 : i.op = 5
  · refine Wc.seq ?_
    refine Wc.region rfl ?_
    refine Wl.box 1 rfl rfl rfl (fun b1 => ?_)
    refine Wl.q rfl (Qy.assign rfl) ?_
    refine Wl.q rfl (Qy.assign rfl) ?_
    refine Wl.done ?_
    refine Ar.next ?_
    refine Wc.seq ?_
    refine Wc.region rfl ?_
    refine Wl.q rfl (Qy.move rfl) ?_
    refine Wl.q rfl (Qy.fieldAddr T.fa72_2 rfl) ?_
    refine Wl.q rfl (Qy.load 1 T.one3 rfl rfl rfl) ?_
    refine Wl.q rfl (Qy.indexAddrO (α := SV) T.sl54 rfl rfl (by assumption) (by omega)) ?_
    refine Wl.q rfl (Qy.loadO 0 0 T.one57 rfl rfl (by assumption) (by omega) rfl rfl) ?_
    refine Wl.q rfl (Qy.assign rfl) ?_
    refine Wl.done ?_
    refine Ar.next ?_
    refine Wc.seq ?_
    refine Wc.seq ?_
    refine Wc.region rfl ?_
    refine Wl.q rfl (Qy.fieldAddr T.fa72_0 rfl) ?_
    refine Wl.q rfl (Qy.load 1 T.one3 rfl rfl rfl) ?_
    refine Wl.q rfl (Qy.eql rfl rfl) ?_
    refine Wl.done ?_
    refine Ar.next ?_
    refine Wc.condN rfl (by first | assumption | omega) ?_
    refine Wc.skip ?_
    refine Ar.next ?_
    refine Wc.seq ?_
    refine Wc.seq ?_
    refine Wc.region rfl ?_
    refine Wl.q rfl (Qy.fieldAddr T.fa72_0 rfl) ?_
    refine Wl.q rfl (Qy.load 1 T.one3 rfl rfl rfl) ?_
    refine Wl.q rfl (Qy.eql rfl rfl) ?_
    refine Wl.done ?_
    refine Ar.next ?_
    refine Wc.condN rfl (by first | assumption | omega) ?_
    refine Wc.skip ?_
    refine Ar.next ?_
    refine Wc.seq ?_
    refine Wc.seq ?_
    refine Wc.region rfl ?_
    refine Wl.q rfl (Qy.fieldAddr T.fa72_0 rfl) ?_
    refine Wl.q rfl (Qy.load 1 T.one3 rfl rfl rfl) ?_
    refine Wl.q rfl (Qy.eql rfl rfl) ?_
    refine Wl.done ?_
    refine Ar.next ?_
    refine Wc.condN rfl (by first | assumption | omega) ?_
    refine Wc.skip ?_
    refine Ar.next ?_
    refine Wc.seq ?_
    refine Wc.seq ?_
    refine Wc.region rfl ?_
    refine Wl.q rfl (Qy.fieldAddr T.fa72_0 rfl) ?_
    refine Wl.q rfl (Qy.load 1 T.one3 rfl rfl rfl) ?_
    refine Wl.q rfl (Qy.eql rfl rfl) ?_
    refine Wl.q rfl (Qy.move rfl) ?_
    refine Wl.yes 41 rfl (by first | assumption | omega) ?_
    refine Wl.pass rfl rfl rfl ?_
    refine Wl.pass rfl rfl rfl ?_
    refine Wl.pass rfl rfl rfl ?_
    refine Wl.q rfl (Qy.pick rfl rfl) ?_
    refine Wl.done ?_
    refine Ar.next ?_
    refine Wc.condT rfl ?_
    refine Wc.seq ?_
    refine Wc.region rfl ?_
    refine Wl.q rfl (Qy.move rfl) ?_
    refine Wl.q rfl (Qy.loadAll 1 T.agg72 rfl rfl rfl) ?_
    refine Wl.call 2 rfl T.fn166 rfl (c166 _ i hc1 hc2) (tags_of trivial) (fun v1 G1 Ho1 hle1 hp => ?_)
    obtain ⟨ri1, rfl, hri1, rfl⟩ := hp
    replace hg := hg.up hle1
    replace haR := haR.up hle1
    refine Wl.call 2 rfl T.fn163 rfl (row_scale _ _ _ _ _ (by assumption) (by assumption) m hm (by assumption) (by assumption) (by assumption)) (tags_of trivial) (fun v2 G2 Ho2 hle2 hp => ?_)
    obtain ⟨rs2, rfl, hrs2, rfl⟩ := hp
    replace hri1 := hri1.up hle2
    replace hg := hg.up hle2
    replace haR := haR.up hle2
    refine Wl.q rfl (Qy.assign rfl) ?_
    refine Wl.q rfl (Qy.assign rfl) ?_
    refine Wl.done ?_
    refine Ar.next ?_
    refine Wc.ret ?_
    refine Ar.passRet ?_
    refine Ar.out2 (.inr rfl) (Ho := [(0, o.map (·.block), Row 57 r j)]) rfl (.tmp rfl) (.tmp rfl) ⟨rfl, trivial⟩ ?_
    exact do_someN (by unfold doI; exact (if_neg h2).trans ((if_neg (fun e => h34 (.inl e))).trans ((if_neg (fun e => h34 (.inr e))).trans (if_pos (.inl h5))))) hrs2
  by_cases h7 : i.op = 7
  · refine Wc.seq ?_
    refine Wc.region rfl ?_
    refine Wl.box 1 rfl rfl rfl (fun b1 => ?_)
    refine Wl.q rfl (Qy.assign rfl) ?_
    refine Wl.q rfl (Qy.assign rfl) ?_
    refine Wl.done ?_
    refine Ar.next ?_
    refine Wc.seq ?_
    refine Wc.region rfl ?_
    refine Wl.q rfl (Qy.move rfl) ?_
    refine Wl.q rfl (Qy.fieldAddr T.fa72_2 rfl) ?_
    refine Wl.q rfl (Qy.load 1 T.one3 rfl rfl rfl) ?_
    refine Wl.q rfl (Qy.indexAddrO (α := SV) T.sl54 rfl rfl (by assumption) (by omega)) ?_
    refine Wl.q rfl (Qy.loadO 0 0 T.one57 rfl rfl (by assumption) (by omega) rfl rfl) ?_
    refine Wl.q rfl (Qy.assign rfl) ?_
    refine Wl.done ?_
    refine Ar.next ?_
    refine Wc.seq ?_
    refine Wc.seq ?_
    refine Wc.region rfl ?_
    refine Wl.q rfl (Qy.fieldAddr T.fa72_0 rfl) ?_
    refine Wl.q rfl (Qy.load 1 T.one3 rfl rfl rfl) ?_
    refine Wl.q rfl (Qy.eql rfl rfl) ?_
    refine Wl.done ?_
    refine Ar.next ?_
    refine Wc.condN rfl (by first | assumption | omega) ?_
    refine Wc.skip ?_
    refine Ar.next ?_
    refine Wc.seq ?_
    refine Wc.seq ?_
    refine Wc.region rfl ?_
    refine Wl.q rfl (Qy.fieldAddr T.fa72_0 rfl) ?_
    refine Wl.q rfl (Qy.load 1 T.one3 rfl rfl rfl) ?_
    refine Wl.q rfl (Qy.eql rfl rfl) ?_
    refine Wl.done ?_
    refine Ar.next ?_
    refine Wc.condN rfl (by first | assumption | omega) ?_
    refine Wc.skip ?_
    refine Ar.next ?_
    refine Wc.seq ?_
    refine Wc.seq ?_
    refine Wc.region rfl ?_
    refine Wl.q rfl (Qy.fieldAddr T.fa72_0 rfl) ?_
    refine Wl.q rfl (Qy.load 1 T.one3 rfl rfl rfl) ?_
    refine Wl.q rfl (Qy.eql rfl rfl) ?_
    refine Wl.done ?_
    refine Ar.next ?_
    refine Wc.condN rfl (by first | assumption | omega) ?_
    refine Wc.skip ?_
    refine Ar.next ?_
    refine Wc.seq ?_
    refine Wc.seq ?_
    refine Wc.region rfl ?_
    refine Wl.q rfl (Qy.fieldAddr T.fa72_0 rfl) ?_
    refine Wl.q rfl (Qy.load 1 T.one3 rfl rfl rfl) ?_
    refine Wl.q rfl (Qy.eql rfl rfl) ?_
    refine Wl.q rfl (Qy.move rfl) ?_
    refine Wl.no 41 rfl (by first | assumption | omega) ?_
    refine Wl.want rfl rfl ?_
    refine Wl.q rfl (Qy.fieldAddr T.fa72_0 rfl) ?_
    refine Wl.want rfl rfl ?_
    refine Wl.q rfl (Qy.load 1 T.one3 rfl rfl rfl) ?_
    refine Wl.want rfl rfl ?_
    refine Wl.q rfl (Qy.eql rfl rfl) ?_
    refine Wl.q rfl (Qy.pick rfl rfl) ?_
    refine Wl.done ?_
    refine Ar.next ?_
    refine Wc.condP rfl (by first | assumption | omega) ?_
    refine Wc.seq ?_
    refine Wc.region rfl ?_
    refine Wl.q rfl (Qy.move rfl) ?_
    refine Wl.q rfl (Qy.loadAll 1 T.agg72 rfl rfl rfl) ?_
    refine Wl.call 2 rfl T.fn166 rfl (c166 _ i hc1 hc2) (tags_of trivial) (fun v1 G1 Ho1 hle1 hp => ?_)
    obtain ⟨ri1, rfl, hri1, rfl⟩ := hp
    replace hg := hg.up hle1
    replace haR := haR.up hle1
    refine Wl.call 2 rfl T.fn163 rfl (row_scale _ _ _ _ _ (by assumption) (by assumption) m hm (by assumption) (by assumption) (by assumption)) (tags_of trivial) (fun v2 G2 Ho2 hle2 hp => ?_)
    obtain ⟨rs2, rfl, hrs2, rfl⟩ := hp
    replace hri1 := hri1.up hle2
    replace hg := hg.up hle2
    replace haR := haR.up hle2
    refine Wl.q rfl (Qy.assign rfl) ?_
    refine Wl.q rfl (Qy.assign rfl) ?_
    refine Wl.done ?_
    refine Ar.next ?_
    refine Wc.ret ?_
    refine Ar.passRet ?_
    refine Ar.out2 (.inr rfl) (Ho := [(0, o.map (·.block), Row 57 r j)]) rfl (.tmp rfl) (.tmp rfl) ⟨rfl, trivial⟩ ?_
    exact do_someN (by unfold doI; exact (if_neg h2).trans ((if_neg (fun e => h34 (.inl e))).trans ((if_neg (fun e => h34 (.inr e))).trans (if_pos (.inr h7))))) hrs2
  by_cases h6 : i.op = 6
  · refine Wc.seq ?_
    refine Wc.region rfl ?_
    refine Wl.box 1 rfl rfl rfl (fun b1 => ?_)
    refine Wl.q rfl (Qy.assign rfl) ?_
    refine Wl.q rfl (Qy.assign rfl) ?_
    refine Wl.done ?_
    refine Ar.next ?_
    refine Wc.seq ?_
    refine Wc.region rfl ?_
    refine Wl.q rfl (Qy.move rfl) ?_
    refine Wl.q rfl (Qy.fieldAddr T.fa72_2 rfl) ?_
    refine Wl.q rfl (Qy.load 1 T.one3 rfl rfl rfl) ?_
    refine Wl.q rfl (Qy.indexAddrO (α := SV) T.sl54 rfl rfl (by assumption) (by omega)) ?_
    refine Wl.q rfl (Qy.loadO 0 0 T.one57 rfl rfl (by assumption) (by omega) rfl rfl) ?_
    refine Wl.q rfl (Qy.assign rfl) ?_
    refine Wl.done ?_
    refine Ar.next ?_
    refine Wc.seq ?_
    refine Wc.seq ?_
    refine Wc.region rfl ?_
    refine Wl.q rfl (Qy.fieldAddr T.fa72_0 rfl) ?_
    refine Wl.q rfl (Qy.load 1 T.one3 rfl rfl rfl) ?_
    refine Wl.q rfl (Qy.eql rfl rfl) ?_
    refine Wl.done ?_
    refine Ar.next ?_
    refine Wc.condN rfl (by first | assumption | omega) ?_
    refine Wc.skip ?_
    refine Ar.next ?_
    refine Wc.seq ?_
    refine Wc.seq ?_
    refine Wc.region rfl ?_
    refine Wl.q rfl (Qy.fieldAddr T.fa72_0 rfl) ?_
    refine Wl.q rfl (Qy.load 1 T.one3 rfl rfl rfl) ?_
    refine Wl.q rfl (Qy.eql rfl rfl) ?_
    refine Wl.done ?_
    refine Ar.next ?_
    refine Wc.condN rfl (by first | assumption | omega) ?_
    refine Wc.skip ?_
    refine Ar.next ?_
    refine Wc.seq ?_
    refine Wc.seq ?_
    refine Wc.region rfl ?_
    refine Wl.q rfl (Qy.fieldAddr T.fa72_0 rfl) ?_
    refine Wl.q rfl (Qy.load 1 T.one3 rfl rfl rfl) ?_
    refine Wl.q rfl (Qy.eql rfl rfl) ?_
    refine Wl.done ?_
    refine Ar.next ?_
    refine Wc.condN rfl (by first | assumption | omega) ?_
    refine Wc.skip ?_
    refine Ar.next ?_
    refine Wc.seq ?_
    refine Wc.seq ?_
    refine Wc.region rfl ?_
    refine Wl.q rfl (Qy.fieldAddr T.fa72_0 rfl) ?_
    refine Wl.q rfl (Qy.load 1 T.one3 rfl rfl rfl) ?_
    refine Wl.q rfl (Qy.eql rfl rfl) ?_
    refine Wl.q rfl (Qy.move rfl) ?_
    refine Wl.no 41 rfl (by first | assumption | omega) ?_
    refine Wl.want rfl rfl ?_
    refine Wl.q rfl (Qy.fieldAddr T.fa72_0 rfl) ?_
    refine Wl.want rfl rfl ?_
    refine Wl.q rfl (Qy.load 1 T.one3 rfl rfl rfl) ?_
    refine Wl.want rfl rfl ?_
    refine Wl.q rfl (Qy.eql rfl rfl) ?_
    refine Wl.q rfl (Qy.pick rfl rfl) ?_
    refine Wl.done ?_
    refine Ar.next ?_
    refine Wc.condN rfl (by first | assumption | omega) ?_
    refine Wc.skip ?_
    refine Ar.next ?_
    refine Wc.seq ?_
    refine Wc.seq ?_
    refine Wc.region rfl ?_
    refine Wl.q rfl (Qy.fieldAddr T.fa72_0 rfl) ?_
    refine Wl.q rfl (Qy.load 1 T.one3 rfl rfl rfl) ?_
    refine Wl.q rfl (Qy.eql rfl rfl) ?_
    refine Wl.q rfl (Qy.move rfl) ?_
    refine Wl.yes 53 rfl (by first | assumption | omega) ?_
    refine Wl.pass rfl rfl rfl ?_
    refine Wl.pass rfl rfl rfl ?_
    refine Wl.pass rfl rfl rfl ?_
    refine Wl.q rfl (Qy.pick rfl rfl) ?_
    refine Wl.done ?_
    refine Ar.next ?_
    refine Wc.condT rfl ?_
    refine Wc.seq ?_
    refine Wc.region rfl ?_
    refine Wl.q rfl (Qy.move rfl) ?_
    refine Wl.q rfl (Qy.loadAll 1 T.agg72 rfl rfl rfl) ?_
    refine Wl.call 2 rfl T.fn166 rfl (c166 _ i hc1 hc2) (tags_of trivial) (fun v1 G1 Ho1 hle1 hp => ?_)
    obtain ⟨ri1, rfl, hri1, rfl⟩ := hp
    replace hg := hg.up hle1
    replace haR := haR.up hle1
    refine Wl.call 2 rfl T.fn167 rfl (row_over _ _ _ _ _ (by assumption) (by assumption) m hm2 (by assumption) (by assumption) hy0 (by assumption)) (tags_of trivial) (fun v2 G2 Ho2 hle2 hp => ?_)
    obtain ⟨rv2, rfl, hrv2, rfl⟩ := hp
    replace hri1 := hri1.up hle2
    replace hg := hg.up hle2
    replace haR := haR.up hle2
    refine Wl.q rfl (Qy.extract rfl rfl) ?_
    refine Wl.q rfl (Qy.extract rfl rfl) ?_
    refine Wl.q rfl (Qy.assign rfl) ?_
    refine Wl.q rfl (Qy.assign rfl) ?_
    refine Wl.done ?_
    refine Ar.next ?_
    refine Wc.ret ?_
    refine Ar.passRet ?_
    refine Ar.out2 (.inr rfl) (Ho := [(0, o.map (·.block), Row 57 r j)]) rfl (.tmp rfl) (.tmp rfl) ⟨rfl, trivial⟩ ?_
    exact do_overN (by unfold doI; exact (if_neg h2).trans ((if_neg (fun e => h34 (.inl e))).trans ((if_neg (fun e => h34 (.inr e))).trans ((if_neg (by omega)).trans (if_pos (.inl h6)))))) hrv2
  · have h8 : i.op = 8 := by omega
    refine Wc.seq ?_
    refine Wc.region rfl ?_
    refine Wl.box 1 rfl rfl rfl (fun b1 => ?_)
    refine Wl.q rfl (Qy.assign rfl) ?_
    refine Wl.q rfl (Qy.assign rfl) ?_
    refine Wl.done ?_
    refine Ar.next ?_
    refine Wc.seq ?_
    refine Wc.region rfl ?_
    refine Wl.q rfl (Qy.move rfl) ?_
    refine Wl.q rfl (Qy.fieldAddr T.fa72_2 rfl) ?_
    refine Wl.q rfl (Qy.load 1 T.one3 rfl rfl rfl) ?_
    refine Wl.q rfl (Qy.indexAddrO (α := SV) T.sl54 rfl rfl (by assumption) (by omega)) ?_
    refine Wl.q rfl (Qy.loadO 0 0 T.one57 rfl rfl (by assumption) (by omega) rfl rfl) ?_
    refine Wl.q rfl (Qy.assign rfl) ?_
    refine Wl.done ?_
    refine Ar.next ?_
    refine Wc.seq ?_
    refine Wc.seq ?_
    refine Wc.region rfl ?_
    refine Wl.q rfl (Qy.fieldAddr T.fa72_0 rfl) ?_
    refine Wl.q rfl (Qy.load 1 T.one3 rfl rfl rfl) ?_
    refine Wl.q rfl (Qy.eql rfl rfl) ?_
    refine Wl.done ?_
    refine Ar.next ?_
    refine Wc.condN rfl (by first | assumption | omega) ?_
    refine Wc.skip ?_
    refine Ar.next ?_
    refine Wc.seq ?_
    refine Wc.seq ?_
    refine Wc.region rfl ?_
    refine Wl.q rfl (Qy.fieldAddr T.fa72_0 rfl) ?_
    refine Wl.q rfl (Qy.load 1 T.one3 rfl rfl rfl) ?_
    refine Wl.q rfl (Qy.eql rfl rfl) ?_
    refine Wl.done ?_
    refine Ar.next ?_
    refine Wc.condN rfl (by first | assumption | omega) ?_
    refine Wc.skip ?_
    refine Ar.next ?_
    refine Wc.seq ?_
    refine Wc.seq ?_
    refine Wc.region rfl ?_
    refine Wl.q rfl (Qy.fieldAddr T.fa72_0 rfl) ?_
    refine Wl.q rfl (Qy.load 1 T.one3 rfl rfl rfl) ?_
    refine Wl.q rfl (Qy.eql rfl rfl) ?_
    refine Wl.done ?_
    refine Ar.next ?_
    refine Wc.condN rfl (by first | assumption | omega) ?_
    refine Wc.skip ?_
    refine Ar.next ?_
    refine Wc.seq ?_
    refine Wc.seq ?_
    refine Wc.region rfl ?_
    refine Wl.q rfl (Qy.fieldAddr T.fa72_0 rfl) ?_
    refine Wl.q rfl (Qy.load 1 T.one3 rfl rfl rfl) ?_
    refine Wl.q rfl (Qy.eql rfl rfl) ?_
    refine Wl.q rfl (Qy.move rfl) ?_
    refine Wl.no 41 rfl (by first | assumption | omega) ?_
    refine Wl.want rfl rfl ?_
    refine Wl.q rfl (Qy.fieldAddr T.fa72_0 rfl) ?_
    refine Wl.want rfl rfl ?_
    refine Wl.q rfl (Qy.load 1 T.one3 rfl rfl rfl) ?_
    refine Wl.want rfl rfl ?_
    refine Wl.q rfl (Qy.eql rfl rfl) ?_
    refine Wl.q rfl (Qy.pick rfl rfl) ?_
    refine Wl.done ?_
    refine Ar.next ?_
    refine Wc.condN rfl (by first | assumption | omega) ?_
    refine Wc.skip ?_
    refine Ar.next ?_
    refine Wc.seq ?_
    refine Wc.seq ?_
    refine Wc.region rfl ?_
    refine Wl.q rfl (Qy.fieldAddr T.fa72_0 rfl) ?_
    refine Wl.q rfl (Qy.load 1 T.one3 rfl rfl rfl) ?_
    refine Wl.q rfl (Qy.eql rfl rfl) ?_
    refine Wl.q rfl (Qy.move rfl) ?_
    refine Wl.no 53 rfl (by first | assumption | omega) ?_
    refine Wl.want rfl rfl ?_
    refine Wl.q rfl (Qy.fieldAddr T.fa72_0 rfl) ?_
    refine Wl.want rfl rfl ?_
    refine Wl.q rfl (Qy.load 1 T.one3 rfl rfl rfl) ?_
    refine Wl.want rfl rfl ?_
    refine Wl.q rfl (Qy.eql rfl rfl) ?_
    refine Wl.q rfl (Qy.pick rfl rfl) ?_
    refine Wl.done ?_
    refine Ar.next ?_
    refine Wc.condP rfl (by first | assumption | omega) ?_
    refine Wc.seq ?_
    refine Wc.region rfl ?_
    refine Wl.q rfl (Qy.move rfl) ?_
    refine Wl.q rfl (Qy.loadAll 1 T.agg72 rfl rfl rfl) ?_
    refine Wl.call 2 rfl T.fn166 rfl (c166 _ i hc1 hc2) (tags_of trivial) (fun v1 G1 Ho1 hle1 hp => ?_)
    obtain ⟨ri1, rfl, hri1, rfl⟩ := hp
    replace hg := hg.up hle1
    replace haR := haR.up hle1
    refine Wl.call 2 rfl T.fn167 rfl (row_over _ _ _ _ _ (by assumption) (by assumption) m hm2 (by assumption) (by assumption) hy0 (by assumption)) (tags_of trivial) (fun v2 G2 Ho2 hle2 hp => ?_)
    obtain ⟨rv2, rfl, hrv2, rfl⟩ := hp
    replace hri1 := hri1.up hle2
    replace hg := hg.up hle2
    replace haR := haR.up hle2
    refine Wl.q rfl (Qy.extract rfl rfl) ?_
    refine Wl.q rfl (Qy.extract rfl rfl) ?_
    refine Wl.q rfl (Qy.assign rfl) ?_
    refine Wl.q rfl (Qy.assign rfl) ?_
    refine Wl.done ?_
    refine Ar.next ?_
    refine Wc.ret ?_
    refine Ar.passRet ?_
    refine Ar.out2 (.inr rfl) (Ho := [(0, o.map (·.block), Row 57 r j)]) rfl (.tmp rfl) (.tmp rfl) ⟨rfl, trivial⟩ ?_
    exact do_overN (by unfold doI; exact (if_neg h2).trans ((if_neg (fun e => h34 (.inl e))).trans ((if_neg (fun e => h34 (.inr e))).trans ((if_neg (by omega)).trans (if_pos (.inr h8)))))) hrv2
end Go.Proofs.Ytbppmiimeccclaa
set_option linter.unusedVariables false
namespace Go.Proofs.Ytbppmiimeccclaa
open Go Go.Sl
theorem below_map {m k : Nat} {xs : List Int} {f : Int → Int} (h : ∀ x : Int, (x.natAbs : Int) < pw m → ((f x).natAbs : Int) < pw k) (hx : Below m xs) : Below k (xs.map f) := fun z hz => by
  obtain ⟨x, h1, rfl⟩ := List.mem_map.1 hz
  exact h x (hx x h1)
theorem below_zip {m k : Nat} {xs ys : List Int} {f : Int → Int → Int} (h : ∀ x y : Int, (x.natAbs : Int) < pw m → (y.natAbs : Int) < pw m → ((f x y).natAbs : Int) < pw k) (hx : Below m xs) (hy : Below m ys) : Below k (List.zipWith f xs ys) := fun z hz => by
  rw [List.mem_iff_getElem] at hz
  obtain ⟨n, hn, rfl⟩ := hz
  rw [List.getElem_zipWith]
  exact h _ _ (hx _ (List.getElem_mem _)) (hy _ (List.getElem_mem _))
theorem pw_five (m : Nat) : 65536 * pw m ≤ pw (5 + m) := by
  rw [← pw_succ]; exact pw_le (by omega)
theorem doI_even {i : Sl.Instr} {rs : List (List Int)} {m N : Nat} {x : List Int} (he : Even m N rs) (ha : 0 ≤ i.a ∧ i.a < rs.length) (hb : i.op = 3 ∨ i.op = 4 → 0 ≤ i.b ∧ i.b < rs.length)
    (hz : i.op = 5 ∨ i.op = 7 → ((cst i).natAbs : Int) < pw 5) (h : doI i rs = some x) : x.length = N ∧ Below (5 + m) x := by
  obtain ⟨haL, haB⟩ := he.at ha
  have h5 := pw_five m
  have hp := pw_pos m
  unfold doI at h
  simp only at h
  split at h
  · cases h
    exact ⟨by rw [List.length_map]; exact haL, below_map (fun x hx => by omega) haB⟩
  · split at h
    · rename_i h3
      obtain ⟨hbL, hbB⟩ := he.at (hb (.inl h3))
      cases h
      exact ⟨by rw [List.length_zipWith, haL, hbL, Nat.min_self], below_zip (fun x y hx hy => by omega) haB hbB⟩
    · split at h
      · rename_i h4
        obtain ⟨hbL, hbB⟩ := he.at (hb (.inr h4))
        cases h
        exact ⟨by rw [List.length_zipWith, haL, hbL, Nat.min_self], below_zip (fun x y hx hy => by omega) haB hbB⟩
      · split at h
        · rename_i h57
          cases h
          exact ⟨by rw [List.length_map]; exact haL, below_map (fun x hx => mul_lt_pw (hz h57) hx) haB⟩
        · split at h
          · split at h
            · cases h
              refine ⟨by rw [List.length_map]; exact haL, below_map (fun x hx => ?_) haB⟩
              have h1 : (x / cst i).natAbs ≤ x.natAbs := Int.natAbs_ediv_le_natAbs _ _
              omega
            · cases h
          · cases h
            exact ⟨haL, haB.mono (by omega)⟩
theorem even_regs0 {p : PV} {gs : List (List Int)} {m N : Nat} (hg : Even m N gs) (h0 : 0 < gs.length) : Even m N (regs0 p gs) := fun zs hz => by
  unfold regs0 at hz
  obtain ⟨k, hk, rfl⟩ := List.mem_map.1 hz
  have hN := (hg.at (k := 0) (by omega)).1
  split
  · exact hg.at (k := (k : Int)) (by omega)
  · refine ⟨by rw [List.length_replicate]; exact hN, fun z hz => ?_⟩
    rw [List.eq_of_mem_replicate hz]; exact pw_pos m
theorem even_set {m N : Nat} {rs : List (List Int)} {x : List Int} (h : Even m N rs) (hx : x.length = N ∧ Below m x) (k : Nat) : Even m N (rs.set k x) := fun zs hz => by
  rcases List.mem_or_eq_of_mem_set hz with h1 | h1
  · exact h zs h1
  · rw [h1]; exact hx
theorem Even.mono {m k N : Nat} {rs : List (List Int)} (h : Even m N rs) (hk : m ≤ k) : Even k N rs := fun zs hz => ⟨(h zs hz).1, (h zs hz).2.mono hk⟩
end Go.Proofs.Ytbppmiimeccclaa
set_option maxRecDepth 100000
set_option linter.unusedVariables false
namespace Go.Proofs.Ytbppmiimeccclaa
open Go Go.Sl
set_option maxHeartbeats 4000000
theorem row_next {G : Imm} {r : List SV} {rs : List (List Int)} {k : Nat} {s : SV} (h : ∀ q : Nat, q < k → RowS G (r[q]?.getD default) (rs[q]?.getD [])) (hk : k < r.length) (hs : RowS G s (rs[k]?.getD [])) : ∀ q : Nat, q < k + 1 → RowS G ((r.set k s)[q]?.getD default) (rs[q]?.getD []) := fun q hq => by
  rw [List.getElem?_set]
  by_cases he : k = q
  · subst he; rw [if_pos rfl, if_pos hk]; exact hs
  · rw [if_neg he]; exact h q (by omega)
theorem rows_up {G G' : Imm} {r : List SV} {rs : List (List Int)} {k : Nat} (h : ∀ q : Nat, q < k → RowS G (r[q]?.getD default) (rs[q]?.getD [])) (hl : G.le G') : ∀ q : Nat, q < k → RowS G' (r[q]?.getD default) (rs[q]?.getD []) := fun q hq => (h q hq).up hl
theorem outs_succ {p : PV} {rs : List (List Int)} {q : Nat} (hq : q < p.outs.length) :
    (outsOf p rs).take (q + 1) = (outsOf p rs).take q ++ [rs[(p.outs[((q : Nat) : Int).toNat]?.getD default).toNat]?.getD []] := by
  have h1 : q < (outsOf p rs).length := by unfold outsOf; rw [List.length_map]; exact hq
  have h2 : (outsOf p rs)[q] = rs[(p.outs[q]).toNat]?.getD [] := List.getElem_map _
  rw [List.take_succ_eq_append_getElem h1, h2, Int.toNat_natCast, List.getElem?_eq_getElem hq]; rfl
attribute [local irreducible] valL pw cmpZ p2
theorem c84 (G : Imm) (p : PV) (ac ao ga : Option Addr) (cc co gc : Nat) (gl : List SV) (gs : List (List Int)) (N : Nat) (hc : Arr G ac p.code) (ho : Arr G ao p.outs) (hga : Arr G ga gl) (hgg : Grid G gl gs) (hev : Even 4 N gs) (hN : N ≤ 1048576) (hR : rightP p = true) (hgi : (gl.length : Int) = p.ins) (hcl : p.code.length ≤ 16384) :
    Does Try.prog 84 [.agg #[.int .i64 p.ins, .int .i64 p.regs, .slice ac p.code.length cc, .slice ao p.outs.length co], .slice ga gl.length gc] G [] (fun v G' Ho => ∃ sv bad ov, v = .tuple #[sv, .int .i64 bad, ov] ∧ (followP p gs = none → 0 ≤ bad ∧ ov = .slice none 0 0) ∧
      (∀ os, followP p gs = some os → bad = -1 ∧ ∃ (oa : Option Addr) (oc : Nat) (ol : List SV), ov = .slice oa ol.length oc ∧ Arr G' oa ol ∧ Grid G' ol os) ∧ Ho = []) := by
  obtain ⟨f1, f2, f3, f4, f5, f6, f7, f8⟩ := right_facts hR
  have hgl := hgg.1
  obtain ⟨R, hRR⟩ : ∃ R : Nat, p.regs = (R : Int) := ⟨p.regs.toNat, by omega⟩
  refine Does.enter Try.func84 rfl Try.ntmps84 rfl (fun w => ?_)
  have hM : p.regs.toNat = R := by omega
  have hrl0 := regs0_len p gs
  rw [hM] at hrl0
  have hgl0 : 0 < gl.length := by omega
  have h0R := hgg.at (m := 0) (by omega)
  obtain ⟨h0L, h0B⟩ := hev.at (k := 0) (by omega)
  have h0n : (gl[(0 : Int).toNat]?.getD default).n ≤ 1048576 := by rw [h0R.len, h0L]; exact hN
  refine Wc.seq ?_
  refine Wc.region rfl ?_
  refine Wl.box 0 rfl rfl rfl (fun b1 => ?_)
  refine Wl.q rfl (Qy.assign rfl) ?_
  refine Wl.q rfl (Qy.assign rfl) ?_
  refine Wl.q rfl (Qy.assign rfl) ?_
  refine Wl.done ?_
  refine Ar.next ?_
  refine Wc.seq ?_
  refine Wc.region rfl ?_
  refine Wl.q rfl (Qy.fieldAddr T.fa25_1 rfl) ?_
  refine Wl.q rfl (Qy.load 0 T.one3 rfl rfl rfl) ?_
  refine Wl.make (α := SV) 1 rfl T.sl54 T.el57 rfl rfl (by omega) (by omega) (fun b2 => ?_)
  refine Wl.q rfl (Qy.assign rfl) ?_
  refine Wl.done ?_
  refine Ar.next ?_
  refine Wc.seq ?_
  refine Wc.seq ?_
  refine Wc.region rfl ?_
  refine Wl.q rfl (Qy.assign rfl) ?_
  refine Wl.done ?_
  refine Ar.next ?_
  refine Wc.block ?_
  rw [hM]
  have hown : ∀ r : List SV, r.length = R → OwnA (some ⟨b2, 0, none⟩) R r [] := fun r hr => .inr ⟨b2, rfl, by rw [hr]; rfl, by omega, by simp only [maxLen]; omega⟩
  refine Wc.re 7 rfl (show _ = Value.slice (some ⟨b2, 0, none⟩) (List.replicate R (default : SV)).length R by rw [List.length_replicate]) ?_
  refine Wc.loopG (ι := Nat × Imm × List SV) (fun (k, Gx, r) => ([(8, .int .i64 (k : Int)), (7, .slice (some ⟨b2, 0, none⟩) r.length R), (6, Go.Value.slice Option.none 0 0), (5, Go.Value.int Go.IntKind.i64 0), (4, Go.Value.slice Option.none 0 0), (2, Go.Value.pointer (Option.some (Go.Addr.mk b1 0 Option.none))), (1, Go.Value.slice ga (List.length gl) gc)], [(1, some b2, Row 57 r []), (0, Option.some b1, Go.Obj.cells #[Go.Value.int Go.IntKind.i64 (Go.Proofs.Ytbppmiimeccclaa.PV.ins p), Go.Value.int Go.IntKind.i64 (Go.Proofs.Ytbppmiimeccclaa.PV.regs p), Go.Value.slice ac (List.length (Go.Proofs.Ytbppmiimeccclaa.PV.code p)) cc, Go.Value.slice ao (List.length (Go.Proofs.Ytbppmiimeccclaa.PV.outs p)) co] 25)])) (fun (k, Gx, r) => Gx) (fun (k, Gx, r) => k ≤ R ∧ G.le Gx ∧ r.length = R ∧ ∀ q : Nat, q < k → RowS Gx (r[q]?.getD default) ((regs0 p gs)[q]?.getD [])) (fun (k, Gx, r) => R - k) ((0, G, List.replicate R (default : SV))) (⟨Nat.zero_le _, Imm.le_refl _, List.length_replicate, fun q hq => by omega⟩) rfl ⟨rfl, rfl, rfl, rfl, rfl, rfl, rfl, trivial⟩ ⟨rfl, rfl, trivial⟩ (fun ⟨k, Gx, r⟩ => fun (hk : k ≤ R ∧ G.le Gx ∧ r.length = R ∧ ∀ q : Nat, q < k → RowS Gx (r[q]?.getD default) ((regs0 p gs)[q]?.getD [])) => ?_)
  obtain ⟨hk0, hgx, hrR, hrow⟩ := hk
  replace hc := hc.up hgx
  replace ho := ho.up hgx
  replace hga := hga.up hgx
  replace hgg := hgg.up hgx
  have hor := hown r hrR
  rcases Nat.lt_or_ge k R with hkR | hkR
  · by_cases hkg : k < gl.length
    · refine Wc.seq ?_
      refine Wc.seq ?_
      refine Wc.region rfl ?_
      refine Wl.q rfl (Qy.move rfl) ?_
      refine Wl.q rfl (Qy.fieldAddr T.fa25_1 rfl) ?_
      refine Wl.q rfl (Qy.load 0 T.one3 rfl rfl rfl) ?_
      refine Wl.q rfl (Qy.lss rfl rfl) ?_
      refine Wl.done ?_
      refine Ar.next ?_
      refine Wc.condP rfl (by first | assumption | omega) ?_
      refine Wc.skip ?_
      refine Ar.next ?_
      refine Wc.seq ?_
      refine Wc.block ?_
      refine Wc.seq ?_
      refine Wc.region rfl ?_
      refine Wl.q rfl (Qy.move rfl) ?_
      refine Wl.q rfl (Qy.move rfl) ?_
      refine Wl.q rfl (Qy.move rfl) ?_
      refine Wl.q rfl (Qy.at (α := SV) T.sl54 rfl rfl (by assumption) (by omega)) ?_
      refine Wl.q rfl (Qy.loadG T.one57 rfl (Arr.cell (by assumption) (by omega) 0 rfl rfl)) ?_
      refine Wl.q rfl (Qy.len T.sl57 rfl) ?_
      refine Wl.call 2 rfl T.fn41 rfl (c41 _ _ (by assumption)) (tags_of trivial) (fun v1 G1 Ho1 hle1 hp => ?_)
      obtain ⟨⟨zo1, zc1, zl1, rfl, hzA1, hzN1, hzl1⟩, rfl⟩ := hp
      replace hc := hc.up hle1
      replace ho := ho.up hle1
      replace hga := hga.up hle1
      replace hgg := hgg.up hle1
      refine Wl.q rfl (Qy.indexAddrO (α := SV) T.sl54 rfl rfl (by assumption) (by omega)) ?_
      refine Wl.setO (z := ⟨zo1, zl1.length, zc1⟩) 1 T.size57 rfl rfl rfl (by assumption) (by omega) rfl (fun ho1 => ?_)
      refine Wl.done ?_
      refine Ar.next ?_
      refine Wc.seq ?_
      refine Wc.region rfl ?_
      refine Wl.q rfl (Qy.move rfl) ?_
      refine Wl.q rfl (Qy.move rfl) ?_
      refine Wl.q rfl (Qy.len T.sl54 rfl) ?_
      refine Wl.q rfl (Qy.lss rfl rfl) ?_
      refine Wl.done ?_
      refine Ar.next ?_
      refine Wc.condP rfl (by first | assumption | omega) ?_
      refine Wc.region rfl ?_
      refine Wl.q rfl (Qy.move rfl) ?_
      refine Wl.q rfl (Qy.move rfl) ?_
      refine Wl.q rfl (Qy.move rfl) ?_
      refine Wl.q rfl (Qy.move rfl) ?_
      refine Wl.q rfl (Qy.at (α := SV) T.sl54 rfl rfl (by assumption) (by omega)) ?_
      refine Wl.q rfl (Qy.loadG T.one57 rfl (Arr.cell (by assumption) (by omega) 0 rfl rfl)) ?_
      refine Wl.q rfl (Qy.indexAddrO (α := SV) T.sl54 rfl rfl (by assumption) (by omega)) ?_
      refine Wl.setO (z := gl[((k : Nat) : Int).toNat]?.getD default) 1 T.size57 rfl rfl rfl (by assumption) (by rw [List.length_set]; omega) rfl (fun ho2 => ?_)
      refine Wl.done ?_
      refine Ar.outNormal ?_
      refine Ar.next ?_
      refine Wc.region rfl ?_
      refine Wl.q rfl (Qy.move rfl) ?_
      refine Wl.q rfl (Qy.add rfl rfl (by omega)) ?_
      refine Wl.q rfl (Qy.assign rfl) ?_
      refine Wl.done ?_
      rw [Int.toNat_natCast, List.set_set]
      refine Ar.re 7 rfl (show _ = Value.slice (some ⟨b2, 0, none⟩) (r.set k (gl[k]?.getD default)).length R by rw [List.length_set]) ?_
      refine Ar.again ((k + 1, G1, r.set k (gl[k]?.getD default))) ?_ ?_ rfl ⟨rfl, rfl, rfl, rfl, rfl, rfl, rfl, trivial⟩ ⟨rfl, rfl, trivial⟩
      · refine ⟨by omega, Imm.le_trans hgx hle1, by rw [List.length_set]; exact hrR, row_next (rows_up hrow hle1) (by omega) ?_⟩
        rw [regs0_at (by omega), if_pos (by omega)]
        exact hgg.2 k hkg
      · show R - (k + 1) < R - k
        omega
    · refine Wc.seq ?_
      refine Wc.seq ?_
      refine Wc.region rfl ?_
      refine Wl.q rfl (Qy.move rfl) ?_
      refine Wl.q rfl (Qy.fieldAddr T.fa25_1 rfl) ?_
      refine Wl.q rfl (Qy.load 0 T.one3 rfl rfl rfl) ?_
      refine Wl.q rfl (Qy.lss rfl rfl) ?_
      refine Wl.done ?_
      refine Ar.next ?_
      refine Wc.condP rfl (by first | assumption | omega) ?_
      refine Wc.skip ?_
      refine Ar.next ?_
      refine Wc.seq ?_
      refine Wc.block ?_
      refine Wc.seq ?_
      refine Wc.region rfl ?_
      refine Wl.q rfl (Qy.move rfl) ?_
      refine Wl.q rfl (Qy.move rfl) ?_
      refine Wl.q rfl (Qy.move rfl) ?_
      refine Wl.q rfl (Qy.at (α := SV) T.sl54 rfl rfl (by assumption) (by omega)) ?_
      refine Wl.q rfl (Qy.loadG T.one57 rfl (Arr.cell (by assumption) (by omega) 0 rfl rfl)) ?_
      refine Wl.q rfl (Qy.len T.sl57 rfl) ?_
      refine Wl.call 2 rfl T.fn41 rfl (c41 _ _ (by assumption)) (tags_of trivial) (fun v1 G1 Ho1 hle1 hp => ?_)
      obtain ⟨⟨zo1, zc1, zl1, rfl, hzA1, hzN1, hzl1⟩, rfl⟩ := hp
      replace hc := hc.up hle1
      replace ho := ho.up hle1
      replace hga := hga.up hle1
      replace hgg := hgg.up hle1
      refine Wl.q rfl (Qy.indexAddrO (α := SV) T.sl54 rfl rfl (by assumption) (by omega)) ?_
      refine Wl.setO (z := ⟨zo1, zl1.length, zc1⟩) 1 T.size57 rfl rfl rfl (by assumption) (by omega) rfl (fun ho1 => ?_)
      refine Wl.done ?_
      refine Ar.next ?_
      refine Wc.seq ?_
      refine Wc.region rfl ?_
      refine Wl.q rfl (Qy.move rfl) ?_
      refine Wl.q rfl (Qy.move rfl) ?_
      refine Wl.q rfl (Qy.len T.sl54 rfl) ?_
      refine Wl.q rfl (Qy.lss rfl rfl) ?_
      refine Wl.done ?_
      refine Ar.next ?_
      refine Wc.condN rfl (by first | assumption | omega) ?_
      refine Wc.skip ?_
      refine Ar.outNormal ?_
      refine Ar.next ?_
      refine Wc.region rfl ?_
      refine Wl.q rfl (Qy.move rfl) ?_
      refine Wl.q rfl (Qy.add rfl rfl (by omega)) ?_
      refine Wl.q rfl (Qy.assign rfl) ?_
      refine Wl.done ?_
      rw [Int.toNat_natCast]
      refine Ar.re 7 rfl (show _ = Value.slice (some ⟨b2, 0, none⟩) (r.set k (⟨zo1, zl1.length, zc1⟩ : SV)).length R by rw [List.length_set]) ?_
      refine Ar.again ((k + 1, G1, r.set k (⟨zo1, zl1.length, zc1⟩ : SV))) ?_ ?_ rfl ⟨rfl, rfl, rfl, rfl, rfl, rfl, rfl, trivial⟩ ⟨rfl, rfl, trivial⟩
      · refine ⟨by omega, Imm.le_trans hgx hle1, by rw [List.length_set]; exact hrR, row_next (rows_up hrow hle1) (by omega) ?_⟩
        rw [regs0_at (by omega), if_neg (by omega)]
        refine ⟨zl1, rfl, hzl1, hzA1, ?_⟩
        have e := hzN1
        rw [h0R.len] at e
        exact e
      · show R - (k + 1) < R - k
        omega
  · have hg0 : Grid Gx r (regs0 p gs) := ⟨by omega, fun q hq => hrow q (by omega)⟩
    have he0 : Even 4 N (regs0 p gs) := even_regs0 hev (by omega)
    refine Wc.seq ?_
    refine Wc.seq ?_
    refine Wc.region rfl ?_
    refine Wl.q rfl (Qy.move rfl) ?_
    refine Wl.q rfl (Qy.fieldAddr T.fa25_1 rfl) ?_
    refine Wl.q rfl (Qy.load 0 T.one3 rfl rfl rfl) ?_
    refine Wl.q rfl (Qy.lss rfl rfl) ?_
    refine Wl.done ?_
    refine Ar.next ?_
    refine Wc.condN rfl (by first | assumption | omega) ?_
    refine Wc.exit ?_
    refine Ar.passExit ?_
    refine Ar.passExit ?_
    refine Ar.here ?_
    refine Ar.next ?_
    refine Wc.seq ?_
    refine Wc.region rfl ?_
    refine Wl.q rfl (Qy.assign rfl) ?_
    refine Wl.done ?_
    refine Ar.next ?_
    refine Wc.seq ?_
    refine Wc.seq ?_
    refine Wc.region rfl ?_
    refine Wl.q rfl (Qy.assign rfl) ?_
    refine Wl.done ?_
    refine Ar.next ?_
    refine Wc.block ?_
    refine Wc.nilRow 3 (Row 57 ([] : List SV) []) ?_
    refine Wc.loopG (ι := Nat × Imm × List SV × List (List Int) × List SV × (Option Addr × Nat × List Value)) (fun (i, Gy, r2, rs, st, (o, d, j)) => ([(10, .int .i64 (i : Int)), (9, .slice o st.length d), (7, .slice (some ⟨b2, 0, none⟩) r2.length R), (2, Go.Value.pointer (Option.some (Go.Addr.mk b1 0 Option.none)))], [(3, o.map (·.block), Row 57 st j), (1, some b2, Row 57 r2 []), (0, Option.some b1, Go.Obj.cells #[Go.Value.int Go.IntKind.i64 (Go.Proofs.Ytbppmiimeccclaa.PV.ins p), Go.Value.int Go.IntKind.i64 (Go.Proofs.Ytbppmiimeccclaa.PV.regs p), Go.Value.slice ac (List.length (Go.Proofs.Ytbppmiimeccclaa.PV.code p)) cc, Go.Value.slice ao (List.length (Go.Proofs.Ytbppmiimeccclaa.PV.outs p)) co] 25)])) (fun (i, Gy, r2, rs, st, (o, d, j)) => Gy) (fun (i, Gy, r2, rs, st, (o, d, j)) => i ≤ p.code.length ∧ Gx.le Gy ∧ r2.length = R ∧ Grid Gy r2 rs ∧ Even (4 + 5 * i) N rs ∧ runTo p gs i = some rs ∧ OwnA o d st j ∧ st.length = i) (fun (i, Gy, r2, rs, st, (o, d, j)) => p.code.length - i) ((0, Gx, r, regs0 p gs, [], (none, 0, []))) (⟨Nat.zero_le _, Imm.le_refl _, hrR, hg0, he0, rfl, OwnA.nil, rfl⟩) rfl ⟨rfl, rfl, rfl, rfl, trivial⟩ ⟨rfl, rfl, rfl, trivial⟩ (fun ⟨i, Gy, r2, rs, st, (o, d, j)⟩ => fun (hk : i ≤ p.code.length ∧ Gx.le Gy ∧ r2.length = R ∧ Grid Gy r2 rs ∧ Even (4 + 5 * i) N rs ∧ runTo p gs i = some rs ∧ OwnA o d st j ∧ st.length = i) => ?_)
    obtain ⟨hi0, hgy, hr2, hg2, he2, hrun, hob, hst⟩ := hk
    replace hc := hc.up hgy
    replace ho := ho.up hgy
    have hor2 := hown r2 hr2
    have hg2l := hg2.1
    rcases Nat.lt_or_ge i p.code.length with hic | hic
    · have hmem : (p.code[((i : Nat) : Int).toNat]?.getD default) ∈ p.code := by
        rw [Int.toNat_natCast, List.getElem?_eq_getElem hic]; exact List.getElem_mem hic
      obtain ⟨m1, m2, m3, m4, m5, m6, m7, m8⟩ := may_facts (f8 _ hmem)
      have m3' : 0 ≤ (p.code[((i : Nat) : Int).toNat]?.getD default).a ∧ (p.code[((i : Nat) : Int).toNat]?.getD default).a < r2.length := by omega
      have m2' : 0 ≤ (p.code[((i : Nat) : Int).toNat]?.getD default).to ∧ (p.code[((i : Nat) : Int).toNat]?.getD default).to < r2.length := by omega
      have he9 := Even.at he2 (k := (p.code[((i : Nat) : Int).toNat]?.getD default).a) (by omega)
      obtain ⟨ci, hci⟩ : ∃ ci, ci = p.code[((i : Nat) : Int).toNat]?.getD default := ⟨_, rfl⟩
      refine Wc.seq ?_
      refine Wc.seq ?_
      refine Wc.region rfl ?_
      refine Wl.q rfl (Qy.move rfl) ?_
      refine Wl.q rfl (Qy.fieldAddr T.fa25_2 rfl) ?_
      refine Wl.q rfl (Qy.load 0 T.one22 rfl rfl rfl) ?_
      refine Wl.q rfl (Qy.len T.sl22 rfl) ?_
      refine Wl.q rfl (Qy.lss rfl rfl) ?_
      refine Wl.done ?_
      refine Ar.next ?_
      refine Wc.condP rfl (by first | assumption | omega) ?_
      refine Wc.skip ?_
      refine Ar.next ?_
      refine Wc.seq ?_
      refine Wc.block ?_
      refine Wc.seq ?_
      refine Wc.region rfl ?_
      refine Wl.q rfl (Qy.fieldAddr T.fa25_2 rfl) ?_
      refine Wl.q rfl (Qy.load 0 T.one22 rfl rfl rfl) ?_
      refine Wl.q rfl (Qy.move rfl) ?_
      refine Wl.q rfl (Qy.at (α := Sl.Instr) T.sl22 rfl rfl (by assumption) (by omega)) ?_
      refine Wl.q rfl (Qy.loadsG T.agg72 rfl (Arr.elem (by assumption) (by omega)) rfl) ?_
      refine Wl.q rfl (Qy.move rfl) ?_
      refine Wl.call 1 rfl T.fn129 rfl (c129 _ (p.code[((i : Nat) : Int).toNat]?.getD default) (some ⟨b2, 0, none⟩) R r2 [] rs (4 + 5 * i) N hor2 hg2 he2 hN (by omega) m1 m3' (fun h => by have := m4 h; omega) m5 (by omega) m6 m7 m8) (tags_of ⟨rfl, trivial⟩) (fun v1 G1 Ho1 hle1 hp => ?_)
      obtain ⟨rv, rfl, hrv, rfl⟩ := hp
      by_cases hd : doI (p.code[((i : Nat) : Int).toNat]?.getD default) rs = none
      · have hd2 : ¬ doI (p.code[((i : Nat) : Int).toNat]?.getD default) rs ≠ none := fun h => h hd
        refine Wl.q rfl (Qy.move rfl) ?_
        refine Wl.q rfl (Qy.extract rfl rfl) ?_
        refine Wl.q rfl (Qy.extract rfl rfl) ?_
        refine Wl.q rfl (Qy.assign rfl) ?_
        refine Wl.q rfl (Qy.assign rfl) ?_
        refine Wl.done ?_
        refine Ar.next ?_
        refine Wc.seq ?_
        refine Wc.seq ?_
        refine Wc.region rfl ?_
        refine Wl.q rfl (Qy.move rfl) ?_
        refine Wl.q rfl (Qy.notD rfl) ?_
        refine Wl.done ?_
        refine Ar.next ?_
        refine Wc.condP rfl (by first | assumption | omega) ?_
        refine Wc.seq ?_
        refine Wc.region rfl ?_
        refine Wl.q rfl (Qy.move rfl) ?_
        refine Wl.q rfl (Qy.move rfl) ?_
        refine Wl.q rfl (Qy.assign rfl) ?_
        refine Wl.q rfl (Qy.assign rfl) ?_
        refine Wl.q rfl (Qy.assign rfl) ?_
        refine Wl.done ?_
        refine Ar.next ?_
        refine Wc.ret ?_
        refine Ar.passRet ?_
        refine Ar.outRet ?_
        refine Ar.passRet ?_
        refine Ar.passRet ?_
        refine Ar.outRet ?_
        refine Ar.passRet ?_
        refine Ar.out3 (.inr rfl) (Ho := []) rfl (.tmp rfl) (.tmp rfl) (.tmp rfl) trivial ?_
        have hfn := runTo_stop hrun hd hic
        exact ⟨_, (i : Int), _, rfl, fun _ => ⟨Int.natCast_nonneg i, rfl⟩, fun os h => (by rw [hfn] at h; cases h), rfl⟩
      · obtain ⟨zs, hzs⟩ := Option.ne_none_iff_exists'.1 hd
        obtain ⟨s, rfl, hs⟩ := hrv zs hzs
        have hok : doI (p.code[((i : Nat) : Int).toNat]?.getD default) rs ≠ none := hd
        replace hc := hc.up hle1
        replace ho := ho.up hle1
        replace hg2 := hg2.up hle1
        refine Wl.q rfl (Qy.move rfl) ?_
        refine Wl.q rfl (Qy.extract rfl rfl) ?_
        refine Wl.q rfl (Qy.extract rfl rfl) ?_
        refine Wl.q rfl (Qy.assign rfl) ?_
        refine Wl.q rfl (Qy.assign rfl) ?_
        refine Wl.done ?_
        refine Ar.next ?_
        refine Wc.seq ?_
        refine Wc.seq ?_
        refine Wc.region rfl ?_
        refine Wl.q rfl (Qy.move rfl) ?_
        refine Wl.q rfl (Qy.notD rfl) ?_
        refine Wl.done ?_
        refine Ar.next ?_
        refine Wc.cond rfl (fun hc1 => ?_) (fun hc1 => ?_)
        refine Wc.seq ?_
        refine Wc.region rfl ?_
        refine Wl.q rfl (Qy.move rfl) ?_
        refine Wl.q rfl (Qy.move rfl) ?_
        refine Wl.q rfl (Qy.assign rfl) ?_
        refine Wl.q rfl (Qy.assign rfl) ?_
        refine Wl.q rfl (Qy.assign rfl) ?_
        refine Wl.done ?_
        refine Ar.next ?_
        refine Wc.ret ?_
        refine Ar.passRet ?_
        refine Ar.outRet ?_
        refine Ar.passRet ?_
        refine Ar.passRet ?_
        refine Ar.outRet ?_
        refine Ar.passRet ?_
        rotate_left
        refine Wc.skip ?_
        refine Ar.next ?_
        refine Wc.seq ?_
        refine Wc.region rfl ?_
        refine Wl.q rfl (Qy.move rfl) ?_
        refine Wl.q rfl (Qy.fieldAddr T.fa25_2 rfl) ?_
        refine Wl.q rfl (Qy.load 0 T.one22 rfl rfl rfl) ?_
        refine Wl.q rfl (Qy.move rfl) ?_
        refine Wl.q rfl (Qy.at (α := Sl.Instr) T.sl22 rfl rfl (by assumption) (by omega)) ?_
        refine Wl.q rfl (Qy.fieldAddr T.fa72_1 rfl) ?_
        refine Wl.q rfl (Qy.loadG T.one3 rfl (Arr.cell (by assumption) (by omega) 1 rfl rfl)) ?_
        refine Wl.q rfl (Qy.move rfl) ?_
        refine Wl.q rfl (Qy.indexAddrO (α := SV) T.sl54 rfl rfl (by assumption) (by omega)) ?_
        refine Wl.setO (z := _) 1 T.size57 rfl rfl rfl (by assumption) (by omega) rfl (fun ho1 => ?_)
        refine Wl.done ?_
        refine Ar.next ?_
        refine Wc.region rfl ?_
        refine Wl.q rfl (Qy.move rfl) ?_
        refine Wl.q rfl (Qy.move rfl) ?_
        refine Wl.lit (α := SV) 4 [⟨_, _, _⟩] rfl T.sl54 T.el57 rfl rfl rfl rfl rfl (fun b3 => ?_)
        refine Wl.append (α := SV) 3 rfl T.sl54 T.el57 rfl rfl rfl (by first | assumption | exact OwnA.nil | exact OwnA.made (by simp)) (Src.row 4 rfl) (by first | omega | (simp only [List.length_append, List.length_cons, List.length_nil, maxLen]; omega)) (by first | omega | (simp only [List.length_append, List.length_cons, List.length_nil, maxLen]; omega)) (fun a2 c2 junk2 ho2 => ?_)
        refine Wl.q rfl (Qy.assign rfl) ?_
        refine Wl.done ?_
        refine Ar.outNormal ?_
        refine Ar.next ?_
        refine Wc.region rfl ?_
        refine Wl.q rfl (Qy.move rfl) ?_
        refine Wl.q rfl (Qy.add rfl rfl (by omega)) ?_
        refine Wl.q rfl (Qy.assign rfl) ?_
        refine Wl.done ?_
        rotate_left
        · exact absurd hok hc1
        · refine Ar.re 7 rfl (show _ = Value.slice (some ⟨b2, 0, none⟩) (r2.set (p.code[((i : Nat) : Int).toNat]?.getD default).to.toNat s).length R by rw [List.length_set]) ?_
          refine Ar.again ((i + 1, G1, r2.set (p.code[((i : Nat) : Int).toNat]?.getD default).to.toNat s, rs.set (p.code[((i : Nat) : Int).toNat]?.getD default).to.toNat zs, st ++ [s], (a2, c2, junk2))) ?_ ?_ rfl ⟨rfl, rfl, rfl, rfl, trivial⟩ ⟨rfl, rfl, rfl, trivial⟩
          · have hx := doI_even (i := p.code[((i : Nat) : Int).toNat]?.getD default) he2 (by omega) (fun h => by have := m4 h; omega) (fun h => (m6 (by omega) (by omega) (by omega) (by omega)).2) hzs
            refine ⟨by omega, Imm.le_trans hgy hle1, by rw [List.length_set]; exact hr2, hg2.set _ hs, ?_, runTo_succ (x := []) hrun hzs, by assumption, by rw [List.length_append]; show st.length + 1 = i + 1; omega⟩
            rw [show 4 + 5 * (i + 1) = 5 + (4 + 5 * i) by omega]
            exact even_set (he2.mono (by omega)) hx _
          · show p.code.length - (i + 1) < p.code.length - i
            omega
    · have hie : i = p.code.length := by omega
      subst hie
      have hfo : followP p gs = some (outsOf p rs) := by unfold followP; rw [hrun]; rfl
      have hol : (outsOf p rs).length = p.outs.length := by unfold outsOf; rw [List.length_map]
      refine Wc.seq ?_
      refine Wc.seq ?_
      refine Wc.region rfl ?_
      refine Wl.q rfl (Qy.move rfl) ?_
      refine Wl.q rfl (Qy.fieldAddr T.fa25_2 rfl) ?_
      refine Wl.q rfl (Qy.load 0 T.one22 rfl rfl rfl) ?_
      refine Wl.q rfl (Qy.len T.sl22 rfl) ?_
      refine Wl.q rfl (Qy.lss rfl rfl) ?_
      refine Wl.done ?_
      refine Ar.next ?_
      refine Wc.condN rfl (by first | assumption | omega) ?_
      refine Wc.exit ?_
      refine Ar.passExit ?_
      refine Ar.passExit ?_
      refine Ar.here ?_
      refine Ar.next ?_
      refine Wc.seq ?_
      refine Wc.region rfl ?_
      refine Wl.q rfl (Qy.assign rfl) ?_
      refine Wl.done ?_
      refine Ar.next ?_
      refine Wc.seq ?_
      refine Wc.seq ?_
      refine Wc.region rfl ?_
      refine Wl.q rfl (Qy.assign rfl) ?_
      refine Wl.done ?_
      refine Ar.next ?_
      refine Wc.block ?_
      refine Wc.nilRow 4 (Row 57 ([] : List SV) []) ?_
      refine Wc.loop (ι := Nat × List SV × (Option Addr × Nat × List Value)) (fun (q, ol, (oo, od, oj)) => ([(14, .int .i64 (q : Int)), (13, .slice oo ol.length od), (9, Go.Value.slice o (List.length st) d), (7, Go.Value.slice (Option.some (Go.Addr.mk b2 0 Option.none)) (List.length r2) R), (2, Go.Value.pointer (Option.some (Go.Addr.mk b1 0 Option.none)))], [(4, oo.map (·.block), Row 57 ol oj), (3, Option.map (fun x => Go.Addr.block x) o, Go.Sl.Row (α := Go.Sl.SV) 57 (st) (j)), (1, Option.some b2, Go.Sl.Row (α := Go.Sl.SV) 57 (r2) ([])), (0, Option.some b1, Go.Obj.cells #[Go.Value.int Go.IntKind.i64 (Go.Proofs.Ytbppmiimeccclaa.PV.ins p), Go.Value.int Go.IntKind.i64 (Go.Proofs.Ytbppmiimeccclaa.PV.regs p), Go.Value.slice ac (List.length (Go.Proofs.Ytbppmiimeccclaa.PV.code p)) cc, Go.Value.slice ao (List.length (Go.Proofs.Ytbppmiimeccclaa.PV.outs p)) co] 25)])) (fun (q, ol, (oo, od, oj)) => q ≤ p.outs.length ∧ ol.length = q ∧ Grid Gy ol ((outsOf p rs).take q) ∧ OwnA oo od ol oj) (fun (q, ol, (oo, od, oj)) => p.outs.length - q) ((0, [], (none, 0, []))) (⟨Nat.zero_le _, rfl, by rw [List.take_zero]; exact Grid.nil _, OwnA.nil⟩) ⟨rfl, rfl, rfl, rfl, rfl, trivial⟩ ⟨rfl, rfl, rfl, rfl, trivial⟩ (fun ⟨q, ol, (oo, od, oj)⟩ => fun (hk : q ≤ p.outs.length ∧ ol.length = q ∧ Grid Gy ol ((outsOf p rs).take q) ∧ OwnA oo od ol oj) => ?_)
      obtain ⟨hq0, hql, hqg, hqo⟩ := hk
      rcases Nat.lt_or_ge q p.outs.length with hqc | hqc
      · have hmem : (p.outs[((q : Nat) : Int).toNat]?.getD default) ∈ p.outs := by
          rw [Int.toNat_natCast, List.getElem?_eq_getElem hqc]; exact List.getElem_mem hqc
        have hrr := f7 _ hmem
        have hrr2 : 0 ≤ (p.outs[((q : Nat) : Int).toNat]?.getD default) ∧ (p.outs[((q : Nat) : Int).toNat]?.getD default) < r2.length := by omega
        have hss := hg2.at hrr2
        refine Wc.seq ?_
        refine Wc.seq ?_
        refine Wc.region rfl ?_
        refine Wl.q rfl (Qy.move rfl) ?_
        refine Wl.q rfl (Qy.fieldAddr T.fa25_3 rfl) ?_
        refine Wl.q rfl (Qy.load 0 T.one23 rfl rfl rfl) ?_
        refine Wl.q rfl (Qy.len T.sl23 rfl) ?_
        refine Wl.q rfl (Qy.lss rfl rfl) ?_
        refine Wl.done ?_
        refine Ar.next ?_
        refine Wc.condP rfl (by first | assumption | omega) ?_
        refine Wc.skip ?_
        refine Ar.next ?_
        refine Wc.seq ?_
        refine Wc.block ?_
        refine Wc.region rfl ?_
        refine Wl.q rfl (Qy.move rfl) ?_
        refine Wl.q rfl (Qy.move rfl) ?_
        refine Wl.q rfl (Qy.fieldAddr T.fa25_3 rfl) ?_
        refine Wl.q rfl (Qy.load 0 T.one23 rfl rfl rfl) ?_
        refine Wl.q rfl (Qy.move rfl) ?_
        refine Wl.q rfl (Qy.at (α := Int) T.sl23 rfl rfl (by assumption) (by omega)) ?_
        refine Wl.q rfl (Qy.loadG T.one3 rfl (Arr.cell (by assumption) (by omega) 0 rfl rfl)) ?_
        refine Wl.q rfl (Qy.indexAddrO (α := SV) T.sl54 rfl rfl (by assumption) (by omega)) ?_
        refine Wl.q rfl (Qy.loadO 1 0 T.one57 rfl rfl (by assumption) (by omega) rfl rfl) ?_
        refine Wl.lit (α := SV) 5 [⟨_, _, _⟩] rfl T.sl54 T.el57 rfl rfl rfl rfl rfl (fun b3 => ?_)
        refine Wl.append (α := SV) 4 rfl T.sl54 T.el57 rfl rfl rfl (by first | assumption | exact OwnA.nil | exact OwnA.made (by simp)) (Src.row 5 rfl) (by first | omega | (simp only [List.length_append, List.length_cons, List.length_nil, maxLen]; omega)) (by first | omega | (simp only [List.length_append, List.length_cons, List.length_nil, maxLen]; omega)) (fun a1 c1 junk1 ho1 => ?_)
        refine Wl.q rfl (Qy.assign rfl) ?_
        refine Wl.done ?_
        refine Ar.outNormal ?_
        refine Ar.next ?_
        refine Wc.region rfl ?_
        refine Wl.q rfl (Qy.move rfl) ?_
        refine Wl.q rfl (Qy.add rfl rfl (by omega)) ?_
        refine Wl.q rfl (Qy.assign rfl) ?_
        refine Wl.done ?_
        refine Ar.again ((q + 1, ol ++ [r2[(p.outs[((q : Nat) : Int).toNat]?.getD default).toNat]?.getD default], (a1, c1, junk1))) ?_ ?_ rfl ⟨rfl, rfl, rfl, rfl, rfl, trivial⟩ ⟨rfl, rfl, rfl, rfl, trivial⟩
        · exact ⟨by omega, by rw [List.length_append]; show ol.length + 1 = q + 1; omega, by rw [outs_succ hqc]; exact hqg.snoc hss, by assumption⟩
        · show p.outs.length - (q + 1) < p.outs.length - q
          omega
      · refine Wc.seq ?_
        refine Wc.seq ?_
        refine Wc.region rfl ?_
        refine Wl.q rfl (Qy.move rfl) ?_
        refine Wl.q rfl (Qy.fieldAddr T.fa25_3 rfl) ?_
        refine Wl.q rfl (Qy.load 0 T.one23 rfl rfl rfl) ?_
        refine Wl.q rfl (Qy.len T.sl23 rfl) ?_
        refine Wl.q rfl (Qy.lss rfl rfl) ?_
        refine Wl.done ?_
        refine Ar.next ?_
        refine Wc.condN rfl (by first | assumption | omega) ?_
        refine Wc.exit ?_
        refine Ar.passExit ?_
        refine Ar.passExit ?_
        refine Ar.here ?_
        refine Ar.next ?_
        refine Wc.seq ?_
        refine Wc.region rfl ?_
        refine Wl.q rfl (Qy.move rfl) ?_
        refine Wl.q rfl (Qy.move rfl) ?_
        refine Wl.q rfl (Qy.assign rfl) ?_
        refine Wl.q rfl (Qy.assign rfl) ?_
        refine Wl.q rfl (Qy.assign rfl) ?_
        refine Wl.done ?_
        refine Ar.next ?_
        refine Wc.ret ?_
        rw [List.take_of_length_le (by omega)] at hqg
        refine Ar.freezeRow 4 rfl hqo (fun G9 hle9 hA => ?_)
        refine Ar.out3 (.inr rfl) (Ho := []) rfl (.tmp rfl) (.tmp rfl) (.tmp rfl) trivial ?_
        exact ⟨_, -1, _, rfl, fun h => (by rw [hfo] at h; cases h), fun os h => (by rw [hfo] at h; cases h; exact ⟨rfl, oo, od, ol, rfl, hA, hqg.up hle9⟩), rfl⟩
end Go.Proofs.Ytbppmiimeccclaa
set_option maxRecDepth 100000
set_option linter.unusedVariables false
namespace Go.Proofs.Ytbppmiimeccclaa
open Go Go.Sl
set_option maxHeartbeats 4000000
/-- handles that stand for numbers -/
def Bigs (G : Imm) (l : List IV) (zs : List Int) : Prop := l.length = zs.length ∧ ∀ i : Nat, i < l.length → Big G (l[i]?.getD default) (zs[i]?.getD 0)
theorem Bigs.up {G G' : Imm} {l : List IV} {zs : List Int} (h : Bigs G l zs) (hl : G.le G') : Bigs G' l zs := ⟨h.1, fun i hi => (h.2 i hi).up hl⟩
theorem Bigs.at {G : Imm} {l : List IV} {zs : List Int} (h : Bigs G l zs) {k : Int} (hk : 0 ≤ k ∧ k < l.length) : Big G (l[k.toNat]?.getD default) (zs[k.toNat]?.getD 0) := h.2 _ (by omega)
theorem Bigs.nil (G : Imm) : Bigs G [] [] := ⟨rfl, fun i hi => by simp at hi⟩
theorem Bigs.set {G : Imm} {l : List IV} {zs : List Int} (h : Bigs G l zs) (k : Nat) {x : IV} {z : Int} (hx : Big G x z) : Bigs G (l.set k x) (zs.set k z) := by
  refine ⟨by rw [List.length_set, List.length_set]; exact h.1, fun i hi => ?_⟩
  rw [List.length_set] at hi
  rw [List.getElem?_set, List.getElem?_set]
  have h1 := h.1
  by_cases hk : k = i
  · subst hk
    rw [if_pos rfl, if_pos rfl, if_pos hi, if_pos (by omega)]; exact hx
  · rw [if_neg hk, if_neg hk]; exact h.2 i hi
theorem Bigs.snoc {G : Imm} {l : List IV} {zs : List Int} (h : Bigs G l zs) {x : IV} {z : Int} (hx : Big G x z) : Bigs G (l ++ [x]) (zs ++ [z]) := by
  refine ⟨by rw [List.length_append, List.length_append, h.1]; rfl, fun i hi => ?_⟩
  rw [List.length_append, List.length_singleton] at hi
  have h1 := h.1
  rcases Nat.lt_or_ge i l.length with h2 | h2
  · rw [List.getElem?_append_left h2, List.getElem?_append_left (by omega)]; exact h.2 i h2
  · have e : i = l.length := by omega
    subst e
    rw [List.getElem?_append_right (Nat.le_refl _), Nat.sub_self, h1, List.getElem?_append_right (Nat.le_refl _), Nat.sub_self]; exact hx
theorem Bigs.zeros (G : Imm) (n : Nat) : Bigs G (List.replicate n (default : IV)) (List.replicate n 0) := by
  refine ⟨by rw [List.length_replicate, List.length_replicate], fun i hi => ?_⟩
  rw [List.length_replicate] at hi
  rw [List.getElem?_replicate, List.getElem?_replicate, if_pos hi, if_pos hi]
  exact Big.zero G
/-- none too large -/
def Below (m : Nat) (zs : List Int) : Prop := ∀ z ∈ zs, (z.natAbs : Int) < pb m
theorem Below.at {m : Nat} {zs : List Int} (h : Below m zs) (k : Nat) : ((zs[k]?.getD 0).natAbs : Int) < pb m := by
  rcases Nat.lt_or_ge k zs.length with h1 | h1
  · rw [List.getElem?_eq_getElem h1]; exact h _ (List.getElem_mem h1)
  · rw [List.getElem?_eq_none h1]; exact pb_pos m
attribute [local irreducible] valB pb cmpZ lstWp p2
end Go.Proofs.Ytbppmiimeccclaa
set_option maxRecDepth 100000
set_option linter.unusedVariables false
namespace Go.Proofs.Ytbppmiimeccclaa
open Go Go.Sl
def near (a b : Int) : Prop := -16 ≤ a ∧ a ≤ 16 ∧ -16 ≤ b ∧ b ≤ 16
instance (a b : Int) : Decidable (near a b) := inferInstanceAs (Decidable (_ ∧ _))
theorem c113 (G : Imm) (n : Int) : Does Try.prog 113 [.int .i64 n] G [] (fun v G' Ho => v = .bool (decide (-16 ≤ n ∧ n ≤ 16)) ∧ G' = G ∧ Ho = []) := by
  refine Does.enter Try.func113 rfl Try.ntmps113 rfl (fun w => ?_)
  refine Wc.seq ?_
  refine Wc.region rfl ?_
  refine Wl.q rfl (Qy.assign rfl) ?_
  refine Wl.done ?_
  refine Ar.next ?_
  refine Wc.seq ?_
  refine Wc.region rfl ?_
  refine Wl.q rfl (Qy.move rfl) ?_
  refine Wl.q rfl (Qy.geq rfl rfl) ?_
  refine Wl.q rfl (Qy.move rfl) ?_
  apply Wl.joinAnd 3 5 8 rfl
  intro hg1
  refine Wl.want rfl rfl ?_
  refine Wl.q rfl (Qy.move rfl) ?_
  refine Wl.want rfl rfl ?_
  refine Wl.q rfl (Qy.leq rfl rfl) ?_
  refine Wl.q rfl (Qy.pick rfl rfl) ?_
  exact Wl.back 3 0 rfl rfl rfl rfl rfl
  intro hg1
  refine Wl.pass rfl rfl rfl ?_
  refine Wl.pass rfl rfl rfl ?_
  refine Wl.q rfl (Qy.pick rfl rfl) ?_
  exact Wl.back 3 0 rfl rfl rfl rfl rfl
  refine Wl.q rfl (Qy.assign rfl) ?_
  refine Wl.done ?_
  refine Ar.next ?_
  refine Wc.ret ?_
  refine Ar.out1 (.inr rfl) (Ho := Hp.only _ []) rfl (.tmp rfl) (Hp.sub_only _ _) ?_
  exact ⟨rfl, rfl, rfl⟩
theorem c174 (G : Imm) (n : Int) (h : -9223372036854775807 ≤ n) : Does Try.prog 174 [.int .i64 n] G [] (fun v G' Ho => v = .int .i64 (n.natAbs : Int) ∧ G' = G ∧ Ho = []) := by
  refine Does.enter Try.func174 rfl Try.ntmps174 rfl (fun w => ?_)
  refine Wc.seq ?_
  refine Wc.region rfl ?_
  refine Wl.q rfl (Qy.assign rfl) ?_
  refine Wl.done ?_
  refine Ar.next ?_
  refine Wc.seq ?_
  refine Wc.seq ?_
  refine Wc.region rfl ?_
  refine Wl.q rfl (Qy.move rfl) ?_
  refine Wl.q rfl (Qy.lss rfl rfl) ?_
  refine Wl.done ?_
  refine Ar.next ?_
  refine Wc.cond rfl (fun hc1 => ?_) (fun hc1 => ?_)
  refine Wc.seq ?_
  refine Wc.region rfl ?_
  refine Wl.q rfl (Qy.move rfl) ?_
  refine Wl.q rfl (Qy.neg rfl (by omega)) ?_
  refine Wl.q rfl (Qy.assign rfl) ?_
  refine Wl.done ?_
  refine Ar.next ?_
  refine Wc.ret ?_
  refine Ar.passRet ?_
  refine Ar.out1 (.inr rfl) (Ho := Hp.only _ []) rfl (.tmp rfl) (Hp.sub_only _ _) ?_
  rotate_left
  refine Wc.skip ?_
  refine Ar.next ?_
  refine Wc.seq ?_
  refine Wc.region rfl ?_
  refine Wl.q rfl (Qy.move rfl) ?_
  refine Wl.q rfl (Qy.assign rfl) ?_
  refine Wl.done ?_
  refine Ar.next ?_
  refine Wc.ret ?_
  refine Ar.out1 (.inr rfl) (Ho := Hp.only _ []) rfl (.tmp rfl) (Hp.sub_only _ _) ?_
  rotate_left
  · exact ⟨by congr 1; omega, rfl, rfl⟩
  · exact ⟨by congr 1; omega, rfl, rfl⟩
theorem c143 (G : Imm) (a b : Int) (h1 : -4611686018427387904 ≤ a ∧ a ≤ 4611686018427387904) (h2 : -4611686018427387904 ≤ b ∧ b ≤ 4611686018427387904) : Does Try.prog 143 [.int .i64 a, .int .i64 b] G [] (fun v G' Ho => v = .int .i64 (Int.gcd a b : Int) ∧ G' = G ∧ Ho = []) := by
  refine Does.enter Try.func143 rfl Try.ntmps143 rfl (fun w => ?_)
  refine Wc.seq ?_
  refine Wc.region rfl ?_
  refine Wl.q rfl (Qy.assign rfl) ?_
  refine Wl.done ?_
  refine Ar.next ?_
  refine Wc.seq ?_
  refine Wc.block ?_
  refine Wc.loop (ι := Int × Int) (fun (x, y) => ([(0, .int .i64 x), (1, .int .i64 y), (4, Go.Value.int Go.IntKind.i64 0)], [])) (fun (x, y) => Int.gcd x y = Int.gcd a b ∧ (-4611686018427387904 ≤ x ∧ x ≤ 4611686018427387904) ∧ (-4611686018427387904 ≤ y ∧ y ≤ 4611686018427387904)) (fun (x, y) => y.natAbs) ((a, b)) (⟨rfl, h1, h2⟩) ⟨rfl, rfl, rfl, trivial⟩ trivial (fun ⟨x, y⟩ => fun (hk : Int.gcd x y = Int.gcd a b ∧ (-4611686018427387904 ≤ x ∧ x ≤ 4611686018427387904) ∧ (-4611686018427387904 ≤ y ∧ y ≤ 4611686018427387904)) => ?_)
  obtain ⟨hg, hx, hy⟩ := hk
  refine Wc.seq ?_
  refine Wc.seq ?_
  refine Wc.region rfl ?_
  refine Wl.q rfl (Qy.move rfl) ?_
  refine Wl.q rfl (Qy.neq rfl rfl) ?_
  refine Wl.done ?_
  refine Ar.next ?_
  refine Wc.cond rfl (fun hc1 => ?_) (fun hc1 => ?_)
  refine Wc.skip ?_
  refine Ar.next ?_
  refine Wc.block ?_
  refine Wc.draw [] [] T.mixed rfl ?_
  refine Gm.q 0 [] (by kernel_rfl) rfl rfl (Qy.move rfl) ?_
  refine Gm.q 1 [] (by kernel_rfl) rfl rfl (Qy.move rfl) ?_
  refine Gm.q 2 [] (by kernel_rfl) rfl rfl (Qy.move rfl) ?_
  refine Gm.q 3 [] (by kernel_rfl) rfl rfl (Qy.rem rfl rfl (by omega)) ?_
  refine Gm.q 4 [] (by kernel_rfl) rfl rfl (Qy.assign rfl) ?_
  refine Gm.q 5 [] (by kernel_rfl) rfl rfl (Qy.assign rfl) ?_
  refine Gm.doneA (by kernel_rfl) trivial (by first | exact Imm.le_refl _ | assumption | (refine Imm.le_trans ?_ (by assumption); first | assumption | (refine Imm.le_trans ?_ (by assumption); assumption))) ?_
  refine Ar.outNormal ?_
  rotate_left
  refine Wc.exit ?_
  refine Ar.passExit ?_
  refine Ar.passExit ?_
  refine Ar.here ?_
  refine Ar.next ?_
  refine Wc.seq ?_
  refine Wc.region rfl ?_
  refine Wl.q rfl (Qy.move rfl) ?_
  refine Wl.call0 rfl T.fn174 rfl (c174 _ _ (by omega)) ?_
  refine Wl.q rfl (Qy.assign rfl) ?_
  refine Wl.done ?_
  refine Ar.next ?_
  refine Wc.ret ?_
  refine Ar.out1 (.inr rfl) (Ho := Hp.only _ []) rfl (.tmp rfl) (Hp.sub_only _ _) ?_
  rotate_left
  · have e := Int.natAbs_tmod x y
    have hyp : 0 < y.natAbs := by omega
    have e2 := Nat.mod_lt x.natAbs hyp
    have e3 := Nat.mod_le x.natAbs y.natAbs
    refine Ar.again ((y, x.tmod y)) ?_ ?_ rfl ⟨rfl, rfl, rfl, trivial⟩ trivial
    · refine ⟨?_, hy, by omega⟩
      rw [← hg]
      show Nat.gcd y.natAbs (x.tmod y).natAbs = Nat.gcd x.natAbs y.natAbs
      rw [e, Nat.gcd_comm, ← Nat.gcd_rec, Nat.gcd_comm]
    · show (x.tmod y).natAbs < y.natAbs
      omega
  · refine ⟨?_, rfl, rfl⟩
    rw [← hg]
    have e : y = 0 := by omega
    subst e
    rw [Int.gcd_zero_right]
theorem c71 (G : Imm) (a b : Int) : Does Try.prog 71 [.agg #[.int .i64 a, .int .i64 b]] G [] (fun v G' Ho => v = .bool (decide (near a b)) ∧ G' = G ∧ Ho = []) := by
  refine Does.enter Try.func71 rfl Try.ntmps71 rfl (fun w => ?_)
  refine Wc.seq ?_
  refine Wc.region rfl ?_
  refine Wl.box 0 rfl rfl rfl (fun b1 => ?_)
  refine Wl.q rfl (Qy.assign rfl) ?_
  refine Wl.done ?_
  refine Ar.next ?_
  refine Wc.seq ?_
  refine Wc.region rfl ?_
  refine Wl.q rfl (Qy.fieldAddr T.fa75_0 rfl) ?_
  refine Wl.q rfl (Qy.load 0 T.one3 rfl rfl rfl) ?_
  refine Wl.call0 rfl T.fn113 rfl (by apply c113 <;> first | assumption | omega | rfl) ?_
  refine Wl.q rfl (Qy.move rfl) ?_
  apply Wl.joinAnd 4 6 10 rfl
  intro hg1
  refine Wl.want rfl rfl ?_
  refine Wl.q rfl (Qy.fieldAddr T.fa75_1 rfl) ?_
  refine Wl.want rfl rfl ?_
  refine Wl.q rfl (Qy.load 0 T.one3 rfl rfl rfl) ?_
  refine Wl.want rfl rfl ?_
  refine Wl.call0 rfl T.fn113 rfl (by apply c113 <;> first | assumption | omega | rfl) ?_
  refine Wl.q rfl (Qy.pick rfl rfl) ?_
  exact Wl.back 4 0 rfl rfl rfl rfl rfl
  intro hg1
  refine Wl.pass rfl rfl rfl ?_
  refine Wl.pass rfl rfl rfl ?_
  refine Wl.pass rfl rfl rfl ?_
  refine Wl.q rfl (Qy.pick rfl rfl) ?_
  exact Wl.back 4 0 rfl rfl rfl rfl rfl
  refine Wl.q rfl (Qy.assign rfl) ?_
  refine Wl.done ?_
  refine Ar.next ?_
  refine Wc.ret ?_
  refine Ar.out1 (.inr rfl) (Ho := Hp.only _ []) rfl (.tmp rfl) (Hp.sub_only _ _) ?_
  exact ⟨by congr 1; exact decide_eq_decide.mpr (by unfold near; omega), rfl, rfl⟩
theorem c72 (G : Imm) (a b : Int) : Does Try.prog 72 [.agg #[.int .i64 a, .int .i64 b]] G [] (fun v G' Ho => v = .bool (decide (a = 0 ∧ b = 0)) ∧ G' = G ∧ Ho = []) := by
  refine Does.enter Try.func72 rfl Try.ntmps72 rfl (fun w => ?_)
  refine Wc.seq ?_
  refine Wc.region rfl ?_
  refine Wl.box 0 rfl rfl rfl (fun b1 => ?_)
  refine Wl.q rfl (Qy.assign rfl) ?_
  refine Wl.done ?_
  refine Ar.next ?_
  refine Wc.seq ?_
  refine Wc.region rfl ?_
  refine Wl.q rfl (Qy.loadAll 0 T.agg75 rfl rfl rfl) ?_
  refine Wl.q rfl (Qy.build (cs := [_, _]) T.st75 rfl rfl rfl) ?_
  refine Wl.q rfl (Qy.eqlI [_, _] [_, _] T.ai75 rfl rfl rfl rfl) ?_
  refine Wl.q rfl (Qy.assign rfl) ?_
  refine Wl.done ?_
  refine Ar.next ?_
  refine Wc.ret ?_
  refine Ar.out1 (.inr rfl) (Ho := Hp.only _ []) rfl (.tmp rfl) (Hp.sub_only _ _) ?_
  exact ⟨by congr 1; exact decide_eq_decide.mpr (by simp), rfl, rfl⟩
theorem c63 (G : Imm) (a b : Int) : Does Try.prog 63 [.agg #[.int .i64 a, .int .i64 b]] G [] (fun v G' Ho => v = .bool (decide (near a b)) ∧ G' = G ∧ Ho = []) := by
  refine Does.enter Try.func63 rfl Try.ntmps63 rfl (fun w => ?_)
  refine Wc.seq ?_
  refine Wc.region rfl ?_
  refine Wl.box 0 rfl rfl rfl (fun b1 => ?_)
  refine Wl.q rfl (Qy.assign rfl) ?_
  refine Wl.done ?_
  refine Ar.next ?_
  refine Wc.seq ?_
  refine Wc.region rfl ?_
  refine Wl.q rfl (Qy.fieldAddr T.fa75_0 rfl) ?_
  refine Wl.q rfl (Qy.load 0 T.one3 rfl rfl rfl) ?_
  refine Wl.q rfl (Qy.geq rfl rfl) ?_
  refine Wl.q rfl (Qy.move rfl) ?_
  apply Wl.joinAnd 4 6 10 rfl
  intro hg1
  refine Wl.want rfl rfl ?_
  refine Wl.q rfl (Qy.fieldAddr T.fa75_0 rfl) ?_
  refine Wl.want rfl rfl ?_
  refine Wl.q rfl (Qy.load 0 T.one3 rfl rfl rfl) ?_
  refine Wl.want rfl rfl ?_
  refine Wl.q rfl (Qy.leq rfl rfl) ?_
  refine Wl.q rfl (Qy.pick rfl rfl) ?_
  exact Wl.back 4 0 rfl rfl rfl rfl rfl
  intro hg1
  refine Wl.pass rfl rfl rfl ?_
  refine Wl.pass rfl rfl rfl ?_
  refine Wl.pass rfl rfl rfl ?_
  refine Wl.q rfl (Qy.pick rfl rfl) ?_
  exact Wl.back 4 0 rfl rfl rfl rfl rfl
  refine Wl.q rfl (Qy.move rfl) ?_
  apply Wl.joinAnd 4 11 15 rfl
  intro hg1
  refine Wl.want rfl rfl ?_
  refine Wl.q rfl (Qy.fieldAddr T.fa75_1 rfl) ?_
  refine Wl.want rfl rfl ?_
  refine Wl.q rfl (Qy.load 0 T.one3 rfl rfl rfl) ?_
  refine Wl.want rfl rfl ?_
  refine Wl.q rfl (Qy.geq rfl rfl) ?_
  refine Wl.q rfl (Qy.pick rfl rfl) ?_
  exact Wl.back 4 0 rfl rfl rfl rfl rfl
  intro hg1
  refine Wl.pass rfl rfl rfl ?_
  refine Wl.pass rfl rfl rfl ?_
  refine Wl.pass rfl rfl rfl ?_
  refine Wl.q rfl (Qy.pick rfl rfl) ?_
  exact Wl.back 4 0 rfl rfl rfl rfl rfl
  refine Wl.q rfl (Qy.move rfl) ?_
  apply Wl.joinAnd 4 16 20 rfl
  intro hg1
  refine Wl.want rfl rfl ?_
  refine Wl.q rfl (Qy.fieldAddr T.fa75_1 rfl) ?_
  refine Wl.want rfl rfl ?_
  refine Wl.q rfl (Qy.load 0 T.one3 rfl rfl rfl) ?_
  refine Wl.want rfl rfl ?_
  refine Wl.q rfl (Qy.leq rfl rfl) ?_
  refine Wl.q rfl (Qy.pick rfl rfl) ?_
  exact Wl.back 4 0 rfl rfl rfl rfl rfl
  intro hg1
  refine Wl.pass rfl rfl rfl ?_
  refine Wl.pass rfl rfl rfl ?_
  refine Wl.pass rfl rfl rfl ?_
  refine Wl.q rfl (Qy.pick rfl rfl) ?_
  exact Wl.back 4 0 rfl rfl rfl rfl rfl
  refine Wl.q rfl (Qy.assign rfl) ?_
  refine Wl.done ?_
  refine Ar.next ?_
  refine Wc.ret ?_
  refine Ar.out1 (.inr rfl) (Ho := Hp.only _ []) rfl (.tmp rfl) (Hp.sub_only _ _) ?_
  exact ⟨by congr 1; exact decide_eq_decide.mpr (by unfold near; omega), rfl, rfl⟩
theorem c64 (G : Imm) (a b : Int) : Does Try.prog 64 [.agg #[.int .i64 a, .int .i64 b]] G [] (fun v G' Ho => v = .bool (decide (a = 0 ∧ b = 0)) ∧ G' = G ∧ Ho = []) := by
  refine Does.enter Try.func64 rfl Try.ntmps64 rfl (fun w => ?_)
  refine Wc.seq ?_
  refine Wc.region rfl ?_
  refine Wl.box 0 rfl rfl rfl (fun b1 => ?_)
  refine Wl.q rfl (Qy.assign rfl) ?_
  refine Wl.done ?_
  refine Ar.next ?_
  refine Wc.seq ?_
  refine Wc.region rfl ?_
  refine Wl.q rfl (Qy.fieldAddr T.fa75_0 rfl) ?_
  refine Wl.q rfl (Qy.load 0 T.one3 rfl rfl rfl) ?_
  refine Wl.q rfl (Qy.eql rfl rfl) ?_
  refine Wl.q rfl (Qy.move rfl) ?_
  apply Wl.joinAnd 4 6 10 rfl
  intro hg1
  refine Wl.want rfl rfl ?_
  refine Wl.q rfl (Qy.fieldAddr T.fa75_1 rfl) ?_
  refine Wl.want rfl rfl ?_
  refine Wl.q rfl (Qy.load 0 T.one3 rfl rfl rfl) ?_
  refine Wl.want rfl rfl ?_
  refine Wl.q rfl (Qy.eql rfl rfl) ?_
  refine Wl.q rfl (Qy.pick rfl rfl) ?_
  exact Wl.back 4 0 rfl rfl rfl rfl rfl
  intro hg1
  refine Wl.pass rfl rfl rfl ?_
  refine Wl.pass rfl rfl rfl ?_
  refine Wl.pass rfl rfl rfl ?_
  refine Wl.q rfl (Qy.pick rfl rfl) ?_
  exact Wl.back 4 0 rfl rfl rfl rfl rfl
  refine Wl.q rfl (Qy.assign rfl) ?_
  refine Wl.done ?_
  refine Ar.next ?_
  refine Wc.ret ?_
  refine Ar.out1 (.inr rfl) (Ho := Hp.only _ []) rfl (.tmp rfl) (Hp.sub_only _ _) ?_
  exact ⟨rfl, rfl, rfl⟩
def normG (a b : Int) : Int := if b < 0 ∨ (b = 0 ∧ a < 0) then -(Int.gcd a b : Int) else (Int.gcd a b : Int)
def nrm (a b : Int) : Int × Int := if a = 0 ∧ b = 0 then (a, b) else (a.tdiv (normG a b), b.tdiv (normG a b))
theorem tdiv_rng (a g : Int) : -(a.natAbs : Int) ≤ a.tdiv g ∧ a.tdiv g ≤ a.natAbs := by
  have h : (a.tdiv g).natAbs = a.natAbs / g.natAbs := Int.natAbs_tdiv a g
  have h2 := Nat.div_le_self a.natAbs g.natAbs
  omega
theorem c110 (G : Imm) (a b : Int) (h1 : -4611686018427387904 ≤ a ∧ a ≤ 4611686018427387904) (h2 : -4611686018427387904 ≤ b ∧ b ≤ 4611686018427387904) : Does Try.prog 110 [.agg #[.int .i64 a, .int .i64 b]] G [] (fun v G' Ho => v = .agg #[.int .i64 (nrm a b).1, .int .i64 (nrm a b).2] ∧ G' = G ∧ Ho = []) := by
  refine Does.enter Try.func110 rfl Try.ntmps110 rfl (fun w => ?_)
  have hga := Int.gcd_dvd_left a b
  have hgb := Int.gcd_dvd_right a b
  have hgm : (Int.gcd a b : Int) ≤ 4611686018427387904 := by
    by_cases h : a = 0
    · subst h; rw [Int.gcd_zero_left]; omega
    · have := Int.le_of_dvd (show 0 < (a.natAbs : Int) by omega) (Int.dvd_natAbs.mpr hga); omega
  have q1 := tdiv_rng a (Int.gcd a b : Int)
  have q2 := tdiv_rng b (Int.gcd a b : Int)
  have q3 := tdiv_rng a (-(Int.gcd a b : Int))
  have q4 := tdiv_rng b (-(Int.gcd a b : Int))
  refine Wc.seq ?_
  refine Wc.region rfl ?_
  refine Wl.box 0 rfl rfl rfl (fun b1 => ?_)
  refine Wl.alloc 1 rfl T.zero75 (fun b2 => ?_)
  refine Wl.done ?_
  refine Ar.next ?_
  refine Wc.seq ?_
  refine Wc.region rfl ?_
  refine Wl.q rfl (Qy.fieldAddr T.fa75_0 rfl) ?_
  refine Wl.q rfl (Qy.load 0 T.one3 rfl rfl rfl) ?_
  refine Wl.q rfl (Qy.fieldAddr T.fa75_1 rfl) ?_
  refine Wl.q rfl (Qy.load 0 T.one3 rfl rfl rfl) ?_
  refine Wl.call0 rfl T.fn143 rfl (c143 _ _ _ (by omega) (by omega)) ?_
  refine Wl.q rfl (Qy.assign rfl) ?_
  refine Wl.done ?_
  refine Ar.next ?_
  refine Wc.seq ?_
  refine Wc.block ?_
  refine Wc.seq ?_
  refine Wc.region rfl ?_
  refine Wl.q rfl (Qy.move rfl) ?_
  refine Wl.q rfl (Qy.eql rfl rfl) ?_
  refine Wl.q rfl (Qy.assign rfl) ?_
  refine Wl.done ?_
  refine Ar.next ?_
  refine Wc.cond rfl (fun hc1 => ?_) (fun hc1 => ?_)
  refine Wc.seq ?_
  refine Wc.region rfl ?_
  refine Wl.q rfl (Qy.loadAll 0 T.agg75 rfl rfl rfl) ?_
  refine Wl.storeAll 1 T.size75 rfl rfl rfl rfl rfl rfl ?_
  refine Wl.done ?_
  refine Ar.next ?_
  refine Wc.ret ?_
  refine Ar.outRet ?_
  refine Ar.passRet ?_
  refine Ar.out1 (.inr rfl) (Ho := Hp.only _ []) rfl (.agg 1 rfl rfl T.agg75) (Hp.sub_only _ _) ?_
  rotate_left
  refine Wc.seq ?_
  refine Wc.seq ?_
  refine Wc.region rfl ?_
  refine Wl.q rfl (Qy.fieldAddr T.fa75_1 rfl) ?_
  refine Wl.q rfl (Qy.load 0 T.one3 rfl rfl rfl) ?_
  refine Wl.q rfl (Qy.lss rfl rfl) ?_
  refine Wl.q rfl (Qy.assign rfl) ?_
  refine Wl.done ?_
  refine Ar.next ?_
  refine Wc.cond rfl (fun hc2 => ?_) (fun hc2 => ?_)
  refine Wc.skip ?_
  refine Ar.next ?_
  refine Wc.condP rfl (by first | assumption | omega) ?_
  refine Wc.region rfl ?_
  refine Wl.q rfl (Qy.move rfl) ?_
  refine Wl.q rfl (Qy.neg rfl (by omega)) ?_
  refine Wl.q rfl (Qy.assign rfl) ?_
  refine Wl.done ?_
  refine Ar.outNormal ?_
  refine Ar.next ?_
  refine Wc.seq ?_
  refine Wc.draw [0, 1] [(1, 9)] T.mixed rfl ?_
  refine Gm.q 0 [] (by kernel_rfl) rfl rfl (Qy.fieldAddr T.fa75_0 rfl) ?_
  refine Gm.q 1 [0] (by kernel_rfl) rfl rfl (Qy.load 0 T.one3 rfl rfl rfl) ?_
  refine Gm.q 2 [] (by kernel_rfl) rfl rfl (Qy.move rfl) ?_
  refine Gm.q 3 [] (by kernel_rfl) rfl rfl (Qy.quo rfl rfl (by omega) (by omega)) ?_
  refine Gm.q 4 [] (by kernel_rfl) rfl rfl (Qy.fieldAddr T.fa75_1 rfl) ?_
  refine Gm.q 5 [0] (by kernel_rfl) rfl rfl (Qy.load 0 T.one3 rfl rfl rfl) ?_
  refine Gm.q 6 [] (by kernel_rfl) rfl rfl (Qy.move rfl) ?_
  refine Gm.q 7 [] (by kernel_rfl) rfl rfl (Qy.quo rfl rfl (by omega) (by omega)) ?_
  refine Gm.q 8 [] (by kernel_rfl) rfl rfl (Qy.build (cs := [_, _]) T.st75 rfl rfl rfl) ?_
  refine Gm.one 9 ⟨rfl, rfl, trivial⟩ (by first | exact Imm.le_refl _ | assumption | (refine Imm.le_trans ?_ (by assumption); first | assumption | (refine Imm.le_trans ?_ (by assumption); assumption))) (by kernel_rfl) rfl ?_
  refine Wl.storeAll 1 T.size75 rfl rfl rfl rfl rfl rfl ?_
  refine Wl.on0 ?_
  refine Gm.doneA (by kernel_rfl) ⟨rfl, trivial⟩ (by first | exact Imm.le_refl _ | assumption | (refine Imm.le_trans ?_ (by assumption); first | assumption | (refine Imm.le_trans ?_ (by assumption); assumption))) ?_
  refine Ar.next ?_
  refine Wc.ret ?_
  refine Ar.out1 (.inr rfl) (Ho := Hp.only _ []) rfl (.agg 1 rfl rfl T.agg75) (Hp.sub_only _ _) ?_
  rotate_left
  refine Wc.region rfl ?_
  refine Wl.q rfl (Qy.fieldAddr T.fa75_1 rfl) ?_
  refine Wl.q rfl (Qy.load 0 T.one3 rfl rfl rfl) ?_
  refine Wl.q rfl (Qy.eql rfl rfl) ?_
  refine Wl.q rfl (Qy.move rfl) ?_
  apply Wl.joinAnd 4 20 24 rfl
  intro hg1
  refine Wl.want rfl rfl ?_
  refine Wl.q rfl (Qy.fieldAddr T.fa75_0 rfl) ?_
  refine Wl.want rfl rfl ?_
  refine Wl.q rfl (Qy.load 0 T.one3 rfl rfl rfl) ?_
  refine Wl.want rfl rfl ?_
  refine Wl.q rfl (Qy.lss rfl rfl) ?_
  refine Wl.q rfl (Qy.pick rfl rfl) ?_
  exact Wl.back 4 0 rfl rfl rfl rfl rfl
  intro hg1
  refine Wl.pass rfl rfl rfl ?_
  refine Wl.pass rfl rfl rfl ?_
  refine Wl.pass rfl rfl rfl ?_
  refine Wl.q rfl (Qy.pick rfl rfl) ?_
  exact Wl.back 4 0 rfl rfl rfl rfl rfl
  refine Wl.q rfl (Qy.assign rfl) ?_
  refine Wl.done ?_
  refine Ar.next ?_
  refine Wc.cond rfl (fun hc3 => ?_) (fun hc3 => ?_)
  refine Wc.region rfl ?_
  refine Wl.q rfl (Qy.move rfl) ?_
  refine Wl.q rfl (Qy.neg rfl (by omega)) ?_
  refine Wl.q rfl (Qy.assign rfl) ?_
  refine Wl.done ?_
  refine Ar.outNormal ?_
  refine Ar.next ?_
  refine Wc.seq ?_
  refine Wc.draw [0, 1] [(1, 9)] T.mixed rfl ?_
  refine Gm.q 0 [] (by kernel_rfl) rfl rfl (Qy.fieldAddr T.fa75_0 rfl) ?_
  refine Gm.q 1 [0] (by kernel_rfl) rfl rfl (Qy.load 0 T.one3 rfl rfl rfl) ?_
  refine Gm.q 2 [] (by kernel_rfl) rfl rfl (Qy.move rfl) ?_
  refine Gm.q 3 [] (by kernel_rfl) rfl rfl (Qy.quo rfl rfl (by omega) (by omega)) ?_
  refine Gm.q 4 [] (by kernel_rfl) rfl rfl (Qy.fieldAddr T.fa75_1 rfl) ?_
  refine Gm.q 5 [0] (by kernel_rfl) rfl rfl (Qy.load 0 T.one3 rfl rfl rfl) ?_
  refine Gm.q 6 [] (by kernel_rfl) rfl rfl (Qy.move rfl) ?_
  refine Gm.q 7 [] (by kernel_rfl) rfl rfl (Qy.quo rfl rfl (by omega) (by omega)) ?_
  refine Gm.q 8 [] (by kernel_rfl) rfl rfl (Qy.build (cs := [_, _]) T.st75 rfl rfl rfl) ?_
  refine Gm.one 9 ⟨rfl, rfl, trivial⟩ (by first | exact Imm.le_refl _ | assumption | (refine Imm.le_trans ?_ (by assumption); first | assumption | (refine Imm.le_trans ?_ (by assumption); assumption))) (by kernel_rfl) rfl ?_
  refine Wl.storeAll 1 T.size75 rfl rfl rfl rfl rfl rfl ?_
  refine Wl.on0 ?_
  refine Gm.doneA (by kernel_rfl) ⟨rfl, trivial⟩ (by first | exact Imm.le_refl _ | assumption | (refine Imm.le_trans ?_ (by assumption); first | assumption | (refine Imm.le_trans ?_ (by assumption); assumption))) ?_
  refine Ar.next ?_
  refine Wc.ret ?_
  refine Ar.out1 (.inr rfl) (Ho := Hp.only _ []) rfl (.agg 1 rfl rfl T.agg75) (Hp.sub_only _ _) ?_
  rotate_left
  refine Wc.skip ?_
  refine Ar.outNormal ?_
  refine Ar.next ?_
  refine Wc.seq ?_
  refine Wc.draw [0, 1] [(1, 9)] T.mixed rfl ?_
  refine Gm.q 0 [] (by kernel_rfl) rfl rfl (Qy.fieldAddr T.fa75_0 rfl) ?_
  refine Gm.q 1 [0] (by kernel_rfl) rfl rfl (Qy.load 0 T.one3 rfl rfl rfl) ?_
  refine Gm.q 2 [] (by kernel_rfl) rfl rfl (Qy.move rfl) ?_
  refine Gm.q 3 [] (by kernel_rfl) rfl rfl (Qy.quo rfl rfl (by omega) (by omega)) ?_
  refine Gm.q 4 [] (by kernel_rfl) rfl rfl (Qy.fieldAddr T.fa75_1 rfl) ?_
  refine Gm.q 5 [0] (by kernel_rfl) rfl rfl (Qy.load 0 T.one3 rfl rfl rfl) ?_
  refine Gm.q 6 [] (by kernel_rfl) rfl rfl (Qy.move rfl) ?_
  refine Gm.q 7 [] (by kernel_rfl) rfl rfl (Qy.quoP rfl rfl (by omega)) ?_
  refine Gm.q 8 [] (by kernel_rfl) rfl rfl (Qy.build (cs := [_, _]) T.st75 rfl rfl rfl) ?_
  refine Gm.one 9 ⟨rfl, rfl, trivial⟩ (by first | exact Imm.le_refl _ | assumption | (refine Imm.le_trans ?_ (by assumption); first | assumption | (refine Imm.le_trans ?_ (by assumption); assumption))) (by kernel_rfl) rfl ?_
  refine Wl.storeAll 1 T.size75 rfl rfl rfl rfl rfl rfl ?_
  refine Wl.on0 ?_
  refine Gm.doneA (by kernel_rfl) ⟨rfl, trivial⟩ (by first | exact Imm.le_refl _ | assumption | (refine Imm.le_trans ?_ (by assumption); first | assumption | (refine Imm.le_trans ?_ (by assumption); assumption))) ?_
  refine Ar.next ?_
  refine Wc.ret ?_
  refine Ar.out1 (.inr rfl) (Ho := Hp.only _ []) rfl (.agg 1 rfl rfl T.agg75) (Hp.sub_only _ _) ?_
  rotate_left
  · obtain ⟨ea, eb⟩ := Int.gcd_eq_zero_iff.mp (show Int.gcd a b = 0 by omega)
    exact ⟨by unfold nrm; rw [if_pos ⟨ea, eb⟩], rfl, rfl⟩
  · have hn : ¬(a = 0 ∧ b = 0) := by omega
    exact ⟨by unfold nrm normG; rw [if_neg hn, if_pos (by omega)], rfl, rfl⟩
  · have hn : ¬(a = 0 ∧ b = 0) := by omega
    exact ⟨by unfold nrm normG; rw [if_neg hn, if_pos (by omega)], rfl, rfl⟩
  · have hn : ¬(a = 0 ∧ b = 0) := fun h => hc1 (by rw [h.1, h.2]; rfl)
    exact ⟨by unfold nrm normG; rw [if_neg hn, if_neg (by omega), Int.tdiv_eq_ediv_of_nonneg (a := b) (by omega)], rfl, rfl⟩
def same (a b c d : Int) : Prop := nrm a b = nrm c d
instance (a b c d : Int) : Decidable (same a b c d) := inferInstanceAs (Decidable (_ = _))
theorem c114 (G : Imm) (a b c d : Int) : Does Try.prog 114 [.agg #[.int .i64 a, .int .i64 b], .agg #[.int .i64 c, .int .i64 d]] G [] (fun v G' Ho => v = .tuple #[.bool (decide (near a b ∧ near c d ∧ same a b c d)), .int .i64 (if near a b ∧ near c d then 0 else 2)] ∧ G' = G ∧ Ho = []) := by
  refine Does.enter Try.func114 rfl Try.ntmps114 rfl (fun w => ?_)
  refine Wc.seq ?_
  refine Wc.region rfl ?_
  refine Wl.box 0 rfl rfl rfl (fun b1 => ?_)
  refine Wl.box 1 rfl rfl rfl (fun b2 => ?_)
  refine Wl.q rfl (Qy.assign rfl) ?_
  refine Wl.q rfl (Qy.assign rfl) ?_
  refine Wl.done ?_
  refine Ar.next ?_
  refine Wc.seq ?_
  refine Wc.seq ?_
  refine Wc.region rfl ?_
  refine Wl.q rfl (Qy.loadAll 0 T.agg75 rfl rfl rfl) ?_
  refine Wl.call0 rfl T.fn71 rfl (by apply c71 <;> first | assumption | omega | rfl) ?_
  refine Wl.q rfl (Qy.notD rfl) ?_
  refine Wl.q rfl (Qy.move rfl) ?_
  apply Wl.joinOr 4 9 13 rfl
  intro hg1
  refine Wl.want rfl rfl ?_
  refine Wl.q rfl (Qy.loadAll 1 T.agg75 rfl rfl rfl) ?_
  refine Wl.want rfl rfl ?_
  refine Wl.call0 rfl T.fn71 rfl (by apply c71 <;> first | assumption | omega | rfl) ?_
  refine Wl.want rfl rfl ?_
  refine Wl.q rfl (Qy.notD rfl) ?_
  refine Wl.q rfl (Qy.pick rfl rfl) ?_
  exact Wl.back 4 0 rfl rfl rfl rfl rfl
  intro hg1
  refine Wl.pass rfl rfl rfl ?_
  refine Wl.pass rfl rfl rfl ?_
  refine Wl.pass rfl rfl rfl ?_
  refine Wl.q rfl (Qy.pick rfl rfl) ?_
  exact Wl.back 4 0 rfl rfl rfl rfl rfl
  refine Wl.done ?_
  refine Ar.next ?_
  refine Wc.cond rfl (fun hc1 => ?_) (fun hc1 => ?_)
  refine Wc.seq ?_
  refine Wc.region rfl ?_
  refine Wl.q rfl (Qy.assign rfl) ?_
  refine Wl.q rfl (Qy.assign rfl) ?_
  refine Wl.done ?_
  refine Ar.next ?_
  refine Wc.ret ?_
  refine Ar.passRet ?_
  refine Ar.out2 (.inr rfl) (Ho := Hp.only _ []) rfl (.tmp rfl) (.tmp rfl) (Hp.sub_only _ _) ?_
  rotate_left
  refine Wc.skip ?_
  refine Ar.next ?_
  refine Wc.seq ?_
  refine Wc.draw [0, 1] [] T.mixed rfl ?_
  refine Gm.q 0 [0] (by kernel_rfl) rfl rfl (Qy.loadAll 0 T.agg75 rfl rfl rfl) ?_
  refine Gm.q 2 [1] (by kernel_rfl) rfl rfl (Qy.loadAll 1 T.agg75 rfl rfl rfl) ?_
  refine Gm.one 1 ⟨rfl, rfl, trivial⟩ (by first | exact Imm.le_refl _ | assumption | (refine Imm.le_trans ?_ (by assumption); first | assumption | (refine Imm.le_trans ?_ (by assumption); assumption))) (by kernel_rfl) rfl ?_
  refine Wl.call0 rfl T.fn110 rfl (c110 _ _ _ (by unfold near at *; omega) (by unfold near at *; omega)) ?_
  refine Wl.on0 ?_
  refine Gm.one 3 ⟨rfl, rfl, trivial⟩ (by first | exact Imm.le_refl _ | assumption | (refine Imm.le_trans ?_ (by assumption); first | assumption | (refine Imm.le_trans ?_ (by assumption); assumption))) (by kernel_rfl) rfl ?_
  refine Wl.call0 rfl T.fn110 rfl (c110 _ _ _ (by unfold near at *; omega) (by unfold near at *; omega)) ?_
  refine Wl.on0 ?_
  refine Gm.q 4 [] (by kernel_rfl) rfl rfl (Qy.eqlI [_, _] [_, _] T.ai75 rfl rfl rfl rfl) ?_
  refine Gm.q 5 [] (by kernel_rfl) rfl rfl (Qy.assign rfl) ?_
  refine Gm.q 6 [] (by kernel_rfl) rfl rfl (Qy.assign rfl) ?_
  refine Gm.doneA (by kernel_rfl) ⟨rfl, rfl, trivial⟩ (by first | exact Imm.le_refl _ | assumption | (refine Imm.le_trans ?_ (by assumption); first | assumption | (refine Imm.le_trans ?_ (by assumption); assumption))) ?_
  refine Ar.next ?_
  refine Wc.ret ?_
  refine Ar.out2 (.inr rfl) (Ho := Hp.only _ []) rfl (.tmp rfl) (.tmp rfl) (Hp.sub_only _ _) ?_
  rotate_left
  · exact ⟨by rw [if_neg (by unfold near at *; omega), decide_eq_false (fun h => absurd (And.intro h.1 h.2.1) (by unfold near at *; omega))], rfl, rfl⟩
  · refine ⟨?_, rfl, rfl⟩
    rw [if_pos (by unfold near at *; omega)]
    congr 4
    exact decide_eq_decide.mpr (by unfold same near at *; rw [Prod.ext_iff]; simp; omega)
theorem mul_rng {a b c d : Int} (h : near a b) (k : near c d) : -256 ≤ a * d ∧ a * d ≤ 256 := by
  unfold near at *
  have h1 : (a * d).natAbs ≤ 16 * 16 := by rw [Int.natAbs_mul]; exact Nat.mul_le_mul (by omega) (by omega)
  omega
theorem c68 (G : Imm) (a b c d : Int) : Does Try.prog 68 [.agg #[.int .i64 a, .int .i64 b], .agg #[.int .i64 c, .int .i64 d]] G [] (fun v G' Ho => v = .tuple #[.int .i64 (if near a b ∧ near c d then a * d - c * b else 0), .int .i64 (if near a b ∧ near c d then 0 else 2)] ∧ G' = G ∧ Ho = []) := by
  refine Does.enter Try.func68 rfl Try.ntmps68 rfl (fun w => ?_)
  refine Wc.seq ?_
  refine Wc.region rfl ?_
  refine Wl.box 0 rfl rfl rfl (fun b1 => ?_)
  refine Wl.box 1 rfl rfl rfl (fun b2 => ?_)
  refine Wl.q rfl (Qy.assign rfl) ?_
  refine Wl.q rfl (Qy.assign rfl) ?_
  refine Wl.done ?_
  refine Ar.next ?_
  refine Wc.seq ?_
  refine Wc.seq ?_
  refine Wc.region rfl ?_
  refine Wl.q rfl (Qy.loadAll 0 T.agg75 rfl rfl rfl) ?_
  refine Wl.call0 rfl T.fn71 rfl (by apply c71 <;> first | assumption | omega | rfl) ?_
  refine Wl.q rfl (Qy.notD rfl) ?_
  refine Wl.q rfl (Qy.move rfl) ?_
  apply Wl.joinOr 4 9 13 rfl
  intro hg1
  refine Wl.want rfl rfl ?_
  refine Wl.q rfl (Qy.loadAll 1 T.agg75 rfl rfl rfl) ?_
  refine Wl.want rfl rfl ?_
  refine Wl.call0 rfl T.fn71 rfl (by apply c71 <;> first | assumption | omega | rfl) ?_
  refine Wl.want rfl rfl ?_
  refine Wl.q rfl (Qy.notD rfl) ?_
  refine Wl.q rfl (Qy.pick rfl rfl) ?_
  exact Wl.back 4 0 rfl rfl rfl rfl rfl
  intro hg1
  refine Wl.pass rfl rfl rfl ?_
  refine Wl.pass rfl rfl rfl ?_
  refine Wl.pass rfl rfl rfl ?_
  refine Wl.q rfl (Qy.pick rfl rfl) ?_
  exact Wl.back 4 0 rfl rfl rfl rfl rfl
  refine Wl.done ?_
  refine Ar.next ?_
  refine Wc.cond rfl (fun hc1 => ?_) (fun hc1 => ?_)
  refine Wc.seq ?_
  refine Wc.region rfl ?_
  refine Wl.q rfl (Qy.assign rfl) ?_
  refine Wl.q rfl (Qy.assign rfl) ?_
  refine Wl.done ?_
  refine Ar.next ?_
  refine Wc.ret ?_
  refine Ar.passRet ?_
  refine Ar.out2 (.inr rfl) (Ho := Hp.only _ []) rfl (.tmp rfl) (.tmp rfl) (Hp.sub_only _ _) ?_
  rotate_left
  refine Wc.skip ?_
  refine Ar.next ?_
  refine Wc.seq ?_
  refine Wc.region rfl ?_
  refine Wl.q rfl (Qy.fieldAddr T.fa75_0 rfl) ?_
  refine Wl.q rfl (Qy.load 0 T.one3 rfl rfl rfl) ?_
  refine Wl.q rfl (Qy.fieldAddr T.fa75_1 rfl) ?_
  refine Wl.q rfl (Qy.load 1 T.one3 rfl rfl rfl) ?_
  refine Wl.q rfl (Qy.mulW rfl rfl) ?_
  refine Wl.q rfl (Qy.fieldAddr T.fa75_0 rfl) ?_
  refine Wl.q rfl (Qy.load 1 T.one3 rfl rfl rfl) ?_
  refine Wl.q rfl (Qy.fieldAddr T.fa75_1 rfl) ?_
  refine Wl.q rfl (Qy.load 0 T.one3 rfl rfl rfl) ?_
  refine Wl.q rfl (Qy.mulW rfl rfl) ?_
  refine Wl.q rfl (Qy.subW rfl rfl) ?_
  refine Wl.q rfl (Qy.assign rfl) ?_
  refine Wl.q rfl (Qy.assign rfl) ?_
  refine Wl.done ?_
  refine Ar.next ?_
  refine Wc.ret ?_
  refine Ar.out2 (.inr rfl) (Ho := Hp.only _ []) rfl (.tmp rfl) (.tmp rfl) (Hp.sub_only _ _) ?_
  rotate_left
  · exact ⟨by rw [if_neg (by unfold near at *; omega), if_neg (by unfold near at *; omega)], rfl, rfl⟩
  · have hn : near a b ∧ near c d := by unfold near at *; omega
    have m1 := mul_rng hn.1 hn.2
    have m2 := mul_rng hn.2 hn.1
    exact ⟨by rw [if_pos hn, if_pos hn, IntWalk.i64_in (a * d) (by omega), IntWalk.i64_in (c * b) (by omega), IntWalk.i64_in _ (by omega)], rfl, rfl⟩
end Go.Proofs.Ytbppmiimeccclaa
set_option maxRecDepth 100000
set_option linter.unusedVariables false
namespace Go.Proofs.Ytbppmiimeccclaa
open Go Go.Sl
def alikeP (p q : R2) : Prop := near p.a p.b ∧ near q.a q.b ∧ same p.a p.b q.a q.b
def Twin (l : List R2) : Prop := ∃ j, j < l.length ∧ ∃ i, i < j ∧ alikeP (l[i]?.getD default) (l[j]?.getD default)
theorem c73 (G : Imm) (a : Option Addr) (c : Nat) (l : List R2) (ha : Arr G a l) (h1 : l.length ≤ 1048576) (hc : l.length ≤ c) : Does Try.prog 73 [.slice a l.length c] G [] (fun v G' Ho => ∃ (i j : Int) (b : Bool), v = .tuple #[.int .i64 i, .int .i64 j, .bool b] ∧ (b = true ↔ Twin l) ∧ G' = G ∧ Ho = []) := by
  refine Does.enter Try.func73 rfl Try.ntmps73 rfl (fun w => ?_)
  refine Wc.seq ?_
  refine Wc.region rfl ?_
  refine Wl.q rfl (Qy.assign rfl) ?_
  refine Wl.q rfl (Qy.assign rfl) ?_
  refine Wl.q rfl (Qy.assign rfl) ?_
  refine Wl.done ?_
  refine Ar.next ?_
  refine Wc.seq ?_
  refine Wc.seq ?_
  refine Wc.region rfl ?_
  refine Wl.q rfl (Qy.move rfl) ?_
  refine Wl.q rfl (Qy.len T.sl47 rfl) ?_
  refine Wl.q rfl (Qy.move rfl) ?_
  refine Wl.done ?_
  refine Ar.next ?_
  refine Wc.block ?_
  refine Wc.loop (ι := Nat) (fun j => ([(13, .int .i64 (j : Int)), (12, Go.Value.int Go.IntKind.i64 (↑(List.length l) : Int)), (11, Go.Value.slice a (List.length l) c), (0, Go.Value.slice a (List.length l) c)], [])) (fun j => j ≤ l.length ∧ (∀ j', j' < j → ∀ i, i < j' → ¬ alikeP (l[i]?.getD default) (l[j']?.getD default))) (fun j => l.length - j) (0) (⟨Nat.zero_le _, fun j' h => absurd h (by omega)⟩) ⟨rfl, rfl, rfl, rfl, trivial⟩ trivial (fun j => fun (hk : j ≤ l.length ∧ (∀ j', j' < j → ∀ i, i < j' → ¬ alikeP (l[i]?.getD default) (l[j']?.getD default))) => ?_)
  obtain ⟨hj, hno⟩ := hk
  refine Wc.seq ?_
  refine Wc.region rfl ?_
  refine Wl.q rfl (Qy.lss rfl rfl) ?_
  refine Wl.done ?_
  refine Ar.next ?_
  refine Wc.seq ?_
  refine Wc.cond rfl (fun hc1 => ?_) (fun hc1 => ?_)
  refine Wc.skip ?_
  refine Ar.next ?_
  refine Wc.seq ?_
  refine Wc.block ?_
  refine Wc.seq ?_
  refine Wc.region rfl ?_
  refine Wl.q rfl (Qy.move rfl) ?_
  refine Wl.q rfl (Qy.at (α := R2) T.sl47 rfl rfl (by assumption) (by omega)) ?_
  refine Wl.q rfl (Qy.loadsG T.agg75 rfl (Arr.elem (by assumption) (by omega)) rfl) ?_
  refine Wl.alloc 0 rfl T.zero75 (fun b1 => ?_)
  refine Wl.q rfl (Qy.assign rfl) ?_
  refine Wl.storeAll 0 T.size75 rfl rfl rfl rfl rfl rfl ?_
  refine Wl.done ?_
  refine Ar.next ?_
  refine Wc.seq ?_
  refine Wc.region rfl ?_
  refine Wl.q rfl (Qy.move rfl) ?_
  refine Wl.q rfl (Qy.move rfl) ?_
  refine Wl.q rfl (Qy.cutH T.sl47 rfl rfl (by omega)) ?_
  refine Wl.q rfl (Qy.len T.sl47 rfl) ?_
  refine Wl.q rfl (Qy.move rfl) ?_
  refine Wl.done ?_
  refine Ar.next ?_
  refine Wc.block ?_
  rotate_left
  refine Wc.exit ?_
  refine Ar.passExit ?_
  refine Ar.passExit ?_
  refine Ar.here ?_
  refine Ar.next ?_
  refine Wc.seq ?_
  refine Wc.region rfl ?_
  refine Wl.q rfl (Qy.assign rfl) ?_
  refine Wl.q rfl (Qy.assign rfl) ?_
  refine Wl.q rfl (Qy.assign rfl) ?_
  refine Wl.done ?_
  refine Ar.next ?_
  refine Wc.ret ?_
  refine Ar.out3 (.inr rfl) (Ho := Hp.only _ []) rfl (.tmp rfl) (.tmp rfl) (.tmp rfl) (Hp.sub_only _ _) ?_
  rotate_left
  · have haj : Arr G (subA a c 0 2) (l.take j) := barr_sub ha j
    have ej : (l.take j).length = j := by rw [List.length_take]; omega
    refine Wc.re 20 rfl (show _ = Value.slice (subA a c 0 2) (l.take j).length c by rw [ej]; rfl) ?_
    refine Wc.loop (ι := Nat) (fun i => ([(22, .int .i64 (i : Int)), (0, .slice a l.length c), (11, .slice a l.length c), (12, .int .i64 (l.length : Int)), (20, Go.Value.slice (Go.Sl.subA a c 0 2) (List.length (List.take j l)) c), (21, Go.Value.int Go.IntKind.i64 (↑(Int.toNat (↑j : Int)) : Int)), (5, Go.Value.int Go.IntKind.i64 (↑j : Int)), (6, Go.Value.pointer (Option.some (Go.Addr.mk b1 0 Option.none))), (13, Go.Value.int Go.IntKind.i64 (↑j : Int))], [(0, Option.some b1, Go.Obj.cells (List.toArray (Go.Sl.Cells.enc (Option.getD l[Int.toNat (↑j : Int)]? Inhabited.default))) 75)])) (fun i => i ≤ j ∧ (∀ i', i' < i → ¬ alikeP (l[i']?.getD default) (l[j]?.getD default))) (fun i => j - i) (0) (⟨Nat.zero_le _, fun i' h => absurd h (by omega)⟩) ⟨rfl, rfl, rfl, rfl, rfl, rfl, rfl, rfl, rfl, trivial⟩ ⟨rfl, trivial⟩ (fun i => fun (hk : i ≤ j ∧ (∀ i', i' < i → ¬ alikeP (l[i']?.getD default) (l[j]?.getD default))) => ?_)
    obtain ⟨hi, hni⟩ := hk
    have eti : i < j → (l.take j)[((i : Nat) : Int).toNat]?.getD default = l[i]?.getD default := fun h => by rw [List.getElem?_take, if_pos (by omega)]; rfl
    have etj : l[((j : Nat) : Int).toNat]?.getD default = l[j]?.getD default := rfl
    refine Wc.seq ?_
    refine Wc.region rfl ?_
    refine Wl.q rfl (Qy.lss rfl rfl) ?_
    refine Wl.done ?_
    refine Ar.next ?_
    refine Wc.seq ?_
    refine Wc.cond rfl (fun hc2 => ?_) (fun hc2 => ?_)
    refine Wc.skip ?_
    refine Ar.next ?_
    refine Wc.seq ?_
    refine Wc.block ?_
    refine Wc.seq ?_
    refine Wc.region rfl ?_
    refine Wl.q rfl (Qy.move rfl) ?_
    refine Wl.q rfl (Qy.at (α := R2) T.sl47 rfl rfl (by assumption) (by omega)) ?_
    refine Wl.q rfl (Qy.loadsG T.agg75 rfl (Arr.elem (by assumption) (by omega)) rfl) ?_
    refine Wl.alloc 1 rfl T.zero75 (fun b2 => ?_)
    refine Wl.q rfl (Qy.assign rfl) ?_
    refine Wl.storeAll 1 T.size75 rfl rfl rfl rfl rfl rfl ?_
    refine Wl.done ?_
    refine Ar.next ?_
    refine Wc.seq ?_
    refine Wc.region rfl ?_
    refine Wl.q rfl (Qy.loadAll 1 T.agg75 rfl rfl rfl) ?_
    refine Wl.q rfl (Qy.loadAll 0 T.agg75 rfl rfl rfl) ?_
    refine Wl.call0 rfl T.fn114 rfl (by apply c114 <;> first | assumption | omega | rfl) ?_
    refine Wl.q rfl (Qy.move rfl) ?_
    refine Wl.q rfl (Qy.extract rfl rfl) ?_
    refine Wl.q rfl (Qy.extract rfl rfl) ?_
    refine Wl.q rfl (Qy.assign rfl) ?_
    refine Wl.q rfl (Qy.assign rfl) ?_
    refine Wl.done ?_
    refine Ar.next ?_
    refine Wc.seq ?_
    refine Wc.region rfl ?_
    refine Wl.q rfl (Qy.move rfl) ?_
    refine Wl.done ?_
    refine Ar.next ?_
    refine Wc.cond rfl (fun hc3 => ?_) (fun hc3 => ?_)
    refine Wc.seq ?_
    refine Wc.region rfl ?_
    refine Wl.q rfl (Qy.move rfl) ?_
    refine Wl.q rfl (Qy.move rfl) ?_
    refine Wl.q rfl (Qy.assign rfl) ?_
    refine Wl.q rfl (Qy.assign rfl) ?_
    refine Wl.q rfl (Qy.assign rfl) ?_
    refine Wl.done ?_
    refine Ar.next ?_
    refine Wc.ret ?_
    refine Ar.outRet ?_
    refine Ar.passRet ?_
    refine Ar.passRet ?_
    refine Ar.outRet ?_
    refine Ar.outRet ?_
    refine Ar.passRet ?_
    refine Ar.passRet ?_
    refine Ar.outRet ?_
    refine Ar.passRet ?_
    refine Ar.out3 (.inr rfl) (Ho := Hp.only _ []) rfl (.tmp rfl) (.tmp rfl) (.tmp rfl) (Hp.sub_only _ _) ?_
    rotate_left
    refine Wc.skip ?_
    refine Ar.outNormal ?_
    refine Ar.next ?_
    refine Wc.region rfl ?_
    refine Wl.q rfl (Qy.add rfl rfl (by omega)) ?_
    refine Wl.q rfl (Qy.move rfl) ?_
    refine Wl.done ?_
    rotate_left
    refine Wc.exit ?_
    refine Ar.passExit ?_
    refine Ar.passExit ?_
    refine Ar.here ?_
    refine Ar.outNormal ?_
    refine Ar.next ?_
    refine Wc.region rfl ?_
    refine Wl.q rfl (Qy.add rfl rfl (by omega)) ?_
    refine Wl.q rfl (Qy.move rfl) ?_
    refine Wl.done ?_
    rotate_left
    · rw [eti (by omega)] at hc3
      exact ⟨_, _, true, rfl, ⟨fun _ => ⟨j, by omega, i, by omega, hc3⟩, fun _ => rfl⟩, rfl, rfl⟩
    · refine Ar.re 22 rfl (show _ = Value.int .i64 ((i + 1 : Nat) : Int) from rfl) ?_
      refine Ar.again (i + 1) ?_ ?_ rfl ⟨rfl, rfl, rfl, rfl, rfl, rfl, rfl, rfl, rfl, trivial⟩ ⟨rfl, trivial⟩
      · refine ⟨by omega, fun i' h2 => ?_⟩
        rcases Nat.lt_or_ge i' i with h | h
        · exact hni i' h
        · have e : i' = i := by omega
          subst e; intro hq; rw [eti (by omega)] at hc3; exact hc3 hq
      · omega
    · refine Ar.re 13 rfl (show _ = Value.int .i64 ((j + 1 : Nat) : Int) from rfl) ?_
      refine Ar.again (j + 1) ?_ ?_ rfl ⟨rfl, rfl, rfl, rfl, trivial⟩ trivial
      · refine ⟨by omega, fun j' h1 i h2 => ?_⟩
        rcases Nat.lt_or_ge j' j with h | h
        · exact hno j' h i h2
        · have e : j' = j := by omega
          subst e; exact hni i (by omega)
      · omega
  · refine ⟨0, 0, false, rfl, ⟨fun h => absurd h (by decide), fun ⟨j', h1, i', h2, h3⟩ => absurd h3 (hno j' (by omega) i' h2)⟩, rfl, rfl⟩
def okP (p : R2) : Prop := near p.a p.b ∧ ¬ (p.a = 0 ∧ p.b = 0)
def RightL (l : List R2) : Prop := 1 ≤ l.length ∧ l.length ≤ 15 ∧ (∀ i, i < l.length → okP (l[i]?.getD default)) ∧ ¬ Twin l
theorem c28 (G : Imm) (a : Option Addr) (c : Nat) (l : List R2) (ha : Arr G a l) (h1 : l.length ≤ 1048576) (hc : l.length ≤ c) : Does Try.prog 28 [.slice a l.length c] G [] (fun v G' Ho => ∃ b : Bool, v = .bool b ∧ (b = true ↔ RightL l) ∧ G' = G ∧ Ho = []) := by
  refine Does.enter Try.func28 rfl Try.ntmps28 rfl (fun w => ?_)
  refine Wc.seq ?_
  refine Wc.region rfl ?_
  refine Wl.q rfl (Qy.assign rfl) ?_
  refine Wl.done ?_
  refine Ar.next ?_
  refine Wc.seq ?_
  refine Wc.seq ?_
  refine Wc.region rfl ?_
  refine Wl.q rfl (Qy.move rfl) ?_
  refine Wl.q rfl (Qy.len T.sl47 rfl) ?_
  refine Wl.q rfl (Qy.lss rfl rfl) ?_
  refine Wl.q rfl (Qy.move rfl) ?_
  apply Wl.joinOr 4 11 15 rfl
  intro hg1
  refine Wl.want rfl rfl ?_
  refine Wl.q rfl (Qy.move rfl) ?_
  refine Wl.want rfl rfl ?_
  refine Wl.q rfl (Qy.len T.sl47 rfl) ?_
  refine Wl.want rfl rfl ?_
  refine Wl.q rfl (Qy.gtr rfl rfl) ?_
  refine Wl.q rfl (Qy.pick rfl rfl) ?_
  exact Wl.back 4 0 rfl rfl rfl rfl rfl
  intro hg1
  refine Wl.pass rfl rfl rfl ?_
  refine Wl.pass rfl rfl rfl ?_
  refine Wl.pass rfl rfl rfl ?_
  refine Wl.q rfl (Qy.pick rfl rfl) ?_
  exact Wl.back 4 0 rfl rfl rfl rfl rfl
  refine Wl.done ?_
  refine Ar.next ?_
  refine Wc.cond rfl (fun hc1 => ?_) (fun hc1 => ?_)
  refine Wc.seq ?_
  refine Wc.region rfl ?_
  refine Wl.q rfl (Qy.assign rfl) ?_
  refine Wl.done ?_
  refine Ar.next ?_
  refine Wc.ret ?_
  refine Ar.passRet ?_
  refine Ar.out1 (.inr rfl) (Ho := Hp.only _ []) rfl (.tmp rfl) (Hp.sub_only _ _) ?_
  rotate_left
  refine Wc.skip ?_
  refine Ar.next ?_
  refine Wc.seq ?_
  refine Wc.seq ?_
  refine Wc.region rfl ?_
  refine Wl.q rfl (Qy.move rfl) ?_
  refine Wl.q rfl (Qy.len T.sl47 rfl) ?_
  refine Wl.q rfl (Qy.move rfl) ?_
  refine Wl.done ?_
  refine Ar.next ?_
  refine Wc.block ?_
  rotate_left
  · exact ⟨false, rfl, ⟨fun h => absurd h (by decide), fun h => absurd h.1 (by have := h.2.1; omega)⟩, rfl, rfl⟩
  refine Wc.loop (ι := Nat) (fun j => ([(18, .int .i64 (j : Int)), (0, .slice a l.length c), (17, Go.Value.int Go.IntKind.i64 (↑(List.length l) : Int)), (16, Go.Value.slice a (List.length l) c)], [])) (fun j => j ≤ l.length ∧ (∀ i, i < j → okP (l[i]?.getD default))) (fun j => l.length - j) (0) (⟨Nat.zero_le _, fun j' h => absurd h (by omega)⟩) ⟨rfl, rfl, rfl, rfl, trivial⟩ trivial (fun j => fun (hk : j ≤ l.length ∧ (∀ i, i < j → okP (l[i]?.getD default))) => ?_)
  obtain ⟨hj, hno⟩ := hk
  refine Wc.seq ?_
  refine Wc.region rfl ?_
  refine Wl.q rfl (Qy.lss rfl rfl) ?_
  refine Wl.done ?_
  refine Ar.next ?_
  refine Wc.seq ?_
  refine Wc.cond rfl (fun hc2 => ?_) (fun hc2 => ?_)
  refine Wc.skip ?_
  refine Ar.next ?_
  refine Wc.seq ?_
  refine Wc.block ?_
  refine Wc.seq ?_
  refine Wc.region rfl ?_
  refine Wl.q rfl (Qy.at (α := R2) T.sl47 rfl rfl (by assumption) (by omega)) ?_
  refine Wl.q rfl (Qy.loadsG T.agg75 rfl (Arr.elem (by assumption) (by omega)) rfl) ?_
  refine Wl.alloc 0 rfl T.zero75 (fun b1 => ?_)
  refine Wl.storeAll 0 T.size75 rfl rfl rfl rfl rfl rfl ?_
  refine Wl.done ?_
  refine Ar.next ?_
  refine Wc.seq ?_
  refine Wc.region rfl ?_
  refine Wl.q rfl (Qy.loadAll 0 T.agg75 rfl rfl rfl) ?_
  refine Wl.call0 rfl T.fn71 rfl (by apply c71 <;> first | assumption | omega | rfl) ?_
  refine Wl.q rfl (Qy.notD rfl) ?_
  refine Wl.q rfl (Qy.move rfl) ?_
  apply Wl.joinOr 3 25 28 rfl
  intro hg1
  refine Wl.want rfl rfl ?_
  refine Wl.q rfl (Qy.loadAll 0 T.agg75 rfl rfl rfl) ?_
  refine Wl.want rfl rfl ?_
  refine Wl.call0 rfl T.fn72 rfl (by apply c72 <;> first | assumption | omega | rfl) ?_
  refine Wl.q rfl (Qy.pick rfl rfl) ?_
  exact Wl.back 3 0 rfl rfl rfl rfl rfl
  intro hg1
  refine Wl.pass rfl rfl rfl ?_
  refine Wl.pass rfl rfl rfl ?_
  refine Wl.q rfl (Qy.pick rfl rfl) ?_
  exact Wl.back 3 0 rfl rfl rfl rfl rfl
  refine Wl.done ?_
  refine Ar.next ?_
  refine Wc.cond rfl (fun hc3 => ?_) (fun hc3 => ?_)
  refine Wc.seq ?_
  refine Wc.region rfl ?_
  refine Wl.q rfl (Qy.assign rfl) ?_
  refine Wl.done ?_
  refine Ar.next ?_
  refine Wc.ret ?_
  refine Ar.outRet ?_
  refine Ar.passRet ?_
  refine Ar.passRet ?_
  refine Ar.outRet ?_
  refine Ar.passRet ?_
  refine Ar.out1 (.inr rfl) (Ho := Hp.only _ []) rfl (.tmp rfl) (Hp.sub_only _ _) ?_
  rotate_left
  refine Wc.skip ?_
  refine Ar.outNormal ?_
  refine Ar.next ?_
  refine Wc.region rfl ?_
  refine Wl.q rfl (Qy.add rfl rfl (by omega)) ?_
  refine Wl.q rfl (Qy.move rfl) ?_
  refine Wl.done ?_
  rotate_left
  refine Wc.exit ?_
  refine Ar.passExit ?_
  refine Ar.passExit ?_
  refine Ar.here ?_
  refine Ar.next ?_
  refine Wc.seq ?_
  refine Wc.region rfl ?_
  refine Wl.q rfl (Qy.move rfl) ?_
  refine Wl.call 0 rfl T.fn73 rfl (c73 _ _ _ _ (by assumption) (by omega) (by first | assumption | omega)) (tags_of trivial) (fun v1 G1 Ho1 hle1 hp => ?_)
  obtain ⟨ti1, tj1, tb1, rfl, htb1, rfl, rfl⟩ := hp
  refine Wl.q rfl (Qy.move rfl) ?_
  refine Wl.q rfl (Qy.extract rfl rfl) ?_
  refine Wl.q rfl (Qy.extract rfl rfl) ?_
  refine Wl.q rfl (Qy.extract rfl rfl) ?_
  refine Wl.q rfl (Qy.assign rfl) ?_
  refine Wl.q rfl (Qy.assign rfl) ?_
  refine Wl.q rfl (Qy.assign rfl) ?_
  refine Wl.done ?_
  refine Ar.next ?_
  refine Wc.seq ?_
  refine Wc.region rfl ?_
  refine Wl.q rfl (Qy.move rfl) ?_
  refine Wl.q rfl (Qy.not rfl) ?_
  refine Wl.q rfl (Qy.assign rfl) ?_
  refine Wl.done ?_
  refine Ar.next ?_
  refine Wc.ret ?_
  refine Ar.out1 (.inr rfl) (Ho := Hp.only _ []) rfl (.tmp rfl) (Hp.sub_only _ _) ?_
  rotate_left
  · exact ⟨false, rfl, ⟨fun h => absurd h (by decide), fun h => absurd (h.2.2.1 j (by omega)) (by show ¬ okP (l[((j : Nat) : Int).toNat]?.getD default); unfold okP; unfold near at *; omega)⟩, rfl, rfl⟩
  · refine Ar.re 18 rfl (show _ = Value.int .i64 ((j + 1 : Nat) : Int) from rfl) ?_
    refine Ar.again (j + 1) ?_ ?_ rfl ⟨rfl, rfl, rfl, rfl, trivial⟩ trivial
    · refine ⟨by omega, fun i' h2 => ?_⟩
      rcases Nat.lt_or_ge i' j with h | h
      · exact hno i' h
      · have e : i' = j := by omega
        subst e
        show okP (l[((i' : Nat) : Int).toNat]?.getD default)
        unfold okP; unfold near at *; omega
    · omega
  · refine ⟨!tb1, rfl, ?_, rfl, rfl⟩
    have e : (∀ i, i < l.length → okP (l[i]?.getD default)) := fun i hi => hno i (by omega)
    rw [Bool.not_eq_true', Bool.eq_false_iff, ne_eq, htb1]
    exact ⟨fun h => ⟨by omega, by omega, e, h⟩, fun h => h.2.2.2⟩
end Go.Proofs.Ytbppmiimeccclaa
set_option maxRecDepth 100000
set_option linter.unusedVariables false
namespace Go.Proofs.Ytbppmiimeccclaa
open Go Go.Sl
theorem c78 (G : Imm) (a b c d : Int) (hp : near a b) (hq : near c d) : Does Try.prog 78 [.agg #[.int .i64 a, .int .i64 b], .agg #[.int .i64 c, .int .i64 d]] G [] (fun v G' Ho => v = .int .i64 (a * d - c * b) ∧ G' = G ∧ Ho = []) := by
  refine Does.enter Try.func78 rfl Try.ntmps78 rfl (fun w => ?_)
  have m1 := mul_rng hp hq
  have m2 := mul_rng hq hp
  refine Wc.seq ?_
  refine Wc.region rfl ?_
  refine Wl.box 0 rfl rfl rfl (fun b1 => ?_)
  refine Wl.box 1 rfl rfl rfl (fun b2 => ?_)
  refine Wl.q rfl (Qy.assign rfl) ?_
  refine Wl.done ?_
  refine Ar.next ?_
  refine Wc.seq ?_
  refine Wc.region rfl ?_
  refine Wl.q rfl (Qy.fieldAddr T.fa75_0 rfl) ?_
  refine Wl.q rfl (Qy.load 0 T.one3 rfl rfl rfl) ?_
  refine Wl.q rfl (Qy.fieldAddr T.fa75_1 rfl) ?_
  refine Wl.q rfl (Qy.load 1 T.one3 rfl rfl rfl) ?_
  refine Wl.q rfl (Qy.mul rfl rfl (by omega)) ?_
  refine Wl.q rfl (Qy.fieldAddr T.fa75_0 rfl) ?_
  refine Wl.q rfl (Qy.load 1 T.one3 rfl rfl rfl) ?_
  refine Wl.q rfl (Qy.fieldAddr T.fa75_1 rfl) ?_
  refine Wl.q rfl (Qy.load 0 T.one3 rfl rfl rfl) ?_
  refine Wl.q rfl (Qy.mul rfl rfl (by omega)) ?_
  refine Wl.q rfl (Qy.sub rfl rfl (by omega)) ?_
  refine Wl.q rfl (Qy.assign rfl) ?_
  refine Wl.done ?_
  refine Ar.next ?_
  refine Wc.ret ?_
  refine Ar.out1 (.inr rfl) (Ho := Hp.only _ []) rfl (.tmp rfl) (Hp.sub_only _ _) ?_
  exact ⟨rfl, rfl, rfl⟩
instance (a b c d : Int) : Decidable (if (a = 0 ∧ b = 0) ∨ (c = 0 ∧ d = 0) then (a = 0 ∧ b = 0) ∧ (c = 0 ∧ d = 0) else a * d - c * b = 0) := by split <;> infer_instance
def oneR (a b c d : Int) : Prop := if (a = 0 ∧ b = 0) ∨ (c = 0 ∧ d = 0) then (a = 0 ∧ b = 0) ∧ (c = 0 ∧ d = 0) else a * d - c * b = 0
instance (a b c d : Int) : Decidable (oneR a b c d) := inferInstanceAs (Decidable (if (a = 0 ∧ b = 0) ∨ (c = 0 ∧ d = 0) then (a = 0 ∧ b = 0) ∧ (c = 0 ∧ d = 0) else a * d - c * b = 0))
theorem c108 (G : Imm) (a b c d : Int) (hp : near a b) (hq : near c d) : Does Try.prog 108 [.agg #[.int .i64 a, .int .i64 b], .agg #[.int .i64 c, .int .i64 d]] G [] (fun v G' Ho => v = .bool (decide (oneR a b c d)) ∧ G' = G ∧ Ho = []) := by
  refine Does.enter Try.func108 rfl Try.ntmps108 rfl (fun w => ?_)
  refine Wc.seq ?_
  refine Wc.region rfl ?_
  refine Wl.box 0 rfl rfl rfl (fun b1 => ?_)
  refine Wl.box 1 rfl rfl rfl (fun b2 => ?_)
  refine Wl.q rfl (Qy.assign rfl) ?_
  refine Wl.done ?_
  refine Ar.next ?_
  refine Wc.seq ?_
  refine Wc.seq ?_
  refine Wc.region rfl ?_
  refine Wl.q rfl (Qy.loadAll 0 T.agg75 rfl rfl rfl) ?_
  refine Wl.call0 rfl T.fn64 rfl (by apply c64 <;> first | assumption | omega | rfl) ?_
  refine Wl.q rfl (Qy.move rfl) ?_
  apply Wl.joinOr 3 7 10 rfl
  intro hg1
  refine Wl.want rfl rfl ?_
  refine Wl.q rfl (Qy.loadAll 1 T.agg75 rfl rfl rfl) ?_
  refine Wl.want rfl rfl ?_
  refine Wl.call0 rfl T.fn64 rfl (by apply c64 <;> first | assumption | omega | rfl) ?_
  refine Wl.q rfl (Qy.pick rfl rfl) ?_
  exact Wl.back 3 0 rfl rfl rfl rfl rfl
  intro hg1
  refine Wl.pass rfl rfl rfl ?_
  refine Wl.pass rfl rfl rfl ?_
  refine Wl.q rfl (Qy.pick rfl rfl) ?_
  exact Wl.back 3 0 rfl rfl rfl rfl rfl
  refine Wl.done ?_
  refine Ar.next ?_
  refine Wc.cond rfl (fun hc1 => ?_) (fun hc1 => ?_)
  refine Wc.seq ?_
  refine Wc.region rfl ?_
  refine Wl.q rfl (Qy.loadAll 0 T.agg75 rfl rfl rfl) ?_
  refine Wl.call0 rfl T.fn64 rfl (by apply c64 <;> first | assumption | omega | rfl) ?_
  refine Wl.q rfl (Qy.move rfl) ?_
  apply Wl.joinAnd 3 13 16 rfl
  intro hg1
  refine Wl.want rfl rfl ?_
  refine Wl.q rfl (Qy.loadAll 1 T.agg75 rfl rfl rfl) ?_
  refine Wl.want rfl rfl ?_
  refine Wl.call0 rfl T.fn64 rfl (by apply c64 <;> first | assumption | omega | rfl) ?_
  refine Wl.q rfl (Qy.pick rfl rfl) ?_
  exact Wl.back 3 0 rfl rfl rfl rfl rfl
  intro hg1
  refine Wl.pass rfl rfl rfl ?_
  refine Wl.pass rfl rfl rfl ?_
  refine Wl.q rfl (Qy.pick rfl rfl) ?_
  exact Wl.back 3 0 rfl rfl rfl rfl rfl
  refine Wl.q rfl (Qy.assign rfl) ?_
  refine Wl.done ?_
  refine Ar.next ?_
  refine Wc.ret ?_
  refine Ar.passRet ?_
  refine Ar.out1 (.inr rfl) (Ho := Hp.only _ []) rfl (.tmp rfl) (Hp.sub_only _ _) ?_
  rotate_left
  refine Wc.skip ?_
  refine Ar.next ?_
  refine Wc.seq ?_
  refine Wc.region rfl ?_
  refine Wl.q rfl (Qy.loadAll 0 T.agg75 rfl rfl rfl) ?_
  refine Wl.q rfl (Qy.loadAll 1 T.agg75 rfl rfl rfl) ?_
  refine Wl.call0 rfl T.fn78 rfl (c78 _ _ _ _ _ (by assumption) (by assumption)) ?_
  refine Wl.q rfl (Qy.eql rfl rfl) ?_
  refine Wl.q rfl (Qy.assign rfl) ?_
  refine Wl.done ?_
  refine Ar.next ?_
  refine Wc.ret ?_
  refine Ar.out1 (.inr rfl) (Ho := Hp.only _ []) rfl (.tmp rfl) (Hp.sub_only _ _) ?_
  rotate_left
  · exact ⟨by congr 1; exact decide_eq_decide.mpr (by unfold oneR; rw [if_pos hc1]), rfl, rfl⟩
  · exact ⟨by congr 1; exact decide_eq_decide.mpr (by unfold oneR; rw [if_neg hc1]), rfl, rfl⟩
def alikeR (p q : R2) : Prop := near p.a p.b ∧ near q.a q.b ∧ oneR p.a p.b q.a q.b
def TwinR (l : List R2) : Prop := ∃ j, j < l.length ∧ ∃ i, i < j ∧ alikeR (l[i]?.getD default) (l[j]?.getD default)
theorem c65 (G : Imm) (a : Option Addr) (c : Nat) (l : List R2) (ha : Arr G a l) (h1 : l.length ≤ 1048576) (hc : l.length ≤ c) : Does Try.prog 65 [.slice a l.length c] G [] (fun v G' Ho => ∃ (i j : Int) (b : Bool), v = .tuple #[.int .i64 i, .int .i64 j, .bool b] ∧ (b = true ↔ TwinR l) ∧ G' = G ∧ Ho = []) := by
  refine Does.enter Try.func65 rfl Try.ntmps65 rfl (fun w => ?_)
  refine Wc.seq ?_
  refine Wc.region rfl ?_
  refine Wl.q rfl (Qy.assign rfl) ?_
  refine Wl.q rfl (Qy.assign rfl) ?_
  refine Wl.q rfl (Qy.assign rfl) ?_
  refine Wl.done ?_
  refine Ar.next ?_
  refine Wc.seq ?_
  refine Wc.seq ?_
  refine Wc.region rfl ?_
  refine Wl.q rfl (Qy.assign rfl) ?_
  refine Wl.done ?_
  refine Ar.next ?_
  refine Wc.block ?_
  refine Wc.loop (ι := Nat) (fun j => ([(5, .int .i64 (j : Int)), (0, .slice a l.length c)], [])) (fun j => j ≤ l.length ∧ (∀ j', j' < j → ∀ i, i < j' → ¬ alikeR (l[i]?.getD default) (l[j']?.getD default))) (fun j => l.length - j) (0) (⟨Nat.zero_le _, fun j' h => absurd h (by omega)⟩) ⟨rfl, rfl, trivial⟩ trivial (fun j => fun (hk : j ≤ l.length ∧ (∀ j', j' < j → ∀ i, i < j' → ¬ alikeR (l[i]?.getD default) (l[j']?.getD default))) => ?_)
  obtain ⟨hj, hno⟩ := hk
  refine Wc.seq ?_
  refine Wc.seq ?_
  refine Wc.region rfl ?_
  refine Wl.q rfl (Qy.move rfl) ?_
  refine Wl.q rfl (Qy.move rfl) ?_
  refine Wl.q rfl (Qy.len T.sl47 rfl) ?_
  refine Wl.q rfl (Qy.lss rfl rfl) ?_
  refine Wl.done ?_
  refine Ar.next ?_
  refine Wc.cond rfl (fun hc1 => ?_) (fun hc1 => ?_)
  refine Wc.skip ?_
  refine Ar.next ?_
  refine Wc.seq ?_
  refine Wc.block ?_
  refine Wc.seq ?_
  refine Wc.region rfl ?_
  refine Wl.q rfl (Qy.assign rfl) ?_
  refine Wl.done ?_
  refine Ar.next ?_
  refine Wc.block ?_
  rotate_left
  refine Wc.exit ?_
  refine Ar.passExit ?_
  refine Ar.passExit ?_
  refine Ar.here ?_
  refine Ar.next ?_
  refine Wc.seq ?_
  refine Wc.region rfl ?_
  refine Wl.q rfl (Qy.assign rfl) ?_
  refine Wl.q rfl (Qy.assign rfl) ?_
  refine Wl.q rfl (Qy.assign rfl) ?_
  refine Wl.done ?_
  refine Ar.next ?_
  refine Wc.ret ?_
  refine Ar.out3 (.inr rfl) (Ho := Hp.only _ []) rfl (.tmp rfl) (.tmp rfl) (.tmp rfl) (Hp.sub_only _ _) ?_
  rotate_left
  · refine Wc.loop (ι := Nat) (fun i => ([(6, .int .i64 (i : Int)), (5, .int .i64 (j : Int)), (0, .slice a l.length c)], [])) (fun i => i ≤ j ∧ (∀ i', i' < i → ¬ alikeR (l[i']?.getD default) (l[j]?.getD default))) (fun i => j - i) (0) (⟨Nat.zero_le _, fun i' h => absurd h (by omega)⟩) ⟨rfl, rfl, rfl, trivial⟩ trivial (fun i => fun (hk : i ≤ j ∧ (∀ i', i' < i → ¬ alikeR (l[i']?.getD default) (l[j]?.getD default))) => ?_)
    obtain ⟨hi, hni⟩ := hk
    have eti : l[((i : Nat) : Int).toNat]?.getD default = l[i]?.getD default := rfl
    have etj : l[((j : Nat) : Int).toNat]?.getD default = l[j]?.getD default := rfl
    refine Wc.seq ?_
    refine Wc.seq ?_
    refine Wc.region rfl ?_
    refine Wl.q rfl (Qy.move rfl) ?_
    refine Wl.q rfl (Qy.move rfl) ?_
    refine Wl.q rfl (Qy.lss rfl rfl) ?_
    refine Wl.done ?_
    refine Ar.next ?_
    refine Wc.cond rfl (fun hc2 => ?_) (fun hc2 => ?_)
    refine Wc.skip ?_
    refine Ar.next ?_
    refine Wc.seq ?_
    refine Wc.block ?_
    refine Wc.seq ?_
    refine Wc.draw [] [] T.mixed rfl ?_
    refine Gm.q 0 [] (by kernel_rfl) rfl rfl (Qy.move rfl) ?_
    refine Gm.q 1 [] (by kernel_rfl) rfl rfl (Qy.move rfl) ?_
    refine Gm.q 2 [] (by kernel_rfl) rfl rfl (Qy.at (α := R2) T.sl47 rfl rfl (by assumption) (by omega)) ?_
    refine Gm.q 3 [] (by kernel_rfl) rfl rfl (Qy.loadsG T.agg75 rfl (Arr.elem (by assumption) (by omega)) rfl) ?_
    refine Gm.one 4 trivial (by first | exact Imm.le_refl _ | assumption | (refine Imm.le_trans ?_ (by assumption); first | assumption | (refine Imm.le_trans ?_ (by assumption); assumption))) (by kernel_rfl) rfl ?_
    refine Wl.call0 rfl T.fn63 rfl (by apply c63 <;> first | assumption | omega | rfl) ?_
    refine Wl.on0 ?_
    refine Gm.q 5 [] (by kernel_rfl) rfl rfl (Qy.move rfl) ?_
    refine Gm.cases 23 rfl (fun hg1 => ?_) (fun hg1 => ?_)
    refine Gm.qYes 6 [] (by kernel_rfl) rfl rfl rfl rfl (Qy.move rfl) ?_
    refine Gm.qYes 7 [] (by kernel_rfl) rfl rfl rfl rfl (Qy.move rfl) ?_
    refine Gm.qYes 8 [] (by kernel_rfl) rfl rfl rfl rfl (Qy.at (α := R2) T.sl47 rfl rfl (by assumption) (by omega)) ?_
    refine Gm.qYes 9 [] (by kernel_rfl) rfl rfl rfl rfl (Qy.loadsG T.agg75 rfl (Arr.elem (by assumption) (by omega)) rfl) ?_
    refine Gm.one 10 trivial (by first | exact Imm.le_refl _ | assumption | (refine Imm.le_trans ?_ (by assumption); first | assumption | (refine Imm.le_trans ?_ (by assumption); assumption))) (by kernel_rfl) rfl ?_
    refine Wl.want rfl rfl ?_
    refine Wl.call0 rfl T.fn63 rfl (by apply c63 <;> first | assumption | omega | rfl) ?_
    refine Wl.on0 ?_
    refine Gm.q 11 [] (by kernel_rfl) rfl rfl (Qy.pick rfl rfl) ?_
    refine Gm.q 12 [] (by kernel_rfl) rfl rfl (Qy.move rfl) ?_
    refine Gm.cases 30 rfl (fun hg2 => ?_) (fun hg2 => ?_)
    refine Gm.qYes 13 [] (by kernel_rfl) rfl rfl rfl rfl (Qy.move rfl) ?_
    refine Gm.qYes 14 [] (by kernel_rfl) rfl rfl rfl rfl (Qy.move rfl) ?_
    refine Gm.qYes 15 [] (by kernel_rfl) rfl rfl rfl rfl (Qy.at (α := R2) T.sl47 rfl rfl (by assumption) (by omega)) ?_
    refine Gm.qYes 16 [] (by kernel_rfl) rfl rfl rfl rfl (Qy.loadsG T.agg75 rfl (Arr.elem (by assumption) (by omega)) rfl) ?_
    refine Gm.qYes 17 [] (by kernel_rfl) rfl rfl rfl rfl (Qy.move rfl) ?_
    refine Gm.qYes 18 [] (by kernel_rfl) rfl rfl rfl rfl (Qy.move rfl) ?_
    refine Gm.qYes 19 [] (by kernel_rfl) rfl rfl rfl rfl (Qy.at (α := R2) T.sl47 rfl rfl (by assumption) (by omega)) ?_
    refine Gm.qYes 20 [] (by kernel_rfl) rfl rfl rfl rfl (Qy.loadsG T.agg75 rfl (Arr.elem (by assumption) (by omega)) rfl) ?_
    refine Gm.one 21 trivial (by first | exact Imm.le_refl _ | assumption | (refine Imm.le_trans ?_ (by assumption); first | assumption | (refine Imm.le_trans ?_ (by assumption); assumption))) (by kernel_rfl) rfl ?_
    refine Wl.want rfl rfl ?_
    refine Wl.call0 rfl T.fn108 rfl (c108 _ _ _ _ _ (by first | assumption | exact And.left (by assumption)) (by first | assumption | exact And.right (by assumption))) ?_
    refine Wl.on0 ?_
    refine Gm.q 22 [] (by kernel_rfl) rfl rfl (Qy.pick rfl rfl) ?_
    refine Gm.doneA (by kernel_rfl) trivial (by first | exact Imm.le_refl _ | assumption | (refine Imm.le_trans ?_ (by assumption); first | assumption | (refine Imm.le_trans ?_ (by assumption); assumption))) ?_
    refine Ar.next ?_
    refine Wc.cond rfl (fun hc3 => ?_) (fun hc3 => ?_)
    refine Wc.seq ?_
    refine Wc.region rfl ?_
    refine Wl.q rfl (Qy.move rfl) ?_
    refine Wl.q rfl (Qy.move rfl) ?_
    refine Wl.q rfl (Qy.assign rfl) ?_
    refine Wl.q rfl (Qy.assign rfl) ?_
    refine Wl.q rfl (Qy.assign rfl) ?_
    refine Wl.done ?_
    refine Ar.next ?_
    refine Wc.ret ?_
    refine Ar.outRet ?_
    refine Ar.passRet ?_
    refine Ar.passRet ?_
    refine Ar.outRet ?_
    refine Ar.outRet ?_
    refine Ar.passRet ?_
    refine Ar.passRet ?_
    refine Ar.outRet ?_
    refine Ar.passRet ?_
    refine Ar.out3 (.inr rfl) (Ho := Hp.only _ []) rfl (.tmp rfl) (.tmp rfl) (.tmp rfl) (Hp.sub_only _ _) ?_
    rotate_left
    refine Wc.skip ?_
    refine Ar.outNormal ?_
    refine Ar.next ?_
    refine Wc.region rfl ?_
    refine Wl.q rfl (Qy.move rfl) ?_
    refine Wl.q rfl (Qy.add rfl rfl (by omega)) ?_
    refine Wl.q rfl (Qy.assign rfl) ?_
    refine Wl.done ?_
    rotate_left
    refine Gm.qNo 13 (by kernel_rfl) rfl rfl rfl rfl ?_
    refine Gm.qNo 14 (by kernel_rfl) rfl rfl rfl rfl ?_
    refine Gm.qNo 15 (by kernel_rfl) rfl rfl rfl rfl ?_
    refine Gm.qNo 16 (by kernel_rfl) rfl rfl rfl rfl ?_
    refine Gm.qNo 17 (by kernel_rfl) rfl rfl rfl rfl ?_
    refine Gm.qNo 18 (by kernel_rfl) rfl rfl rfl rfl ?_
    refine Gm.qNo 19 (by kernel_rfl) rfl rfl rfl rfl ?_
    refine Gm.qNo 20 (by kernel_rfl) rfl rfl rfl rfl ?_
    refine Gm.qNo 21 (by kernel_rfl) rfl rfl rfl rfl ?_
    refine Gm.q 22 [] (by kernel_rfl) rfl rfl (Qy.pick rfl rfl) ?_
    refine Gm.doneA (by kernel_rfl) trivial (by first | exact Imm.le_refl _ | assumption | (refine Imm.le_trans ?_ (by assumption); first | assumption | (refine Imm.le_trans ?_ (by assumption); assumption))) ?_
    refine Ar.next ?_
    refine Wc.condF rfl ?_
    refine Wc.skip ?_
    refine Ar.outNormal ?_
    refine Ar.next ?_
    refine Wc.region rfl ?_
    refine Wl.q rfl (Qy.move rfl) ?_
    refine Wl.q rfl (Qy.add rfl rfl (by omega)) ?_
    refine Wl.q rfl (Qy.assign rfl) ?_
    refine Wl.done ?_
    rotate_left
    refine Gm.qNo 6 (by kernel_rfl) rfl rfl rfl rfl ?_
    refine Gm.qNo 7 (by kernel_rfl) rfl rfl rfl rfl ?_
    refine Gm.qNo 8 (by kernel_rfl) rfl rfl rfl rfl ?_
    refine Gm.qNo 9 (by kernel_rfl) rfl rfl rfl rfl ?_
    refine Gm.qNo 10 (by kernel_rfl) rfl rfl rfl rfl ?_
    refine Gm.q 11 [] (by kernel_rfl) rfl rfl (Qy.pick rfl rfl) ?_
    refine Gm.q 12 [] (by kernel_rfl) rfl rfl (Qy.move rfl) ?_
    refine Gm.qNo 13 (by kernel_rfl) rfl rfl rfl rfl ?_
    refine Gm.qNo 14 (by kernel_rfl) rfl rfl rfl rfl ?_
    refine Gm.qNo 15 (by kernel_rfl) rfl rfl rfl rfl ?_
    refine Gm.qNo 16 (by kernel_rfl) rfl rfl rfl rfl ?_
    refine Gm.qNo 17 (by kernel_rfl) rfl rfl rfl rfl ?_
    refine Gm.qNo 18 (by kernel_rfl) rfl rfl rfl rfl ?_
    refine Gm.qNo 19 (by kernel_rfl) rfl rfl rfl rfl ?_
    refine Gm.qNo 20 (by kernel_rfl) rfl rfl rfl rfl ?_
    refine Gm.qNo 21 (by kernel_rfl) rfl rfl rfl rfl ?_
    refine Gm.q 22 [] (by kernel_rfl) rfl rfl (Qy.pick rfl rfl) ?_
    refine Gm.doneA (by kernel_rfl) trivial (by first | exact Imm.le_refl _ | assumption | (refine Imm.le_trans ?_ (by assumption); first | assumption | (refine Imm.le_trans ?_ (by assumption); assumption))) ?_
    refine Ar.next ?_
    refine Wc.condF rfl ?_
    refine Wc.skip ?_
    refine Ar.outNormal ?_
    refine Ar.next ?_
    refine Wc.region rfl ?_
    refine Wl.q rfl (Qy.move rfl) ?_
    refine Wl.q rfl (Qy.add rfl rfl (by omega)) ?_
    refine Wl.q rfl (Qy.assign rfl) ?_
    refine Wl.done ?_
    rotate_left
    refine Wc.exit ?_
    refine Ar.passExit ?_
    refine Ar.passExit ?_
    refine Ar.here ?_
    refine Ar.outNormal ?_
    refine Ar.next ?_
    refine Wc.region rfl ?_
    refine Wl.q rfl (Qy.move rfl) ?_
    refine Wl.q rfl (Qy.add rfl rfl (by omega)) ?_
    refine Wl.q rfl (Qy.assign rfl) ?_
    refine Wl.done ?_
    rotate_left
    · exact ⟨_, _, true, rfl, ⟨fun _ => ⟨j, by omega, i, by omega, hg1, hg2, hc3⟩, fun _ => rfl⟩, rfl, rfl⟩
    · refine Ar.re 6 rfl (show _ = Value.int .i64 ((i + 1 : Nat) : Int) from rfl) ?_
      refine Ar.again (i + 1) ?_ ?_ rfl ⟨rfl, rfl, rfl, trivial⟩ trivial
      · refine ⟨by omega, fun i' h2 => ?_⟩
        rcases Nat.lt_or_ge i' i with h | h
        · exact hni i' h
        · have e : i' = i := by omega
          subst e; exact fun hq => hc3 hq.2.2
      · omega
    · refine Ar.re 6 rfl (show _ = Value.int .i64 ((i + 1 : Nat) : Int) from rfl) ?_
      refine Ar.again (i + 1) ?_ ?_ rfl ⟨rfl, rfl, rfl, trivial⟩ trivial
      · refine ⟨by omega, fun i' h2 => ?_⟩
        rcases Nat.lt_or_ge i' i with h | h
        · exact hni i' h
        · have e : i' = i := by omega
          subst e; exact fun hq => hg2 hq.2.1
      · omega
    · refine Ar.re 6 rfl (show _ = Value.int .i64 ((i + 1 : Nat) : Int) from rfl) ?_
      refine Ar.again (i + 1) ?_ ?_ rfl ⟨rfl, rfl, rfl, trivial⟩ trivial
      · refine ⟨by omega, fun i' h2 => ?_⟩
        rcases Nat.lt_or_ge i' i with h | h
        · exact hni i' h
        · have e : i' = i := by omega
          subst e; exact fun hq => hg1 hq.1
      · omega
    · refine Ar.re 5 rfl (show _ = Value.int .i64 ((j + 1 : Nat) : Int) from rfl) ?_
      refine Ar.again (j + 1) ?_ ?_ rfl ⟨rfl, rfl, trivial⟩ trivial
      · refine ⟨by omega, fun j' h1 i h2 => ?_⟩
        rcases Nat.lt_or_ge j' j with h | h
        · exact hno j' h i h2
        · have e : j' = j := by omega
          subst e; exact hni i (by omega)
      · omega
  · refine ⟨0, 0, false, rfl, ⟨fun h => absurd h (by decide), fun ⟨j', h1, i', h2, h3⟩ => absurd h3 (hno j' (by omega) i' h2)⟩, rfl, rfl⟩
def RightR (l : List R2) : Prop := 1 ≤ l.length ∧ l.length ≤ 15 ∧ (∀ i, i < l.length → okP (l[i]?.getD default)) ∧ ¬ TwinR l
theorem c25 (G : Imm) (a : Option Addr) (c : Nat) (l : List R2) (ha : Arr G a l) (h1 : l.length ≤ 1048576) (hc : l.length ≤ c) : Does Try.prog 25 [.slice a l.length c] G [] (fun v G' Ho => ∃ b : Bool, v = .bool b ∧ (b = true ↔ RightR l) ∧ G' = G ∧ Ho = []) := by
  refine Does.enter Try.func25 rfl Try.ntmps25 rfl (fun w => ?_)
  refine Wc.seq ?_
  refine Wc.region rfl ?_
  refine Wl.q rfl (Qy.assign rfl) ?_
  refine Wl.done ?_
  refine Ar.next ?_
  refine Wc.seq ?_
  refine Wc.seq ?_
  refine Wc.region rfl ?_
  refine Wl.q rfl (Qy.move rfl) ?_
  refine Wl.q rfl (Qy.len T.sl47 rfl) ?_
  refine Wl.q rfl (Qy.lss rfl rfl) ?_
  refine Wl.q rfl (Qy.move rfl) ?_
  apply Wl.joinOr 4 10 14 rfl
  intro hg1
  refine Wl.want rfl rfl ?_
  refine Wl.q rfl (Qy.move rfl) ?_
  refine Wl.want rfl rfl ?_
  refine Wl.q rfl (Qy.len T.sl47 rfl) ?_
  refine Wl.want rfl rfl ?_
  refine Wl.q rfl (Qy.gtr rfl rfl) ?_
  refine Wl.q rfl (Qy.pick rfl rfl) ?_
  exact Wl.back 4 0 rfl rfl rfl rfl rfl
  intro hg1
  refine Wl.pass rfl rfl rfl ?_
  refine Wl.pass rfl rfl rfl ?_
  refine Wl.pass rfl rfl rfl ?_
  refine Wl.q rfl (Qy.pick rfl rfl) ?_
  exact Wl.back 4 0 rfl rfl rfl rfl rfl
  refine Wl.done ?_
  refine Ar.next ?_
  refine Wc.cond rfl (fun hc1 => ?_) (fun hc1 => ?_)
  refine Wc.seq ?_
  refine Wc.region rfl ?_
  refine Wl.q rfl (Qy.assign rfl) ?_
  refine Wl.done ?_
  refine Ar.next ?_
  refine Wc.ret ?_
  refine Ar.passRet ?_
  refine Ar.out1 (.inr rfl) (Ho := Hp.only _ []) rfl (.tmp rfl) (Hp.sub_only _ _) ?_
  rotate_left
  refine Wc.skip ?_
  refine Ar.next ?_
  refine Wc.seq ?_
  refine Wc.seq ?_
  refine Wc.region rfl ?_
  refine Wl.q rfl (Qy.assign rfl) ?_
  refine Wl.done ?_
  refine Ar.next ?_
  refine Wc.block ?_
  rotate_left
  · exact ⟨false, rfl, ⟨fun h => absurd h (by decide), fun h => absurd h.1 (by have := h.2.1; omega)⟩, rfl, rfl⟩
  refine Wc.loop (ι := Nat) (fun j => ([(3, .int .i64 (j : Int)), (0, .slice a l.length c)], [])) (fun j => j ≤ l.length ∧ (∀ i, i < j → okP (l[i]?.getD default))) (fun j => l.length - j) (0) (⟨Nat.zero_le _, fun j' h => absurd h (by omega)⟩) ⟨rfl, rfl, trivial⟩ trivial (fun j => fun (hk : j ≤ l.length ∧ (∀ i, i < j → okP (l[i]?.getD default))) => ?_)
  obtain ⟨hj, hno⟩ := hk
  have etj : l[((j : Nat) : Int).toNat]?.getD default = l[j]?.getD default := rfl
  refine Wc.seq ?_
  refine Wc.seq ?_
  refine Wc.region rfl ?_
  refine Wl.q rfl (Qy.move rfl) ?_
  refine Wl.q rfl (Qy.move rfl) ?_
  refine Wl.q rfl (Qy.len T.sl47 rfl) ?_
  refine Wl.q rfl (Qy.lss rfl rfl) ?_
  refine Wl.done ?_
  refine Ar.next ?_
  refine Wc.cond rfl (fun hc2 => ?_) (fun hc2 => ?_)
  refine Wc.skip ?_
  refine Ar.next ?_
  refine Wc.seq ?_
  refine Wc.block ?_
  refine Wc.seq ?_
  refine Wc.region rfl ?_
  refine Wl.q rfl (Qy.move rfl) ?_
  refine Wl.q rfl (Qy.move rfl) ?_
  refine Wl.q rfl (Qy.at (α := R2) T.sl47 rfl rfl (by assumption) (by omega)) ?_
  refine Wl.q rfl (Qy.loadsG T.agg75 rfl (Arr.elem (by assumption) (by omega)) rfl) ?_
  refine Wl.call0 rfl T.fn63 rfl (by apply c63 <;> first | assumption | omega | rfl) ?_
  refine Wl.q rfl (Qy.notD rfl) ?_
  refine Wl.q rfl (Qy.move rfl) ?_
  apply Wl.joinOr 6 27 33 rfl
  intro hg1
  refine Wl.want rfl rfl ?_
  refine Wl.q rfl (Qy.move rfl) ?_
  refine Wl.want rfl rfl ?_
  refine Wl.q rfl (Qy.move rfl) ?_
  refine Wl.want rfl rfl ?_
  refine Wl.q rfl (Qy.at (α := R2) T.sl47 rfl rfl (by assumption) (by omega)) ?_
  refine Wl.want rfl rfl ?_
  refine Wl.q rfl (Qy.loadsG T.agg75 rfl (Arr.elem (by assumption) (by omega)) rfl) ?_
  refine Wl.want rfl rfl ?_
  refine Wl.call0 rfl T.fn64 rfl (by apply c64 <;> first | assumption | omega | rfl) ?_
  refine Wl.q rfl (Qy.pick rfl rfl) ?_
  exact Wl.back 6 0 rfl rfl rfl rfl rfl
  intro hg1
  refine Wl.pass rfl rfl rfl ?_
  refine Wl.pass rfl rfl rfl ?_
  refine Wl.pass rfl rfl rfl ?_
  refine Wl.pass rfl rfl rfl ?_
  refine Wl.pass rfl rfl rfl ?_
  refine Wl.q rfl (Qy.pick rfl rfl) ?_
  exact Wl.back 6 0 rfl rfl rfl rfl rfl
  refine Wl.done ?_
  refine Ar.next ?_
  refine Wc.cond rfl (fun hc3 => ?_) (fun hc3 => ?_)
  refine Wc.seq ?_
  refine Wc.region rfl ?_
  refine Wl.q rfl (Qy.assign rfl) ?_
  refine Wl.done ?_
  refine Ar.next ?_
  refine Wc.ret ?_
  refine Ar.outRet ?_
  refine Ar.passRet ?_
  refine Ar.passRet ?_
  refine Ar.outRet ?_
  refine Ar.passRet ?_
  refine Ar.out1 (.inr rfl) (Ho := Hp.only _ []) rfl (.tmp rfl) (Hp.sub_only _ _) ?_
  rotate_left
  refine Wc.skip ?_
  refine Ar.outNormal ?_
  refine Ar.next ?_
  refine Wc.region rfl ?_
  refine Wl.q rfl (Qy.move rfl) ?_
  refine Wl.q rfl (Qy.add rfl rfl (by omega)) ?_
  refine Wl.q rfl (Qy.assign rfl) ?_
  refine Wl.done ?_
  rotate_left
  refine Wc.exit ?_
  refine Ar.passExit ?_
  refine Ar.passExit ?_
  refine Ar.here ?_
  refine Ar.next ?_
  refine Wc.seq ?_
  refine Wc.region rfl ?_
  refine Wl.q rfl (Qy.move rfl) ?_
  refine Wl.call 0 rfl T.fn65 rfl (c65 _ _ _ _ (by assumption) (by omega) (by first | assumption | omega)) (tags_of trivial) (fun v1 G1 Ho1 hle1 hp => ?_)
  obtain ⟨ti1, tj1, tb1, rfl, htb1, rfl, rfl⟩ := hp
  refine Wl.q rfl (Qy.move rfl) ?_
  refine Wl.q rfl (Qy.extract rfl rfl) ?_
  refine Wl.q rfl (Qy.extract rfl rfl) ?_
  refine Wl.q rfl (Qy.extract rfl rfl) ?_
  refine Wl.q rfl (Qy.assign rfl) ?_
  refine Wl.q rfl (Qy.assign rfl) ?_
  refine Wl.q rfl (Qy.assign rfl) ?_
  refine Wl.done ?_
  refine Ar.next ?_
  refine Wc.seq ?_
  refine Wc.region rfl ?_
  refine Wl.q rfl (Qy.move rfl) ?_
  refine Wl.q rfl (Qy.not rfl) ?_
  refine Wl.q rfl (Qy.assign rfl) ?_
  refine Wl.done ?_
  refine Ar.next ?_
  refine Wc.ret ?_
  refine Ar.out1 (.inr rfl) (Ho := Hp.only _ []) rfl (.tmp rfl) (Hp.sub_only _ _) ?_
  rotate_left
  · exact ⟨false, rfl, ⟨fun h => absurd h (by decide), fun h => absurd (h.2.2.1 j (by omega)) (by show ¬ okP (l[((j : Nat) : Int).toNat]?.getD default); unfold okP; unfold near at *; omega)⟩, rfl, rfl⟩
  · refine Ar.re 3 rfl (show _ = Value.int .i64 ((j + 1 : Nat) : Int) from rfl) ?_
    refine Ar.again (j + 1) ?_ ?_ rfl ⟨rfl, rfl, trivial⟩ trivial
    · refine ⟨by omega, fun i' h2 => ?_⟩
      rcases Nat.lt_or_ge i' j with h | h
      · exact hno i' h
      · have e : i' = j := by omega
        subst e
        show okP (l[((i' : Nat) : Int).toNat]?.getD default)
        unfold okP; unfold near at *; omega
    · omega
  · refine ⟨!tb1, rfl, ?_, rfl, rfl⟩
    have e : (∀ i, i < l.length → okP (l[i]?.getD default)) := fun i hi => hno i (by omega)
    rw [Bool.not_eq_true', Bool.eq_false_iff, ne_eq, htb1]
    exact ⟨fun h => ⟨by omega, by omega, e, h⟩, fun h => h.2.2.2⟩
end Go.Proofs.Ytbppmiimeccclaa
set_option linter.unusedVariables false
namespace Go.Proofs.Ytbppmiimeccclaa
open Go Go.Sl
theorem mul_sign_pos {y g : Int} (h : y * g < 0) (hg : g < 0) : 0 < y := by
  rcases Int.lt_trichotomy y 0 with h1 | h1 | h1
  · have := Int.mul_pos_of_neg_of_neg h1 hg; omega
  · subst h1; rw [Int.zero_mul] at h; omega
  · exact h1
theorem mul_sign_pos' {y g : Int} (h : 0 < y * g) (hg : 0 < g) : 0 < y := by
  rcases Int.lt_trichotomy y 0 with h1 | h1 | h1
  · have := Int.mul_neg_of_neg_of_pos h1 hg; omega
  · subst h1; rw [Int.zero_mul] at h; omega
  · exact h1
theorem nrm_canon {a b : Int} (h : ¬ (a = 0 ∧ b = 0)) : ∃ x y g : Int, nrm a b = (x, y) ∧ g ≠ 0 ∧ x * g = a ∧ y * g = b ∧ Int.gcd x y = 1 ∧ (0 < y ∨ (y = 0 ∧ 0 < x)) := by
  have hg0 : 0 < Int.gcd a b := by
    rcases Nat.eq_zero_or_pos (Int.gcd a b) with h0 | h0
    · exact absurd (Int.gcd_eq_zero_iff.mp h0) h
    · exact h0
  have hgn : normG a b ≠ 0 := by unfold normG; split <;> omega
  have habs : (normG a b).natAbs = Int.gcd a b := by unfold normG; split <;> omega
  have d1 : normG a b ∣ a := Int.natAbs_dvd.mp (by rw [habs]; exact Int.gcd_dvd_left a b)
  have d2 : normG a b ∣ b := Int.natAbs_dvd.mp (by rw [habs]; exact Int.gcd_dvd_right a b)
  have e1 := Int.tdiv_mul_cancel d1
  have e2 := Int.tdiv_mul_cancel d2
  refine ⟨a.tdiv (normG a b), b.tdiv (normG a b), normG a b, by unfold nrm; rw [if_neg h], hgn, e1, e2, ?_, ?_⟩
  · show Nat.gcd (a.tdiv (normG a b)).natAbs (b.tdiv (normG a b)).natAbs = 1
    rw [show (a.tdiv (normG a b)).natAbs = a.natAbs / (normG a b).natAbs from Int.natAbs_tdiv _ _, show (b.tdiv (normG a b)).natAbs = b.natAbs / (normG a b).natAbs from Int.natAbs_tdiv _ _, habs]
    exact Nat.coprime_div_gcd_div_gcd hg0
  · generalize hx : a.tdiv (normG a b) = x at *
    generalize hy : b.tdiv (normG a b) = y at *
    rcases Int.lt_trichotomy b 0 with hb | hb | hb
    · left
      refine mul_sign_pos (g := normG a b) (by omega) ?_
      unfold normG; rw [if_pos (.inl hb)]; omega
    · right
      have hy0 : y = 0 := by
        rcases Int.mul_eq_zero.mp (show y * normG a b = 0 by omega) with h1 | h1
        · exact h1
        · exact absurd h1 hgn
      refine ⟨hy0, ?_⟩
      rcases (show a < 0 ∨ 0 ≤ a by omega) with ha | ha
      · refine mul_sign_pos (g := normG a b) (by omega) ?_
        unfold normG; rw [if_pos (.inr ⟨hb, ha⟩)]; omega
      · refine mul_sign_pos' (g := normG a b) (by omega) ?_
        unfold normG; rw [if_neg (by omega)]; omega
    · left
      refine mul_sign_pos' (g := normG a b) (by omega) ?_
      unfold normG; rw [if_neg (by omega)]; omega
theorem canon_one {x y u v : Int} (h1 : Int.gcd x y = 1) (h2 : Int.gcd u v = 1) (s1 : 0 < y ∨ (y = 0 ∧ 0 < x)) (s2 : 0 < v ∨ (v = 0 ∧ 0 < u)) (h : x * v = u * y) : x = u ∧ y = v := by
  have e : x.natAbs * v.natAbs = u.natAbs * y.natAbs := by rw [← Int.natAbs_mul, ← Int.natAbs_mul, h]
  have c1 : Nat.Coprime x.natAbs y.natAbs := h1
  have c2 : Nat.Coprime u.natAbs v.natAbs := h2
  have p1 : x.natAbs ∣ u.natAbs := c1.dvd_of_dvd_mul_right (e ▸ Nat.dvd_mul_right _ _)
  have p2 : u.natAbs ∣ x.natAbs := c2.dvd_of_dvd_mul_right (e ▸ Nat.dvd_mul_right _ _)
  have p3 : y.natAbs ∣ v.natAbs := c1.symm.dvd_of_dvd_mul_left (e ▸ Nat.dvd_mul_left _ _)
  have p4 : v.natAbs ∣ y.natAbs := c2.symm.dvd_of_dvd_mul_left (e ▸ Nat.dvd_mul_left _ _)
  have q1 := Nat.dvd_antisymm p1 p2
  have q2 := Nat.dvd_antisymm p3 p4
  have hyv : y = v := by omega
  refine ⟨?_, hyv⟩
  subst hyv
  rcases s1 with s | s
  · exact Int.eq_of_mul_eq_mul_right (by omega) h
  · omega
theorem same_iff (a b c d : Int) : same a b c d ↔ oneR a b c d := by
  unfold same oneR
  by_cases hp : a = 0 ∧ b = 0
  · by_cases hq : c = 0 ∧ d = 0
    · rw [if_pos (.inl hp)]
      obtain ⟨rfl, rfl⟩ := hp
      obtain ⟨rfl, rfl⟩ := hq
      exact ⟨fun _ => ⟨⟨rfl, rfl⟩, rfl, rfl⟩, fun _ => rfl⟩
    · rw [if_pos (.inl hp)]
      refine ⟨fun h => ?_, fun h => absurd h.2 hq⟩
      obtain ⟨u, v, k, e2, hk, _, _, _, s2⟩ := nrm_canon hq
      have e1 : nrm a b = (0, 0) := by unfold nrm; rw [if_pos hp, hp.1, hp.2]
      rw [e1, e2] at h
      injection h with h3 h4
      omega
  · obtain ⟨x, y, g, e1, hg, f1, f2, c1, s1⟩ := nrm_canon hp
    by_cases hq : c = 0 ∧ d = 0
    · rw [if_pos (.inr hq)]
      refine ⟨fun h => ?_, fun h => absurd h.1 hp⟩
      have e2 : nrm c d = (0, 0) := by unfold nrm; rw [if_pos hq, hq.1, hq.2]
      rw [e1, e2] at h
      injection h with h3 h4
      omega
    · obtain ⟨u, v, k, e2, hk, f3, f4, c2, s2⟩ := nrm_canon hq
      rw [if_neg (fun h => h.elim hp hq), e1, e2]
      have key : a * d - c * b = (x * v - u * y) * (g * k) := by
        rw [← f1, ← f2, ← f3, ← f4, Int.sub_mul]
        congr 1 <;> ac_rfl
      constructor
      · intro h
        injection h with h3 h4
        rw [key, h3, h4, Int.sub_self, Int.zero_mul]
      · intro h
        rw [key] at h
        have hgk : g * k ≠ 0 := fun h0 => (Int.mul_eq_zero.mp h0).elim hg hk
        have h5 : x * v - u * y = 0 := (Int.mul_eq_zero.mp h).resolve_right hgk
        obtain ⟨r1, r2⟩ := canon_one c1 c2 s1 s2 (by omega)
        rw [r1, r2]
theorem twin_iff (l : List R2) : Twin l ↔ TwinR l := by
  unfold Twin TwinR alikeP alikeR
  simp only [same_iff]
theorem right_iff (l : List R2) : RightL l ↔ RightR l := by
  unfold RightL RightR
  rw [twin_iff]
end Go.Proofs.Ytbppmiimeccclaa
set_option maxRecDepth 100000
set_option linter.unusedVariables false
namespace Go.Proofs.Ytbppmiimeccclaa
open Go Go.Sl
set_option maxHeartbeats 4000000
attribute [local irreducible] valB pb cmpZ lstWp p2
def powR (a b : Int) (n : Nat) : List Int := (List.range n).map fun j => a ^ j * b ^ (n - 1 - j)
end Go.Proofs.Ytbppmiimeccclaa
set_option maxRecDepth 100000
set_option linter.unusedVariables false
namespace Go.Proofs.Ytbppmiimeccclaa
open Go Go.Sl
set_option maxHeartbeats 4000000
attribute [local irreducible] valB pb cmpZ lstWp p2 RightL powR
/-- a row of big numbers, by its slice -/
def BRow (G : Imm) (s : SV) (zs : List Int) : Prop := ∃ l : List IV, l.length = s.n ∧ s.n ≤ s.c ∧ Arr G s.a l ∧ Bigs G l zs
theorem BRow.up {G G' : Imm} {s : SV} {zs : List Int} (h : BRow G s zs) (hl : G.le G') : BRow G' s zs := by
  obtain ⟨l, h1, h2, h3, h4⟩ := h
  exact ⟨l, h1, h2, h3.up hl, h4.up hl⟩
def BGrid (G : Imm) (l : List SV) (rs : List (List Int)) : Prop := l.length = rs.length ∧ ∀ i : Nat, i < l.length → BRow G (l[i]?.getD default) (rs[i]?.getD [])
theorem BGrid.up {G G' : Imm} {l : List SV} {rs : List (List Int)} (h : BGrid G l rs) (hl : G.le G') : BGrid G' l rs := ⟨h.1, fun i hi => (h.2 i hi).up hl⟩
theorem BGrid.nil (G : Imm) : BGrid G [] [] := ⟨rfl, fun i hi => by simp at hi⟩
theorem BGrid.snoc {G : Imm} {l : List SV} {rs : List (List Int)} (h : BGrid G l rs) {s : SV} {zs : List Int} (hs : BRow G s zs) : BGrid G (l ++ [s]) (rs ++ [zs]) := by
  refine ⟨by rw [List.length_append, List.length_append, h.1]; rfl, fun i hi => ?_⟩
  rw [List.length_append, List.length_singleton] at hi
  rcases Nat.lt_or_ge i l.length with h1 | h1
  · rw [List.getElem?_append_left h1, List.getElem?_append_left (by rw [← h.1]; exact h1)]; exact h.2 i h1
  · have : i = l.length := by omega
    subst this
    rw [List.getElem?_append_right (Nat.le_refl _), List.getElem?_append_right (by rw [h.1]; exact Nat.le_refl _), Nat.sub_self, h.1, Nat.sub_self]
    exact hs
theorem c28Y (G : Imm) (a : Option Addr) (c : Nat) (l : List R2) (ha : Arr G a l) (h1 : l.length ≤ 1048576) (hc : l.length ≤ c) (hR : RightL l) : Does Try.prog 28 [.slice a l.length c] G [] (fun v G' Ho => v = .bool true ∧ G' = G ∧ Ho = []) :=
  (c28 G a c l ha h1 hc).mono fun v G' Ho _ ⟨b, e1, e2, e3, e4⟩ => ⟨by rw [e1, e2.2 hR], e3, e4⟩
theorem c28N (G : Imm) (a : Option Addr) (c : Nat) (l : List R2) (ha : Arr G a l) (h1 : l.length ≤ 1048576) (hc : l.length ≤ c) (hR : ¬ RightL l) : Does Try.prog 28 [.slice a l.length c] G [] (fun v G' Ho => v = .bool false ∧ G' = G ∧ Ho = []) :=
  (c28 G a c l ha h1 hc).mono fun v G' Ho _ ⟨b, e1, e2, e3, e4⟩ => ⟨by rw [e1]; congr 1; cases b; { rfl }; exact absurd (e2.1 rfl) hR, e3, e4⟩
def gridR (l : List R2) : List (List Int) := l.map fun p => powR p.a p.b l.length
end Go.Proofs.Ytbppmiimeccclaa
set_option maxRecDepth 100000
set_option linter.unusedVariables false
namespace Go.Proofs.Ytbppmiimeccclaa
open Go Go.Sl
set_option maxHeartbeats 4000000
attribute [local irreducible] valB valL pb pw cmpZ lstWp p2 RightL powR
/-- few digits -/
def small (z : Int) : Prop := z.natAbs < 18446744073709551616
theorem Num.few {G : Imm} {x : IV} {z : Int} (h : Num G x z) (hz : small z) : x.n ≤ 4 := by
  obtain ⟨l, h1, _, _, h4⟩ := h
  rw [← h1]
  refine h4.len ?_
  have e : pw 4 = 18446744073709551616 := by unfold pw; decide
  unfold small at hz; omega
theorem small_pow {c : Int} {e : Nat} (hc : -16 ≤ c ∧ c ≤ 16) (he : e ≤ 15) : small (c ^ e) := by
  unfold small
  have e2 : (c ^ e).natAbs ≤ 16 ^ 15 := by
    rw [Int.natAbs_pow]
    exact Nat.le_trans (Nat.pow_le_pow_left (show c.natAbs ≤ 16 by omega) e) (Nat.pow_le_pow_right (by omega) he)
  have e3 : (16 : Nat) ^ 15 = 1152921504606846976 := by decide
  omega
theorem c115N (G : Imm) (x y : IV) (zx zy : Int) (hx : Num G x zx) (hy : Num G y zy) (bx : small zx) (bz : small zy) :
    Does Try.prog 115 [.agg #[.bool x.neg, .slice x.a x.n x.c], .agg #[.bool y.neg, .slice y.a y.n y.c]] G [] (fun v G' Ho => ∃ r : IV, v = .agg #[.bool r.neg, .slice r.a r.n r.c] ∧ Num G' r (zx * zy) ∧ Ho = []) := by
  have f1 := Num.few hx bx
  have f2 := Num.few hy bz
  obtain ⟨n1, a, k1, ca⟩ := x
  obtain ⟨n2, b, k2, cb⟩ := y
  obtain ⟨la, rfl, hla, hA, hx⟩ := hx
  obtain ⟨lb, rfl, hlb, hB, hy⟩ := hy
  exact c115 G n1 n2 a b ca cb la lb zx zy hA hB hx hy (Nat.le_trans f1 (by decide)) (Nat.le_trans f2 (by decide))
theorem c116 (G : Imm) (x : IV) (z : Int) (e : Nat) (hx : Num G x z) (hz : -16 ≤ z ∧ z ≤ 16) (he : e ≤ 15) :
    Does Try.prog 116 [.agg #[.bool x.neg, .slice x.a x.n x.c], .int .i64 e] G [] (fun v G' Ho => ∃ r : IV, v = .agg #[.bool r.neg, .slice r.a r.n r.c] ∧ Num G' r (z ^ e) ∧ Ho = []) := by
  refine Does.enter Try.func116 rfl Try.ntmps116 rfl (fun w => ?_)
  refine Wc.seq ?_
  refine Wc.region rfl ?_
  refine Wl.box 0 rfl rfl rfl (fun b1 => ?_)
  refine Wl.alloc 1 rfl T.zero63 (fun b2 => ?_)
  refine Wl.done ?_
  refine Ar.next ?_
  refine Wc.seq ?_
  refine Wc.region rfl ?_
  refine Wl.call 2 rfl T.fn85 rfl (c85 _ 1 (by decide)) (tags_of trivial) (fun v1 G1 Ho1 hle1 hp => ?_)
  obtain ⟨ro1, rfl, hro1, rfl⟩ := hp
  replace hx := hx.up hle1
  refine Wl.alloc 2 rfl T.zero63 (fun b3 => ?_)
  refine Wl.storeAll 2 T.size63 rfl rfl rfl rfl rfl rfl ?_
  refine Wl.done ?_
  refine Ar.next ?_
  refine Wc.seq ?_
  refine Wc.seq ?_
  refine Wc.region rfl ?_
  refine Wl.q rfl (Qy.assign rfl) ?_
  refine Wl.done ?_
  refine Ar.next ?_
  refine Wc.block ?_
  refine Wc.loopG (ι := Nat × Imm × IV) (fun (k, Gx, r) => ([(6, .int .i64 (k : Int)), (5, Go.Value.pointer (Option.some (Go.Addr.mk b3 0 Option.none))), (4, Go.Value.pointer (Option.some (Go.Addr.mk b2 0 Option.none))), (2, Go.Value.pointer (Option.some (Go.Addr.mk b1 0 Option.none))), (1, Go.Value.int Go.IntKind.i64 (↑e : Int))], [(2, some b3, .cells #[.bool r.neg, .slice r.a r.n r.c] 63), (1, Option.some b2, Go.Obj.cells #[Go.Value.bool Bool.false, Go.Value.slice Option.none 0 0] 63), (0, Option.some b1, Go.Obj.cells #[Go.Value.bool (Go.Sl.IV.neg x), Go.Value.slice (Go.Sl.IV.a x) (Go.Sl.IV.n x) (Go.Sl.IV.c x)] 63)])) (fun (k, Gx, r) => Gx) (fun (k, Gx, r) => k ≤ e ∧ G1.le Gx ∧ Num Gx r (z ^ k)) (fun (k, Gx, r) => e - k) ((0, G1, ro1)) (⟨Nat.zero_le _, Imm.le_refl _, by rw [Int.pow_zero]; exact hro1⟩) rfl ⟨rfl, rfl, rfl, rfl, rfl, trivial⟩ ⟨rfl, rfl, rfl, trivial⟩ (fun ⟨k, Gx, r⟩ => fun (hk : k ≤ e ∧ G1.le Gx ∧ Num Gx r (z ^ k)) => ?_)
  obtain ⟨hk1, hk2, hk3⟩ := hk
  rcases Nat.lt_or_ge k e with hke | hke
  · have hx' := hx.up hk2
    have s1 : small (z ^ k) := small_pow hz (by omega)
    have s2 : small z := by unfold small; omega
    refine Wc.seq ?_
    refine Wc.seq ?_
    refine Wc.region rfl ?_
    refine Wl.q rfl (Qy.move rfl) ?_
    refine Wl.q rfl (Qy.move rfl) ?_
    refine Wl.q rfl (Qy.lss rfl rfl) ?_
    refine Wl.done ?_
    refine Ar.next ?_
    refine Wc.condP rfl (by first | assumption | omega) ?_
    refine Wc.skip ?_
    refine Ar.next ?_
    refine Wc.seq ?_
    refine Wc.block ?_
    refine Wc.region rfl ?_
    refine Wl.q rfl (Qy.loadAll 2 T.agg63 rfl rfl rfl) ?_
    refine Wl.q rfl (Qy.loadAll 0 T.agg63 rfl rfl rfl) ?_
    refine Wl.call 3 rfl T.fn115 rfl (c115N _ r x (z ^ k) z (by assumption) (by assumption) s1 s2) (tags_of trivial) (fun v2 G2 Ho2 hle2 hp => ?_)
    obtain ⟨rt2, rfl, hrt2, rfl⟩ := hp
    replace hk3 := hk3.up hle2
    replace hx' := hx'.up hle2
    refine Wl.storeAll 2 T.size63 rfl rfl rfl rfl rfl rfl ?_
    refine Wl.done ?_
    refine Ar.outNormal ?_
    refine Ar.next ?_
    refine Wc.region rfl ?_
    refine Wl.q rfl (Qy.move rfl) ?_
    refine Wl.q rfl (Qy.add rfl rfl (by omega)) ?_
    refine Wl.q rfl (Qy.assign rfl) ?_
    refine Wl.done ?_
    refine Ar.re 6 rfl (show _ = Value.int .i64 ((k + 1 : Nat) : Int) from rfl) ?_
    refine Ar.again ((k + 1, _, rt2)) ?_ ?_ rfl ⟨rfl, rfl, rfl, rfl, rfl, trivial⟩ ⟨rfl, rfl, rfl, trivial⟩
    · exact ⟨by omega, Imm.le_trans hk2 (by assumption), by rw [Int.pow_succ]; exact hrt2⟩
    · show e - (k + 1) < e - k
      omega
  · have hke : k = e := by omega
    subst hke
    refine Wc.seq ?_
    refine Wc.seq ?_
    refine Wc.region rfl ?_
    refine Wl.q rfl (Qy.move rfl) ?_
    refine Wl.q rfl (Qy.move rfl) ?_
    refine Wl.q rfl (Qy.lss rfl rfl) ?_
    refine Wl.done ?_
    refine Ar.next ?_
    refine Wc.condN rfl (by first | assumption | omega) ?_
    refine Wc.exit ?_
    refine Ar.passExit ?_
    refine Ar.passExit ?_
    refine Ar.here ?_
    refine Ar.next ?_
    refine Wc.seq ?_
    refine Wc.region rfl ?_
    refine Wl.q rfl (Qy.loadAll 2 T.agg63 rfl rfl rfl) ?_
    refine Wl.storeAll 1 T.size63 rfl rfl rfl rfl rfl rfl ?_
    refine Wl.done ?_
    refine Ar.next ?_
    refine Wc.ret ?_
    refine Ar.out1 (.inr rfl) (Ho := Hp.only _ []) rfl (.agg 1 rfl rfl T.agg63) (Hp.sub_only _ _) ?_
    exact ⟨_, rfl, hk3, rfl⟩
theorem c116I (G : Imm) (x : IV) (z e : Int) (hx : Num G x z) (hz : -16 ≤ z ∧ z ≤ 16) (he : 0 ≤ e ∧ e ≤ 15) :
    Does Try.prog 116 [.agg #[.bool x.neg, .slice x.a x.n x.c], .int .i64 e] G [] (fun v G' Ho => ∃ r : IV, v = .agg #[.bool r.neg, .slice r.a r.n r.c] ∧ Num G' r (z ^ e.toNat) ∧ Ho = []) := by
  obtain ⟨k, rfl⟩ : ∃ k : Nat, e = (k : Int) := ⟨e.toNat, by omega⟩
  exact c116 G x z k hx hz (by omega)
theorem c74 (G : Imm) (a b : Int) (n : Nat) (hp : near a b) (hn : n ≤ 15) :
    Does Try.prog 74 [.agg #[.int .i64 a, .int .i64 b], .int .i64 n] G [] (fun v G' Ho => ∃ (s : Option Addr) (r : List IV) (c' : Nat), v = .slice s r.length c' ∧ Arr G' s r ∧ Nums G' r (powR a b n) ∧ r.length ≤ c' ∧ Ho = []) := by
  refine Does.enter Try.func74 rfl Try.ntmps74 rfl (fun w => ?_)
  refine Wc.nilRow 9 (Row 63 ([] : List IV) []) ?_
  refine Wc.seq ?_
  refine Wc.region rfl ?_
  refine Wl.box 10 rfl rfl rfl (fun b1 => ?_)
  refine Wl.q rfl (Qy.assign rfl) ?_
  refine Wl.done ?_
  refine Ar.next ?_
  refine Wc.seq ?_
  refine Wc.region rfl ?_
  refine Wl.q rfl (Qy.assign rfl) ?_
  refine Wl.done ?_
  refine Ar.next ?_
  refine Wc.seq ?_
  refine Wc.seq ?_
  refine Wc.region rfl ?_
  refine Wl.q rfl (Qy.assign rfl) ?_
  refine Wl.done ?_
  refine Ar.next ?_
  refine Wc.block ?_
  refine Wc.loopG (ι := Nat × Imm × List IV × (Option Addr × Nat × List Value)) (fun (k, Gx, r, (o, d, j)) => ([(6, .int .i64 (k : Int)), (5, .slice o r.length d), (4, Go.Value.slice Option.none 0 0), (2, Go.Value.pointer (Option.some (Go.Addr.mk b1 0 Option.none))), (1, Go.Value.int Go.IntKind.i64 (↑n : Int))], [(9, o.map (·.block), Row 63 r j), (10, Option.some b1, Go.Obj.cells #[Go.Value.int Go.IntKind.i64 a, Go.Value.int Go.IntKind.i64 b] 75)])) (fun (k, Gx, r, (o, d, j)) => Gx) (fun (k, Gx, r, (o, d, j)) => k ≤ n ∧ G.le Gx ∧ r.length = k ∧ Nums Gx r ((powR a b n).take k) ∧ OwnA o d r j) (fun (k, Gx, r, (o, d, j)) => n - k) ((0, G, [], (none, 0, []))) (⟨Nat.zero_le _, Imm.le_refl _, rfl, by rw [List.take_zero]; exact Nums.nil _, OwnA.nil⟩) rfl ⟨rfl, rfl, rfl, rfl, rfl, trivial⟩ ⟨rfl, rfl, trivial⟩ (fun ⟨k, Gx, r, (o, d, j)⟩ => fun (hk : k ≤ n ∧ G.le Gx ∧ r.length = k ∧ Nums Gx r ((powR a b n).take k) ∧ OwnA o d r j) => ?_)
  obtain ⟨hk1, hk2, hk3, hk4, hk5⟩ := hk
  rcases Nat.lt_or_ge k n with hke | hke
  · have s1 : small (a ^ (k : Int).toNat) := small_pow (by unfold near at hp; omega) (by omega)
    have s2 : small (b ^ ((n : Int) - 1 - (k : Int)).toNat) := small_pow (by unfold near at hp; omega) (by omega)
    refine Wc.seq ?_
    refine Wc.seq ?_
    refine Wc.region rfl ?_
    refine Wl.q rfl (Qy.move rfl) ?_
    refine Wl.q rfl (Qy.move rfl) ?_
    refine Wl.q rfl (Qy.lss rfl rfl) ?_
    refine Wl.done ?_
    refine Ar.next ?_
    refine Wc.condP rfl (by first | assumption | omega) ?_
    refine Wc.skip ?_
    refine Ar.next ?_
    refine Wc.seq ?_
    refine Wc.block ?_
    refine Wc.draw [10, 9] [(9, 16)] T.mixed rfl ?_
    refine Gm.q 0 [] (by kernel_rfl) rfl rfl (Qy.move rfl) ?_
    refine Gm.q 1 [] (by kernel_rfl) rfl rfl (Qy.fieldAddr T.fa75_0 rfl) ?_
    refine Gm.q 2 [10] (by kernel_rfl) rfl rfl (Qy.load 10 T.one3 rfl rfl rfl) ?_
    refine Gm.q 4 [] (by kernel_rfl) rfl rfl (Qy.move rfl) ?_
    refine Gm.q 6 [] (by kernel_rfl) rfl rfl (Qy.fieldAddr T.fa75_1 rfl) ?_
    refine Gm.q 7 [10] (by kernel_rfl) rfl rfl (Qy.load 10 T.one3 rfl rfl rfl) ?_
    refine Gm.q 9 [] (by kernel_rfl) rfl rfl (Qy.move rfl) ?_
    refine Gm.q 10 [] (by kernel_rfl) rfl rfl (Qy.sub rfl rfl (by omega)) ?_
    refine Gm.q 11 [] (by kernel_rfl) rfl rfl (Qy.move rfl) ?_
    refine Gm.q 12 [] (by kernel_rfl) rfl rfl (Qy.sub rfl rfl (by omega)) ?_
    refine Gm.one 3 ⟨rfl, rfl, trivial⟩ (by first | exact Imm.le_refl _ | repeat (first | assumption | refine Imm.le_trans ?_ (by assumption))) (by kernel_rfl) rfl ?_
    refine Wl.call 11 rfl T.fn85 rfl (c85 _ _ (by unfold near at hp; omega)) (tags_of trivial) (fun v1 G1 Ho1 hle1 hp => ?_)
    obtain ⟨ro1, rfl, hro1, rfl⟩ := hp
    replace hk4 := hk4.up hle1
    refine Wl.on0 ?_
    refine Gm.one 5 ⟨rfl, rfl, trivial⟩ (by first | exact Imm.le_refl _ | repeat (first | assumption | refine Imm.le_trans ?_ (by assumption))) (by kernel_rfl) rfl ?_
    refine Wl.call 11 rfl T.fn116 rfl (c116I _ _ _ _ (by assumption) (by unfold near at hp; omega) (by omega)) (tags_of trivial) (fun v2 G2 Ho2 hle2 hp => ?_)
    obtain ⟨rp2, rfl, hrp2, rfl⟩ := hp
    replace hro1 := hro1.up hle2
    replace hk4 := hk4.up hle2
    refine Wl.on0 ?_
    refine Gm.one 8 ⟨rfl, rfl, trivial⟩ (by first | exact Imm.le_refl _ | repeat (first | assumption | refine Imm.le_trans ?_ (by assumption))) (by kernel_rfl) rfl ?_
    refine Wl.call 11 rfl T.fn85 rfl (c85 _ _ (by unfold near at hp; omega)) (tags_of trivial) (fun v3 G3 Ho3 hle3 hp => ?_)
    obtain ⟨ro3, rfl, hro3, rfl⟩ := hp
    replace hrp2 := hrp2.up hle3
    replace hro1 := hro1.up hle3
    replace hk4 := hk4.up hle3
    refine Wl.on0 ?_
    refine Gm.one 13 ⟨rfl, rfl, trivial⟩ (by first | exact Imm.le_refl _ | repeat (first | assumption | refine Imm.le_trans ?_ (by assumption))) (by kernel_rfl) rfl ?_
    refine Wl.call 11 rfl T.fn116 rfl (c116I _ _ _ _ (by assumption) (by unfold near at hp; omega) (by omega)) (tags_of trivial) (fun v4 G4 Ho4 hle4 hp => ?_)
    obtain ⟨rp4, rfl, hrp4, rfl⟩ := hp
    replace hro3 := hro3.up hle4
    replace hrp2 := hrp2.up hle4
    replace hro1 := hro1.up hle4
    replace hk4 := hk4.up hle4
    refine Wl.on0 ?_
    refine Gm.one 14 ⟨rfl, rfl, trivial⟩ (by first | exact Imm.le_refl _ | repeat (first | assumption | refine Imm.le_trans ?_ (by assumption))) (by kernel_rfl) rfl ?_
    refine Wl.call 11 rfl T.fn115 rfl (c115N _ _ _ _ _ hrp2 hrp4 s1 s2) (tags_of trivial) (fun v5 G5 Ho5 hle5 hp => ?_)
    obtain ⟨rt5, rfl, hrt5, rfl⟩ := hp
    replace hrp4 := hrp4.up hle5
    replace hro3 := hro3.up hle5
    replace hrp2 := hrp2.up hle5
    replace hro1 := hro1.up hle5
    replace hk4 := hk4.up hle5
    refine Wl.on0 ?_
    refine Gm.one 15 ⟨rfl, rfl, trivial⟩ (by first | exact Imm.le_refl _ | repeat (first | assumption | refine Imm.le_trans ?_ (by assumption))) (by kernel_rfl) rfl ?_
    refine Wl.lit (α := IV) 11 [⟨_, _, _, _⟩] rfl T.sl56 T.el63 rfl rfl rfl rfl rfl (fun b2 => ?_)
    refine Wl.on0 ?_
    refine Gm.one 16 ⟨rfl, rfl, trivial⟩ (by first | exact Imm.le_refl _ | repeat (first | assumption | refine Imm.le_trans ?_ (by assumption))) (by kernel_rfl) rfl ?_
    refine Wl.append (α := IV) 9 rfl T.sl56 T.el63 rfl rfl rfl (by first | assumption | exact OwnA.nil | exact OwnA.made (by simp)) (Src.row 11 rfl) (by first | omega | (simp only [List.length_append, List.length_cons, List.length_nil, maxLen]; omega)) (by first | omega | (simp only [List.length_append, List.length_cons, List.length_nil, maxLen]; omega)) (fun a1 c1 junk1 ho1 => ?_)
    refine Wl.on0 ?_
    refine Gm.q 17 [] (by kernel_rfl) rfl rfl (Qy.assign rfl) ?_
    refine Gm.doneA (by kernel_rfl) ⟨rfl, trivial⟩ (by first | exact Imm.le_refl _ | repeat (first | assumption | refine Imm.le_trans ?_ (by assumption))) ?_
    refine Ar.outNormal ?_
    refine Ar.next ?_
    refine Wc.region rfl ?_
    refine Wl.q rfl (Qy.move rfl) ?_
    refine Wl.q rfl (Qy.add rfl rfl (by omega)) ?_
    refine Wl.q rfl (Qy.assign rfl) ?_
    refine Wl.done ?_
    refine Ar.re 6 rfl (show _ = Value.int .i64 ((k + 1 : Nat) : Int) from rfl) ?_
    refine Ar.again ((k + 1, _, r ++ [rt5], (a1, c1, junk1))) ?_ ?_ rfl ⟨rfl, rfl, rfl, rfl, rfl, trivial⟩ ⟨rfl, rfl, trivial⟩
    · refine ⟨by omega, Imm.le_trans hk2 (by repeat (first | assumption | refine Imm.le_trans ?_ (by assumption))), by rw [List.length_append, hk3]; rfl, ?_, ho1⟩
      have e : (powR a b n).take (k + 1) = (powR a b n).take k ++ [a ^ (k : Int).toNat * b ^ ((n : Int) - 1 - (k : Int)).toNat] := by
        rw [List.take_add_one]
        congr 1
        unfold powR
        rw [List.getElem?_map, List.getElem?_range hke, Int.toNat_natCast, show ((n : Int) - 1 - (k : Int)).toNat = n - 1 - k by omega]; rfl
      rw [e]
      exact hk4.snoc hrt5
    · show n - (k + 1) < n - k
      omega
  · have hie : k = n := by omega
    subst hie
    have e : (powR a b k).take k = powR a b k := List.take_of_length_le (by unfold powR; simp)
    rw [e] at hk4
    refine Wc.seq ?_
    refine Wc.seq ?_
    refine Wc.region rfl ?_
    refine Wl.q rfl (Qy.move rfl) ?_
    refine Wl.q rfl (Qy.move rfl) ?_
    refine Wl.q rfl (Qy.lss rfl rfl) ?_
    refine Wl.done ?_
    refine Ar.next ?_
    refine Wc.condN rfl (by first | assumption | omega) ?_
    refine Wc.exit ?_
    refine Ar.passExit ?_
    refine Ar.passExit ?_
    refine Ar.here ?_
    refine Ar.next ?_
    refine Wc.seq ?_
    refine Wc.region rfl ?_
    refine Wl.q rfl (Qy.move rfl) ?_
    refine Wl.q rfl (Qy.assign rfl) ?_
    refine Wl.done ?_
    refine Ar.next ?_
    refine Wc.ret ?_
    refine Ar.freezeRow 9 rfl hk5 (fun G8 hle8 hA8 => ?_)
    refine Ar.out1 (.inr rfl) (Ho := []) rfl (.tmp rfl) trivial ?_
    exact ⟨_, _, _, rfl, hA8, hk4.up hle8, hk5.le, rfl⟩
end Go.Proofs.Ytbppmiimeccclaa
set_option maxRecDepth 100000
set_option linter.unusedVariables false
namespace Go.Proofs.Ytbppmiimeccclaa
open Go Go.Sl
set_option maxHeartbeats 4000000
attribute [local irreducible] valB valL pb pw cmpZ lstWp p2 RightL powR
/-- a row of the reference's numbers, by its slice -/
def NRow (G : Imm) (s : SV) (zs : List Int) : Prop := ∃ l : List IV, l.length = s.n ∧ s.n ≤ s.c ∧ Arr G s.a l ∧ Nums G l zs
theorem NRow.up {G G' : Imm} {s : SV} {zs : List Int} (h : NRow G s zs) (hl : G.le G') : NRow G' s zs := by
  obtain ⟨l, h1, h2, h3, h4⟩ := h
  exact ⟨l, h1, h2, h3.up hl, h4.up hl⟩
def NGrid (G : Imm) (l : List SV) (rs : List (List Int)) : Prop := l.length = rs.length ∧ ∀ i : Nat, i < l.length → NRow G (l[i]?.getD default) (rs[i]?.getD [])
theorem NGrid.up {G G' : Imm} {l : List SV} {rs : List (List Int)} (h : NGrid G l rs) (hl : G.le G') : NGrid G' l rs := ⟨h.1, fun i hi => (h.2 i hi).up hl⟩
theorem NGrid.nil (G : Imm) : NGrid G [] [] := ⟨rfl, fun i hi => by simp at hi⟩
theorem NGrid.snoc {G : Imm} {l : List SV} {rs : List (List Int)} (h : NGrid G l rs) {s : SV} {zs : List Int} (hs : NRow G s zs) : NGrid G (l ++ [s]) (rs ++ [zs]) := by
  refine ⟨by rw [List.length_append, List.length_append, h.1]; rfl, fun i hi => ?_⟩
  rw [List.length_append, List.length_singleton] at hi
  rcases Nat.lt_or_ge i l.length with h1 | h1
  · rw [List.getElem?_append_left h1, List.getElem?_append_left (by rw [← h.1]; exact h1)]; exact h.2 i h1
  · have : i = l.length := by omega
    subst this
    rw [List.getElem?_append_right (Nat.le_refl _), List.getElem?_append_right (by rw [h.1]; exact Nat.le_refl _), Nat.sub_self, h.1, Nat.sub_self]
    exact hs
theorem c29 (G : Imm) (a : Option Addr) (c : Nat) (l : List R2) (ha : Arr G a l) (h1 : l.length ≤ 1048576) (hc : l.length ≤ c) (hr1 : l.length ≤ 15) (hr2 : ∀ i, i < l.length → okP (l[i]?.getD default)) :
    Does Try.prog 29 [.slice a l.length c] G [] (fun v G' Ho => ∃ (s : Option Addr) (r : List SV) (c' : Nat), v = .slice s r.length c' ∧ Arr G' s r ∧ NGrid G' r (gridR l) ∧ r.length ≤ c' ∧ Ho = []) := by
  refine Does.enter Try.func29 rfl Try.ntmps29 rfl (fun w => ?_)
  refine Wc.nilRow 9 (Row 57 ([] : List SV) []) ?_
  refine Wc.seq ?_
  refine Wc.region rfl ?_
  refine Wl.q rfl (Qy.assign rfl) ?_
  refine Wl.done ?_
  refine Ar.next ?_
  refine Wc.seq ?_
  refine Wc.region rfl ?_
  refine Wl.q rfl (Qy.assign rfl) ?_
  refine Wl.done ?_
  refine Ar.next ?_
  refine Wc.seq ?_
  refine Wc.seq ?_
  refine Wc.region rfl ?_
  refine Wl.q rfl (Qy.assign rfl) ?_
  refine Wl.done ?_
  refine Ar.next ?_
  refine Wc.block ?_
  refine Wc.loopG (ι := Nat × Imm × List SV × (Option Addr × Nat × List Value)) (fun (i, Gx, r, (o, d, j)) => ([(4, .int .i64 (i : Int)), (3, .slice o r.length d), (2, Go.Value.slice Option.none 0 0), (0, Go.Value.slice a (List.length l) c)], [(9, o.map (·.block), Row 57 r j)])) (fun (i, Gx, r, (o, d, j)) => Gx) (fun (i, Gx, r, (o, d, j)) => i ≤ l.length ∧ G.le Gx ∧ r.length = i ∧ NGrid Gx r ((gridR l).take i) ∧ OwnA o d r j) (fun (i, Gx, r, (o, d, j)) => l.length - i) ((0, G, [], (none, 0, []))) (⟨Nat.zero_le _, Imm.le_refl _, rfl, by rw [List.take_zero]; exact NGrid.nil _, OwnA.nil⟩) rfl ⟨rfl, rfl, rfl, rfl, trivial⟩ ⟨rfl, trivial⟩ (fun ⟨i, Gx, r, (o, d, j)⟩ => fun (hk : i ≤ l.length ∧ G.le Gx ∧ r.length = i ∧ NGrid Gx r ((gridR l).take i) ∧ OwnA o d r j) => ?_)
  obtain ⟨hi1, hi2, hi3, hi4, hi5⟩ := hk
  replace ha := ha.up hi2
  rcases Nat.lt_or_ge i l.length with hil | hil
  · have hnear : near (l[((i : Nat) : Int).toNat]?.getD default).a (l[((i : Nat) : Int).toNat]?.getD default).b := (hr2 i hil).1
    refine Wc.seq ?_
    refine Wc.seq ?_
    refine Wc.region rfl ?_
    refine Wl.q rfl (Qy.move rfl) ?_
    refine Wl.q rfl (Qy.move rfl) ?_
    refine Wl.q rfl (Qy.len T.sl47 rfl) ?_
    refine Wl.q rfl (Qy.lss rfl rfl) ?_
    refine Wl.done ?_
    refine Ar.next ?_
    refine Wc.condP rfl (by first | assumption | omega) ?_
    refine Wc.skip ?_
    refine Ar.next ?_
    refine Wc.seq ?_
    refine Wc.block ?_
    refine Wc.region rfl ?_
    refine Wl.q rfl (Qy.move rfl) ?_
    refine Wl.q rfl (Qy.move rfl) ?_
    refine Wl.q rfl (Qy.move rfl) ?_
    refine Wl.q rfl (Qy.at (α := R2) T.sl47 rfl rfl (by assumption) (by omega)) ?_
    refine Wl.q rfl (Qy.loadsG T.agg75 rfl (Arr.elem (by assumption) (by omega)) rfl) ?_
    refine Wl.q rfl (Qy.move rfl) ?_
    refine Wl.q rfl (Qy.len T.sl47 rfl) ?_
    refine Wl.call 10 rfl T.fn74 rfl (c74 _ _ _ l.length hnear (by omega)) (tags_of trivial) (fun v1 G1 Ho1 hle1 hp => ?_)
    obtain ⟨ps1, pr1, pc1, rfl, hpA1, hpB1, hpL1, rfl⟩ := hp
    replace ha := ha.up hle1
    refine Wl.lit (α := SV) 10 [⟨_, _, _⟩] rfl T.sl54 T.el57 rfl rfl rfl rfl rfl (fun b1 => ?_)
    refine Wl.append (α := SV) 9 rfl T.sl54 T.el57 rfl rfl rfl (by first | assumption | exact OwnA.nil | exact OwnA.made (by simp)) (Src.row 10 rfl) (by first | omega | (simp only [List.length_append, List.length_cons, List.length_nil, maxLen]; omega)) (by first | omega | (simp only [List.length_append, List.length_cons, List.length_nil, maxLen]; omega)) (fun a1 c1 junk1 ho1 => ?_)
    refine Wl.q rfl (Qy.assign rfl) ?_
    refine Wl.done ?_
    refine Ar.outNormal ?_
    refine Ar.next ?_
    refine Wc.region rfl ?_
    refine Wl.q rfl (Qy.move rfl) ?_
    refine Wl.q rfl (Qy.add rfl rfl (by omega)) ?_
    refine Wl.q rfl (Qy.assign rfl) ?_
    refine Wl.done ?_
    refine Ar.re 4 rfl (show _ = Value.int .i64 ((i + 1 : Nat) : Int) from rfl) ?_
    refine Ar.again ((i + 1, _, r ++ [⟨ps1, pr1.length, pc1⟩], (a1, c1, junk1))) ?_ ?_ rfl ⟨rfl, rfl, rfl, rfl, trivial⟩ ⟨rfl, trivial⟩
    · refine ⟨by omega, Imm.le_trans hi2 (by assumption), by rw [List.length_append, hi3]; rfl, ?_, ho1⟩
      have e : (gridR l).take (i + 1) = (gridR l).take i ++ [powR (l[((i : Nat) : Int).toNat]?.getD default).a (l[((i : Nat) : Int).toNat]?.getD default).b l.length] := by
        rw [List.take_add_one]
        congr 1
        unfold gridR
        rw [List.getElem?_map, Int.toNat_natCast, List.getElem?_eq_getElem hil]; rfl
      rw [e]
      exact NGrid.snoc (by first | assumption | exact hi4.up (by assumption)) ⟨pr1, rfl, hpL1, hpA1, hpB1⟩
    · show l.length - (i + 1) < l.length - i
      omega
  · have hie : i = l.length := by omega
    subst hie
    have e : (gridR l).take l.length = gridR l := List.take_of_length_le (by unfold gridR; rw [List.length_map]; exact Nat.le_refl _)
    rw [e] at hi4
    refine Wc.seq ?_
    refine Wc.seq ?_
    refine Wc.region rfl ?_
    refine Wl.q rfl (Qy.move rfl) ?_
    refine Wl.q rfl (Qy.move rfl) ?_
    refine Wl.q rfl (Qy.len T.sl47 rfl) ?_
    refine Wl.q rfl (Qy.lss rfl rfl) ?_
    refine Wl.done ?_
    refine Ar.next ?_
    refine Wc.condN rfl (by first | assumption | omega) ?_
    refine Wc.exit ?_
    refine Ar.passExit ?_
    refine Ar.passExit ?_
    refine Ar.here ?_
    refine Ar.next ?_
    refine Wc.seq ?_
    refine Wc.region rfl ?_
    refine Wl.q rfl (Qy.move rfl) ?_
    refine Wl.q rfl (Qy.assign rfl) ?_
    refine Wl.done ?_
    refine Ar.next ?_
    refine Wc.ret ?_
    refine Ar.freezeRow 9 rfl hi5 (fun G8 hle8 hA8 => ?_)
    refine Ar.out1 (.inr rfl) (Ho := []) rfl (.tmp rfl) trivial ?_
    exact ⟨_, _, _, rfl, hA8, hi4.up hle8, hi5.le, rfl⟩
end Go.Proofs.Ytbppmiimeccclaa
set_option maxRecDepth 100000
set_option linter.unusedVariables false
namespace Go.Proofs.Ytbppmiimeccclaa
open Go Go.Sl
set_option maxHeartbeats 4000000
theorem follow_none (G : Imm) (p : PV) (ac ao ga : Option Addr) (cc co gc : Nat) (gl : List SV) (gs : List (List Int)) (N : Nat) (hc : Arr G ac p.code) (ho : Arr G ao p.outs) (hga : Arr G ga gl) (hgg : Grid G gl gs) (hev : Even 4 N gs) (hN : N ≤ 1048576) (hR : rightP p = true) (hgi : (gl.length : Int) = p.ins) (hcl : p.code.length ≤ 16384) (hf : followP p gs = none) :
    Does Try.prog 84 [.agg #[.int .i64 p.ins, .int .i64 p.regs, .slice ac p.code.length cc, .slice ao p.outs.length co], .slice ga gl.length gc] G [] (fun v G' Ho => ∃ sv bad, v = .tuple #[sv, .int .i64 bad, .slice none 0 0] ∧ 0 ≤ bad ∧ Ho = []) := by
  refine (c84 G p ac ao ga cc co gc gl gs N hc ho hga hgg hev hN hR hgi hcl).mono fun v G' Ho _ ⟨sv, bad, ov, e, h1, h2, h3⟩ => ?_
  obtain ⟨e1, e2⟩ := h1 hf
  subst e2
  exact ⟨sv, bad, e, e1, h3⟩
theorem follow_some (G : Imm) (p : PV) (ac ao ga : Option Addr) (cc co gc : Nat) (gl : List SV) (gs : List (List Int)) (N : Nat) (hc : Arr G ac p.code) (ho : Arr G ao p.outs) (hga : Arr G ga gl) (hgg : Grid G gl gs) (hev : Even 4 N gs) (hN : N ≤ 1048576) (hR : rightP p = true) (hgi : (gl.length : Int) = p.ins) (hcl : p.code.length ≤ 16384) (os : List (List Int)) (hf : followP p gs = some os) :
    Does Try.prog 84 [.agg #[.int .i64 p.ins, .int .i64 p.regs, .slice ac p.code.length cc, .slice ao p.outs.length co], .slice ga gl.length gc] G [] (fun v G' Ho => ∃ sv oa oc ol, v = .tuple #[sv, .int .i64 (-1), .slice oa ol.length oc] ∧ Arr G' oa ol ∧ Grid G' ol os ∧ Ho = []) := by
  refine (c84 G p ac ao ga cc co gc gl gs N hc ho hga hgg hev hN hR hgi hcl).mono fun v G' Ho _ ⟨sv, bad, ov, e, h1, h2, h3⟩ => ?_
  obtain ⟨e1, oa, oc, ol, e2, e3, e4⟩ := h2 os hf
  subst e1 e2
  exact ⟨sv, oa, oc, ol, e, e3, e4, h3⟩
theorem follow_len {p : PV} {gs os : List (List Int)} (h : followP p gs = some os) : os.length = p.outs.length := by
  unfold followP at h
  obtain ⟨rs, h1, h2⟩ := Option.map_eq_some_iff.1 h
  subst h2
  unfold outsOf; rw [List.length_map]
theorem row_same (G : Imm) (s t : SV) (xs ys : List Int) (hs : RowS G s xs) (ht : RowS G t ys) (m : Nat) (hm : m ≤ 1073741824) (bx : Go.Sl.Below m xs) (by' : Go.Sl.Below m ys) (h1 : s.n ≤ 1048576) (h2 : t.n ≤ 1048576) :
    Does Try.prog 86 [.slice s.a s.n s.c, .slice t.a t.n t.c] G [] (fun v G' Ho => v = .bool (decide (xs = ys)) ∧ G' = G ∧ Ho = []) := by
  obtain ⟨sa, sn, sc⟩ := s
  obtain ⟨ta, tn, tc⟩ := t
  obtain ⟨l, hl, hc, hA, hN⟩ := hs
  obtain ⟨l', hl', hc', hA', hN'⟩ := ht
  simp only at hl hc hA h1 hl' hc' hA' h2
  subst hl hl'
  exact c86 G sa ta sc tc l l' xs ys hA hA' hN hN' m hm bx by' (by omega) (by omega)
theorem run_even {p : PV} {gs : List (List Int)} {N : Nat} (hR : rightP p = true) (hev : Even 4 N gs) (h0 : 0 < gs.length) : ∀ (k : Nat) (rs : List (List Int)), k ≤ p.code.length → runTo p gs k = some rs → Even (4 + 5 * k) N rs ∧ rs.length = p.regs.toNat
  | 0, rs, _, h => by
    cases h
    exact ⟨even_regs0 hev h0, regs0_len p gs⟩
  | k + 1, rs, hk, h => by
    obtain ⟨f1, f2, f3, f4, f5, f6, f7, f8⟩ := right_facts hR
    unfold runTo at h
    obtain ⟨rs0, h1, h2⟩ := Option.bind_eq_some_iff.1 h
    obtain ⟨y, h3, h4⟩ := Option.map_eq_some_iff.1 h2
    obtain ⟨he, hl⟩ := run_even hR hev h0 k rs0 (by omega) h1
    subst h4
    have hmem : (p.code[((k : Nat) : Int).toNat]?.getD default) ∈ p.code := by
      rw [Int.toNat_natCast, List.getElem?_eq_getElem (by omega)]; exact List.getElem_mem _
    obtain ⟨m1, m2, m3, m4, m5, m6, m7, m8⟩ := may_facts (f8 _ hmem)
    have hx := doI_even (i := p.code[((k : Nat) : Int).toNat]?.getD default) he (by omega) (fun h => by have := m4 h; omega) (fun h => (m6 (by omega) (by omega) (by omega) (by omega)).2) h3
    refine ⟨?_, by rw [List.length_set]; exact hl⟩
    rw [show 4 + 5 * (k + 1) = 5 + (4 + 5 * k) by omega]
    exact even_set (he.mono (by omega)) hx _
theorem follow_even {p : PV} {gs os : List (List Int)} {N : Nat} (hR : rightP p = true) (hev : Even 4 N gs) (h0 : 0 < gs.length) (h : followP p gs = some os) : Even (4 + 5 * p.code.length) N os := by
  obtain ⟨f1, f2, f3, f4, f5, f6, f7, f8⟩ := right_facts hR
  unfold followP at h
  obtain ⟨rs, h1, h2⟩ := Option.map_eq_some_iff.1 h
  obtain ⟨he, hl⟩ := run_even hR hev h0 _ rs (Nat.le_refl _) h1
  subst h2
  intro zs hz
  unfold outsOf at hz
  obtain ⟨r, hr, rfl⟩ := List.mem_map.1 hz
  exact he.at (k := r) (by have := f7 r hr; omega)
theorem ngrid_grid {G : Imm} {l : List SV} {rs : List (List Int)} (h : NGrid G l rs) : Grid G l rs := ⟨h.1, h.2⟩
theorem gridR_lenN (l : List R2) : (gridR l).length = l.length := by unfold gridR; rw [List.length_map]
theorem powR_even {a b : Int} {n : Nat} (h : near a b) (hn : n ≤ 15) : (powR a b n).length = n ∧ Go.Sl.Below 4 (powR a b n) := by
  refine ⟨by unfold powR; rw [List.length_map, List.length_range], fun z hz => ?_⟩
  unfold powR at hz
  obtain ⟨k, hk, rfl⟩ := List.mem_map.1 hz
  have hk := List.mem_range.1 hk
  have e4 : pw 4 = 18446744073709551616 := by unfold pw; decide
  have e : (a ^ k * b ^ (n - 1 - k)).natAbs ≤ 16 ^ 15 := by
    rw [Int.natAbs_mul, Int.natAbs_pow, Int.natAbs_pow]
    refine Nat.le_trans (Nat.mul_le_mul (Nat.pow_le_pow_left (show a.natAbs ≤ 16 by unfold near at h; omega) k) (Nat.pow_le_pow_left (show b.natAbs ≤ 16 by unfold near at h; omega) _)) ?_
    rw [← Nat.pow_add]
    exact Nat.pow_le_pow_right (by omega) (by omega)
  have e3 : (16 : Nat) ^ 15 = 1152921504606846976 := by decide
  omega
theorem gridR_even {l : List R2} (h1 : l.length ≤ 15) (hr : ∀ i, i < l.length → near (l[i]?.getD default).a (l[i]?.getD default).b) : Even 4 l.length (gridR l) := fun zs hz => by
  unfold gridR at hz
  obtain ⟨p, hp, rfl⟩ := List.mem_map.1 hz
  obtain ⟨i, hi, rfl⟩ := List.mem_iff_getElem.1 hp
  have := hr i hi
  rw [List.getElem?_eq_getElem hi] at this
  have this : near l[i].a l[i].b := this
  exact powR_even this h1
/-- the row with a one at j -/
def unitR (n j : Nat) : List Int := (List.replicate n 0).set j 1
theorem unit_nums {G : Imm} {n j : Nat} {x : IV} (hx : Num G x 1) (hj : j < n) : Nums G ((List.replicate n (default : IV)).set j x) (unitR n j) := by
  unfold unitR
  refine ⟨by rw [List.length_set, List.length_set, List.length_replicate, List.length_replicate], fun i hi => ?_⟩
  rw [List.length_set, List.length_replicate] at hi
  rw [List.getElem?_set, List.getElem?_set]
  by_cases h : j = i
  · subst h
    rw [if_pos rfl, if_pos rfl, if_pos (by rw [List.length_replicate]; exact hj), if_pos (by rw [List.length_replicate]; exact hj)]
    exact hx
  · rw [if_neg h, if_neg h, List.getElem?_replicate, List.getElem?_replicate, if_pos hi, if_pos hi]
    exact Num.zero G
theorem unit_below (n j m : Nat) (hm : 1 ≤ m) : Go.Sl.Below m (unitR n j) := by
  have h1 : pw 1 = 65536 := by unfold pw; decide
  refine Go.Sl.Below.mono (m := 1) (fun z hz => ?_) hm
  unfold unitR at hz
  rcases List.mem_or_eq_of_mem_set hz with h | h
  · rw [List.eq_of_mem_replicate h, h1]; decide
  · rw [h, h1]; decide
/-- does a program interpolate there? -/
def InterpP (p : PV) (l : List R2) : Prop := rightP p = true ∧ p.ins = l.length ∧ p.outs.length = l.length ∧ followP p (gridR l) = some ((List.range l.length).map (unitR l.length))
instance (p : PV) (l : List R2) : Decidable (InterpP p l) := inferInstanceAs (Decidable (_ ∧ _))
attribute [local irreducible] valB valL pb pw cmpZ lstWp p2 powR gridR followP rightP
theorem c41W (G : Imm) (n : Nat) (hn : n ≤ 1048576) :
    Does Try.prog 41 [.int .i64 (n : Int)] G [] (fun v G' Ho => ∃ b, v = .slice (some ⟨b, 0, none⟩) (List.replicate n (default : IV)).length n ∧ G' = G ∧ OwnA (some ⟨b, 0, none⟩) n (List.replicate n (default : IV)) [] ∧ Ho = [(0, some b, Row 63 (List.replicate n (default : IV)) [])]) := by
  refine Does.enter Try.func41 rfl Try.ntmps41 rfl (fun w => ?_)
  refine Wc.seq ?_
  refine Wc.region rfl ?_
  refine Wl.q rfl (Qy.assign rfl) ?_
  refine Wl.done ?_
  refine Ar.next ?_
  refine Wc.seq ?_
  refine Wc.region rfl ?_
  refine Wl.q rfl (Qy.move rfl) ?_
  refine Wl.make (α := IV) 0 rfl T.sl57 T.el63 rfl rfl (by omega) (by omega) (fun b1 => ?_)
  refine Wl.q rfl (Qy.assign rfl) ?_
  refine Wl.done ?_
  refine Ar.next ?_
  refine Wc.ret ?_
  have e : (List.replicate ((n : Int)).toNat (default : IV)).length = n := by rw [List.length_replicate]; omega
  refine Ar.out1 (.inr rfl) (Ho := [(0, some b1, Row 63 (List.replicate n (default : IV)) [])]) rfl (.tmp rfl) ⟨rfl, trivial⟩ ?_
  refine ⟨b1, by simp, rfl, .inr ⟨b1, rfl, by rw [List.length_replicate]; rfl, by rw [List.length_replicate]; exact Nat.le_refl _, by simp only [maxLen]; omega⟩, rfl⟩
theorem c35 (G : Imm) (p : PV) (ac ao a : Option Addr) (cc co c : Nat) (l : List R2) (hc : Arr G ac p.code) (ho : Arr G ao p.outs) (ha : Arr G a l) (hcl : p.code.length ≤ 16384) (hol : p.outs.length ≤ 1099511627776) (hlc : l.length ≤ c) (hr0 : 1 ≤ l.length) (hr1 : l.length ≤ 15) (hr2 : ∀ i, i < l.length → okP (l[i]?.getD default)) :
    Does Try.prog 35 [.agg #[.int .i64 p.ins, .int .i64 p.regs, .slice ac p.code.length cc, .slice ao p.outs.length co], .slice a l.length c] G [] (fun v G' Ho => v = .bool (decide (InterpP p l)) ∧ Ho = []) := by
  have hr : ∀ i, i < l.length → near (l[i]?.getD default).a (l[i]?.getD default).b := fun i hi => (hr2 i hi).1
  have hev := gridR_even hr1 hr
  refine Does.enter Try.func35 rfl Try.ntmps35 rfl (fun w => ?_)
  refine Wc.seq ?_
  refine Wc.region rfl ?_
  refine Wl.box 0 rfl rfl rfl (fun b1 => ?_)
  refine Wl.q rfl (Qy.assign rfl) ?_
  refine Wl.done ?_
  refine Ar.next ?_
  refine Wc.seq ?_
  refine Wc.region rfl ?_
  refine Wl.q rfl (Qy.loadAll 0 T.agg25 rfl rfl rfl) ?_
  refine Wl.call0 rfl T.fn10 rfl (c10 _ p _ _ _ _ (by assumption) (by assumption) (by omega) (by omega)) ?_
  refine Wl.q rfl (Qy.assign rfl) ?_
  refine Wl.done ?_
  refine Ar.next ?_
  refine Wc.seq ?_
  refine Wc.seq ?_
  refine Wc.region rfl ?_
  refine Wl.q rfl (Qy.move rfl) ?_
  refine Wl.q rfl (Qy.notD rfl) ?_
  refine Wl.q rfl (Qy.move rfl) ?_
  apply Wl.joinOr 6 15 21 rfl
  intro hg1
  refine Wl.want rfl rfl ?_
  refine Wl.q rfl (Qy.fieldAddr T.fa25_0 rfl) ?_
  refine Wl.want rfl rfl ?_
  refine Wl.q rfl (Qy.load 0 T.one3 rfl rfl rfl) ?_
  refine Wl.want rfl rfl ?_
  refine Wl.q rfl (Qy.move rfl) ?_
  refine Wl.want rfl rfl ?_
  refine Wl.q rfl (Qy.len T.sl47 rfl) ?_
  refine Wl.want rfl rfl ?_
  refine Wl.q rfl (Qy.neq rfl rfl) ?_
  refine Wl.q rfl (Qy.pick rfl rfl) ?_
  exact Wl.back 6 0 rfl rfl rfl rfl rfl
  intro hg1
  refine Wl.pass rfl rfl rfl ?_
  refine Wl.pass rfl rfl rfl ?_
  refine Wl.pass rfl rfl rfl ?_
  refine Wl.pass rfl rfl rfl ?_
  refine Wl.pass rfl rfl rfl ?_
  refine Wl.q rfl (Qy.pick rfl rfl) ?_
  exact Wl.back 6 0 rfl rfl rfl rfl rfl
  refine Wl.q rfl (Qy.move rfl) ?_
  apply Wl.joinOr 7 22 29 rfl
  intro hg1
  refine Wl.want rfl rfl ?_
  refine Wl.q rfl (Qy.fieldAddr T.fa25_3 rfl) ?_
  refine Wl.want rfl rfl ?_
  refine Wl.q rfl (Qy.load 0 T.one23 rfl rfl rfl) ?_
  refine Wl.want rfl rfl ?_
  refine Wl.q rfl (Qy.len T.sl23 rfl) ?_
  refine Wl.want rfl rfl ?_
  refine Wl.q rfl (Qy.move rfl) ?_
  refine Wl.want rfl rfl ?_
  refine Wl.q rfl (Qy.len T.sl47 rfl) ?_
  refine Wl.want rfl rfl ?_
  refine Wl.q rfl (Qy.neq rfl rfl) ?_
  refine Wl.q rfl (Qy.pick rfl rfl) ?_
  exact Wl.back 7 0 rfl rfl rfl rfl rfl
  intro hg1
  refine Wl.pass rfl rfl rfl ?_
  refine Wl.pass rfl rfl rfl ?_
  refine Wl.pass rfl rfl rfl ?_
  refine Wl.pass rfl rfl rfl ?_
  refine Wl.pass rfl rfl rfl ?_
  refine Wl.pass rfl rfl rfl ?_
  refine Wl.q rfl (Qy.pick rfl rfl) ?_
  exact Wl.back 7 0 rfl rfl rfl rfl rfl
  refine Wl.done ?_
  refine Ar.next ?_
  refine Wc.cond rfl (fun hc1 => ?_) (fun hc1 => ?_)
  refine Wc.seq ?_
  refine Wc.region rfl ?_
  refine Wl.q rfl (Qy.assign rfl) ?_
  refine Wl.done ?_
  refine Ar.next ?_
  refine Wc.ret ?_
  refine Ar.passRet ?_
  rotate_left
  refine Wc.skip ?_
  refine Ar.next ?_
  refine Wc.seq ?_
  refine Wc.draw [0] [(0, 3)] T.mixed rfl ?_
  refine Gm.q 0 [0] (by kernel_rfl) rfl rfl (Qy.loadAll 0 T.agg25 rfl rfl rfl) ?_
  refine Gm.q 1 [] (by kernel_rfl) rfl rfl (Qy.move rfl) ?_
  refine Gm.one 2 ⟨rfl, trivial⟩ (by first | exact Imm.le_refl _ | repeat (first | assumption | refine Imm.le_trans ?_ (by assumption))) (by kernel_rfl) rfl ?_
  refine Wl.call 1 rfl T.fn29 rfl (c29 _ _ _ l (by assumption) (by omega) hlc hr1 hr2) (tags_of trivial) (fun v1 G1 Ho1 hle1 hp => ?_)
  obtain ⟨ws1, wr1, wc1, rfl, hwA1, hwB1, hwL1, rfl⟩ := hp
  replace hc := hc.up hle1
  replace ho := ho.up hle1
  replace ha := ha.up hle1
  refine Wl.on0 ?_
  refine Gm.one 3 ⟨rfl, trivial⟩ (by first | exact Imm.le_refl _ | repeat (first | assumption | refine Imm.le_trans ?_ (by assumption))) (by kernel_rfl) rfl ?_
  rotate_left
  · refine Ar.out1 (.inr rfl) (Ho := []) rfl (.tmp rfl) trivial ?_
    refine ⟨?_, rfl⟩
    congr 1
    refine (decide_eq_false fun h => ?_).symm
    obtain ⟨h1, h2, h3, _⟩ := h
    rcases hc1 with (h | h) | h
    · exact h h1
    · exact h h2
    · omega
  have hR : rightP p = true := Classical.byContradiction fun h => hc1 (.inl (.inl h))
  have hpi : p.ins = l.length := Classical.byContradiction fun h => hc1 (.inl (.inr h))
  have hpo : p.outs.length = l.length := Classical.byContradiction fun h => hc1 (.inr (by omega))
  have hwl : wr1.length = l.length := hwB1.1.trans (gridR_lenN l)
  cases hf : followP p (gridR l) with
  | none =>
    refine Wl.call 1 rfl T.fn84 rfl (follow_none _ p _ _ _ _ _ _ _ (gridR l) l.length (by assumption) (by assumption) (by assumption) (ngrid_grid hwB1) hev (by omega) hR (by omega) hcl hf) (tags_of trivial) (fun v2 G2 Ho2 hle2 hp => ?_)
    obtain ⟨sv2, bad2, rfl, hbad2, rfl⟩ := hp
    replace hwA1 := hwA1.up hle2
    replace hc := hc.up hle2
    replace ho := ho.up hle2
    replace ha := ha.up hle2
    refine Wl.on0 ?_
    refine Gm.q 4 [] (by kernel_rfl) rfl rfl (Qy.move rfl) ?_
    refine Gm.q 5 [] (by kernel_rfl) rfl rfl (Qy.extract rfl rfl) ?_
    refine Gm.q 6 [] (by kernel_rfl) rfl rfl (Qy.extract rfl rfl) ?_
    refine Gm.q 7 [] (by kernel_rfl) rfl rfl (Qy.extract rfl rfl) ?_
    refine Gm.q 8 [] (by kernel_rfl) rfl rfl (Qy.assign rfl) ?_
    refine Gm.q 9 [] (by kernel_rfl) rfl rfl (Qy.assign rfl) ?_
    refine Gm.q 10 [] (by kernel_rfl) rfl rfl (Qy.assign rfl) ?_
    refine Gm.doneA (by kernel_rfl) trivial (by first | exact Imm.le_refl _ | repeat (first | assumption | refine Imm.le_trans ?_ (by assumption))) ?_
    refine Ar.next ?_
    refine Wc.seq ?_
    refine Wc.seq ?_
    refine Wc.region rfl ?_
    refine Wl.q rfl (Qy.move rfl) ?_
    refine Wl.q rfl (Qy.geq rfl rfl) ?_
    refine Wl.done ?_
    refine Ar.next ?_
    refine Wc.condP rfl (by first | assumption | omega) ?_
    refine Wc.seq ?_
    refine Wc.region rfl ?_
    refine Wl.q rfl (Qy.assign rfl) ?_
    refine Wl.done ?_
    refine Ar.next ?_
    refine Wc.ret ?_
    refine Ar.passRet ?_
    refine Ar.out1 (.inr rfl) (Ho := []) rfl (.tmp rfl) trivial ?_
    refine ⟨?_, rfl⟩
    congr 1
    refine (decide_eq_false fun h => ?_).symm
    have h4 := h.2.2.2
    rw [hf] at h4
    cases h4
  | some os =>
    refine Wl.call 1 rfl T.fn84 rfl (follow_some _ p _ _ _ _ _ _ _ (gridR l) l.length (by assumption) (by assumption) (by assumption) (ngrid_grid hwB1) hev (by omega) hR (by omega) hcl os hf) (tags_of trivial) (fun v2 G2 Ho2 hle2 hp => ?_)
    obtain ⟨sv2, oa2, oc2, ol2, rfl, hoA2, hoG2, rfl⟩ := hp
    replace hwA1 := hwA1.up hle2
    replace hc := hc.up hle2
    replace ho := ho.up hle2
    replace ha := ha.up hle2
    refine Wl.on0 ?_
    refine Gm.q 4 [] (by kernel_rfl) rfl rfl (Qy.move rfl) ?_
    refine Gm.q 5 [] (by kernel_rfl) rfl rfl (Qy.extract rfl rfl) ?_
    refine Gm.q 6 [] (by kernel_rfl) rfl rfl (Qy.extract rfl rfl) ?_
    refine Gm.q 7 [] (by kernel_rfl) rfl rfl (Qy.extract rfl rfl) ?_
    refine Gm.q 8 [] (by kernel_rfl) rfl rfl (Qy.assign rfl) ?_
    refine Gm.q 9 [] (by kernel_rfl) rfl rfl (Qy.assign rfl) ?_
    refine Gm.q 10 [] (by kernel_rfl) rfl rfl (Qy.assign rfl) ?_
    refine Gm.doneA (by kernel_rfl) trivial (by first | exact Imm.le_refl _ | repeat (first | assumption | refine Imm.le_trans ?_ (by assumption))) ?_
    refine Ar.next ?_
    refine Wc.seq ?_
    refine Wc.seq ?_
    refine Wc.region rfl ?_
    refine Wl.q rfl (Qy.move rfl) ?_
    refine Wl.q rfl (Qy.geq rfl rfl) ?_
    refine Wl.done ?_
    refine Ar.next ?_
    refine Wc.condN rfl (by first | assumption | omega) ?_
    refine Wc.skip ?_
    refine Ar.next ?_
    refine Wc.seq ?_
    refine Wc.seq ?_
    refine Wc.region rfl ?_
    refine Wl.q rfl (Qy.assign rfl) ?_
    refine Wl.done ?_
    refine Ar.next ?_
    refine Wc.block ?_
    have hol2 : ol2.length = l.length := by rw [hoG2.1, follow_len hf, hpo]
    have hose := follow_even hR hev (by rw [gridR_lenN]; omega) hf
    refine Wc.loopG (ι := Nat × Imm) (fun (j, Gx) => ([(9, .int .i64 (j : Int)), (8, Go.Value.slice oa2 (List.length ol2) oc2), (1, Go.Value.slice a (List.length l) c)], [(0, Option.some b1, Go.Obj.cells #[Go.Value.int Go.IntKind.i64 (Go.Proofs.Ytbppmiimeccclaa.PV.ins p), Go.Value.int Go.IntKind.i64 (Go.Proofs.Ytbppmiimeccclaa.PV.regs p), Go.Value.slice ac (List.length (Go.Proofs.Ytbppmiimeccclaa.PV.code p)) cc, Go.Value.slice ao (List.length (Go.Proofs.Ytbppmiimeccclaa.PV.outs p)) co] 25)])) (fun (j, Gx) => Gx) (fun (j, Gx) => j ≤ l.length ∧ G2.le Gx ∧ (∀ i, i < j → os[i]?.getD [] = unitR l.length i)) (fun (j, Gx) => l.length - j) ((0, G2)) (⟨Nat.zero_le _, Imm.le_refl _, fun i h => absurd h (by omega)⟩) rfl ⟨rfl, rfl, rfl, trivial⟩ ⟨rfl, trivial⟩ (fun ⟨j, Gx⟩ => fun (hk : j ≤ l.length ∧ G2.le Gx ∧ (∀ i, i < j → os[i]?.getD [] = unitR l.length i)) => ?_)
    obtain ⟨hj1, hj2, hj3⟩ := hk
    replace ha := ha.up hj2
    replace hoA2 := hoA2.up hj2
    rcases Nat.lt_or_ge j l.length with hjl | hjl
    · refine Wc.seq ?_
      refine Wc.seq ?_
      refine Wc.region rfl ?_
      refine Wl.q rfl (Qy.move rfl) ?_
      refine Wl.q rfl (Qy.move rfl) ?_
      refine Wl.q rfl (Qy.len T.sl47 rfl) ?_
      refine Wl.q rfl (Qy.lss rfl rfl) ?_
      refine Wl.done ?_
      refine Ar.next ?_
      refine Wc.condP rfl (by first | assumption | omega) ?_
      refine Wc.skip ?_
      refine Ar.next ?_
      refine Wc.seq ?_
      refine Wc.block ?_
      refine Wc.seq ?_
      refine Wc.region rfl ?_
      refine Wl.q rfl (Qy.move rfl) ?_
      refine Wl.q rfl (Qy.len T.sl47 rfl) ?_
      refine Wl.call 20 rfl T.fn41 rfl (c41W _ l.length (by omega)) (tags_of trivial) (fun v3 G3 Ho3 hle3 hp => ?_)
      obtain ⟨ub, rfl, rfl, huo, rfl⟩ := hp
      refine Wl.q rfl (Qy.assign rfl) ?_
      refine Wl.done ?_
      refine Ar.next ?_
      refine Wc.seq ?_
      refine Wc.region rfl ?_
      refine Wl.q rfl (Qy.move rfl) ?_
      refine Wl.q rfl (Qy.move rfl) ?_
      refine Wl.call 21 rfl T.fn85 rfl (c85 _ 1 (by decide)) (tags_of trivial) (fun v4 G4 Ho4 hle4 hp => ?_)
      obtain ⟨ro4, rfl, hro4, rfl⟩ := hp
      replace ha := ha.up hle4
      replace hoA2 := hoA2.up hle4
      refine Wl.q rfl (Qy.indexAddrO (α := IV) T.sl57 rfl rfl huo (by rw [List.length_replicate]; omega)) ?_
      refine Wl.setO (α := IV) (z := ro4) 20 T.size63 rfl rfl rfl huo (by rw [List.length_replicate]; omega) rfl (fun huo2 => ?_)
      refine Wl.done ?_
      refine Ar.next ?_
      refine Wc.seq ?_
      refine Wc.region rfl ?_
      refine Wl.q rfl (Qy.move rfl) ?_
      refine Wl.q rfl (Qy.move rfl) ?_
      refine Wl.q rfl (Qy.at (α := SV) T.sl54 rfl rfl (by assumption) (by omega)) ?_
      refine Wl.q rfl (Qy.loadG T.one57 rfl (Arr.cell (by assumption) (by omega) 0 rfl rfl)) ?_
      refine Wl.q rfl (Qy.move rfl) ?_
      have hRow : RowS G4 (ol2[((j : Nat) : Int).toNat]?.getD default) (os[j]?.getD []) := (hoG2.up (Imm.le_trans hj2 hle4)).2 j (by omega)
      have hose2 : (os[j]?.getD []).length = l.length ∧ Go.Sl.Below (4 + 5 * p.code.length) (os[j]?.getD []) := hose.at (k := (j : Int)) (by rw [follow_len hf]; omega)
      refine Wl.callB 30 rfl T.fn86 rfl (fun Gy hGy hgy => row_same Gy (ol2[((j : Nat) : Int).toNat]?.getD default) ⟨some ⟨ub, 0, none⟩, (List.replicate l.length (default : IV)).length, l.length⟩ (os[j]?.getD []) (unitR l.length j) (hRow.up hGy)
        ⟨(List.replicate l.length (default : IV)).set j ro4, by rw [List.length_set], by rw [List.length_replicate]; exact Nat.le_refl _, Arr.own hgy 20 rfl huo2, unit_nums (hro4.up hGy) hjl⟩ (4 + 5 * p.code.length) (by omega) hose2.2 (unit_below _ _ _ (by omega)) ?_ ?_) (fun v5 Gy5 G5 Ho5 hle5 hp => ?_)
      · obtain ⟨q, hq1, _, _, hq4⟩ := hRow
        rw [← hq1, hq4.1, hose2.1]; omega
      · show (List.replicate l.length (default : IV)).length ≤ 1048576
        rw [List.length_replicate]; omega
      · obtain ⟨rfl, rfl, rfl⟩ := hp
        refine Wl.q rfl (Qy.notD rfl) ?_
        refine Wl.done ?_
        refine Ar.next ?_
        refine Wc.cond rfl (fun hc2 => ?_) (fun hc2 => ?_)
        refine Wc.seq ?_
        refine Wc.region rfl ?_
        refine Wl.q rfl (Qy.assign rfl) ?_
        refine Wl.done ?_
        refine Ar.next ?_
        refine Wc.ret ?_
        refine Ar.outRet ?_
        refine Ar.passRet ?_
        refine Ar.passRet ?_
        refine Ar.outRet ?_
        refine Ar.passRet ?_
        rotate_left
        refine Wc.skip ?_
        refine Ar.outNormal ?_
        refine Ar.next ?_
        refine Wc.region rfl ?_
        refine Wl.q rfl (Qy.move rfl) ?_
        refine Wl.q rfl (Qy.add rfl rfl (by omega)) ?_
        refine Wl.q rfl (Qy.assign rfl) ?_
        refine Wl.done ?_
        rotate_left
        · refine Ar.out1 (.inr rfl) (Ho := []) rfl (.tmp rfl) trivial ?_
          refine ⟨?_, rfl⟩
          congr 1
          refine (decide_eq_false fun h => ?_).symm
          have h4 := h.2.2.2
          rw [hf] at h4
          have h5 : os = (List.range l.length).map (unitR l.length) := Option.some.inj h4
          refine hc2 ?_
          rw [h5, List.getElem?_map, List.getElem?_range hjl]; rfl
        · refine Ar.re 9 rfl (show _ = Value.int .i64 ((j + 1 : Nat) : Int) from rfl) ?_
          refine Ar.again ((j + 1, _)) ?_ ?_ rfl ⟨rfl, rfl, rfl, trivial⟩ ⟨rfl, trivial⟩
          · refine ⟨hjl, Imm.le_trans hj2 hle4, fun i hi => ?_⟩
            rcases Nat.lt_or_ge i j with h | h
            · exact hj3 i h
            · have e : i = j := by omega
              subst e
              exact Classical.byContradiction fun h => hc2 h
          · show l.length - (j + 1) < l.length - j
            omega
    · have hje : j = l.length := by omega
      subst hje
      refine Wc.seq ?_
      refine Wc.seq ?_
      refine Wc.region rfl ?_
      refine Wl.q rfl (Qy.move rfl) ?_
      refine Wl.q rfl (Qy.move rfl) ?_
      refine Wl.q rfl (Qy.len T.sl47 rfl) ?_
      refine Wl.q rfl (Qy.lss rfl rfl) ?_
      refine Wl.done ?_
      refine Ar.next ?_
      refine Wc.condN rfl (by first | assumption | omega) ?_
      refine Wc.exit ?_
      refine Ar.passExit ?_
      refine Ar.passExit ?_
      refine Ar.here ?_
      refine Ar.next ?_
      refine Wc.seq ?_
      refine Wc.region rfl ?_
      refine Wl.q rfl (Qy.assign rfl) ?_
      refine Wl.done ?_
      refine Ar.next ?_
      refine Wc.ret ?_
      refine Ar.out1 (.inr rfl) (Ho := []) rfl (.tmp rfl) trivial ?_
      refine ⟨?_, rfl⟩
      congr 1
      refine (decide_eq_true ⟨hR, hpi, hpo, ?_⟩).symm
      rw [hf]
      congr 1
      have hosl : os.length = l.length := by rw [follow_len hf, hpo]
      apply List.ext_getElem
      · rw [hosl, List.length_map, List.length_range]
      · intro i h1 h2
        have h3 := hj3 i (by omega)
        rw [List.getElem?_eq_getElem h1] at h3
        rw [List.getElem_map, List.getElem_range]
        exact h3
end Go.Proofs.Ytbppmiimeccclaa
set_option maxRecDepth 100000
set_option linter.unusedVariables false
namespace Go.Proofs.Ytbppmiimeccclaa
open Go Go.Sl
set_option maxHeartbeats 4000000
/-- 0 to n - 1 -/
def idx (n : Nat) : List Int := (List.range n).map fun (k : Nat) => (k : Int)
theorem idx_len (n : Nat) : (idx n).length = n := by unfold idx; rw [List.length_map, List.length_range]
theorem idx_succ (n : Nat) : idx (n + 1) = idx n ++ [(n : Int)] := by unfold idx; rw [List.range_succ, List.map_append]; rfl
theorem c82 (G : Imm) (n : Nat) (hn : n ≤ 1048576) :
    Does Try.prog 82 [.int .i64 (n : Int)] G [] (fun v G' Ho => ∃ (s : Option Addr) (c : Nat), v = .slice s (idx n).length c ∧ Arr G' s (idx n) ∧ (idx n).length ≤ c ∧ Ho = []) := by
  refine Does.enter Try.func82 rfl Try.ntmps82 rfl (fun w => ?_)
  refine Wc.nilRow 9 (Row 3 ([] : List Int) []) ?_
  refine Wc.seq ?_
  refine Wc.region rfl ?_
  refine Wl.q rfl (Qy.assign rfl) ?_
  refine Wl.done ?_
  refine Ar.next ?_
  refine Wc.seq ?_
  refine Wc.region rfl ?_
  refine Wl.q rfl (Qy.assign rfl) ?_
  refine Wl.done ?_
  refine Ar.next ?_
  refine Wc.seq ?_
  refine Wc.seq ?_
  refine Wc.region rfl ?_
  refine Wl.q rfl (Qy.move rfl) ?_
  refine Wl.q rfl (Qy.move rfl) ?_
  refine Wl.done ?_
  refine Ar.next ?_
  refine Wc.block ?_
  refine Wc.loop (ι := Nat × (Option Addr × Nat × List Value)) (fun (k, (o, d, j)) => ([(6, .int .i64 (k : Int)), (3, .slice o (idx k).length d), (5, Go.Value.int Go.IntKind.i64 (↑n : Int)), (2, Go.Value.slice Option.none 0 0)], [(9, o.map (·.block), Row 3 (idx k) j)])) (fun (k, (o, d, j)) => k ≤ n ∧ OwnA o d (idx k) j) (fun (k, (o, d, j)) => n - k) ((0, (none, 0, []))) (⟨Nat.zero_le _, OwnA.nil⟩) ⟨rfl, rfl, rfl, rfl, trivial⟩ ⟨rfl, trivial⟩ (fun ⟨k, (o, d, j)⟩ => fun (hk : k ≤ n ∧ OwnA o d (idx k) j) => ?_)
  obtain ⟨hk1, hk2⟩ := hk
  have hkl := idx_len k
  rcases Nat.lt_or_ge k n with hke | hke
  · refine Wc.seq ?_
    refine Wc.region rfl ?_
    refine Wl.q rfl (Qy.lss rfl rfl) ?_
    refine Wl.done ?_
    refine Ar.next ?_
    refine Wc.seq ?_
    refine Wc.condP rfl (by first | assumption | omega) ?_
    refine Wc.skip ?_
    refine Ar.next ?_
    refine Wc.seq ?_
    refine Wc.block ?_
    refine Wc.seq ?_
    refine Wc.region rfl ?_
    refine Wl.q rfl (Qy.move rfl) ?_
    refine Wl.q rfl (Qy.assign rfl) ?_
    refine Wl.done ?_
    refine Ar.next ?_
    refine Wc.region rfl ?_
    refine Wl.q rfl (Qy.move rfl) ?_
    refine Wl.q rfl (Qy.move rfl) ?_
    refine Wl.lit (α := Int) 10 [((↑k : Int))] rfl T.sl23 T.el3 rfl rfl rfl rfl rfl (fun b1 => ?_)
    refine Wl.append (α := Int) 9 rfl T.sl23 T.el3 rfl rfl rfl (by first | assumption | exact OwnA.nil | exact OwnA.made (by simp)) (Src.row 10 rfl) (by first | omega | (simp only [List.length_append, List.length_cons, List.length_nil, maxLen]; omega)) (by first | omega | (simp only [List.length_append, List.length_cons, List.length_nil, maxLen]; omega)) (fun a1 c1 junk1 ho1 => ?_)
    refine Wl.q rfl (Qy.assign rfl) ?_
    refine Wl.done ?_
    refine Ar.outNormal ?_
    refine Ar.next ?_
    refine Wc.region rfl ?_
    refine Wl.q rfl (Qy.add rfl rfl (by omega)) ?_
    refine Wl.q rfl (Qy.move rfl) ?_
    refine Wl.done ?_
    refine Ar.re 6 rfl (show _ = Value.int .i64 ((k + 1 : Nat) : Int) from rfl) ?_
    refine Ar.re 3 rfl (show _ = Value.slice a1 (idx (k + 1)).length c1 by rw [idx_succ]) ?_
    refine Ar.reH 9 (Row 3 (idx (k + 1)) junk1) rfl (by rw [idx_succ]) ?_
    refine Ar.again ((k + 1, (a1, c1, junk1))) ?_ ?_ rfl ⟨rfl, rfl, rfl, rfl, trivial⟩ ⟨rfl, trivial⟩
    · exact ⟨hke, by rw [idx_succ]; exact ho1⟩
    · show n - (k + 1) < n - k
      omega
  · have hke : k = n := by omega
    subst hke
    refine Wc.seq ?_
    refine Wc.region rfl ?_
    refine Wl.q rfl (Qy.lss rfl rfl) ?_
    refine Wl.done ?_
    refine Ar.next ?_
    refine Wc.seq ?_
    refine Wc.condN rfl (by first | assumption | omega) ?_
    refine Wc.exit ?_
    refine Ar.passExit ?_
    refine Ar.passExit ?_
    refine Ar.here ?_
    refine Ar.next ?_
    refine Wc.seq ?_
    refine Wc.region rfl ?_
    refine Wl.q rfl (Qy.move rfl) ?_
    refine Wl.q rfl (Qy.assign rfl) ?_
    refine Wl.done ?_
    refine Ar.next ?_
    refine Wc.ret ?_
    refine Ar.freezeRow 9 rfl hk2 (fun G8 hle8 hA8 => ?_)
    refine Ar.out1 (.inr rfl) (Ho := []) rfl (.tmp rfl) trivial ?_
    exact ⟨_, _, rfl, hA8, hk2.le, rfl⟩
/-- how many points have coordinates with a common factor -/
def uneven (l : List R2) : Nat := (l.filter fun p => decide (Int.gcd p.a p.b ≠ 1)).length
theorem c34 (G : Imm) (p : PV) (ac ao : Option Addr) (cc co : Nat) :
    Does Try.prog 34 [.agg #[.int .i64 p.ins, .int .i64 p.regs, .slice ac p.code.length cc, .slice ao p.outs.length co]] G [] (fun v G' Ho => v = .bool (decide (((p.ins = 0 ∧ p.regs = 0) ∧ p.code.length = 0) ∧ p.outs.length = 0)) ∧ G' = G ∧ Ho = []) := by
  refine Does.enter Try.func34 rfl Try.ntmps34 rfl (fun w => ?_)
  refine Wc.seq ?_
  refine Wc.region rfl ?_
  refine Wl.box 0 rfl rfl rfl (fun b1 => ?_)
  refine Wl.q rfl (Qy.assign rfl) ?_
  refine Wl.done ?_
  refine Ar.next ?_
  refine Wc.seq ?_
  refine Wc.region rfl ?_
  refine Wl.q rfl (Qy.fieldAddr T.fa25_0 rfl) ?_
  refine Wl.q rfl (Qy.load 0 T.one3 rfl rfl rfl) ?_
  refine Wl.q rfl (Qy.eql rfl rfl) ?_
  refine Wl.q rfl (Qy.move rfl) ?_
  apply Wl.joinAnd 4 6 10 rfl
  intro hg1
  refine Wl.want rfl rfl ?_
  refine Wl.q rfl (Qy.fieldAddr T.fa25_1 rfl) ?_
  refine Wl.want rfl rfl ?_
  refine Wl.q rfl (Qy.load 0 T.one3 rfl rfl rfl) ?_
  refine Wl.want rfl rfl ?_
  refine Wl.q rfl (Qy.eql rfl rfl) ?_
  refine Wl.q rfl (Qy.pick rfl rfl) ?_
  exact Wl.back 4 0 rfl rfl rfl rfl rfl
  intro hg1
  refine Wl.pass rfl rfl rfl ?_
  refine Wl.pass rfl rfl rfl ?_
  refine Wl.pass rfl rfl rfl ?_
  refine Wl.q rfl (Qy.pick rfl rfl) ?_
  exact Wl.back 4 0 rfl rfl rfl rfl rfl
  refine Wl.q rfl (Qy.move rfl) ?_
  apply Wl.joinAnd 5 11 16 rfl
  intro hg1
  refine Wl.want rfl rfl ?_
  refine Wl.q rfl (Qy.fieldAddr T.fa25_2 rfl) ?_
  refine Wl.want rfl rfl ?_
  refine Wl.q rfl (Qy.load 0 T.one22 rfl rfl rfl) ?_
  refine Wl.want rfl rfl ?_
  refine Wl.q rfl (Qy.len T.sl22 rfl) ?_
  refine Wl.want rfl rfl ?_
  refine Wl.q rfl (Qy.eql rfl rfl) ?_
  refine Wl.q rfl (Qy.pick rfl rfl) ?_
  exact Wl.back 5 0 rfl rfl rfl rfl rfl
  intro hg1
  refine Wl.pass rfl rfl rfl ?_
  refine Wl.pass rfl rfl rfl ?_
  refine Wl.pass rfl rfl rfl ?_
  refine Wl.pass rfl rfl rfl ?_
  refine Wl.q rfl (Qy.pick rfl rfl) ?_
  exact Wl.back 5 0 rfl rfl rfl rfl rfl
  refine Wl.q rfl (Qy.move rfl) ?_
  apply Wl.joinAnd 5 17 22 rfl
  intro hg1
  refine Wl.want rfl rfl ?_
  refine Wl.q rfl (Qy.fieldAddr T.fa25_3 rfl) ?_
  refine Wl.want rfl rfl ?_
  refine Wl.q rfl (Qy.load 0 T.one23 rfl rfl rfl) ?_
  refine Wl.want rfl rfl ?_
  refine Wl.q rfl (Qy.len T.sl23 rfl) ?_
  refine Wl.want rfl rfl ?_
  refine Wl.q rfl (Qy.eql rfl rfl) ?_
  refine Wl.q rfl (Qy.pick rfl rfl) ?_
  exact Wl.back 5 0 rfl rfl rfl rfl rfl
  intro hg1
  refine Wl.pass rfl rfl rfl ?_
  refine Wl.pass rfl rfl rfl ?_
  refine Wl.pass rfl rfl rfl ?_
  refine Wl.pass rfl rfl rfl ?_
  refine Wl.q rfl (Qy.pick rfl rfl) ?_
  exact Wl.back 5 0 rfl rfl rfl rfl rfl
  refine Wl.q rfl (Qy.assign rfl) ?_
  refine Wl.done ?_
  refine Ar.next ?_
  refine Wc.ret ?_
  refine Ar.out1 (.inr rfl) (Ho := Hp.only _ []) rfl (.tmp rfl) (Hp.sub_only _ _) ?_
  exact ⟨by congr 1; exact decide_eq_decide.mpr (by omega), rfl, rfl⟩
end Go.Proofs.Ytbppmiimeccclaa
set_option maxRecDepth 100000
set_option linter.unusedVariables false
namespace Go.Proofs.Ytbppmiimeccclaa
open Go Go.Sl
set_option maxHeartbeats 4000000
/-- a division? -/
def isDiv (i : Sl.Instr) : Prop := i.op = 6 ∨ i.op = 8
instance (i : Sl.Instr) : Decidable (isDiv i) := inferInstanceAs (Decidable (_ ∨ _))
/-- a constant that is too great -/
def farC (i : Sl.Instr) : Prop := (i.op = 6 ∨ i.op = 5) ∧ (512 < i.c ∨ i.c < -512)
instance (i : Sl.Instr) : Decidable (farC i) := inferInstanceAs (Decidable (_ ∧ _))
def divs (c : List Sl.Instr) : Nat := (c.filter fun i => decide (isDiv i)).length
/-- no more divisions than allowed, constants within reach -/
def FewP (p : PV) (l : List R2) : Prop := (∀ i ∈ p.code, ¬ farC i) ∧ (divs p.code : Int) ≤ (l.length : Int) * ((l.length : Int) - 1) / 2 + ((l.length : Int) - 1) * (uneven l : Int)
instance (p : PV) (l : List R2) : Decidable (FewP p l) := inferInstanceAs (Decidable (_ ∧ _))
end Go.Proofs.Ytbppmiimeccclaa
set_option maxRecDepth 100000
set_option linter.unusedVariables false
namespace Go.Proofs.Ytbppmiimeccclaa
open Go Go.Sl
set_option maxHeartbeats 4000000
theorem c158 (G : Imm) (b : Nat) (n : Int) (ac : Option Addr) (cc : Nat) (code : List Sl.Instr) (j : List Value) (wa : Option Addr) (wn wc : Nat) (op to x y c : Int) (ho : OwnA ac cc code j) (hl : code.length ≤ 1048576) :
    Does Try.prog 158 [.pointer (some ⟨b, 0, none⟩), .int .i64 op, .int .i64 to, .int .i64 x, .int .i64 y, .int .i64 c] G [(0, some b, .cells #[.int .i64 n, .slice ac code.length cc, .slice wa wn wc] 175), (1, ac.map (·.block), Row 72 code j)]
      (fun v G' Ho => v = .tuple #[] ∧ G' = G ∧ ∃ (a' : Option Addr) (c' : Nat) (j' : List Value), OwnA a' c' (code ++ [⟨op, to, x, y, c⟩]) j' ∧ Ho = [(0, some b, .cells #[.int .i64 n, .slice a' (code ++ [(⟨op, to, x, y, c⟩ : Sl.Instr)]).length c', .slice wa wn wc] 175), (1, a'.map (·.block), Row 72 (code ++ [⟨op, to, x, y, c⟩]) j')]) := by
  refine Does.enter Try.func158 rfl Try.ntmps158 rfl (fun w => ?_)
  refine Wc.region rfl ?_
  refine Wl.q rfl (Qy.move rfl) ?_
  refine Wl.q rfl (Qy.move rfl) ?_
  refine Wl.q rfl (Qy.nilCheck rfl) ?_
  refine Wl.q rfl (Qy.fieldAddr T.fa175_1 rfl) ?_
  refine Wl.q rfl (Qy.load 0 T.one22 rfl rfl rfl) ?_
  refine Wl.q rfl (Qy.move rfl) ?_
  refine Wl.q rfl (Qy.move rfl) ?_
  refine Wl.q rfl (Qy.move rfl) ?_
  refine Wl.q rfl (Qy.move rfl) ?_
  refine Wl.q rfl (Qy.move rfl) ?_
  refine Wl.q rfl (Qy.build (cs := [_, _, _, _, _]) T.st72 rfl rfl rfl) ?_
  refine Wl.lit (α := Sl.Instr) 2 [⟨op, to, x, y, c⟩] rfl T.sl22 T.el72 rfl rfl rfl rfl rfl (fun b1 => ?_)
  refine Wl.append (α := Sl.Instr) 1 rfl T.sl22 T.el72 rfl rfl rfl (by first | assumption | exact OwnA.nil | exact OwnA.made (by simp)) (Src.row 2 rfl) (by first | omega | (simp only [List.length_append, List.length_cons, List.length_nil, maxLen]; omega)) (by first | omega | (simp only [List.length_append, List.length_cons, List.length_nil, maxLen]; omega)) (fun a1 c1 junk1 ho1 => ?_)
  refine Wl.q rfl (Qy.nilCheck rfl) ?_
  refine Wl.q rfl (Qy.fieldAddr T.fa175_1 rfl) ?_
  refine Wl.store 0 T.one22 rfl rfl rfl rfl rfl ?_
  refine Wl.done ?_
  refine Ar.out0 (.inl rfl) (Ho := [(0, some b, .cells #[.int .i64 n, .slice a1 (code ++ [(⟨op, to, x, y, c⟩ : Sl.Instr)]).length c1, .slice wa wn wc] 175), (1, a1.map (·.block), Row 72 (code ++ [⟨op, to, x, y, c⟩]) junk1)]) rfl ⟨rfl, rfl, trivial⟩ ?_
  exact ⟨rfl, rfl, a1, c1, junk1, ho1, rfl⟩
end Go.Proofs.Ytbppmiimeccclaa
set_option maxRecDepth 100000
set_option linter.unusedVariables false
namespace Go.Proofs.Ytbppmiimeccclaa
open Go Go.Sl
set_option maxHeartbeats 4000000
/-- what over adds -/
def overI (to c : Int) : List Sl.Instr := if c = 1 then [] else if c = -1 then [⟨2, to, to, 0, 0⟩] else [⟨6, to, to, 0, c⟩]
theorem c124 (G : Imm) (b : Nat) (n : Int) (ac : Option Addr) (cc : Nat) (code : List Sl.Instr) (j : List Value) (wa : Option Addr) (wn wc : Nat) (to c : Int) (ho : OwnA ac cc code j) (hl : code.length ≤ 1048576) :
    Does Try.prog 124 [.pointer (some ⟨b, 0, none⟩), .int .i64 to, .int .i64 c] G [(0, some b, .cells #[.int .i64 n, .slice ac code.length cc, .slice wa wn wc] 175), (1, ac.map (·.block), Row 72 code j)]
      (fun v G' Ho => v = .tuple #[] ∧ G' = G ∧ ∃ (a' : Option Addr) (c' : Nat) (j' : List Value), OwnA a' c' (code ++ overI to c) j' ∧ Ho = [(0, some b, .cells #[.int .i64 n, .slice a' (code ++ overI to c).length c', .slice wa wn wc] 175), (1, a'.map (·.block), Row 72 (code ++ overI to c) j')]) := by
  refine Does.enter Try.func124 rfl Try.ntmps124 rfl (fun w => ?_)
  refine Wc.seq ?_
  refine Wc.region rfl ?_
  refine Wl.q rfl (Qy.move rfl) ?_
  refine Wl.done ?_
  refine Ar.next ?_
  refine Wc.block ?_
  refine Wc.seq ?_
  refine Wc.region rfl ?_
  refine Wl.q rfl (Qy.eql rfl rfl) ?_
  refine Wl.q rfl (Qy.assign rfl) ?_
  refine Wl.done ?_
  refine Ar.next ?_
  refine Wc.cond rfl (fun hc1 => ?_) (fun hc1 => ?_)
  refine Wc.skip ?_
  refine Ar.outNormal ?_
  rotate_left
  refine Wc.seq ?_
  refine Wc.region rfl ?_
  refine Wl.q rfl (Qy.eql rfl rfl) ?_
  refine Wl.q rfl (Qy.assign rfl) ?_
  refine Wl.done ?_
  refine Ar.next ?_
  refine Wc.cond rfl (fun hc2 => ?_) (fun hc2 => ?_)
  refine Wc.region rfl ?_
  refine Wl.q rfl (Qy.move rfl) ?_
  refine Wl.q rfl (Qy.move rfl) ?_
  refine Wl.q rfl (Qy.move rfl) ?_
  refine Wl.call 0 rfl T.fn158 rfl (c158 _ b n ac cc code j wa wn wc _ _ _ _ _ ho hl) (tags_of ⟨rfl, rfl, trivial⟩) (fun v1 G1 Ho1 hle1 hp => ?_)
  obtain ⟨rfl, rfl, a1, d1, j1, ho1, rfl⟩ := hp
  refine Wl.done ?_
  refine Ar.outNormal ?_
  rotate_left
  refine Wc.region rfl ?_
  refine Wl.q rfl (Qy.move rfl) ?_
  refine Wl.q rfl (Qy.move rfl) ?_
  refine Wl.q rfl (Qy.move rfl) ?_
  refine Wl.q rfl (Qy.move rfl) ?_
  refine Wl.call 0 rfl T.fn158 rfl (c158 _ b n ac cc code j wa wn wc _ _ _ _ _ ho hl) (tags_of ⟨rfl, rfl, trivial⟩) (fun v1 G1 Ho1 hle1 hp => ?_)
  obtain ⟨rfl, rfl, a1, d1, j1, ho1, rfl⟩ := hp
  refine Wl.done ?_
  refine Ar.outNormal ?_
  rotate_left
  · have e : overI to c = [] := by unfold overI; rw [if_pos hc1]
    rw [e, List.append_nil]
    refine Ar.out0 (by first | exact .inl rfl | exact .inr rfl) (Ho := [(0, some b, .cells #[.int .i64 n, .slice ac code.length cc, .slice wa wn wc] 175), (1, ac.map (·.block), Row 72 code j)]) rfl ⟨rfl, rfl, trivial⟩ ?_
    exact ⟨rfl, rfl, ac, cc, j, ho, rfl⟩
  · have e : overI to c = [⟨2, to, to, 0, 0⟩] := by unfold overI; rw [if_neg hc1, if_pos hc2]
    rw [e]
    refine Ar.out0 (by first | exact .inl rfl | exact .inr rfl) (Ho := [(0, some b, .cells #[.int .i64 n, .slice a1 (code ++ [(⟨2, to, to, 0, 0⟩ : Sl.Instr)]).length d1, .slice wa wn wc] 175), (1, a1.map (·.block), Row 72 (code ++ [⟨2, to, to, 0, 0⟩]) j1)]) rfl ⟨rfl, rfl, trivial⟩ ?_
    exact ⟨rfl, rfl, a1, d1, j1, ho1, rfl⟩
  · have e : overI to c = [⟨6, to, to, 0, c⟩] := by unfold overI; rw [if_neg hc1, if_neg hc2]
    rw [e]
    refine Ar.out0 (by first | exact .inl rfl | exact .inr rfl) (Ho := [(0, some b, .cells #[.int .i64 n, .slice a1 (code ++ [(⟨6, to, to, 0, c⟩ : Sl.Instr)]).length d1, .slice wa wn wc] 175), (1, a1.map (·.block), Row 72 (code ++ [⟨6, to, to, 0, c⟩]) j1)]) rfl ⟨rfl, rfl, trivial⟩ ?_
    exact ⟨rfl, rfl, a1, d1, j1, ho1, rfl⟩
/-- what times adds -/
def timesI (to x c : Int) : List Sl.Instr := if c = 0 then [⟨4, to, x, x, 0⟩] else if c = 1 ∧ to = x then [] else if c = 1 then [⟨1, to, x, 0, 0⟩] else if c = -1 then [⟨2, to, x, 0, 0⟩] else [⟨5, to, x, 0, c⟩]
theorem c126 (G : Imm) (b : Nat) (n : Int) (ac : Option Addr) (cc : Nat) (code : List Sl.Instr) (j : List Value) (wa : Option Addr) (wn wc : Nat) (to x c : Int) (ho : OwnA ac cc code j) (hl : code.length ≤ 1048576) :
    Does Try.prog 126 [.pointer (some ⟨b, 0, none⟩), .int .i64 to, .int .i64 x, .int .i64 c] G [(0, some b, .cells #[.int .i64 n, .slice ac code.length cc, .slice wa wn wc] 175), (1, ac.map (·.block), Row 72 code j)]
      (fun v G' Ho => v = .tuple #[] ∧ G' = G ∧ ∃ (a' : Option Addr) (c' : Nat) (j' : List Value), OwnA a' c' (code ++ timesI to x c) j' ∧ Ho = [(0, some b, .cells #[.int .i64 n, .slice a' (code ++ timesI to x c).length c', .slice wa wn wc] 175), (1, a'.map (·.block), Row 72 (code ++ timesI to x c) j')]) := by
  refine Does.enter Try.func126 rfl Try.ntmps126 rfl (fun w => ?_)
  refine Wc.block ?_
  refine Wc.seq ?_
  refine Wc.region rfl ?_
  refine Wl.q rfl (Qy.move rfl) ?_
  refine Wl.q rfl (Qy.eql rfl rfl) ?_
  refine Wl.q rfl (Qy.assign rfl) ?_
  refine Wl.done ?_
  refine Ar.next ?_
  refine Wc.cond rfl (fun hc1 => ?_) (fun hc1 => ?_)
  refine Wc.region rfl ?_
  refine Wl.q rfl (Qy.move rfl) ?_
  refine Wl.q rfl (Qy.move rfl) ?_
  refine Wl.q rfl (Qy.move rfl) ?_
  refine Wl.q rfl (Qy.move rfl) ?_
  refine Wl.call 0 rfl T.fn158 rfl (c158 _ b n ac cc code j wa wn wc _ _ _ _ _ ho hl) (tags_of ⟨rfl, rfl, trivial⟩) (fun v1 G1 Ho1 hle1 hp => ?_)
  obtain ⟨rfl, rfl, a1, d1, j1, ho1, rfl⟩ := hp
  refine Wl.done ?_
  refine Ar.outNormal ?_
  rotate_left
  refine Wc.seq ?_
  refine Wc.region rfl ?_
  refine Wl.q rfl (Qy.move rfl) ?_
  refine Wl.q rfl (Qy.eql rfl rfl) ?_
  refine Wl.q rfl (Qy.move rfl) ?_
  apply Wl.joinAnd 4 24 28 rfl
  intro hg1
  refine Wl.want rfl rfl ?_
  refine Wl.q rfl (Qy.move rfl) ?_
  refine Wl.want rfl rfl ?_
  refine Wl.q rfl (Qy.move rfl) ?_
  refine Wl.want rfl rfl ?_
  refine Wl.q rfl (Qy.eql rfl rfl) ?_
  refine Wl.q rfl (Qy.pick rfl rfl) ?_
  exact Wl.back 4 0 rfl rfl rfl rfl rfl
  intro hg1
  refine Wl.pass rfl rfl rfl ?_
  refine Wl.pass rfl rfl rfl ?_
  refine Wl.pass rfl rfl rfl ?_
  refine Wl.q rfl (Qy.pick rfl rfl) ?_
  exact Wl.back 4 0 rfl rfl rfl rfl rfl
  refine Wl.q rfl (Qy.assign rfl) ?_
  refine Wl.done ?_
  refine Ar.next ?_
  refine Wc.cond rfl (fun hc2 => ?_) (fun hc2 => ?_)
  refine Wc.skip ?_
  refine Ar.outNormal ?_
  rotate_left
  refine Wc.seq ?_
  refine Wc.region rfl ?_
  refine Wl.q rfl (Qy.move rfl) ?_
  refine Wl.q rfl (Qy.eql rfl rfl) ?_
  refine Wl.q rfl (Qy.assign rfl) ?_
  refine Wl.done ?_
  refine Ar.next ?_
  refine Wc.cond rfl (fun hc3 => ?_) (fun hc3 => ?_)
  refine Wc.region rfl ?_
  refine Wl.q rfl (Qy.move rfl) ?_
  refine Wl.q rfl (Qy.move rfl) ?_
  refine Wl.q rfl (Qy.move rfl) ?_
  refine Wl.call 0 rfl T.fn158 rfl (c158 _ b n ac cc code j wa wn wc _ _ _ _ _ ho hl) (tags_of ⟨rfl, rfl, trivial⟩) (fun v1 G1 Ho1 hle1 hp => ?_)
  obtain ⟨rfl, rfl, a1, d1, j1, ho1, rfl⟩ := hp
  refine Wl.done ?_
  refine Ar.outNormal ?_
  rotate_left
  refine Wc.seq ?_
  refine Wc.region rfl ?_
  refine Wl.q rfl (Qy.move rfl) ?_
  refine Wl.q rfl (Qy.eql rfl rfl) ?_
  refine Wl.q rfl (Qy.assign rfl) ?_
  refine Wl.done ?_
  refine Ar.next ?_
  refine Wc.cond rfl (fun hc4 => ?_) (fun hc4 => ?_)
  refine Wc.region rfl ?_
  refine Wl.q rfl (Qy.move rfl) ?_
  refine Wl.q rfl (Qy.move rfl) ?_
  refine Wl.q rfl (Qy.move rfl) ?_
  refine Wl.call 0 rfl T.fn158 rfl (c158 _ b n ac cc code j wa wn wc _ _ _ _ _ ho hl) (tags_of ⟨rfl, rfl, trivial⟩) (fun v1 G1 Ho1 hle1 hp => ?_)
  obtain ⟨rfl, rfl, a1, d1, j1, ho1, rfl⟩ := hp
  refine Wl.done ?_
  refine Ar.outNormal ?_
  rotate_left
  refine Wc.region rfl ?_
  refine Wl.q rfl (Qy.move rfl) ?_
  refine Wl.q rfl (Qy.move rfl) ?_
  refine Wl.q rfl (Qy.move rfl) ?_
  refine Wl.q rfl (Qy.move rfl) ?_
  refine Wl.call 0 rfl T.fn158 rfl (c158 _ b n ac cc code j wa wn wc _ _ _ _ _ ho hl) (tags_of ⟨rfl, rfl, trivial⟩) (fun v1 G1 Ho1 hle1 hp => ?_)
  obtain ⟨rfl, rfl, a1, d1, j1, ho1, rfl⟩ := hp
  refine Wl.done ?_
  refine Ar.outNormal ?_
  rotate_left
  · have e : timesI to x c = [⟨4, to, x, x, 0⟩] := by unfold timesI; rw [if_pos hc1]
    rw [e]
    refine Ar.out0 (by first | exact .inl rfl | exact .inr rfl) (Ho := [(0, some b, .cells #[.int .i64 n, .slice a1 (code ++ [(⟨4, to, x, x, 0⟩ : Sl.Instr)]).length d1, .slice wa wn wc] 175), (1, a1.map (·.block), Row 72 (code ++ [⟨4, to, x, x, 0⟩]) j1)]) rfl ⟨rfl, rfl, trivial⟩ ?_
    exact ⟨rfl, rfl, a1, d1, j1, ho1, rfl⟩
  · have e : timesI to x c = [] := by unfold timesI; rw [if_neg hc1, if_pos hc2]
    rw [e, List.append_nil]
    refine Ar.out0 (by first | exact .inl rfl | exact .inr rfl) (Ho := [(0, some b, .cells #[.int .i64 n, .slice ac code.length cc, .slice wa wn wc] 175), (1, ac.map (·.block), Row 72 code j)]) rfl ⟨rfl, rfl, trivial⟩ ?_
    exact ⟨rfl, rfl, ac, cc, j, ho, rfl⟩
  · have e : timesI to x c = [⟨1, to, x, 0, 0⟩] := by unfold timesI; rw [if_neg hc1, if_neg hc2, if_pos hc3]
    rw [e]
    refine Ar.out0 (by first | exact .inl rfl | exact .inr rfl) (Ho := [(0, some b, .cells #[.int .i64 n, .slice a1 (code ++ [(⟨1, to, x, 0, 0⟩ : Sl.Instr)]).length d1, .slice wa wn wc] 175), (1, a1.map (·.block), Row 72 (code ++ [⟨1, to, x, 0, 0⟩]) j1)]) rfl ⟨rfl, rfl, trivial⟩ ?_
    exact ⟨rfl, rfl, a1, d1, j1, ho1, rfl⟩
  · have e : timesI to x c = [⟨2, to, x, 0, 0⟩] := by unfold timesI; rw [if_neg hc1, if_neg hc2, if_neg hc3, if_pos hc4]
    rw [e]
    refine Ar.out0 (by first | exact .inl rfl | exact .inr rfl) (Ho := [(0, some b, .cells #[.int .i64 n, .slice a1 (code ++ [(⟨2, to, x, 0, 0⟩ : Sl.Instr)]).length d1, .slice wa wn wc] 175), (1, a1.map (·.block), Row 72 (code ++ [⟨2, to, x, 0, 0⟩]) j1)]) rfl ⟨rfl, rfl, trivial⟩ ?_
    exact ⟨rfl, rfl, a1, d1, j1, ho1, rfl⟩
  · have e : timesI to x c = [⟨5, to, x, 0, c⟩] := by unfold timesI; rw [if_neg hc1, if_neg hc2, if_neg hc3, if_neg hc4]
    rw [e]
    refine Ar.out0 (by first | exact .inl rfl | exact .inr rfl) (Ho := [(0, some b, .cells #[.int .i64 n, .slice a1 (code ++ [(⟨5, to, x, 0, c⟩ : Sl.Instr)]).length d1, .slice wa wn wc] 175), (1, a1.map (·.block), Row 72 (code ++ [⟨5, to, x, 0, c⟩]) j1)]) rfl ⟨rfl, rfl, trivial⟩ ?_
    exact ⟨rfl, rfl, a1, d1, j1, ho1, rfl⟩
end Go.Proofs.Ytbppmiimeccclaa
set_option maxRecDepth 100000
set_option linter.unusedVariables false
namespace Go.Proofs.Ytbppmiimeccclaa
open Go Go.Sl
set_option maxHeartbeats 4000000
theorem c127 (G : Imm) (b : Nat) (n m : Int) (sv wv : Value) (hn : 0 ≤ n ∧ n ≤ 1000) (hm : 0 ≤ m ∧ m ≤ 1000) :
    Does Try.prog 127 [.pointer (some ⟨b, 0, none⟩), .int .i64 m] G [(0, some b, .cells #[.int .i64 n, sv, wv] 175)] (fun v G' Ho => v = .int .i64 (n + m) ∧ G' = G ∧ Ho = [(0, some b, .cells #[.int .i64 n, sv, wv] 175)]) := by
  refine Does.enter Try.func127 rfl Try.ntmps127 rfl (fun w => ?_)
  refine Wc.seq ?_
  refine Wc.region rfl ?_
  refine Wl.q rfl (Qy.assign rfl) ?_
  refine Wl.done ?_
  refine Ar.next ?_
  refine Wc.seq ?_
  refine Wc.region rfl ?_
  refine Wl.q rfl (Qy.move rfl) ?_
  refine Wl.q rfl (Qy.nilCheck rfl) ?_
  refine Wl.q rfl (Qy.fieldAddr T.fa175_0 rfl) ?_
  refine Wl.q rfl (Qy.load 0 T.one3 rfl rfl rfl) ?_
  refine Wl.q rfl (Qy.move rfl) ?_
  refine Wl.q rfl (Qy.add rfl rfl (by omega)) ?_
  refine Wl.q rfl (Qy.assign rfl) ?_
  refine Wl.done ?_
  refine Ar.next ?_
  refine Wc.ret ?_
  refine Ar.out1 (.inr rfl) (Ho := [(0, some b, .cells #[.int .i64 n, sv, wv] 175)]) rfl (.tmp rfl) ⟨rfl, trivial⟩ ?_
  exact ⟨rfl, rfl, rfl⟩
theorem c162 (G : Imm) (b : Nat) (n m : Int) (sv wv : Value) (hn : 0 ≤ n ∧ n ≤ 1000) (hm : 0 ≤ m ∧ m ≤ 1000) :
    Does Try.prog 162 [.pointer (some ⟨b, 0, none⟩), .int .i64 m] G [(0, some b, .cells #[.int .i64 n, sv, wv] 175)] (fun v G' Ho => v = .int .i64 (2 * n + m) ∧ G' = G ∧ Ho = [(0, some b, .cells #[.int .i64 n, sv, wv] 175)]) := by
  refine Does.enter Try.func162 rfl Try.ntmps162 rfl (fun w => ?_)
  refine Wc.seq ?_
  refine Wc.region rfl ?_
  refine Wl.q rfl (Qy.assign rfl) ?_
  refine Wl.done ?_
  refine Ar.next ?_
  refine Wc.seq ?_
  refine Wc.region rfl ?_
  refine Wl.q rfl (Qy.move rfl) ?_
  refine Wl.q rfl (Qy.nilCheck rfl) ?_
  refine Wl.q rfl (Qy.fieldAddr T.fa175_0 rfl) ?_
  refine Wl.q rfl (Qy.load 0 T.one3 rfl rfl rfl) ?_
  refine Wl.q rfl (Qy.mul rfl rfl (by omega)) ?_
  refine Wl.q rfl (Qy.move rfl) ?_
  refine Wl.q rfl (Qy.add rfl rfl (by omega)) ?_
  refine Wl.q rfl (Qy.assign rfl) ?_
  refine Wl.done ?_
  refine Ar.next ?_
  refine Wc.ret ?_
  refine Ar.out1 (.inr rfl) (Ho := [(0, some b, .cells #[.int .i64 n, sv, wv] 175)]) rfl (.tmp rfl) ⟨rfl, trivial⟩ ?_
  exact ⟨rfl, rfl, rfl⟩
theorem c160 (G : Imm) (b : Nat) (n : Int) (sv wv : Value) (hn : 0 ≤ n ∧ n ≤ 1000) :
    Does Try.prog 160 [.pointer (some ⟨b, 0, none⟩)] G [(0, some b, .cells #[.int .i64 n, sv, wv] 175)] (fun v G' Ho => v = .int .i64 (3 * n) ∧ G' = G ∧ Ho = [(0, some b, .cells #[.int .i64 n, sv, wv] 175)]) := by
  refine Does.enter Try.func160 rfl Try.ntmps160 rfl (fun w => ?_)
  refine Wc.seq ?_
  refine Wc.region rfl ?_
  refine Wl.q rfl (Qy.assign rfl) ?_
  refine Wl.done ?_
  refine Ar.next ?_
  refine Wc.seq ?_
  refine Wc.region rfl ?_
  refine Wl.q rfl (Qy.move rfl) ?_
  refine Wl.q rfl (Qy.nilCheck rfl) ?_
  refine Wl.q rfl (Qy.fieldAddr T.fa175_0 rfl) ?_
  refine Wl.q rfl (Qy.load 0 T.one3 rfl rfl rfl) ?_
  refine Wl.q rfl (Qy.mul rfl rfl (by omega)) ?_
  refine Wl.q rfl (Qy.assign rfl) ?_
  refine Wl.done ?_
  refine Ar.next ?_
  refine Wc.ret ?_
  refine Ar.out1 (.inr rfl) (Ho := [(0, some b, .cells #[.int .i64 n, sv, wv] 175)]) rfl (.tmp rfl) ⟨rfl, trivial⟩ ?_
  exact ⟨rfl, rfl, rfl⟩
end Go.Proofs.Ytbppmiimeccclaa
set_option linter.unusedVariables false
namespace Go.Proofs.Ytbppmiimeccclaa
open Go Go.Sl
def ev : List Int → Int → Int → Int
  | [], _, _ => 0
  | c :: f, a, b => c * b ^ f.length + a * ev f a b
theorem ev_scale (g a b : Int) : ∀ f : List Int, ev f (g * a) (g * b) * g = g ^ f.length * ev f a b
  | [] => by simp [ev]
  | c :: f => by
    have ih := ev_scale g a b f
    show (c * (g * b) ^ f.length + g * a * ev f (g * a) (g * b)) * g = g ^ (f.length + 1) * (c * b ^ f.length + a * ev f a b)
    rw [Int.mul_pow, Int.pow_succ, Int.add_mul, Int.mul_add]
    congr 1
    · ac_rfl
    · calc g * a * ev f (g * a) (g * b) * g = g * a * (ev f (g * a) (g * b) * g) := by ac_rfl
        _ = g * a * (g ^ f.length * ev f a b) := by rw [ih]
        _ = g ^ f.length * g * (a * ev f a b) := by ac_rfl
/-- .. a coordinate's common factor goes out, to the degree -/
theorem ev_norm {g : Int} (a b : Int) (c : Int) (f : List Int) (hg : g ≠ 0) : ev (c :: f) (g * a) (g * b) = g ^ f.length * ev (c :: f) a b := by
  have h := ev_scale g a b (c :: f)
  refine Int.eq_of_mul_eq_mul_right hg ?_
  rw [h, List.length_cons, Int.pow_succ]
  ac_rfl
/-- a form by the linear form p Y - q X (p, q a point's coordinates), from the lowest coefficient on -/
def byLin (p q : Int) : Int → List Int → List Int
  | last, [] => [-(q * last)]
  | last, c :: f => (p * c - q * last) :: byLin p q c f
theorem byLin_len (p q : Int) : ∀ (last : Int) (f : List Int), (byLin p q last f).length = f.length + 1
  | _, [] => rfl
  | _, c :: f => by show (byLin p q c f).length + 1 = f.length + 1 + 1; rw [byLin_len]
theorem byLin_ev (p q a b : Int) : ∀ (last : Int) (f : List Int), ev (byLin p q last f) a b = (p * b - q * a) * ev f a b - q * last * b ^ f.length
  | last, [] => by
    show -(q * last) * b ^ 0 + a * 0 = (p * b - q * a) * 0 - q * last * b ^ 0
    rw [Int.mul_zero, Int.mul_zero, Int.add_zero, Int.neg_mul]; omega
  | last, c :: f => by
    show (p * c - q * last) * b ^ (byLin p q c f).length + a * ev (byLin p q c f) a b = (p * b - q * a) * (c * b ^ f.length + a * ev f a b) - q * last * b ^ (f.length + 1)
    rw [byLin_len, byLin_ev p q a b c f, Int.pow_succ]
    generalize b ^ f.length = B
    generalize ev f a b = E
    have h1 : (p * c - q * last) * (B * b) = p * c * (B * b) - q * last * (B * b) := Int.sub_mul ..
    have h2 : a * ((p * b - q * a) * E - q * c * B) = a * ((p * b - q * a) * E) - a * (q * c * B) := Int.mul_sub ..
    have h3 : (p * b - q * a) * (c * B + a * E) = (p * b - q * a) * (c * B) + (p * b - q * a) * (a * E) := Int.mul_add ..
    have h4 : (p * b - q * a) * (c * B) = p * b * (c * B) - q * a * (c * B) := Int.sub_mul ..
    have h5 : a * ((p * b - q * a) * E) = (p * b - q * a) * (a * E) := by ac_rfl
    have h6 : p * c * (B * b) = p * b * (c * B) := by ac_rfl
    have h7 : a * (q * c * B) = q * a * (c * B) := by ac_rfl
    rw [h1, h2, h3, h4, h5, h6, h7]
    omega
theorem cop_dvd {p q x : Int} (hc : Int.gcd p q = 1) (k : Nat) (h : p ∣ x * q ^ k) : p ∣ x := by
  have h1 : p.natAbs ∣ x.natAbs * q.natAbs ^ k := by rw [← Int.natAbs_pow, ← Int.natAbs_mul]; exact Int.natAbs_dvd_natAbs.mpr h
  exact Int.natAbs_dvd_natAbs.mp ((Nat.Coprime.pow_right k (show Nat.Coprime p.natAbs q.natAbs from hc)).dvd_of_dvd_mul_right h1)
/-- a form that is nought at a point without common factor is one by the point's linear form, over the whole numbers -/
theorem lin_div {p q : Int} (hc : Int.gcd p q = 1) : ∀ (F : List Int) (last : Int) (m : Nat), F.length = m + 1 → ev F p q = -(q * last) * q ^ m → ∃ f : List Int, f.length = m ∧ F = byLin p q last f
  | [], _, _, h, _ => by simp at h
  | [c], last, m, h, he => by
    have hm : m = 0 := by simpa using h.symm
    subst hm
    refine ⟨[], rfl, ?_⟩
    have e : c * q ^ 0 + p * 0 = -(q * last) * q ^ 0 := he
    rw [Int.pow_zero, Int.mul_one, Int.mul_zero, Int.add_zero, Int.mul_one] at e
    rw [e]; rfl
  | c :: c' :: F, last, m, h, he => by
    obtain ⟨k, rfl⟩ : ∃ k, m = k + 1 := ⟨F.length, by simp at h; omega⟩
    have hl : (c' :: F).length = k + 1 := by simp at h ⊢; omega
    have e : c * q ^ (c' :: F).length + p * ev (c' :: F) p q = -(q * last) * q ^ (k + 1) := he
    rw [hl] at e
    have e1 : (c + q * last) * q ^ (k + 1) = p * (-ev (c' :: F) p q) := by
      rw [Int.add_mul, Int.mul_neg]
      rw [Int.neg_mul] at e
      omega
    have hd : ∃ d : Int, c = p * d - q * last ∧ ev (c' :: F) p q = -(q * d) * q ^ k := by
      by_cases hp : p = 0
      · subst hp
        have hq : q.natAbs = 1 := by simpa [Int.gcd] using hc
        have hq2 : q * q = 1 := by
          rcases Int.natAbs_eq q with h | h <;> rw [hq] at h <;> rw [h] <;> rfl
        have hqk : ∀ n : Nat, q ^ n * q ^ n = 1 := fun n => by
          induction n with
          | zero => simp
          | succ n ih => rw [Int.pow_succ, show q ^ n * q * (q ^ n * q) = (q ^ n * q ^ n) * (q * q) by ac_rfl, ih, hq2]; rfl
        refine ⟨-(ev (c' :: F) 0 q * q ^ (k + 1)), ?_, ?_⟩
        · rw [Int.zero_mul] at e1
          have : c + q * last = 0 := by
            rcases Int.mul_eq_zero.mp e1 with h | h
            · exact h
            · have := hqk (k + 1); rw [h] at this; simp at this
          rw [Int.zero_mul]; omega
        · have h2 : -(q * -(ev (c' :: F) 0 q * q ^ (k + 1))) * q ^ k = ev (c' :: F) 0 q * (q ^ (k + 1) * q ^ (k + 1)) := by
            rw [Int.mul_neg, Int.neg_neg, Int.pow_succ]; ac_rfl
          rw [h2, hqk, Int.mul_one]
      · obtain ⟨d, hd⟩ := cop_dvd (x := c + q * last) hc (k + 1) ⟨_, e1⟩
        refine ⟨d, by omega, ?_⟩
        refine Int.eq_of_mul_eq_mul_left hp ?_
        rw [hd] at e1
        have h3 : p * (-(q * d) * q ^ k) = -(p * d * q ^ (k + 1)) := by
          rw [Int.pow_succ, Int.neg_mul, Int.mul_neg]; congr 1; ac_rfl
        rw [h3, e1, Int.mul_neg, Int.neg_neg]
    obtain ⟨d, hd1, hd2⟩ := hd
    obtain ⟨f, hf1, hf2⟩ := lin_div hc (c' :: F) d k hl hd2
    refine ⟨d :: f, by rw [List.length_cons, hf1], ?_⟩
    show c :: c' :: F = (p * d - q * last) :: byLin p q d f
    rw [← hf2, ← hd1]
/-- the powers of the form u X + v Y -/
def linPow (u v : Int) : Nat → List Int
  | 0 => [1]
  | e + 1 => byLin v (-u) 0 (linPow u v e)
theorem linPow_len (u v : Int) : ∀ e, (linPow u v e).length = e + 1
  | 0 => rfl
  | e + 1 => by show (byLin v (-u) 0 (linPow u v e)).length = _; rw [byLin_len, linPow_len]
theorem linPow_ev (u v a b : Int) : ∀ e, ev (linPow u v e) a b = (u * a + v * b) ^ e
  | 0 => by show (1 : Int) * b ^ 0 + a * 0 = _; simp
  | e + 1 => by
    show ev (byLin v (-u) 0 (linPow u v e)) a b = _
    rw [byLin_ev, linPow_ev, Int.mul_zero, Int.zero_mul, Int.sub_zero, Int.pow_succ, Int.neg_mul, Int.sub_neg, Int.mul_comm, Int.add_comm (v * b)]
/-- F less t times G -/
def lessT (t : Int) (F G : List Int) : List Int := List.zipWith (fun x y => x - t * y) F G
theorem lessT_ev (t a b : Int) : ∀ F G : List Int, F.length = G.length → ev (lessT t F G) a b = ev F a b - t * ev G a b
  | [], [], _ => by show (0 : Int) = 0 - t * 0; simp
  | x :: F, y :: G, h => by
    have hl : F.length = G.length := by simpa using h
    show (x - t * y) * b ^ (lessT t F G).length + a * ev (lessT t F G) a b = (x * b ^ F.length + a * ev F a b) - t * (y * b ^ G.length + a * ev G a b)
    have hz : (lessT t F G).length = G.length := by unfold lessT; rw [List.length_zipWith, hl, Nat.min_self]
    rw [hz, lessT_ev t a b F G hl, hl, Int.sub_mul, Int.mul_sub, Int.mul_add]
    have h1 : t * y * b ^ G.length = t * (y * b ^ G.length) := by ac_rfl
    have h2 : a * (t * ev G a b) = t * (a * ev G a b) := by ac_rfl
    rw [h1, h2]; omega
/-- a form less its value at a point times the power that is one there: what is left, by the point's linear form -/
theorem take_away {p q u v : Int} (hc : Int.gcd p q = 1) (h1 : u * p + v * q = 1) (F : List Int) (e : Nat) (hF : F.length = e + 1) :
    ∃ f : List Int, f.length = e ∧ lessT (ev F p q) F (linPow u v e) = byLin p q 0 f ∧ ∀ a b : Int, ev F a b - ev F p q * (u * a + v * b) ^ e = (p * b - q * a) * ev f a b := by
  have hl : F.length = (linPow u v e).length := by rw [hF, linPow_len]
  have hz : (lessT (ev F p q) F (linPow u v e)).length = e + 1 := by unfold lessT; rw [List.length_zipWith, linPow_len, hF, Nat.min_self]
  obtain ⟨f, hf1, hf2⟩ := lin_div hc (lessT (ev F p q) F (linPow u v e)) 0 e hz (by
    rw [lessT_ev _ _ _ _ _ hl, linPow_ev, h1, Int.one_pow, Int.mul_one, Int.sub_self]; simp)
  refine ⟨f, hf1, hf2, fun a b => ?_⟩
  have h3 := byLin_ev p q a b 0 f
  rw [← hf2, lessT_ev _ _ _ _ _ hl, linPow_ev, Int.mul_zero, Int.zero_mul, Int.sub_zero] at h3
  exact h3
theorem ev_zeros (a b : Int) : ∀ n : Nat, ev (List.replicate n 0) a b = 0
  | 0 => rfl
  | n + 1 => by
    show (0 : Int) * b ^ (List.replicate n (0 : Int)).length + a * ev (List.replicate n 0) a b = 0
    rw [ev_zeros, Int.zero_mul, Int.mul_zero]; rfl
/-- the form that is one power alone -/
theorem ev_unit (a b : Int) : ∀ (n j : Nat), j < n → ev ((List.replicate n (0 : Int)).set j 1) a b = a ^ j * b ^ (n - 1 - j)
  | n + 1, 0, _ => by
    show (1 : Int) * b ^ (List.replicate n (0 : Int)).length + a * ev (List.replicate n 0) a b = a ^ 0 * b ^ (n + 1 - 1 - 0)
    rw [ev_zeros, List.length_replicate, Int.mul_zero, Int.add_zero, Int.pow_zero]; rfl
  | n + 1, j + 1, h => by
    show (0 : Int) * b ^ ((List.replicate n (0 : Int)).set j 1).length + a * ev ((List.replicate n (0 : Int)).set j 1) a b = a ^ (j + 1) * b ^ (n + 1 - 1 - (j + 1))
    rw [ev_unit a b n j (by omega), Int.zero_mul, Int.zero_add, Int.pow_succ, show n + 1 - 1 - (j + 1) = n - 1 - j by omega]
    ac_rfl
end Go.Proofs.Ytbppmiimeccclaa
set_option maxRecDepth 100000
set_option linter.unusedVariables false
namespace Go.Proofs.Ytbppmiimeccclaa
open Go Go.Sl
/-- does s do? -/
def hitB (a b s : Int) : Bool := ((Int.gcd a b : Int) - s * a).tmod b == 0
/-- the first u of those from k on, at most n more, that does, with either sign -/
def bezF (a b : Int) : Nat → Nat → Nat
  | 0, k => k
  | n + 1, k => if hitB a b (k : Int) || hitB a b (-(k : Int)) then k else bezF a b n (k + 1)
def bezK (a b : Int) : Nat := bezF a b 16 0
def bezS (a b : Int) : Int := if b = 0 then a.tdiv (Int.gcd a b) else if hitB a b (bezK a b : Int) then (bezK a b : Int) else -(bezK a b : Int)
def bezT (a b : Int) : Int := if b = 0 then 0 else ((Int.gcd a b : Int) - bezS a b * a).tdiv b
def bezOk (a b : Int) : Bool := (a == 0 && b == 0) || (bezS a b * a + bezT a b * b == (Int.gcd a b : Int) && decide ((bezS a b).natAbs + (bezT a b).natAbs ≤ 17) && decide (bezK a b ≤ 15) && (b == 0 || hitB a b (bezK a b : Int) || hitB a b (-(bezK a b : Int))))
theorem bez_all : ((List.range 33).all fun i => (List.range 33).all fun j => bezOk ((i : Int) - 16) ((j : Int) - 16)) = true := by decide +kernel
theorem bez_ok {a b : Int} (h : near a b) : bezOk a b = true := by
  have h1 := List.all_eq_true.mp bez_all (a + 16).toNat (List.mem_range.mpr (by unfold near at h; omega))
  have h2 := List.all_eq_true.mp h1 (b + 16).toNat (List.mem_range.mpr (by unfold near at h; omega))
  rw [show (((a + 16).toNat : Nat) : Int) - 16 = a by unfold near at h; omega, show (((b + 16).toNat : Nat) : Int) - 16 = b by unfold near at h; omega] at h2
  exact h2
theorem bez_facts {a b : Int} (h : near a b) (h0 : ¬ (a = 0 ∧ b = 0)) : bezS a b * a + bezT a b * b = Int.gcd a b ∧ (bezS a b).natAbs + (bezT a b).natAbs ≤ 17 ∧ bezK a b ≤ 15 ∧ (b = 0 ∨ hitB a b (bezK a b : Int) = true ∨ hitB a b (-(bezK a b : Int)) = true) := by
  have h1 := bez_ok h
  unfold bezOk at h1
  simp only [Bool.or_eq_true, Bool.and_eq_true, beq_iff_eq, decide_eq_true_eq] at h1
  rcases h1 with h1 | ⟨⟨⟨e1, e2⟩, e3⟩, e4⟩
  · exact absurd h1 h0
  · exact ⟨e1, e2, e3, e4.elim (fun h => h.elim .inl (fun h => .inr (.inl h))) (fun h => .inr (.inr h))⟩
end Go.Proofs.Ytbppmiimeccclaa
