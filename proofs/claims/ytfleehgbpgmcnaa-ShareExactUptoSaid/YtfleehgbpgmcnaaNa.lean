import Derived.Test.YtfleehgbpgmcnaaSlR
import Derived.Test.YtfleehgbpgmcnaaTy
set_option maxRecDepth 100000
set_option linter.unusedVariables false
namespace Go.Proofs.Ytfleehgbpgmcnaa
open Go Go.Sl

set_option maxHeartbeats 4000000
/-- so many digits are left, if the noughts at the top are struck -/
def TrimTo (l : List U32) (n : Nat) : Prop := n ≤ l.length ∧ (∀ j, n ≤ j → j < l.length → (l[j]?.getD default).v = 0) ∧ (n = 0 ∨ (l[n - 1]?.getD default).v ≠ 0)
theorem arr_sub {α : Type} [Cells α] {G : Imm} {a : Option Addr} {c sz : Nat} {l : List α} (h : Arr G a l) (n : Nat) : Arr G (subA a c 0 sz) (l.take n) := by
  refine ⟨flat_length _, ?_⟩
  rcases h.2 with h0 | ⟨b, o, rfl, hr⟩
  · left; rw [List.length_take]; omega
  · refine .inr ⟨b, o, ?_, fun i v hi => hr i v ?_⟩
    · unfold subA
      split
      · rfl
      · simp [Addr.add]
    · have e : flat l = flat (l.take n) ++ flat (l.drop n) := by rw [← flat_append, List.take_append_drop]
      rw [e, List.getElem?_append_left (List.getElem?_eq_some_iff.1 hi).1]; exact hi
theorem c60 (G : Imm) (neg : Bool) (a : Option Addr) (c : Nat) (l : List U32) (hl : Arr G a l) (hb : l.length ≤ 1099511627776) (hc : l.length ≤ c) :
    Does Try.prog 60 [.bool neg, .slice a l.length c] G [] (fun v G' Ho => ∃ n, v = .agg #[.bool (neg && decide (0 < n)), .slice (subA a c 0 1) n c] ∧ TrimTo l n ∧ G' = G ∧ Ho = []) := by
  refine Does.enter Try.func60 rfl Try.ntmps60 rfl (fun w => ?_)
  refine Wc.seq ?_
  refine Wc.region rfl ?_
  refine Wl.alloc 0 rfl T.zero43 (fun b1 => ?_)
  refine Wl.done ?_
  refine Ar.next ?_
  refine Wc.seq ?_
  refine Wc.region rfl ?_
  refine Wl.q rfl (Qy.move rfl) ?_
  refine Wl.q rfl (Qy.len T.sl41 rfl) ?_
  refine Wl.q rfl (Qy.assign rfl) ?_
  refine Wl.done ?_
  refine Ar.next ?_
  refine Wc.seq ?_
  refine Wc.block ?_
  refine Wc.loop (ι := Nat) (fun n => ([(5, .int .i64 (n : Int)), (4, Go.Value.pointer (Option.some (Go.Addr.mk b1 0 Option.none))), (0, Go.Value.bool neg), (1, Go.Value.slice a (List.length l) c)], [(0, Option.some b1, Go.Obj.cells #[Go.Value.bool Bool.false, Go.Value.slice Option.none 0 0] 43)])) (fun n => n ≤ l.length ∧ (∀ j, n ≤ j → j < l.length → (l[j]?.getD default).v = 0)) (fun n => n) (l.length) (⟨Nat.le_refl _, fun j h1 h2 => absurd h2 (by omega)⟩) ⟨rfl, rfl, rfl, rfl, trivial⟩ ⟨rfl, trivial⟩ (fun n => fun (hk : n ≤ l.length ∧ (∀ j, n ≤ j → j < l.length → (l[j]?.getD default).v = 0)) => ?_)
  obtain ⟨hn, hz⟩ := hk
  refine Wc.seq ?_
  refine Wc.seq ?_
  refine Wc.region rfl ?_
  refine Wl.q rfl (Qy.move rfl) ?_
  refine Wl.q rfl (Qy.gtr rfl rfl) ?_
  refine Wl.q rfl (Qy.move rfl) ?_
  apply Wl.joinAnd 7 10 17 rfl
  intro hg1
  refine Wl.want rfl rfl ?_
  refine Wl.q rfl (Qy.move rfl) ?_
  refine Wl.want rfl rfl ?_
  refine Wl.q rfl (Qy.move rfl) ?_
  refine Wl.want rfl rfl ?_
  refine Wl.q rfl (Qy.sub rfl rfl (by omega)) ?_
  refine Wl.want rfl rfl ?_
  refine Wl.q rfl (Qy.at (α := U32) T.sl41 rfl rfl (by assumption) (by omega)) ?_
  refine Wl.want rfl rfl ?_
  refine Wl.q rfl (Qy.loadG T.one91 rfl (Arr.cell (by assumption) (by omega) 0 rfl rfl)) ?_
  refine Wl.want rfl rfl ?_
  refine Wl.q rfl (Qy.eql rfl rfl) ?_
  refine Wl.q rfl (Qy.pick rfl rfl) ?_
  exact Wl.back 7 0 rfl rfl rfl rfl rfl
  intro hg1
  refine Wl.pass rfl rfl rfl ?_
  refine Wl.pass rfl rfl rfl ?_
  refine Wl.pass rfl rfl rfl ?_
  refine Wl.pass rfl rfl rfl ?_
  refine Wl.pass rfl rfl rfl ?_
  refine Wl.pass rfl rfl rfl ?_
  refine Wl.q rfl (Qy.pick rfl rfl) ?_
  exact Wl.back 7 0 rfl rfl rfl rfl rfl
  refine Wl.done ?_
  refine Ar.next ?_
  refine Wc.cond rfl (fun hc1 => ?_) (fun hc1 => ?_)
  refine Wc.skip ?_
  refine Ar.next ?_
  refine Wc.block ?_
  refine Wc.region rfl ?_
  refine Wl.q rfl (Qy.move rfl) ?_
  refine Wl.q rfl (Qy.sub rfl rfl (by omega)) ?_
  refine Wl.q rfl (Qy.assign rfl) ?_
  refine Wl.done ?_
  refine Ar.outNormal ?_
  rotate_left
  refine Wc.exit ?_
  refine Ar.passExit ?_
  refine Ar.passExit ?_
  refine Ar.here ?_
  refine Ar.next ?_
  refine Wc.seq ?_
  refine Wc.region rfl ?_
  refine Wl.q rfl (Qy.move rfl) ?_
  refine Wl.q rfl (Qy.move rfl) ?_
  refine Wl.casesB 21 rfl (fun hg1 => ?_) (fun hg1 => ?_)
  refine Wl.want rfl rfl ?_
  refine Wl.q rfl (Qy.move rfl) ?_
  refine Wl.want rfl rfl ?_
  refine Wl.q rfl (Qy.gtr rfl rfl) ?_
  refine Wl.q rfl (Qy.pick rfl rfl) ?_
  refine Wl.q rfl (Qy.move rfl) ?_
  refine Wl.q rfl (Qy.move rfl) ?_
  refine Wl.q rfl (Qy.cutH T.sl41 rfl rfl (by omega)) ?_
  refine Wl.q rfl (Qy.build (cs := [_, _]) T.st43 rfl rfl rfl) ?_
  refine Wl.storeAll 0 T.size43 rfl rfl rfl rfl rfl rfl ?_
  refine Wl.done ?_
  refine Ar.next ?_
  refine Wc.ret ?_
  refine Ar.out1 (.inr rfl) (Ho := Hp.only _ []) rfl (.agg 0 rfl rfl T.agg43) (Hp.sub_only _ _) ?_
  rotate_left
  refine Wl.pass rfl rfl rfl ?_
  refine Wl.pass rfl rfl rfl ?_
  refine Wl.q rfl (Qy.pick rfl rfl) ?_
  refine Wl.q rfl (Qy.move rfl) ?_
  refine Wl.q rfl (Qy.move rfl) ?_
  refine Wl.q rfl (Qy.cutH T.sl41 rfl rfl (by omega)) ?_
  refine Wl.q rfl (Qy.build (cs := [_, _]) T.st43 rfl rfl rfl) ?_
  refine Wl.storeAll 0 T.size43 rfl rfl rfl rfl rfl rfl ?_
  refine Wl.done ?_
  refine Ar.next ?_
  refine Wc.ret ?_
  refine Ar.out1 (.inr rfl) (Ho := Hp.only _ []) rfl (.agg 0 rfl rfl T.agg43) (Hp.sub_only _ _) ?_
  rotate_left
  · refine Ar.re 5 rfl (show _ = Value.int .i64 ((n - 1 : Nat) : Int) by congr 1; omega) ?_
    refine Ar.again (n - 1) ?_ ?_ rfl ⟨rfl, rfl, rfl, rfl, trivial⟩ ⟨rfl, trivial⟩
    · refine ⟨by omega, fun j h1 h2 => ?_⟩
      rcases Nat.lt_or_ge j n with h3 | h3
      · have e : j = (((n : Nat) : Int) - 1).toNat := by omega
        rw [e]; exact hc1.2
      · exact hz j h3 h2
    · omega
  · refine ⟨n, ?_, ⟨hn, hz, ?_⟩, rfl, rfl⟩
    · rw [hg1]
      have e : ((0 : Int) < (n : Int)) = (0 < n) := by rw [eq_iff_iff]; omega
      simp only [e, Bool.true_and, Int.toNat_natCast]
    · rcases Nat.eq_zero_or_pos n with h | h
      · exact .inl h
      · refine .inr fun h2 => hc1 ⟨by omega, ?_⟩
        have e : (((n : Nat) : Int) - 1).toNat = n - 1 := by omega
        rw [e]; exact h2
  · refine ⟨n, ?_, ⟨hn, hz, ?_⟩, rfl, rfl⟩
    · rw [hg1]
      simp only [Bool.false_and, Int.toNat_natCast]
    · rcases Nat.eq_zero_or_pos n with h | h
      · exact .inl h
      · refine .inr fun h2 => hc1 ⟨by omega, ?_⟩
        have e : (((n : Nat) : Int) - 1).toNat = n - 1 := by omega
        rw [e]; exact h2
theorem TrimTo.val {l : List U32} {n : Nat} (h : TrimTo l n) : valL (l.take n) = valL l := valL_trim h.2.1
theorem TrimTo.top {l : List U32} {n : Nat} (h : TrimTo l n) : Top (l.take n) := by
  obtain ⟨h1, h2, h3⟩ := h
  rcases h3 with h3 | h3
  · subst h3; exact .inl rfl
  · by_cases h0 : n = 0
    · subst h0; exact .inl rfl
    · refine .inr ?_
      rw [List.length_take, Nat.min_eq_left h1, List.getElem?_take, if_pos (by omega)]
      exact h3
theorem TrimTo.len {l : List U32} {n : Nat} (h : TrimTo l n) : (l.take n).length = n := by rw [List.length_take, Nat.min_eq_left h.1]
theorem TrimTo.isInt {l : List U32} {n : Nat} (h : TrimTo l n) (hd : Digs l) (neg : Bool) : IsInt (neg && decide (0 < n)) (l.take n) (if neg = true then -valL l else valL l) := by
  refine ⟨hd.take n, h.top, fun e => ?_, ?_⟩
  · have hl := h.len
    rw [e] at hl
    have : n = 0 := by simpa using hl.symm
    subst this; simp
  · have hv := h.val
    rw [← hv]
    cases neg with
    | false => simp
    | true =>
      by_cases h0 : n = 0
      · subst h0; simp [valL_nil]
      · have : 0 < n := by omega
        simp [this]
/-- a number that is struck of a row that stays -/
theorem TrimTo.num {G : Imm} {a : Option Addr} {c : Nat} {l : List U32} {n : Nat} (h : TrimTo l n) (hd : Digs l) (hl : Arr G a l) (hc : l.length ≤ c) (neg : Bool) : Num G ⟨neg && decide (0 < n), subA a c 0 1, n, c⟩ (if neg = true then -valL l else valL l) := by
  refine ⟨l.take n, h.len, Nat.le_trans h.1 hc, ?_, h.isInt hd neg⟩
  exact arr_sub hl n
end Go.Proofs.Ytfleehgbpgmcnaa
