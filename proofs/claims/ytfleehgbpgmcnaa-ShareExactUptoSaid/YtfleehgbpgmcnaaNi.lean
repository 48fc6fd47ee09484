import Derived.Test.YtfleehgbpgmcnaaNh
set_option maxRecDepth 100000
set_option linter.unusedVariables false
namespace Go.Proofs.Ytfleehgbpgmcnaa
open Go Go.Sl

set_option maxHeartbeats 4000000
section
variable {B : Bs} {e : Env} {D : List Deferred} {H : Hp} {G : Imm}
/-- a block under another tag -/
theorem retagH {a : Act} {w : World} (hh : Hold B ⟨e, D, H, G⟩ a w) (t t' : Nat) {k : Option Nat} {o : Obj} (ht : H.get t = some (k, o)) (hn : t ≠ t') (hk : H.get t' = none ∨ True) : Hold B ⟨e, D, (t', k, o) :: (t, none, o) :: H, G⟩ a w := by
  have key : ∀ i b o', Hp.get ((t', k, o) :: (t, none, o) :: H) i = some (some b, o') → (i = t' ∧ H.get t = some (some b, o')) ∨ (i ≠ t' ∧ i ≠ t ∧ H.get i = some (some b, o')) := fun i b o' hx => by
    rw [Hp.get_cons] at hx
    split at hx
    · rename_i hi; left; refine ⟨hi.symm, ?_⟩; rw [ht]; exact hx
    · rename_i hi
      rw [Hp.get_cons] at hx
      split at hx
      · simp at hx
      · rename_i hi2; exact .inr ⟨fun h => hi h.symm, fun h => hi2 h.symm, hx⟩
  refine ⟨hh.size, hh.defers, hh.env, ⟨?_, ?_, hh.mem.imm, ?_⟩, hh.upd, ?_, hh.le, hh.new⟩
  · intro i b o' hx
    rcases key i b o' hx with ⟨_, h⟩ | ⟨_, _, h⟩
    · exact hh.mem.own _ b o' h
    · exact hh.mem.own _ b o' h
  · intro i i' b o1 o2 hx hy
    rcases key i b o1 hx with ⟨h1, h2⟩ | ⟨h1, h1', h2⟩ <;> rcases key i' b o2 hy with ⟨h3, h4⟩ | ⟨h3, h3', h4⟩
    · rw [h1, h3]
    · exact absurd (hh.mem.one _ _ b _ _ h2 h4).symm h3'
    · exact absurd (hh.mem.one _ _ b _ _ h2 h4) h1'
    · exact hh.mem.one _ _ b _ _ h2 h4
  · intro i b o' hx
    rcases key i b o' hx with ⟨_, h⟩ | ⟨_, _, h⟩
    · exact hh.mem.off _ b o' h
    · exact hh.mem.off _ b o' h
  · intro i b o' hx
    rcases key i b o' hx with ⟨_, h⟩ | ⟨_, _, h⟩
    · exact hh.mine _ b o' h
    · exact hh.mine _ b o' h
theorem Ar.retag {x : Exit} {Q : Exit → Act → World → Prop} (t t' : Nat) {k : Option Nat} {o : Obj} (ht : H.get t = some (k, o)) (hn : Nat.beq t t' = false) (h : Ar Q x B ⟨e, D, (t', k, o) :: (t, none, o) :: H, G⟩) : Ar Q x B ⟨e, D, H, G⟩ :=
  fun a w hh => h a w (retagH hh t t' ht (fun e => by subst e; simp at hn) (.inr trivial))
end
/-- quotient and remainder of digits, the remainder no longer than what divides -/
def DivOkL (G : Imm) (la lb : List U32) (v : Value) : Prop := ∃ (qa ra : Option Addr) (qc rc : Nat) (lq lr : List U32), v = .tuple #[.slice qa lq.length qc, .slice ra lr.length rc] ∧ Arr G qa lq ∧ Arr G ra lr ∧ Digs lq ∧ Digs lr ∧
  valL la = valL lq * valL lb + valL lr ∧ valL lr < valL lb ∧ lq.length ≤ qc ∧ lr.length ≤ rc ∧ lq.length ≤ la.length ∧ lr.length ≤ lb.length
theorem c106 (G : Imm) (a b : Option Addr) (ca cb : Nat) (la lb : List U32) (ha : Arr G a la) (hb : Arr G b lb) (da : Digs la) (db : Digs lb) (tb : Top lb) (h1 : la.length ≤ 536870912) (h2 : lb.length ≤ 536870912) (hB : 0 < valL lb) :
    Does Try.prog 106 [.slice a la.length ca, .slice b lb.length cb] G [] (fun v G' Ho => DivOkL G' la lb v ∧ Ho = []) := by
  have key : Does Try.prog 106 [.slice a la.length ca, .slice b lb.length cb] G [] (fun v G' Ho => DivOk G' la lb v ∧ Ho = []) := by
    by_cases h : lb.length = 1
    · exact c106S G a b ca cb la lb ha hb da db tb h1 h
    · exact c106L G a b ca cb la lb ha hb da db tb h1 h2 h hB
  refine key.mono fun v G' Ho _ ⟨⟨qa, ra, qc, rc, lq, lr, q1, q2, q3, q4, q5, q6, q7, q8, q9, q10, q11, q12⟩, q13⟩ => ?_
  exact ⟨⟨qa, ra, qc, rc, lq, lr, q1, q2, q3, q4, q6, q8, q9, q10, q11, q12, len_le_of_val db q6 q7 (Int.le_of_lt q9)⟩, q13⟩
theorem Num.len {G : Imm} {x : IV} {z : Int} (h : Num G x z) {m : Nat} (hz : (z.natAbs : Int) < pw m) : x.n ≤ m := by
  obtain ⟨l, h1, _, _, h4⟩ := h
  rw [← h1]; exact h4.len hz
theorem num_sub (G : Imm) (x y : IV) (zx zy : Int) (hx : Num G x zx) (hy : Num G y zy) (h1 : x.n ≤ 1073741824) (h2 : y.n ≤ 1073741824) :
    Does Try.prog 108 [.agg (Cells.enc x).toArray, .agg (Cells.enc y).toArray] G [] (fun v G' Ho => ∃ r : IV, v = .agg (Cells.enc r).toArray ∧ Num G' r (zx - zy) ∧ Ho = []) := by
  obtain ⟨n1, a, k1, ca⟩ := x
  obtain ⟨n2, b, k2, cb⟩ := y
  obtain ⟨la, hl, hlc, hA, hI⟩ := hx
  obtain ⟨lb, hl', hlc', hA', hI'⟩ := hy
  simp only at hl hlc hA hI hl' hlc' hA' hI' h1 h2
  subst hl hl'
  exact c108 G n1 n2 a b ca cb la lb zx zy hA hA' hI hI' h1 h2 hlc'
theorem ediv_of {x y q r : Int} (hy : y ≠ 0) (h : x = q * y + r) (h0 : 0 ≤ r) (h1 : r < y.natAbs) : q = x / y ∧ r = x % y := by
  rcases Int.lt_or_gt_of_ne hy with hn | hp
  · have := (Int.ediv_emod_unique' (a := x) (b := y) (r := r) (q := q) hn).2 ⟨by rw [Int.mul_comm y q]; omega, h0, by omega⟩
    exact ⟨this.1.symm, this.2.symm⟩
  · have := (Int.ediv_emod_unique (a := x) (b := y) (r := r) (q := q) hp).2 ⟨by rw [Int.mul_comm y q]; omega, h0, by omega⟩
    exact ⟨this.1.symm, this.2.symm⟩
theorem sgZ_bd (z : Int) : -1 ≤ sgZ z ∧ sgZ z ≤ 1 := by unfold sgZ; split; exact ⟨by omega, by omega⟩; split <;> exact ⟨by omega, by omega⟩
theorem sgZ_bd9 (z : Int) : -9223372036854775808 ≤ sgZ z ∧ sgZ z ≤ 9223372036854775807 := by have := sgZ_bd z; omega
theorem sgZ_lt1 (z : Int) : ((sgZ z).natAbs : Int) < pw 1 := by have := sgZ_bd z; have : pw 1 = 65536 := (by decide); omega
theorem sgZ_mul (z : Int) : sgZ z * z = z.natAbs := by
  unfold sgZ
  split
  · omega
  · split <;> omega
theorem dm_plain {n1 n2 : Bool} {x y la lb lq lr : Int} (hx : x = if n1 = true then -la else la) (hy : y = if n2 = true then -lb else lb) (hv : la = lq * lb + lr) :
    x = (if decide (n1 ≠ n2) = true then -lq else lq) * y + (if n1 = true then -lr else lr) := by
  subst hx hy hv
  cases n1 <;> cases n2 <;> simp [Int.neg_mul, Int.mul_neg, Int.neg_add]
theorem dm_next {x y q r : Int} (h : x = q * y + r) : x = (q - sgZ y) * y + (r + y.natAbs) := by
  have := sgZ_mul y
  rw [Int.sub_mul, this]; omega
theorem trim_pos {l : List U32} {n : Nat} (h : TrimTo l n) (hd : Digs l) (hn : 0 < n) : 0 < valL l := by
  have h1 := h.len
  have := top_pos (hd.take n) h.top (fun e => by rw [e] at h1; simp at h1; omega)
  rwa [h.val] at this
theorem trim_zero {l : List U32} (h : TrimTo l 0) : valL l = 0 := by
  have := h.val
  rw [List.take_zero, valL_nil] at this
  exact this.symm
theorem dm_true {n1 : Bool} {lr1 : List U32} {tm : Nat} {q x y : Int} (hx : x = q * y + (if n1 = true then -valL lr1 else valL lr1)) (hy : y ≠ 0) (hl : valL lr1 < y.natAbs) (h : (n1 && decide (0 < tm)) = true) (ht : TrimTo lr1 tm) (hd : Digs lr1) :
    q - sgZ y = x / y ∧ (if n1 = true then -valL lr1 else valL lr1) + (y.natAbs : Int) = x % y := by
  rw [Bool.and_eq_true, decide_eq_true_eq] at h
  have hp := trim_pos ht hd h.2
  have e := h.1
  subst e
  rw [if_pos rfl] at hx ⊢
  exact ediv_of hy (dm_next hx) (by omega) (by omega)
theorem dm_false {n1 : Bool} {lr1 : List U32} {tm : Nat} {q x y : Int} (hx : x = q * y + (if n1 = true then -valL lr1 else valL lr1)) (hy : y ≠ 0) (hl : valL lr1 < y.natAbs) (h : (n1 && decide (0 < tm)) = false) (ht : TrimTo lr1 tm) (hd : Digs lr1) :
    q = x / y ∧ (if n1 = true then -valL lr1 else valL lr1) = x % y := by
  have hn := valL_nonneg hd
  refine ediv_of hy hx ?_ ?_
  · cases n1 with
    | false => rw [if_neg (by decide)]; exact hn
    | true =>
      have h0 : tm = 0 := by
        rw [Bool.true_and, decide_eq_false_iff_not] at h
        omega
      subst h0
      rw [if_pos rfl, trim_zero ht]
      omega
  · split <;> omega
attribute [local irreducible] valL pw cmpZ p2
theorem c103 (G : Imm) (n1 n2 : Bool) (a b : Option Addr) (ca cb : Nat) (la lb : List U32) (x y : Int) (ha : Arr G a la) (hb : Arr G b lb) (hx : IsInt n1 la x) (hy : IsInt n2 lb y) (h1 : la.length ≤ 536870912) (h2 : lb.length ≤ 536870912) (hcb : lb.length ≤ cb) (hy0 : y ≠ 0) :
    Does Try.prog 103 [.agg #[.bool n1, .slice a la.length ca], .agg #[.bool n2, .slice b lb.length cb]] G [] (fun v G' Ho => ∃ q r : IV, v = .tuple #[.agg (Cells.enc q).toArray, .agg (Cells.enc r).toArray] ∧ Num G' q (x / y) ∧ Num G' r (x % y) ∧ Ho = []) := by
  have da := hx.digs
  have db := hy.digs
  have tb := hy.top
  have va := hx.abs
  have vb := hy.abs
  have hB : 0 < valL lb := by omega
  refine Does.enter Try.func103 rfl Try.ntmps103 rfl (fun w => ?_)
  refine Wc.seq ?_
  refine Wc.region rfl ?_
  refine Wl.box 0 rfl rfl rfl (fun b1 => ?_)
  refine Wl.box 1 rfl rfl rfl (fun b2 => ?_)
  refine Wl.alloc 2 rfl T.zero43 (fun b3 => ?_)
  refine Wl.alloc 3 rfl T.zero43 (fun b4 => ?_)
  refine Wl.done ?_
  refine Ar.next ?_
  refine Wc.seq ?_
  refine Wc.region rfl ?_
  refine Wl.q rfl (Qy.fieldAddr T.fa43_1 rfl) ?_
  refine Wl.q rfl (Qy.load 0 T.one41 rfl rfl rfl) ?_
  refine Wl.q rfl (Qy.fieldAddr T.fa43_1 rfl) ?_
  refine Wl.q rfl (Qy.load 1 T.one41 rfl rfl rfl) ?_
  refine Wl.call 4 rfl T.fn106 rfl (c106 _ _ _ _ _ _ _ (by assumption) (by assumption) (by assumption) (by assumption) (by assumption) (by assumption) (by assumption) (by assumption)) (tags_of trivial) (fun v1 G1 Ho1 hle1 hp => ?_)
  obtain ⟨⟨qa1, ra1, qc1, rc1, lq1, lr1, rfl, hqa1, hra1, dq1, dr1, hvq1, hlt1, hqc1, hrc1, hql1, hrl1⟩, rfl⟩ := hp
  replace ha := ha.up hle1
  replace hb := hb.up hle1
  refine Wl.q rfl (Qy.move rfl) ?_
  refine Wl.q rfl (Qy.extract rfl rfl) ?_
  refine Wl.q rfl (Qy.extract rfl rfl) ?_
  refine Wl.q rfl (Qy.assign rfl) ?_
  refine Wl.q rfl (Qy.assign rfl) ?_
  refine Wl.done ?_
  refine Ar.next ?_
  refine Wc.meet (ι := Nat × Nat × Nat × Nat) (fun (tn, tm, p, q) => ([(8, .pointer (some ⟨p, 0, none⟩)), (9, .pointer (some ⟨q, 0, none⟩)), (5, Go.Value.pointer (Option.some (Go.Addr.mk b4 0 Option.none))), (4, Go.Value.pointer (Option.some (Go.Addr.mk b3 0 Option.none))), (3, Go.Value.pointer (Option.some (Go.Addr.mk b2 0 Option.none)))], [(60, some p, .cells #[.bool (decide (n1 ≠ n2) && decide (0 < tn)), .slice (subA qa1 qc1 0 1) tn qc1] 43), (61, some q, .cells #[.bool (n1 && decide (0 < tm)), .slice (subA ra1 rc1 0 1) tm rc1] 43), (3, Option.some b4, Go.Obj.cells #[Go.Value.bool Bool.false, Go.Value.slice Option.none 0 0] 43), (2, Option.some b3, Go.Obj.cells #[Go.Value.bool Bool.false, Go.Value.slice Option.none 0 0] 43), (1, Option.some b2, Go.Obj.cells #[Go.Value.bool n2, Go.Value.slice b (List.length lb) cb] 43), (0, Option.some b1, Go.Obj.cells #[Go.Value.bool n1, Go.Value.slice a (List.length la) ca] 43)])) (fun (tn, tm, p, q) => TrimTo lq1 tn ∧ TrimTo lr1 tm) ?_ (fun ⟨tn, tm, p, q⟩ => fun (hk : TrimTo lq1 tn ∧ TrimTo lr1 tm) => ?_)
  · refine Wc.draw [0, 1, 2, 3] [] T.mixed rfl ?_
    refine Gm.q 0 [] (by kernel_rfl) rfl rfl (Qy.fieldAddr T.fa43_0 rfl) ?_
    refine Gm.q 1 [0] (by kernel_rfl) rfl rfl (Qy.load 0 T.one4 rfl rfl rfl) ?_
    refine Gm.q 2 [] (by kernel_rfl) rfl rfl (Qy.fieldAddr T.fa43_0 rfl) ?_
    refine Gm.q 3 [1] (by kernel_rfl) rfl rfl (Qy.load 1 T.one4 rfl rfl rfl) ?_
    refine Gm.q 4 [] (by kernel_rfl) rfl rfl (Qy.neqB T.u4 rfl rfl) ?_
    refine Gm.q 5 [] (by kernel_rfl) rfl rfl (Qy.move rfl) ?_
    refine Gm.q 7 [] (by kernel_rfl) rfl rfl (Qy.fieldAddr T.fa43_0 rfl) ?_
    refine Gm.q 8 [0] (by kernel_rfl) rfl rfl (Qy.load 0 T.one4 rfl rfl rfl) ?_
    refine Gm.q 9 [] (by kernel_rfl) rfl rfl (Qy.move rfl) ?_
    refine Gm.three 6 11 12 ⟨rfl, rfl, rfl, rfl, trivial⟩ (by first | exact Imm.le_refl _ | assumption | (refine Imm.le_trans ?_ (by assumption); first | assumption | (refine Imm.le_trans ?_ (by assumption); assumption))) (by kernel_rfl) rfl rfl rfl ?_ ?_ ?_
    refine Wl.call 4 rfl T.fn60 rfl (c60 _ _ _ _ _ (by assumption) (by omega) (by assumption)) (tags_of trivial) (fun v2 G2 Ho2 hle2 hp => ?_)
    obtain ⟨tn2, rfl, htr2, rfl, rfl⟩ := hp
    refine Wl.on0 ?_
    refine Gm.three 10 11 12 ⟨rfl, rfl, rfl, rfl, trivial⟩ (by first | exact Imm.le_refl _ | assumption | (refine Imm.le_trans ?_ (by assumption); first | assumption | (refine Imm.le_trans ?_ (by assumption); assumption))) (by kernel_rfl) rfl rfl rfl ?_ ?_ ?_
    refine Wl.call 4 rfl T.fn60 rfl (c60 _ _ _ _ _ (by assumption) (by omega) (by assumption)) (tags_of trivial) (fun v3 G3 Ho3 hle3 hp => ?_)
    obtain ⟨tn3, rfl, htr3, rfl, rfl⟩ := hp
    refine Wl.on0 ?_
    refine Gm.two 11 12 ⟨rfl, rfl, rfl, rfl, trivial⟩ (by first | exact Imm.le_refl _ | assumption | (refine Imm.le_trans ?_ (by assumption); first | assumption | (refine Imm.le_trans ?_ (by assumption); assumption))) (by kernel_rfl) rfl rfl ?_ ?_
    refine Wl.alloc 4 rfl T.zero43 (fun b5 => ?_)
    refine Wl.on0 ?_
    refine Gm.one 12 ⟨rfl, rfl, rfl, rfl, trivial⟩ (by first | exact Imm.le_refl _ | assumption | (refine Imm.le_trans ?_ (by assumption); first | assumption | (refine Imm.le_trans ?_ (by assumption); assumption))) (by kernel_rfl) rfl ?_
    refine Wl.alloc 5 rfl T.zero43 (fun b6 => ?_)
    refine Wl.on0 ?_
    refine Gm.one 13 ⟨rfl, rfl, rfl, rfl, trivial⟩ (by first | exact Imm.le_refl _ | assumption | (refine Imm.le_trans ?_ (by assumption); first | assumption | (refine Imm.le_trans ?_ (by assumption); assumption))) (by kernel_rfl) rfl ?_
    refine Wl.storeAll 4 T.size43 rfl rfl rfl rfl rfl rfl ?_
    refine Wl.on0 ?_
    refine Gm.one 14 ⟨rfl, rfl, rfl, rfl, trivial⟩ (by first | exact Imm.le_refl _ | assumption | (refine Imm.le_trans ?_ (by assumption); first | assumption | (refine Imm.le_trans ?_ (by assumption); assumption))) (by kernel_rfl) rfl ?_
    refine Wl.storeAll 5 T.size43 rfl rfl rfl rfl rfl rfl ?_
    refine Wl.on0 ?_
    refine Gm.doneA (by kernel_rfl) ⟨rfl, rfl, rfl, rfl, trivial⟩ (by first | exact Imm.le_refl _ | assumption | (refine Imm.le_trans ?_ (by assumption); first | assumption | (refine Imm.le_trans ?_ (by assumption); assumption))) ?_
    rotate_left
    refine Wl.alloc 4 rfl T.zero43 (fun b5 => ?_)
    refine Wl.on0 ?_
    refine Gm.one 11 ⟨rfl, rfl, rfl, rfl, trivial⟩ (by first | exact Imm.le_refl _ | assumption | (refine Imm.le_trans ?_ (by assumption); first | assumption | (refine Imm.le_trans ?_ (by assumption); assumption))) (by kernel_rfl) rfl ?_
    refine Wl.alloc 5 rfl T.zero43 (fun b6 => ?_)
    refine Wl.on0 ?_
    refine Gm.one 13 ⟨rfl, rfl, rfl, rfl, trivial⟩ (by first | exact Imm.le_refl _ | assumption | (refine Imm.le_trans ?_ (by assumption); first | assumption | (refine Imm.le_trans ?_ (by assumption); assumption))) (by kernel_rfl) rfl ?_
    refine Wl.storeAll 5 T.size43 rfl rfl rfl rfl rfl rfl ?_
    refine Wl.on0 ?_
    refine Gm.one 14 ⟨rfl, rfl, rfl, rfl, trivial⟩ (by first | exact Imm.le_refl _ | assumption | (refine Imm.le_trans ?_ (by assumption); first | assumption | (refine Imm.le_trans ?_ (by assumption); assumption))) (by kernel_rfl) rfl ?_
    refine Wl.storeAll 4 T.size43 rfl rfl rfl rfl rfl rfl ?_
    refine Wl.on0 ?_
    refine Gm.doneA (by kernel_rfl) ⟨rfl, rfl, rfl, rfl, trivial⟩ (by first | exact Imm.le_refl _ | assumption | (refine Imm.le_trans ?_ (by assumption); first | assumption | (refine Imm.le_trans ?_ (by assumption); assumption))) ?_
    rotate_left
    refine Wl.alloc 4 rfl T.zero43 (fun b5 => ?_)
    refine Wl.on0 ?_
    refine Gm.two 10 12 ⟨rfl, rfl, rfl, rfl, trivial⟩ (by first | exact Imm.le_refl _ | assumption | (refine Imm.le_trans ?_ (by assumption); first | assumption | (refine Imm.le_trans ?_ (by assumption); assumption))) (by kernel_rfl) rfl rfl ?_ ?_
    refine Wl.call 5 rfl T.fn60 rfl (c60 _ _ _ _ _ (by assumption) (by omega) (by assumption)) (tags_of trivial) (fun v3 G3 Ho3 hle3 hp => ?_)
    obtain ⟨tn3, rfl, htr3, rfl, rfl⟩ := hp
    refine Wl.on0 ?_
    refine Gm.one 12 ⟨rfl, rfl, rfl, rfl, trivial⟩ (by first | exact Imm.le_refl _ | assumption | (refine Imm.le_trans ?_ (by assumption); first | assumption | (refine Imm.le_trans ?_ (by assumption); assumption))) (by kernel_rfl) rfl ?_
    refine Wl.alloc 5 rfl T.zero43 (fun b6 => ?_)
    refine Wl.on0 ?_
    refine Gm.one 13 ⟨rfl, rfl, rfl, rfl, trivial⟩ (by first | exact Imm.le_refl _ | assumption | (refine Imm.le_trans ?_ (by assumption); first | assumption | (refine Imm.le_trans ?_ (by assumption); assumption))) (by kernel_rfl) rfl ?_
    refine Wl.storeAll 4 T.size43 rfl rfl rfl rfl rfl rfl ?_
    refine Wl.on0 ?_
    refine Gm.one 14 ⟨rfl, rfl, rfl, rfl, trivial⟩ (by first | exact Imm.le_refl _ | assumption | (refine Imm.le_trans ?_ (by assumption); first | assumption | (refine Imm.le_trans ?_ (by assumption); assumption))) (by kernel_rfl) rfl ?_
    refine Wl.storeAll 5 T.size43 rfl rfl rfl rfl rfl rfl ?_
    refine Wl.on0 ?_
    refine Gm.doneA (by kernel_rfl) ⟨rfl, rfl, rfl, rfl, trivial⟩ (by first | exact Imm.le_refl _ | assumption | (refine Imm.le_trans ?_ (by assumption); first | assumption | (refine Imm.le_trans ?_ (by assumption); assumption))) ?_
    rotate_left
    refine Wl.alloc 5 rfl T.zero43 (fun b6 => ?_)
    refine Wl.on0 ?_
    refine Gm.one 10 ⟨rfl, rfl, rfl, rfl, trivial⟩ (by first | exact Imm.le_refl _ | assumption | (refine Imm.le_trans ?_ (by assumption); first | assumption | (refine Imm.le_trans ?_ (by assumption); assumption))) (by kernel_rfl) rfl ?_
    refine Wl.call 6 rfl T.fn60 rfl (c60 _ _ _ _ _ (by assumption) (by omega) (by assumption)) (tags_of trivial) (fun v3 G3 Ho3 hle3 hp => ?_)
    obtain ⟨tn3, rfl, htr3, rfl, rfl⟩ := hp
    refine Wl.on0 ?_
    refine Gm.one 13 ⟨rfl, rfl, rfl, rfl, trivial⟩ (by first | exact Imm.le_refl _ | assumption | (refine Imm.le_trans ?_ (by assumption); first | assumption | (refine Imm.le_trans ?_ (by assumption); assumption))) (by kernel_rfl) rfl ?_
    refine Wl.storeAll 4 T.size43 rfl rfl rfl rfl rfl rfl ?_
    refine Wl.on0 ?_
    refine Gm.one 14 ⟨rfl, rfl, rfl, rfl, trivial⟩ (by first | exact Imm.le_refl _ | assumption | (refine Imm.le_trans ?_ (by assumption); first | assumption | (refine Imm.le_trans ?_ (by assumption); assumption))) (by kernel_rfl) rfl ?_
    refine Wl.storeAll 5 T.size43 rfl rfl rfl rfl rfl rfl ?_
    refine Wl.on0 ?_
    refine Gm.doneA (by kernel_rfl) ⟨rfl, rfl, rfl, rfl, trivial⟩ (by first | exact Imm.le_refl _ | assumption | (refine Imm.le_trans ?_ (by assumption); first | assumption | (refine Imm.le_trans ?_ (by assumption); assumption))) ?_
    rotate_left
    refine Wl.alloc 4 rfl T.zero43 (fun b5 => ?_)
    refine Wl.on0 ?_
    refine Gm.two 10 11 ⟨rfl, rfl, rfl, rfl, trivial⟩ (by first | exact Imm.le_refl _ | assumption | (refine Imm.le_trans ?_ (by assumption); first | assumption | (refine Imm.le_trans ?_ (by assumption); assumption))) (by kernel_rfl) rfl rfl ?_ ?_
    refine Wl.call 5 rfl T.fn60 rfl (c60 _ _ _ _ _ (by assumption) (by omega) (by assumption)) (tags_of trivial) (fun v3 G3 Ho3 hle3 hp => ?_)
    obtain ⟨tn3, rfl, htr3, rfl, rfl⟩ := hp
    refine Wl.on0 ?_
    refine Gm.one 11 ⟨rfl, rfl, rfl, rfl, trivial⟩ (by first | exact Imm.le_refl _ | assumption | (refine Imm.le_trans ?_ (by assumption); first | assumption | (refine Imm.le_trans ?_ (by assumption); assumption))) (by kernel_rfl) rfl ?_
    refine Wl.alloc 5 rfl T.zero43 (fun b6 => ?_)
    refine Wl.on0 ?_
    refine Gm.one 13 ⟨rfl, rfl, rfl, rfl, trivial⟩ (by first | exact Imm.le_refl _ | assumption | (refine Imm.le_trans ?_ (by assumption); first | assumption | (refine Imm.le_trans ?_ (by assumption); assumption))) (by kernel_rfl) rfl ?_
    refine Wl.storeAll 5 T.size43 rfl rfl rfl rfl rfl rfl ?_
    refine Wl.on0 ?_
    refine Gm.one 14 ⟨rfl, rfl, rfl, rfl, trivial⟩ (by first | exact Imm.le_refl _ | assumption | (refine Imm.le_trans ?_ (by assumption); first | assumption | (refine Imm.le_trans ?_ (by assumption); assumption))) (by kernel_rfl) rfl ?_
    refine Wl.storeAll 4 T.size43 rfl rfl rfl rfl rfl rfl ?_
    refine Wl.on0 ?_
    refine Gm.doneA (by kernel_rfl) ⟨rfl, rfl, rfl, rfl, trivial⟩ (by first | exact Imm.le_refl _ | assumption | (refine Imm.le_trans ?_ (by assumption); first | assumption | (refine Imm.le_trans ?_ (by assumption); assumption))) ?_
    rotate_left
    refine Wl.alloc 5 rfl T.zero43 (fun b6 => ?_)
    refine Wl.on0 ?_
    refine Gm.one 10 ⟨rfl, rfl, rfl, rfl, trivial⟩ (by first | exact Imm.le_refl _ | assumption | (refine Imm.le_trans ?_ (by assumption); first | assumption | (refine Imm.le_trans ?_ (by assumption); assumption))) (by kernel_rfl) rfl ?_
    refine Wl.call 6 rfl T.fn60 rfl (c60 _ _ _ _ _ (by assumption) (by omega) (by assumption)) (tags_of trivial) (fun v3 G3 Ho3 hle3 hp => ?_)
    obtain ⟨tn3, rfl, htr3, rfl, rfl⟩ := hp
    refine Wl.on0 ?_
    refine Gm.one 13 ⟨rfl, rfl, rfl, rfl, trivial⟩ (by first | exact Imm.le_refl _ | assumption | (refine Imm.le_trans ?_ (by assumption); first | assumption | (refine Imm.le_trans ?_ (by assumption); assumption))) (by kernel_rfl) rfl ?_
    refine Wl.storeAll 5 T.size43 rfl rfl rfl rfl rfl rfl ?_
    refine Wl.on0 ?_
    refine Gm.one 14 ⟨rfl, rfl, rfl, rfl, trivial⟩ (by first | exact Imm.le_refl _ | assumption | (refine Imm.le_trans ?_ (by assumption); first | assumption | (refine Imm.le_trans ?_ (by assumption); assumption))) (by kernel_rfl) rfl ?_
    refine Wl.storeAll 4 T.size43 rfl rfl rfl rfl rfl rfl ?_
    refine Wl.on0 ?_
    refine Gm.doneA (by kernel_rfl) ⟨rfl, rfl, rfl, rfl, trivial⟩ (by first | exact Imm.le_refl _ | assumption | (refine Imm.le_trans ?_ (by assumption); first | assumption | (refine Imm.le_trans ?_ (by assumption); assumption))) ?_
    rotate_left
    refine Wl.alloc 4 rfl T.zero43 (fun b5 => ?_)
    refine Wl.on0 ?_
    refine Gm.two 6 12 ⟨rfl, rfl, rfl, rfl, trivial⟩ (by first | exact Imm.le_refl _ | assumption | (refine Imm.le_trans ?_ (by assumption); first | assumption | (refine Imm.le_trans ?_ (by assumption); assumption))) (by kernel_rfl) rfl rfl ?_ ?_
    refine Wl.call 5 rfl T.fn60 rfl (c60 _ _ _ _ _ (by assumption) (by omega) (by assumption)) (tags_of trivial) (fun v2 G2 Ho2 hle2 hp => ?_)
    obtain ⟨tn2, rfl, htr2, rfl, rfl⟩ := hp
    refine Wl.on0 ?_
    refine Gm.two 10 12 ⟨rfl, rfl, rfl, rfl, trivial⟩ (by first | exact Imm.le_refl _ | assumption | (refine Imm.le_trans ?_ (by assumption); first | assumption | (refine Imm.le_trans ?_ (by assumption); assumption))) (by kernel_rfl) rfl rfl ?_ ?_
    refine Wl.call 5 rfl T.fn60 rfl (c60 _ _ _ _ _ (by assumption) (by omega) (by assumption)) (tags_of trivial) (fun v3 G3 Ho3 hle3 hp => ?_)
    obtain ⟨tn3, rfl, htr3, rfl, rfl⟩ := hp
    refine Wl.on0 ?_
    refine Gm.one 12 ⟨rfl, rfl, rfl, rfl, trivial⟩ (by first | exact Imm.le_refl _ | assumption | (refine Imm.le_trans ?_ (by assumption); first | assumption | (refine Imm.le_trans ?_ (by assumption); assumption))) (by kernel_rfl) rfl ?_
    refine Wl.alloc 5 rfl T.zero43 (fun b6 => ?_)
    refine Wl.on0 ?_
    refine Gm.one 13 ⟨rfl, rfl, rfl, rfl, trivial⟩ (by first | exact Imm.le_refl _ | assumption | (refine Imm.le_trans ?_ (by assumption); first | assumption | (refine Imm.le_trans ?_ (by assumption); assumption))) (by kernel_rfl) rfl ?_
    refine Wl.storeAll 4 T.size43 rfl rfl rfl rfl rfl rfl ?_
    refine Wl.on0 ?_
    refine Gm.one 14 ⟨rfl, rfl, rfl, rfl, trivial⟩ (by first | exact Imm.le_refl _ | assumption | (refine Imm.le_trans ?_ (by assumption); first | assumption | (refine Imm.le_trans ?_ (by assumption); assumption))) (by kernel_rfl) rfl ?_
    refine Wl.storeAll 5 T.size43 rfl rfl rfl rfl rfl rfl ?_
    refine Wl.on0 ?_
    refine Gm.doneA (by kernel_rfl) ⟨rfl, rfl, rfl, rfl, trivial⟩ (by first | exact Imm.le_refl _ | assumption | (refine Imm.le_trans ?_ (by assumption); first | assumption | (refine Imm.le_trans ?_ (by assumption); assumption))) ?_
    rotate_left
    refine Wl.alloc 5 rfl T.zero43 (fun b6 => ?_)
    refine Wl.on0 ?_
    refine Gm.one 10 ⟨rfl, rfl, rfl, rfl, trivial⟩ (by first | exact Imm.le_refl _ | assumption | (refine Imm.le_trans ?_ (by assumption); first | assumption | (refine Imm.le_trans ?_ (by assumption); assumption))) (by kernel_rfl) rfl ?_
    refine Wl.call 6 rfl T.fn60 rfl (c60 _ _ _ _ _ (by assumption) (by omega) (by assumption)) (tags_of trivial) (fun v3 G3 Ho3 hle3 hp => ?_)
    obtain ⟨tn3, rfl, htr3, rfl, rfl⟩ := hp
    refine Wl.on0 ?_
    refine Gm.one 13 ⟨rfl, rfl, rfl, rfl, trivial⟩ (by first | exact Imm.le_refl _ | assumption | (refine Imm.le_trans ?_ (by assumption); first | assumption | (refine Imm.le_trans ?_ (by assumption); assumption))) (by kernel_rfl) rfl ?_
    refine Wl.storeAll 4 T.size43 rfl rfl rfl rfl rfl rfl ?_
    refine Wl.on0 ?_
    refine Gm.one 14 ⟨rfl, rfl, rfl, rfl, trivial⟩ (by first | exact Imm.le_refl _ | assumption | (refine Imm.le_trans ?_ (by assumption); first | assumption | (refine Imm.le_trans ?_ (by assumption); assumption))) (by kernel_rfl) rfl ?_
    refine Wl.storeAll 5 T.size43 rfl rfl rfl rfl rfl rfl ?_
    refine Wl.on0 ?_
    refine Gm.doneA (by kernel_rfl) ⟨rfl, rfl, rfl, rfl, trivial⟩ (by first | exact Imm.le_refl _ | assumption | (refine Imm.le_trans ?_ (by assumption); first | assumption | (refine Imm.le_trans ?_ (by assumption); assumption))) ?_
    rotate_left
    refine Wl.alloc 5 rfl T.zero43 (fun b6 => ?_)
    refine Wl.on0 ?_
    refine Gm.one 6 ⟨rfl, rfl, rfl, rfl, trivial⟩ (by first | exact Imm.le_refl _ | assumption | (refine Imm.le_trans ?_ (by assumption); first | assumption | (refine Imm.le_trans ?_ (by assumption); assumption))) (by kernel_rfl) rfl ?_
    refine Wl.call 6 rfl T.fn60 rfl (c60 _ _ _ _ _ (by assumption) (by omega) (by assumption)) (tags_of trivial) (fun v2 G2 Ho2 hle2 hp => ?_)
    obtain ⟨tn2, rfl, htr2, rfl, rfl⟩ := hp
    refine Wl.on0 ?_
    refine Gm.one 10 ⟨rfl, rfl, rfl, rfl, trivial⟩ (by first | exact Imm.le_refl _ | assumption | (refine Imm.le_trans ?_ (by assumption); first | assumption | (refine Imm.le_trans ?_ (by assumption); assumption))) (by kernel_rfl) rfl ?_
    refine Wl.call 6 rfl T.fn60 rfl (c60 _ _ _ _ _ (by assumption) (by omega) (by assumption)) (tags_of trivial) (fun v3 G3 Ho3 hle3 hp => ?_)
    obtain ⟨tn3, rfl, htr3, rfl, rfl⟩ := hp
    refine Wl.on0 ?_
    refine Gm.one 13 ⟨rfl, rfl, rfl, rfl, trivial⟩ (by first | exact Imm.le_refl _ | assumption | (refine Imm.le_trans ?_ (by assumption); first | assumption | (refine Imm.le_trans ?_ (by assumption); assumption))) (by kernel_rfl) rfl ?_
    refine Wl.storeAll 4 T.size43 rfl rfl rfl rfl rfl rfl ?_
    refine Wl.on0 ?_
    refine Gm.one 14 ⟨rfl, rfl, rfl, rfl, trivial⟩ (by first | exact Imm.le_refl _ | assumption | (refine Imm.le_trans ?_ (by assumption); first | assumption | (refine Imm.le_trans ?_ (by assumption); assumption))) (by kernel_rfl) rfl ?_
    refine Wl.storeAll 5 T.size43 rfl rfl rfl rfl rfl rfl ?_
    refine Wl.on0 ?_
    refine Gm.doneA (by kernel_rfl) ⟨rfl, rfl, rfl, rfl, trivial⟩ (by first | exact Imm.le_refl _ | assumption | (refine Imm.le_trans ?_ (by assumption); first | assumption | (refine Imm.le_trans ?_ (by assumption); assumption))) ?_
    rotate_left
    refine Wl.alloc 4 rfl T.zero43 (fun b5 => ?_)
    refine Wl.on0 ?_
    refine Gm.two 6 11 ⟨rfl, rfl, rfl, rfl, trivial⟩ (by first | exact Imm.le_refl _ | assumption | (refine Imm.le_trans ?_ (by assumption); first | assumption | (refine Imm.le_trans ?_ (by assumption); assumption))) (by kernel_rfl) rfl rfl ?_ ?_
    refine Wl.call 5 rfl T.fn60 rfl (c60 _ _ _ _ _ (by assumption) (by omega) (by assumption)) (tags_of trivial) (fun v2 G2 Ho2 hle2 hp => ?_)
    obtain ⟨tn2, rfl, htr2, rfl, rfl⟩ := hp
    refine Wl.on0 ?_
    refine Gm.two 10 11 ⟨rfl, rfl, rfl, rfl, trivial⟩ (by first | exact Imm.le_refl _ | assumption | (refine Imm.le_trans ?_ (by assumption); first | assumption | (refine Imm.le_trans ?_ (by assumption); assumption))) (by kernel_rfl) rfl rfl ?_ ?_
    refine Wl.call 5 rfl T.fn60 rfl (c60 _ _ _ _ _ (by assumption) (by omega) (by assumption)) (tags_of trivial) (fun v3 G3 Ho3 hle3 hp => ?_)
    obtain ⟨tn3, rfl, htr3, rfl, rfl⟩ := hp
    refine Wl.on0 ?_
    refine Gm.one 11 ⟨rfl, rfl, rfl, rfl, trivial⟩ (by first | exact Imm.le_refl _ | assumption | (refine Imm.le_trans ?_ (by assumption); first | assumption | (refine Imm.le_trans ?_ (by assumption); assumption))) (by kernel_rfl) rfl ?_
    refine Wl.alloc 5 rfl T.zero43 (fun b6 => ?_)
    refine Wl.on0 ?_
    refine Gm.one 13 ⟨rfl, rfl, rfl, rfl, trivial⟩ (by first | exact Imm.le_refl _ | assumption | (refine Imm.le_trans ?_ (by assumption); first | assumption | (refine Imm.le_trans ?_ (by assumption); assumption))) (by kernel_rfl) rfl ?_
    refine Wl.storeAll 5 T.size43 rfl rfl rfl rfl rfl rfl ?_
    refine Wl.on0 ?_
    refine Gm.one 14 ⟨rfl, rfl, rfl, rfl, trivial⟩ (by first | exact Imm.le_refl _ | assumption | (refine Imm.le_trans ?_ (by assumption); first | assumption | (refine Imm.le_trans ?_ (by assumption); assumption))) (by kernel_rfl) rfl ?_
    refine Wl.storeAll 4 T.size43 rfl rfl rfl rfl rfl rfl ?_
    refine Wl.on0 ?_
    refine Gm.doneA (by kernel_rfl) ⟨rfl, rfl, rfl, rfl, trivial⟩ (by first | exact Imm.le_refl _ | assumption | (refine Imm.le_trans ?_ (by assumption); first | assumption | (refine Imm.le_trans ?_ (by assumption); assumption))) ?_
    rotate_left
    refine Wl.alloc 5 rfl T.zero43 (fun b6 => ?_)
    refine Wl.on0 ?_
    refine Gm.one 10 ⟨rfl, rfl, rfl, rfl, trivial⟩ (by first | exact Imm.le_refl _ | assumption | (refine Imm.le_trans ?_ (by assumption); first | assumption | (refine Imm.le_trans ?_ (by assumption); assumption))) (by kernel_rfl) rfl ?_
    refine Wl.call 6 rfl T.fn60 rfl (c60 _ _ _ _ _ (by assumption) (by omega) (by assumption)) (tags_of trivial) (fun v3 G3 Ho3 hle3 hp => ?_)
    obtain ⟨tn3, rfl, htr3, rfl, rfl⟩ := hp
    refine Wl.on0 ?_
    refine Gm.one 13 ⟨rfl, rfl, rfl, rfl, trivial⟩ (by first | exact Imm.le_refl _ | assumption | (refine Imm.le_trans ?_ (by assumption); first | assumption | (refine Imm.le_trans ?_ (by assumption); assumption))) (by kernel_rfl) rfl ?_
    refine Wl.storeAll 5 T.size43 rfl rfl rfl rfl rfl rfl ?_
    refine Wl.on0 ?_
    refine Gm.one 14 ⟨rfl, rfl, rfl, rfl, trivial⟩ (by first | exact Imm.le_refl _ | assumption | (refine Imm.le_trans ?_ (by assumption); first | assumption | (refine Imm.le_trans ?_ (by assumption); assumption))) (by kernel_rfl) rfl ?_
    refine Wl.storeAll 4 T.size43 rfl rfl rfl rfl rfl rfl ?_
    refine Wl.on0 ?_
    refine Gm.doneA (by kernel_rfl) ⟨rfl, rfl, rfl, rfl, trivial⟩ (by first | exact Imm.le_refl _ | assumption | (refine Imm.le_trans ?_ (by assumption); first | assumption | (refine Imm.le_trans ?_ (by assumption); assumption))) ?_
    rotate_left
    refine Wl.alloc 5 rfl T.zero43 (fun b6 => ?_)
    refine Wl.on0 ?_
    refine Gm.one 6 ⟨rfl, rfl, rfl, rfl, trivial⟩ (by first | exact Imm.le_refl _ | assumption | (refine Imm.le_trans ?_ (by assumption); first | assumption | (refine Imm.le_trans ?_ (by assumption); assumption))) (by kernel_rfl) rfl ?_
    refine Wl.call 6 rfl T.fn60 rfl (c60 _ _ _ _ _ (by assumption) (by omega) (by assumption)) (tags_of trivial) (fun v2 G2 Ho2 hle2 hp => ?_)
    obtain ⟨tn2, rfl, htr2, rfl, rfl⟩ := hp
    refine Wl.on0 ?_
    refine Gm.one 10 ⟨rfl, rfl, rfl, rfl, trivial⟩ (by first | exact Imm.le_refl _ | assumption | (refine Imm.le_trans ?_ (by assumption); first | assumption | (refine Imm.le_trans ?_ (by assumption); assumption))) (by kernel_rfl) rfl ?_
    refine Wl.call 6 rfl T.fn60 rfl (c60 _ _ _ _ _ (by assumption) (by omega) (by assumption)) (tags_of trivial) (fun v3 G3 Ho3 hle3 hp => ?_)
    obtain ⟨tn3, rfl, htr3, rfl, rfl⟩ := hp
    refine Wl.on0 ?_
    refine Gm.one 13 ⟨rfl, rfl, rfl, rfl, trivial⟩ (by first | exact Imm.le_refl _ | assumption | (refine Imm.le_trans ?_ (by assumption); first | assumption | (refine Imm.le_trans ?_ (by assumption); assumption))) (by kernel_rfl) rfl ?_
    refine Wl.storeAll 5 T.size43 rfl rfl rfl rfl rfl rfl ?_
    refine Wl.on0 ?_
    refine Gm.one 14 ⟨rfl, rfl, rfl, rfl, trivial⟩ (by first | exact Imm.le_refl _ | assumption | (refine Imm.le_trans ?_ (by assumption); first | assumption | (refine Imm.le_trans ?_ (by assumption); assumption))) (by kernel_rfl) rfl ?_
    refine Wl.storeAll 4 T.size43 rfl rfl rfl rfl rfl rfl ?_
    refine Wl.on0 ?_
    refine Gm.doneA (by kernel_rfl) ⟨rfl, rfl, rfl, rfl, trivial⟩ (by first | exact Imm.le_refl _ | assumption | (refine Imm.le_trans ?_ (by assumption); first | assumption | (refine Imm.le_trans ?_ (by assumption); assumption))) ?_
    rotate_left
    all_goals first | (refine Ar.retag 4 60 rfl rfl (Ar.retag 5 61 rfl rfl (Ar.meet (tn2, tn3, b5, b6) ⟨htr2, htr3⟩ rfl ?_ ?_)) <;> (repeat (first | exact trivial | refine ⟨rfl, ?_⟩)); done) | (refine Ar.retag 5 60 rfl rfl (Ar.retag 4 61 rfl rfl (Ar.meet (tn2, tn3, b6, b5) ⟨htr2, htr3⟩ rfl ?_ ?_)) <;> (repeat (first | exact trivial | refine ⟨rfl, ?_⟩)); done)
  · obtain ⟨htq, htm⟩ := hk
    have hlt := valL_lt db
    have hxy := dm_plain hx.val hy.val hvq1
    have hQ0 := htq.num dq1 hqa1 hqc1 (decide (n1 ≠ n2))
    have hR0 := htm.num dr1 hra1 hrc1 n1
    refine Wc.seq ?_
    refine Wc.seq ?_
    refine Wc.region rfl ?_
    refine Wl.q rfl (Qy.fieldAddr T.fa43_0 rfl) ?_
    refine Wl.q rfl (Qy.load 61 T.one4 rfl rfl rfl) ?_
    refine Wl.done ?_
    refine Ar.next ?_
    refine Wc.ite rfl (fun hc1 => ?_) (fun hc1 => ?_)
    refine Wc.seq ?_
    refine Wc.draw [0, 1, 2, 3, 61, 60] [(61, 4)] T.mixed rfl ?_
    refine Gm.q 0 [61] (by kernel_rfl) rfl rfl (Qy.loadAll 61 T.agg43 rfl rfl rfl) ?_
    refine Gm.q 1 [1] (by kernel_rfl) rfl rfl (Qy.loadAll 1 T.agg43 rfl rfl rfl) ?_
    refine Gm.one 2 ⟨rfl, rfl, rfl, rfl, rfl, rfl, trivial⟩ (by first | exact Imm.le_refl _ | assumption | (refine Imm.le_trans ?_ (by assumption); first | assumption | (refine Imm.le_trans ?_ (by assumption); assumption))) (by kernel_rfl) rfl ?_
    refine Wl.call 62 rfl T.fn107 rfl (c107 _ _ _ _ _ _ (by assumption) (by assumption) (by omega) (by assumption)) (tags_of trivial) (fun v2 G2 Ho2 hle2 hp => ?_)
    obtain ⟨nr2, rfl, hnr2, rfl, rfl⟩ := hp
    refine Wl.on0 ?_
    refine Gm.one 3 ⟨rfl, rfl, rfl, rfl, rfl, rfl, trivial⟩ (by first | exact Imm.le_refl _ | assumption | (refine Imm.le_trans ?_ (by assumption); first | assumption | (refine Imm.le_trans ?_ (by assumption); assumption))) (by kernel_rfl) rfl ?_
    refine Wl.call 62 rfl T.fn101 rfl (num_add _ ⟨(n1 && decide (0 < tm)), subA ra1 rc1 0 1, tm, rc1⟩ nr2 _ _ hR0 hnr2 (Nat.le_trans htm.1 (by omega)) (Nat.le_trans (Num.len hnr2 (m := lb.length) (by omega)) (by omega))) (tags_of trivial) (fun v3 G3 Ho3 hle3 hp => ?_)
    obtain ⟨rs3, rfl, hrs3, rfl⟩ := hp
    replace hqa1 := hqa1.up hle3
    replace hra1 := hra1.up hle3
    replace ha := ha.up hle3
    replace hb := hb.up hle3
    replace hQ0 := hQ0.up hle3
    replace hR0 := hR0.up hle3
    replace hnr2 := hnr2.up hle3
    refine Wl.on0 ?_
    refine Gm.one 4 ⟨rfl, rfl, rfl, rfl, rfl, rfl, trivial⟩ (by first | exact Imm.le_refl _ | assumption | (refine Imm.le_trans ?_ (by assumption); first | assumption | (refine Imm.le_trans ?_ (by assumption); assumption))) (by kernel_rfl) rfl ?_
    refine Wl.storeAll 61 T.size43 rfl rfl rfl rfl rfl rfl ?_
    refine Wl.on0 ?_
    refine Gm.doneA (by kernel_rfl) ⟨rfl, rfl, rfl, rfl, rfl, trivial⟩ (by first | exact Imm.le_refl _ | assumption | (refine Imm.le_trans ?_ (by assumption); first | assumption | (refine Imm.le_trans ?_ (by assumption); assumption))) ?_
    refine Ar.next ?_
    refine Wc.draw [0, 1, 2, 3, 60, 61] [(60, 5)] T.mixed rfl ?_
    refine Gm.q 0 [60] (by kernel_rfl) rfl rfl (Qy.loadAll 60 T.agg43 rfl rfl rfl) ?_
    refine Gm.q 1 [1] (by kernel_rfl) rfl rfl (Qy.loadAll 1 T.agg43 rfl rfl rfl) ?_
    refine Gm.one 2 ⟨rfl, rfl, rfl, rfl, rfl, rfl, trivial⟩ (by first | exact Imm.le_refl _ | assumption | (refine Imm.le_trans ?_ (by assumption); first | assumption | (refine Imm.le_trans ?_ (by assumption); assumption))) (by kernel_rfl) rfl ?_
    refine Wl.call0 rfl T.fn90 rfl (c90 _ _ _ _ _ y (by assumption) (by omega)) ?_
    refine Wl.on0 ?_
    refine Gm.one 3 ⟨rfl, rfl, rfl, rfl, rfl, rfl, trivial⟩ (by first | exact Imm.le_refl _ | assumption | (refine Imm.le_trans ?_ (by assumption); first | assumption | (refine Imm.le_trans ?_ (by assumption); assumption))) (by kernel_rfl) rfl ?_
    refine Wl.call 62 rfl T.fn20 rfl (c20 _ _ (sgZ_bd9 y)) (tags_of trivial) (fun v4 G4 Ho4 hle4 hp => ?_)
    obtain ⟨ro4, rfl, hro4, rfl⟩ := hp
    replace hrs3 := hrs3.up hle4
    replace hqa1 := hqa1.up hle4
    replace hra1 := hra1.up hle4
    replace ha := ha.up hle4
    replace hb := hb.up hle4
    replace hQ0 := hQ0.up hle4
    replace hR0 := hR0.up hle4
    replace hnr2 := hnr2.up hle4
    refine Wl.on0 ?_
    refine Gm.one 4 ⟨rfl, rfl, rfl, rfl, rfl, rfl, trivial⟩ (by first | exact Imm.le_refl _ | assumption | (refine Imm.le_trans ?_ (by assumption); first | assumption | (refine Imm.le_trans ?_ (by assumption); assumption))) (by kernel_rfl) rfl ?_
    refine Wl.call 62 rfl T.fn108 rfl (num_sub _ ⟨(decide (n1 ≠ n2) && decide (0 < tn)), subA qa1 qc1 0 1, tn, qc1⟩ ro4 _ _ hQ0 hro4 (Nat.le_trans htq.1 (by omega)) (Nat.le_trans (Num.len hro4 (m := 1) (sgZ_lt1 y)) (by omega))) (tags_of trivial) (fun v5 G5 Ho5 hle5 hp => ?_)
    obtain ⟨rd5, rfl, hrd5, rfl⟩ := hp
    replace hro4 := hro4.up hle5
    replace hrs3 := hrs3.up hle5
    replace hqa1 := hqa1.up hle5
    replace hra1 := hra1.up hle5
    replace ha := ha.up hle5
    replace hb := hb.up hle5
    replace hQ0 := hQ0.up hle5
    replace hR0 := hR0.up hle5
    replace hnr2 := hnr2.up hle5
    refine Wl.on0 ?_
    refine Gm.one 5 ⟨rfl, rfl, rfl, rfl, rfl, rfl, trivial⟩ (by first | exact Imm.le_refl _ | assumption | (refine Imm.le_trans ?_ (by assumption); first | assumption | (refine Imm.le_trans ?_ (by assumption); assumption))) (by kernel_rfl) rfl ?_
    refine Wl.storeAll 60 T.size43 rfl rfl rfl rfl rfl rfl ?_
    refine Wl.on0 ?_
    refine Gm.doneA (by kernel_rfl) ⟨rfl, rfl, rfl, rfl, rfl, trivial⟩ (by first | exact Imm.le_refl _ | assumption | (refine Imm.le_trans ?_ (by assumption); first | assumption | (refine Imm.le_trans ?_ (by assumption); assumption))) ?_
    refine Ar.next ?_
    refine Wc.seq ?_
    refine Wc.draw [0, 1, 2, 3, 61, 60] [(3, 3), (2, 2)] T.mixed rfl ?_
    refine Gm.q 0 [60] (by kernel_rfl) rfl rfl (Qy.loadAll 60 T.agg43 rfl rfl rfl) ?_
    refine Gm.q 1 [61] (by kernel_rfl) rfl rfl (Qy.loadAll 61 T.agg43 rfl rfl rfl) ?_
    refine Gm.one 2 ⟨rfl, rfl, rfl, rfl, rfl, rfl, trivial⟩ (by first | exact Imm.le_refl _ | assumption | (refine Imm.le_trans ?_ (by assumption); first | assumption | (refine Imm.le_trans ?_ (by assumption); assumption))) (by kernel_rfl) rfl ?_
    refine Wl.storeAll 2 T.size43 rfl rfl rfl rfl rfl rfl ?_
    refine Wl.on0 ?_
    refine Gm.one 3 ⟨rfl, rfl, rfl, rfl, rfl, trivial⟩ (by first | exact Imm.le_refl _ | assumption | (refine Imm.le_trans ?_ (by assumption); first | assumption | (refine Imm.le_trans ?_ (by assumption); assumption))) (by kernel_rfl) rfl ?_
    refine Wl.storeAll 3 T.size43 rfl rfl rfl rfl rfl rfl ?_
    refine Wl.on0 ?_
    refine Gm.doneA (by kernel_rfl) ⟨rfl, rfl, rfl, rfl, trivial⟩ (by first | exact Imm.le_refl _ | assumption | (refine Imm.le_trans ?_ (by assumption); first | assumption | (refine Imm.le_trans ?_ (by assumption); assumption))) ?_
    refine Ar.next ?_
    refine Wc.ret ?_
    rotate_left
    refine Wc.skip ?_
    refine Ar.next ?_
    refine Wc.seq ?_
    refine Wc.draw [0, 1, 2, 3, 61, 60] [(3, 3), (2, 2)] T.mixed rfl ?_
    refine Gm.q 0 [60] (by kernel_rfl) rfl rfl (Qy.loadAll 60 T.agg43 rfl rfl rfl) ?_
    refine Gm.q 1 [61] (by kernel_rfl) rfl rfl (Qy.loadAll 61 T.agg43 rfl rfl rfl) ?_
    refine Gm.one 2 ⟨rfl, rfl, rfl, rfl, rfl, rfl, trivial⟩ (by first | exact Imm.le_refl _ | assumption | (refine Imm.le_trans ?_ (by assumption); first | assumption | (refine Imm.le_trans ?_ (by assumption); assumption))) (by kernel_rfl) rfl ?_
    refine Wl.storeAll 2 T.size43 rfl rfl rfl rfl rfl rfl ?_
    refine Wl.on0 ?_
    refine Gm.one 3 ⟨rfl, rfl, rfl, rfl, rfl, trivial⟩ (by first | exact Imm.le_refl _ | assumption | (refine Imm.le_trans ?_ (by assumption); first | assumption | (refine Imm.le_trans ?_ (by assumption); assumption))) (by kernel_rfl) rfl ?_
    refine Wl.storeAll 3 T.size43 rfl rfl rfl rfl rfl rfl ?_
    refine Wl.on0 ?_
    refine Gm.doneA (by kernel_rfl) ⟨rfl, rfl, rfl, rfl, trivial⟩ (by first | exact Imm.le_refl _ | assumption | (refine Imm.le_trans ?_ (by assumption); first | assumption | (refine Imm.le_trans ?_ (by assumption); assumption))) ?_
    refine Ar.next ?_
    refine Wc.ret ?_
    rotate_left
    · refine Ar.out2 (.inr rfl) (Ho := []) rfl (.agg 2 rfl rfl T.agg43) (.agg 3 rfl rfl T.agg43) trivial ?_
      have he := dm_true hxy hy0 (by omega) hc1 htm dr1
      refine ⟨rd5, rs3, rfl, ?_, ?_, rfl⟩
      · rw [← he.1]; exact hrd5
      · rw [← he.2]; exact hrs3
    · refine Ar.out2 (.inr rfl) (Ho := []) rfl (.agg 2 rfl rfl T.agg43) (.agg 3 rfl rfl T.agg43) trivial ?_
      have he := dm_false hxy hy0 (by omega) hc1 htm dr1
      refine ⟨⟨(decide (n1 ≠ n2) && decide (0 < tn)), subA qa1 qc1 0 1, tn, qc1⟩, ⟨(n1 && decide (0 < tm)), subA ra1 rc1 0 1, tm, rc1⟩, rfl, ?_, ?_, rfl⟩
      · rw [← he.1]; exact hQ0
      · rw [← he.2]; exact hR0
end Go.Proofs.Ytfleehgbpgmcnaa
