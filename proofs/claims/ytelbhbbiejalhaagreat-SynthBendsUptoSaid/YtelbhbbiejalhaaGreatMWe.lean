/- Parts of the proof (part 5): what the rows' text needs of the texts that lead to it. -/
import Derived.Test.YtelbhbbiejalhaaGreatMWd
set_option linter.unusedVariables false
set_option linter.unusedSimpArgs false
set_option linter.unusedSectionVars false
set_option maxRecDepth 100000
set_option linter.unusedVariables false
namespace Go.Proofs.YtelbhbbiejalhaaGreat
open Go Go.Sl
set_option maxHeartbeats 4000000
section
variable {B : Bs} {e : Env} {D : List Deferred} {H : Hp} {G : Imm}
/-- a block under another tag -/
theorem retagH {a : Act} {w : World} (hh : Hold B ⟨e, D, H, G⟩ a w) (t t' : Nat) {k : Option Nat} {o : Obj} (ht : H.get t = some (k, o)) (hn : t ≠ t') (hk : H.get t' = none ∨ True) : Hold B ⟨e, D, (t', k, o) :: (t, none, o) :: H, G⟩ a w := by
  have key : ∀ i b o', Hp.get ((t', k, o) :: (t, none, o) :: H) i = some (some b, o') → (i = t' ∧ H.get t = some (some b, o')) ∨ (i ≠ t' ∧ i ≠ t ∧ H.get i = some (some b, o')) := fun i b o' hx => by
    rw [Hp.get_cons] at hx
    split at hx
    · rename_i hi; left; refine ⟨hi.symm, ?_⟩; rw [ht]; exact hx
    · rename_i hi
      rw [Hp.get_cons] at hx
      split at hx
      · simp at hx
      · rename_i hi2; exact .inr ⟨fun h => hi h.symm, fun h => hi2 h.symm, hx⟩
  refine ⟨hh.size, hh.defers, hh.env, ⟨?_, ?_, hh.mem.imm, ?_⟩, hh.upd, ?_, hh.le, hh.new⟩
  · intro i b o' hx
    rcases key i b o' hx with ⟨_, h⟩ | ⟨_, _, h⟩
    · exact hh.mem.own _ b o' h
    · exact hh.mem.own _ b o' h
  · intro i i' b o1 o2 hx hy
    rcases key i b o1 hx with ⟨h1, h2⟩ | ⟨h1, h1', h2⟩ <;> rcases key i' b o2 hy with ⟨h3, h4⟩ | ⟨h3, h3', h4⟩
    · rw [h1, h3]
    · exact absurd (hh.mem.one _ _ b _ _ h2 h4).symm h3'
    · exact absurd (hh.mem.one _ _ b _ _ h2 h4) h1'
    · exact hh.mem.one _ _ b _ _ h2 h4
  · intro i b o' hx
    rcases key i b o' hx with ⟨_, h⟩ | ⟨_, _, h⟩
    · exact hh.mem.off _ b o' h
    · exact hh.mem.off _ b o' h
  · intro i b o' hx
    rcases key i b o' hx with ⟨_, h⟩ | ⟨_, _, h⟩
    · exact hh.mine _ b o' h
    · exact hh.mine _ b o' h
theorem Ar.retag {x : Exit} {Q : Exit → Act → World → Prop} (t t' : Nat) {k : Option Nat} {o : Obj} (ht : H.get t = some (k, o)) (hn : Nat.beq t t' = false) (h : Ar Q x B ⟨e, D, (t', k, o) :: (t, none, o) :: H, G⟩) : Ar Q x B ⟨e, D, H, G⟩ :=
  fun a w hh => h a w (retagH hh t t' ht (fun e => by subst e; simp at hn) (.inr trivial))
end
/-- quotient and remainder of digits, the remainder no longer than what divides -/
def DivOkL (G : Imm) (la lb : List U32) (v : Value) : Prop := ∃ (qa ra : Option Addr) (qc rc : Nat) (lq lr : List U32), v = .tuple #[.slice qa lq.length qc, .slice ra lr.length rc] ∧ Arr G qa lq ∧ Arr G ra lr ∧ Digs lq ∧ Digs lr ∧
  valL la = valL lq * valL lb + valL lr ∧ valL lr < valL lb ∧ lq.length ≤ qc ∧ lr.length ≤ rc ∧ lq.length ≤ la.length ∧ lr.length ≤ lb.length
theorem c159 (G : Imm) (a b : Option Addr) (ca cb : Nat) (la lb : List U32) (ha : Arr G a la) (hb : Arr G b lb) (da : Digs la) (db : Digs lb) (tb : Top lb) (h1 : la.length ≤ 536870912) (h2 : lb.length ≤ 536870912) (hB : 0 < valL lb) :
    Does Tryz.prog 159 [.slice a la.length ca, .slice b lb.length cb] G [] (fun v G' Ho => DivOkL G' la lb v ∧ Ho = []) := by
  have key : Does Tryz.prog 159 [.slice a la.length ca, .slice b lb.length cb] G [] (fun v G' Ho => DivOk G' la lb v ∧ Ho = []) := by
    by_cases h : lb.length = 1
    · exact c159S G a b ca cb la lb ha hb da db tb h1 h
    · exact c159L G a b ca cb la lb ha hb da db tb h1 h2 h hB
  refine key.mono fun v G' Ho _ ⟨⟨qa, ra, qc, rc, lq, lr, q1, q2, q3, q4, q5, q6, q7, q8, q9, q10, q11, q12⟩, q13⟩ => ?_
  exact ⟨⟨qa, ra, qc, rc, lq, lr, q1, q2, q3, q4, q6, q8, q9, q10, q11, q12, len_le_of_val db q6 q7 (Int.le_of_lt q9)⟩, q13⟩
theorem Num.len {G : Imm} {x : IV} {z : Int} (h : Num G x z) {m : Nat} (hz : (z.natAbs : Int) < pw m) : x.n ≤ m := by
  obtain ⟨l, h1, _, _, h4⟩ := h
  rw [← h1]; exact h4.len hz
theorem num_sub (G : Imm) (x y : IV) (zx zy : Int) (hx : Num G x zx) (hy : Num G y zy) (h1 : x.n ≤ 1073741824) (h2 : y.n ≤ 1073741824) :
    Does Tryz.prog 161 [.agg (Cells.enc x).toArray, .agg (Cells.enc y).toArray] G [] (fun v G' Ho => ∃ r : IV, v = .agg (Cells.enc r).toArray ∧ Num G' r (zx - zy) ∧ Ho = []) := by
  obtain ⟨n1, a, k1, ca⟩ := x
  obtain ⟨n2, b, k2, cb⟩ := y
  obtain ⟨la, hl, hlc, hA, hI⟩ := hx
  obtain ⟨lb, hl', hlc', hA', hI'⟩ := hy
  simp only at hl hlc hA hI hl' hlc' hA' hI' h1 h2
  subst hl hl'
  exact c161 G n1 n2 a b ca cb la lb zx zy hA hA' hI hI' h1 h2 hlc'
theorem sgZ_lt1N (z : Int) : ((sgZ z).natAbs : Int) < pw 1 := by have := sgZ_bd z; have : pw 1 = 65536 := (by decide); omega
theorem trim_pos {l : List U32} {n : Nat} (h : TrimTo l n) (hd : Digs l) (hn : 0 < n) : 0 < valL l := by
  have h1 := h.len
  have := top_pos (hd.take n) h.top (fun e => by rw [e] at h1; simp at h1; omega)
  rwa [h.val] at this
theorem trim_zero {l : List U32} (h : TrimTo l 0) : valL l = 0 := by
  have := h.val
  rw [List.take_zero, valL_nil] at this
  exact this.symm
theorem dm_trueN {n1 : Bool} {lr1 : List U32} {tm : Nat} {q x y : Int} (hx : x = q * y + (if n1 = true then -valL lr1 else valL lr1)) (hy : y ≠ 0) (hl : valL lr1 < y.natAbs) (h : (n1 && decide (0 < tm)) = true) (ht : TrimTo lr1 tm) (hd : Digs lr1) :
    q - sgZ y = x / y ∧ (if n1 = true then -valL lr1 else valL lr1) + (y.natAbs : Int) = x % y := by
  rw [Bool.and_eq_true, decide_eq_true_eq] at h
  have hp := trim_pos ht hd h.2
  have e := h.1
  subst e
  rw [if_pos rfl] at hx ⊢
  exact ediv_of hy (dm_next hx) (by omega) (by omega)
theorem dm_falseN {n1 : Bool} {lr1 : List U32} {tm : Nat} {q x y : Int} (hx : x = q * y + (if n1 = true then -valL lr1 else valL lr1)) (hy : y ≠ 0) (hl : valL lr1 < y.natAbs) (h : (n1 && decide (0 < tm)) = false) (ht : TrimTo lr1 tm) (hd : Digs lr1) :
    q = x / y ∧ (if n1 = true then -valL lr1 else valL lr1) = x % y := by
  have hn := valL_nonneg hd
  refine ediv_of hy hx ?_ ?_
  · cases n1 with
    | false => rw [if_neg (by decide)]; exact hn
    | true =>
      have h0 : tm = 0 := by
        rw [Bool.true_and, decide_eq_false_iff_not] at h
        omega
      subst h0
      rw [if_pos rfl, trim_zero ht]
      omega
  · split <;> omega
attribute [local irreducible] valL pw cmpZ p2
theorem c150 (G : Imm) (n1 n2 : Bool) (a b : Option Addr) (ca cb : Nat) (la lb : List U32) (x y : Int) (ha : Arr G a la) (hb : Arr G b lb) (hx : IsInt n1 la x) (hy : IsInt n2 lb y) (h1 : la.length ≤ 536870912) (h2 : lb.length ≤ 536870912) (hcb : lb.length ≤ cb) (hy0 : y ≠ 0) :
    Does Tryz.prog 150 [.agg #[.bool n1, .slice a la.length ca], .agg #[.bool n2, .slice b lb.length cb]] G [] (fun v G' Ho => ∃ q r : IV, v = .tuple #[.agg (Cells.enc q).toArray, .agg (Cells.enc r).toArray] ∧ Num G' q (x / y) ∧ Num G' r (x % y) ∧ Ho = []) := by
  have da := hx.digs
  have db := hy.digs
  have tb := hy.top
  have va := hx.abs
  have vb := hy.abs
  have hB : 0 < valL lb := by omega
  refine Does.enter Tryz.func150 rfl Tryz.ntmps150 rfl (fun w => ?_)
  refine Wc.gl 2 [] ?_
  refine Wl.box 0 rfl rfl rfl (fun b1 => ?_)
  refine Wl.box 1 rfl rfl rfl (fun b2 => ?_)
  refine Wl.alloc 2 rfl T.zero97 (fun b3 => ?_)
  refine Wl.alloc 3 rfl T.zero97 (fun b4 => ?_)
  refine Wl.gl 8 [0, 1] ?_
  refine Wl.call 4 rfl T.fn159 rfl (c159 _ _ _ _ _ _ _ (by assumption) (by assumption) (by assumption) (by assumption) (by assumption) (by assumption) (by assumption) (by assumption)) (tags_of trivial) (fun v1 G1 Ho1 hle1 hp => ?_)
  obtain ⟨⟨qa1, ra1, qc1, rc1, lq1, lr1, rfl, hqa1, hra1, dq1, dr1, hvq1, hlt1, hqc1, hrc1, hql1, hrl1⟩, rfl⟩ := hp
  replace ha := ha.up hle1
  replace hb := hb.up hle1
  refine Wl.gc 7 [] ?_
  refine Wc.meet (ι := Nat × Nat × Nat × Nat) (fun (tn, tm, p, q) => ([(8, .pointer (some ⟨p, 0, none⟩)), (9, .pointer (some ⟨q, 0, none⟩)), (5, Go.Value.pointer (Option.some (Go.Addr.mk b4 0 Option.none))), (4, Go.Value.pointer (Option.some (Go.Addr.mk b3 0 Option.none))), (3, Go.Value.pointer (Option.some (Go.Addr.mk b2 0 Option.none)))], [(60, some p, .cells #[.bool (decide (n1 ≠ n2) && decide (0 < tn)), .slice (subA qa1 qc1 0 1) tn qc1] 97), (61, some q, .cells #[.bool (n1 && decide (0 < tm)), .slice (subA ra1 rc1 0 1) tm rc1] 97), (3, Option.some b4, Go.Obj.cells #[Go.Value.bool Bool.false, Go.Value.slice Option.none 0 0] 97), (2, Option.some b3, Go.Obj.cells #[Go.Value.bool Bool.false, Go.Value.slice Option.none 0 0] 97), (1, Option.some b2, Go.Obj.cells #[Go.Value.bool n2, Go.Value.slice b (List.length lb) cb] 97), (0, Option.some b1, Go.Obj.cells #[Go.Value.bool n1, Go.Value.slice a (List.length la) ca] 97)])) (fun (tn, tm, p, q) => TrimTo lq1 tn ∧ TrimTo lr1 tm) ?_ (fun ⟨tn, tm, p, q⟩ => fun (hk : TrimTo lq1 tn ∧ TrimTo lr1 tm) => ?_)
  · refine Wc.draw [0, 1, 2, 3] [] T.mixed rfl ?_
    refine Gm.q 0 [] (by kernel_rfl) rfl rfl (Qy.fieldAddr T.fa97_0 rfl) ?_
    refine Gm.q 1 [0] (by kernel_rfl) rfl rfl (Qy.load 0 T.one4 rfl rfl rfl) ?_
    refine Gm.q 2 [] (by kernel_rfl) rfl rfl (Qy.fieldAddr T.fa97_0 rfl) ?_
    refine Gm.q 3 [1] (by kernel_rfl) rfl rfl (Qy.load 1 T.one4 rfl rfl rfl) ?_
    refine Gm.q 4 [] (by kernel_rfl) rfl rfl (Qy.neqB T.u4 rfl rfl) ?_
    refine Gm.q 5 [] (by kernel_rfl) rfl rfl (Qy.move rfl) ?_
    refine Gm.q 7 [] (by kernel_rfl) rfl rfl (Qy.fieldAddr T.fa97_0 rfl) ?_
    refine Gm.q 8 [0] (by kernel_rfl) rfl rfl (Qy.load 0 T.one4 rfl rfl rfl) ?_
    refine Gm.q 9 [] (by kernel_rfl) rfl rfl (Qy.move rfl) ?_
    refine Gm.three 6 11 12 ⟨rfl, rfl, rfl, rfl, trivial⟩ (by first | exact Imm.le_refl _ | assumption | (refine Imm.le_trans ?_ (by assumption); first | assumption | (refine Imm.le_trans ?_ (by assumption); assumption))) (by kernel_rfl) rfl rfl rfl ?_ ?_ ?_
    refine Wl.call 4 rfl T.fn75 rfl (c75 _ _ _ _ _ (by assumption) (by omega) (by assumption)) (tags_of trivial) (fun v2 G2 Ho2 hle2 hp => ?_)
    obtain ⟨tn2, rfl, htr2, rfl, rfl⟩ := hp
    refine Wl.on0 ?_
    refine Gm.three 10 11 12 ⟨rfl, rfl, rfl, rfl, trivial⟩ (by first | exact Imm.le_refl _ | assumption | (refine Imm.le_trans ?_ (by assumption); first | assumption | (refine Imm.le_trans ?_ (by assumption); assumption))) (by kernel_rfl) rfl rfl rfl ?_ ?_ ?_
    refine Wl.call 4 rfl T.fn75 rfl (c75 _ _ _ _ _ (by assumption) (by omega) (by assumption)) (tags_of trivial) (fun v3 G3 Ho3 hle3 hp => ?_)
    obtain ⟨tn3, rfl, htr3, rfl, rfl⟩ := hp
    refine Wl.on0 ?_
    refine Gm.two 11 12 ⟨rfl, rfl, rfl, rfl, trivial⟩ (by first | exact Imm.le_refl _ | assumption | (refine Imm.le_trans ?_ (by assumption); first | assumption | (refine Imm.le_trans ?_ (by assumption); assumption))) (by kernel_rfl) rfl rfl ?_ ?_
    refine Wl.alloc 4 rfl T.zero97 (fun b5 => ?_)
    refine Wl.on0 ?_
    refine Gm.one 12 ⟨rfl, rfl, rfl, rfl, trivial⟩ (by first | exact Imm.le_refl _ | assumption | (refine Imm.le_trans ?_ (by assumption); first | assumption | (refine Imm.le_trans ?_ (by assumption); assumption))) (by kernel_rfl) rfl ?_
    refine Wl.alloc 5 rfl T.zero97 (fun b6 => ?_)
    refine Wl.on0 ?_
    refine Gm.one 13 ⟨rfl, rfl, rfl, rfl, trivial⟩ (by first | exact Imm.le_refl _ | assumption | (refine Imm.le_trans ?_ (by assumption); first | assumption | (refine Imm.le_trans ?_ (by assumption); assumption))) (by kernel_rfl) rfl ?_
    refine Wl.storeAll 4 T.size97 rfl rfl rfl rfl rfl rfl ?_
    refine Wl.on0 ?_
    refine Gm.one 14 ⟨rfl, rfl, rfl, rfl, trivial⟩ (by first | exact Imm.le_refl _ | assumption | (refine Imm.le_trans ?_ (by assumption); first | assumption | (refine Imm.le_trans ?_ (by assumption); assumption))) (by kernel_rfl) rfl ?_
    refine Wl.storeAll 5 T.size97 rfl rfl rfl rfl rfl rfl ?_
    refine Wl.on0 ?_
    refine Gm.doneA (by kernel_rfl) ⟨rfl, rfl, rfl, rfl, trivial⟩ (by first | exact Imm.le_refl _ | assumption | (refine Imm.le_trans ?_ (by assumption); first | assumption | (refine Imm.le_trans ?_ (by assumption); assumption))) ?_
    rotate_left
    refine Wl.alloc 4 rfl T.zero97 (fun b5 => ?_)
    refine Wl.on0 ?_
    refine Gm.one 11 ⟨rfl, rfl, rfl, rfl, trivial⟩ (by first | exact Imm.le_refl _ | assumption | (refine Imm.le_trans ?_ (by assumption); first | assumption | (refine Imm.le_trans ?_ (by assumption); assumption))) (by kernel_rfl) rfl ?_
    refine Wl.alloc 5 rfl T.zero97 (fun b6 => ?_)
    refine Wl.on0 ?_
    refine Gm.one 13 ⟨rfl, rfl, rfl, rfl, trivial⟩ (by first | exact Imm.le_refl _ | assumption | (refine Imm.le_trans ?_ (by assumption); first | assumption | (refine Imm.le_trans ?_ (by assumption); assumption))) (by kernel_rfl) rfl ?_
    refine Wl.storeAll 5 T.size97 rfl rfl rfl rfl rfl rfl ?_
    refine Wl.on0 ?_
    refine Gm.one 14 ⟨rfl, rfl, rfl, rfl, trivial⟩ (by first | exact Imm.le_refl _ | assumption | (refine Imm.le_trans ?_ (by assumption); first | assumption | (refine Imm.le_trans ?_ (by assumption); assumption))) (by kernel_rfl) rfl ?_
    refine Wl.storeAll 4 T.size97 rfl rfl rfl rfl rfl rfl ?_
    refine Wl.on0 ?_
    refine Gm.doneA (by kernel_rfl) ⟨rfl, rfl, rfl, rfl, trivial⟩ (by first | exact Imm.le_refl _ | assumption | (refine Imm.le_trans ?_ (by assumption); first | assumption | (refine Imm.le_trans ?_ (by assumption); assumption))) ?_
    rotate_left
    refine Wl.alloc 4 rfl T.zero97 (fun b5 => ?_)
    refine Wl.on0 ?_
    refine Gm.two 10 12 ⟨rfl, rfl, rfl, rfl, trivial⟩ (by first | exact Imm.le_refl _ | assumption | (refine Imm.le_trans ?_ (by assumption); first | assumption | (refine Imm.le_trans ?_ (by assumption); assumption))) (by kernel_rfl) rfl rfl ?_ ?_
    refine Wl.call 5 rfl T.fn75 rfl (c75 _ _ _ _ _ (by assumption) (by omega) (by assumption)) (tags_of trivial) (fun v3 G3 Ho3 hle3 hp => ?_)
    obtain ⟨tn3, rfl, htr3, rfl, rfl⟩ := hp
    refine Wl.on0 ?_
    refine Gm.one 12 ⟨rfl, rfl, rfl, rfl, trivial⟩ (by first | exact Imm.le_refl _ | assumption | (refine Imm.le_trans ?_ (by assumption); first | assumption | (refine Imm.le_trans ?_ (by assumption); assumption))) (by kernel_rfl) rfl ?_
    refine Wl.alloc 5 rfl T.zero97 (fun b6 => ?_)
    refine Wl.on0 ?_
    refine Gm.one 13 ⟨rfl, rfl, rfl, rfl, trivial⟩ (by first | exact Imm.le_refl _ | assumption | (refine Imm.le_trans ?_ (by assumption); first | assumption | (refine Imm.le_trans ?_ (by assumption); assumption))) (by kernel_rfl) rfl ?_
    refine Wl.storeAll 4 T.size97 rfl rfl rfl rfl rfl rfl ?_
    refine Wl.on0 ?_
    refine Gm.one 14 ⟨rfl, rfl, rfl, rfl, trivial⟩ (by first | exact Imm.le_refl _ | assumption | (refine Imm.le_trans ?_ (by assumption); first | assumption | (refine Imm.le_trans ?_ (by assumption); assumption))) (by kernel_rfl) rfl ?_
    refine Wl.storeAll 5 T.size97 rfl rfl rfl rfl rfl rfl ?_
    refine Wl.on0 ?_
    refine Gm.doneA (by kernel_rfl) ⟨rfl, rfl, rfl, rfl, trivial⟩ (by first | exact Imm.le_refl _ | assumption | (refine Imm.le_trans ?_ (by assumption); first | assumption | (refine Imm.le_trans ?_ (by assumption); assumption))) ?_
    rotate_left
    refine Wl.alloc 5 rfl T.zero97 (fun b6 => ?_)
    refine Wl.on0 ?_
    refine Gm.one 10 ⟨rfl, rfl, rfl, rfl, trivial⟩ (by first | exact Imm.le_refl _ | assumption | (refine Imm.le_trans ?_ (by assumption); first | assumption | (refine Imm.le_trans ?_ (by assumption); assumption))) (by kernel_rfl) rfl ?_
    refine Wl.call 6 rfl T.fn75 rfl (c75 _ _ _ _ _ (by assumption) (by omega) (by assumption)) (tags_of trivial) (fun v3 G3 Ho3 hle3 hp => ?_)
    obtain ⟨tn3, rfl, htr3, rfl, rfl⟩ := hp
    refine Wl.on0 ?_
    refine Gm.one 13 ⟨rfl, rfl, rfl, rfl, trivial⟩ (by first | exact Imm.le_refl _ | assumption | (refine Imm.le_trans ?_ (by assumption); first | assumption | (refine Imm.le_trans ?_ (by assumption); assumption))) (by kernel_rfl) rfl ?_
    refine Wl.storeAll 4 T.size97 rfl rfl rfl rfl rfl rfl ?_
    refine Wl.on0 ?_
    refine Gm.one 14 ⟨rfl, rfl, rfl, rfl, trivial⟩ (by first | exact Imm.le_refl _ | assumption | (refine Imm.le_trans ?_ (by assumption); first | assumption | (refine Imm.le_trans ?_ (by assumption); assumption))) (by kernel_rfl) rfl ?_
    refine Wl.storeAll 5 T.size97 rfl rfl rfl rfl rfl rfl ?_
    refine Wl.on0 ?_
    refine Gm.doneA (by kernel_rfl) ⟨rfl, rfl, rfl, rfl, trivial⟩ (by first | exact Imm.le_refl _ | assumption | (refine Imm.le_trans ?_ (by assumption); first | assumption | (refine Imm.le_trans ?_ (by assumption); assumption))) ?_
    rotate_left
    refine Wl.alloc 4 rfl T.zero97 (fun b5 => ?_)
    refine Wl.on0 ?_
    refine Gm.two 10 11 ⟨rfl, rfl, rfl, rfl, trivial⟩ (by first | exact Imm.le_refl _ | assumption | (refine Imm.le_trans ?_ (by assumption); first | assumption | (refine Imm.le_trans ?_ (by assumption); assumption))) (by kernel_rfl) rfl rfl ?_ ?_
    refine Wl.call 5 rfl T.fn75 rfl (c75 _ _ _ _ _ (by assumption) (by omega) (by assumption)) (tags_of trivial) (fun v3 G3 Ho3 hle3 hp => ?_)
    obtain ⟨tn3, rfl, htr3, rfl, rfl⟩ := hp
    refine Wl.on0 ?_
    refine Gm.one 11 ⟨rfl, rfl, rfl, rfl, trivial⟩ (by first | exact Imm.le_refl _ | assumption | (refine Imm.le_trans ?_ (by assumption); first | assumption | (refine Imm.le_trans ?_ (by assumption); assumption))) (by kernel_rfl) rfl ?_
    refine Wl.alloc 5 rfl T.zero97 (fun b6 => ?_)
    refine Wl.on0 ?_
    refine Gm.one 13 ⟨rfl, rfl, rfl, rfl, trivial⟩ (by first | exact Imm.le_refl _ | assumption | (refine Imm.le_trans ?_ (by assumption); first | assumption | (refine Imm.le_trans ?_ (by assumption); assumption))) (by kernel_rfl) rfl ?_
    refine Wl.storeAll 5 T.size97 rfl rfl rfl rfl rfl rfl ?_
    refine Wl.on0 ?_
    refine Gm.one 14 ⟨rfl, rfl, rfl, rfl, trivial⟩ (by first | exact Imm.le_refl _ | assumption | (refine Imm.le_trans ?_ (by assumption); first | assumption | (refine Imm.le_trans ?_ (by assumption); assumption))) (by kernel_rfl) rfl ?_
    refine Wl.storeAll 4 T.size97 rfl rfl rfl rfl rfl rfl ?_
    refine Wl.on0 ?_
    refine Gm.doneA (by kernel_rfl) ⟨rfl, rfl, rfl, rfl, trivial⟩ (by first | exact Imm.le_refl _ | assumption | (refine Imm.le_trans ?_ (by assumption); first | assumption | (refine Imm.le_trans ?_ (by assumption); assumption))) ?_
    rotate_left
    refine Wl.alloc 5 rfl T.zero97 (fun b6 => ?_)
    refine Wl.on0 ?_
    refine Gm.one 10 ⟨rfl, rfl, rfl, rfl, trivial⟩ (by first | exact Imm.le_refl _ | assumption | (refine Imm.le_trans ?_ (by assumption); first | assumption | (refine Imm.le_trans ?_ (by assumption); assumption))) (by kernel_rfl) rfl ?_
    refine Wl.call 6 rfl T.fn75 rfl (c75 _ _ _ _ _ (by assumption) (by omega) (by assumption)) (tags_of trivial) (fun v3 G3 Ho3 hle3 hp => ?_)
    obtain ⟨tn3, rfl, htr3, rfl, rfl⟩ := hp
    refine Wl.on0 ?_
    refine Gm.one 13 ⟨rfl, rfl, rfl, rfl, trivial⟩ (by first | exact Imm.le_refl _ | assumption | (refine Imm.le_trans ?_ (by assumption); first | assumption | (refine Imm.le_trans ?_ (by assumption); assumption))) (by kernel_rfl) rfl ?_
    refine Wl.storeAll 5 T.size97 rfl rfl rfl rfl rfl rfl ?_
    refine Wl.on0 ?_
    refine Gm.one 14 ⟨rfl, rfl, rfl, rfl, trivial⟩ (by first | exact Imm.le_refl _ | assumption | (refine Imm.le_trans ?_ (by assumption); first | assumption | (refine Imm.le_trans ?_ (by assumption); assumption))) (by kernel_rfl) rfl ?_
    refine Wl.storeAll 4 T.size97 rfl rfl rfl rfl rfl rfl ?_
    refine Wl.on0 ?_
    refine Gm.doneA (by kernel_rfl) ⟨rfl, rfl, rfl, rfl, trivial⟩ (by first | exact Imm.le_refl _ | assumption | (refine Imm.le_trans ?_ (by assumption); first | assumption | (refine Imm.le_trans ?_ (by assumption); assumption))) ?_
    rotate_left
    refine Wl.alloc 4 rfl T.zero97 (fun b5 => ?_)
    refine Wl.on0 ?_
    refine Gm.two 6 12 ⟨rfl, rfl, rfl, rfl, trivial⟩ (by first | exact Imm.le_refl _ | assumption | (refine Imm.le_trans ?_ (by assumption); first | assumption | (refine Imm.le_trans ?_ (by assumption); assumption))) (by kernel_rfl) rfl rfl ?_ ?_
    refine Wl.call 5 rfl T.fn75 rfl (c75 _ _ _ _ _ (by assumption) (by omega) (by assumption)) (tags_of trivial) (fun v2 G2 Ho2 hle2 hp => ?_)
    obtain ⟨tn2, rfl, htr2, rfl, rfl⟩ := hp
    refine Wl.on0 ?_
    refine Gm.two 10 12 ⟨rfl, rfl, rfl, rfl, trivial⟩ (by first | exact Imm.le_refl _ | assumption | (refine Imm.le_trans ?_ (by assumption); first | assumption | (refine Imm.le_trans ?_ (by assumption); assumption))) (by kernel_rfl) rfl rfl ?_ ?_
    refine Wl.call 5 rfl T.fn75 rfl (c75 _ _ _ _ _ (by assumption) (by omega) (by assumption)) (tags_of trivial) (fun v3 G3 Ho3 hle3 hp => ?_)
    obtain ⟨tn3, rfl, htr3, rfl, rfl⟩ := hp
    refine Wl.on0 ?_
    refine Gm.one 12 ⟨rfl, rfl, rfl, rfl, trivial⟩ (by first | exact Imm.le_refl _ | assumption | (refine Imm.le_trans ?_ (by assumption); first | assumption | (refine Imm.le_trans ?_ (by assumption); assumption))) (by kernel_rfl) rfl ?_
    refine Wl.alloc 5 rfl T.zero97 (fun b6 => ?_)
    refine Wl.on0 ?_
    refine Gm.one 13 ⟨rfl, rfl, rfl, rfl, trivial⟩ (by first | exact Imm.le_refl _ | assumption | (refine Imm.le_trans ?_ (by assumption); first | assumption | (refine Imm.le_trans ?_ (by assumption); assumption))) (by kernel_rfl) rfl ?_
    refine Wl.storeAll 4 T.size97 rfl rfl rfl rfl rfl rfl ?_
    refine Wl.on0 ?_
    refine Gm.one 14 ⟨rfl, rfl, rfl, rfl, trivial⟩ (by first | exact Imm.le_refl _ | assumption | (refine Imm.le_trans ?_ (by assumption); first | assumption | (refine Imm.le_trans ?_ (by assumption); assumption))) (by kernel_rfl) rfl ?_
    refine Wl.storeAll 5 T.size97 rfl rfl rfl rfl rfl rfl ?_
    refine Wl.on0 ?_
    refine Gm.doneA (by kernel_rfl) ⟨rfl, rfl, rfl, rfl, trivial⟩ (by first | exact Imm.le_refl _ | assumption | (refine Imm.le_trans ?_ (by assumption); first | assumption | (refine Imm.le_trans ?_ (by assumption); assumption))) ?_
    rotate_left
    refine Wl.alloc 5 rfl T.zero97 (fun b6 => ?_)
    refine Wl.on0 ?_
    refine Gm.one 10 ⟨rfl, rfl, rfl, rfl, trivial⟩ (by first | exact Imm.le_refl _ | assumption | (refine Imm.le_trans ?_ (by assumption); first | assumption | (refine Imm.le_trans ?_ (by assumption); assumption))) (by kernel_rfl) rfl ?_
    refine Wl.call 6 rfl T.fn75 rfl (c75 _ _ _ _ _ (by assumption) (by omega) (by assumption)) (tags_of trivial) (fun v3 G3 Ho3 hle3 hp => ?_)
    obtain ⟨tn3, rfl, htr3, rfl, rfl⟩ := hp
    refine Wl.on0 ?_
    refine Gm.one 13 ⟨rfl, rfl, rfl, rfl, trivial⟩ (by first | exact Imm.le_refl _ | assumption | (refine Imm.le_trans ?_ (by assumption); first | assumption | (refine Imm.le_trans ?_ (by assumption); assumption))) (by kernel_rfl) rfl ?_
    refine Wl.storeAll 4 T.size97 rfl rfl rfl rfl rfl rfl ?_
    refine Wl.on0 ?_
    refine Gm.one 14 ⟨rfl, rfl, rfl, rfl, trivial⟩ (by first | exact Imm.le_refl _ | assumption | (refine Imm.le_trans ?_ (by assumption); first | assumption | (refine Imm.le_trans ?_ (by assumption); assumption))) (by kernel_rfl) rfl ?_
    refine Wl.storeAll 5 T.size97 rfl rfl rfl rfl rfl rfl ?_
    refine Wl.on0 ?_
    refine Gm.doneA (by kernel_rfl) ⟨rfl, rfl, rfl, rfl, trivial⟩ (by first | exact Imm.le_refl _ | assumption | (refine Imm.le_trans ?_ (by assumption); first | assumption | (refine Imm.le_trans ?_ (by assumption); assumption))) ?_
    rotate_left
    refine Wl.alloc 5 rfl T.zero97 (fun b6 => ?_)
    refine Wl.on0 ?_
    refine Gm.one 6 ⟨rfl, rfl, rfl, rfl, trivial⟩ (by first | exact Imm.le_refl _ | assumption | (refine Imm.le_trans ?_ (by assumption); first | assumption | (refine Imm.le_trans ?_ (by assumption); assumption))) (by kernel_rfl) rfl ?_
    refine Wl.call 6 rfl T.fn75 rfl (c75 _ _ _ _ _ (by assumption) (by omega) (by assumption)) (tags_of trivial) (fun v2 G2 Ho2 hle2 hp => ?_)
    obtain ⟨tn2, rfl, htr2, rfl, rfl⟩ := hp
    refine Wl.on0 ?_
    refine Gm.one 10 ⟨rfl, rfl, rfl, rfl, trivial⟩ (by first | exact Imm.le_refl _ | assumption | (refine Imm.le_trans ?_ (by assumption); first | assumption | (refine Imm.le_trans ?_ (by assumption); assumption))) (by kernel_rfl) rfl ?_
    refine Wl.call 6 rfl T.fn75 rfl (c75 _ _ _ _ _ (by assumption) (by omega) (by assumption)) (tags_of trivial) (fun v3 G3 Ho3 hle3 hp => ?_)
    obtain ⟨tn3, rfl, htr3, rfl, rfl⟩ := hp
    refine Wl.on0 ?_
    refine Gm.one 13 ⟨rfl, rfl, rfl, rfl, trivial⟩ (by first | exact Imm.le_refl _ | assumption | (refine Imm.le_trans ?_ (by assumption); first | assumption | (refine Imm.le_trans ?_ (by assumption); assumption))) (by kernel_rfl) rfl ?_
    refine Wl.storeAll 4 T.size97 rfl rfl rfl rfl rfl rfl ?_
    refine Wl.on0 ?_
    refine Gm.one 14 ⟨rfl, rfl, rfl, rfl, trivial⟩ (by first | exact Imm.le_refl _ | assumption | (refine Imm.le_trans ?_ (by assumption); first | assumption | (refine Imm.le_trans ?_ (by assumption); assumption))) (by kernel_rfl) rfl ?_
    refine Wl.storeAll 5 T.size97 rfl rfl rfl rfl rfl rfl ?_
    refine Wl.on0 ?_
    refine Gm.doneA (by kernel_rfl) ⟨rfl, rfl, rfl, rfl, trivial⟩ (by first | exact Imm.le_refl _ | assumption | (refine Imm.le_trans ?_ (by assumption); first | assumption | (refine Imm.le_trans ?_ (by assumption); assumption))) ?_
    rotate_left
    refine Wl.alloc 4 rfl T.zero97 (fun b5 => ?_)
    refine Wl.on0 ?_
    refine Gm.two 6 11 ⟨rfl, rfl, rfl, rfl, trivial⟩ (by first | exact Imm.le_refl _ | assumption | (refine Imm.le_trans ?_ (by assumption); first | assumption | (refine Imm.le_trans ?_ (by assumption); assumption))) (by kernel_rfl) rfl rfl ?_ ?_
    refine Wl.call 5 rfl T.fn75 rfl (c75 _ _ _ _ _ (by assumption) (by omega) (by assumption)) (tags_of trivial) (fun v2 G2 Ho2 hle2 hp => ?_)
    obtain ⟨tn2, rfl, htr2, rfl, rfl⟩ := hp
    refine Wl.on0 ?_
    refine Gm.two 10 11 ⟨rfl, rfl, rfl, rfl, trivial⟩ (by first | exact Imm.le_refl _ | assumption | (refine Imm.le_trans ?_ (by assumption); first | assumption | (refine Imm.le_trans ?_ (by assumption); assumption))) (by kernel_rfl) rfl rfl ?_ ?_
    refine Wl.call 5 rfl T.fn75 rfl (c75 _ _ _ _ _ (by assumption) (by omega) (by assumption)) (tags_of trivial) (fun v3 G3 Ho3 hle3 hp => ?_)
    obtain ⟨tn3, rfl, htr3, rfl, rfl⟩ := hp
    refine Wl.on0 ?_
    refine Gm.one 11 ⟨rfl, rfl, rfl, rfl, trivial⟩ (by first | exact Imm.le_refl _ | assumption | (refine Imm.le_trans ?_ (by assumption); first | assumption | (refine Imm.le_trans ?_ (by assumption); assumption))) (by kernel_rfl) rfl ?_
    refine Wl.alloc 5 rfl T.zero97 (fun b6 => ?_)
    refine Wl.on0 ?_
    refine Gm.one 13 ⟨rfl, rfl, rfl, rfl, trivial⟩ (by first | exact Imm.le_refl _ | assumption | (refine Imm.le_trans ?_ (by assumption); first | assumption | (refine Imm.le_trans ?_ (by assumption); assumption))) (by kernel_rfl) rfl ?_
    refine Wl.storeAll 5 T.size97 rfl rfl rfl rfl rfl rfl ?_
    refine Wl.on0 ?_
    refine Gm.one 14 ⟨rfl, rfl, rfl, rfl, trivial⟩ (by first | exact Imm.le_refl _ | assumption | (refine Imm.le_trans ?_ (by assumption); first | assumption | (refine Imm.le_trans ?_ (by assumption); assumption))) (by kernel_rfl) rfl ?_
    refine Wl.storeAll 4 T.size97 rfl rfl rfl rfl rfl rfl ?_
    refine Wl.on0 ?_
    refine Gm.doneA (by kernel_rfl) ⟨rfl, rfl, rfl, rfl, trivial⟩ (by first | exact Imm.le_refl _ | assumption | (refine Imm.le_trans ?_ (by assumption); first | assumption | (refine Imm.le_trans ?_ (by assumption); assumption))) ?_
    rotate_left
    refine Wl.alloc 5 rfl T.zero97 (fun b6 => ?_)
    refine Wl.on0 ?_
    refine Gm.one 10 ⟨rfl, rfl, rfl, rfl, trivial⟩ (by first | exact Imm.le_refl _ | assumption | (refine Imm.le_trans ?_ (by assumption); first | assumption | (refine Imm.le_trans ?_ (by assumption); assumption))) (by kernel_rfl) rfl ?_
    refine Wl.call 6 rfl T.fn75 rfl (c75 _ _ _ _ _ (by assumption) (by omega) (by assumption)) (tags_of trivial) (fun v3 G3 Ho3 hle3 hp => ?_)
    obtain ⟨tn3, rfl, htr3, rfl, rfl⟩ := hp
    refine Wl.on0 ?_
    refine Gm.one 13 ⟨rfl, rfl, rfl, rfl, trivial⟩ (by first | exact Imm.le_refl _ | assumption | (refine Imm.le_trans ?_ (by assumption); first | assumption | (refine Imm.le_trans ?_ (by assumption); assumption))) (by kernel_rfl) rfl ?_
    refine Wl.storeAll 5 T.size97 rfl rfl rfl rfl rfl rfl ?_
    refine Wl.on0 ?_
    refine Gm.one 14 ⟨rfl, rfl, rfl, rfl, trivial⟩ (by first | exact Imm.le_refl _ | assumption | (refine Imm.le_trans ?_ (by assumption); first | assumption | (refine Imm.le_trans ?_ (by assumption); assumption))) (by kernel_rfl) rfl ?_
    refine Wl.storeAll 4 T.size97 rfl rfl rfl rfl rfl rfl ?_
    refine Wl.on0 ?_
    refine Gm.doneA (by kernel_rfl) ⟨rfl, rfl, rfl, rfl, trivial⟩ (by first | exact Imm.le_refl _ | assumption | (refine Imm.le_trans ?_ (by assumption); first | assumption | (refine Imm.le_trans ?_ (by assumption); assumption))) ?_
    rotate_left
    refine Wl.alloc 5 rfl T.zero97 (fun b6 => ?_)
    refine Wl.on0 ?_
    refine Gm.one 6 ⟨rfl, rfl, rfl, rfl, trivial⟩ (by first | exact Imm.le_refl _ | assumption | (refine Imm.le_trans ?_ (by assumption); first | assumption | (refine Imm.le_trans ?_ (by assumption); assumption))) (by kernel_rfl) rfl ?_
    refine Wl.call 6 rfl T.fn75 rfl (c75 _ _ _ _ _ (by assumption) (by omega) (by assumption)) (tags_of trivial) (fun v2 G2 Ho2 hle2 hp => ?_)
    obtain ⟨tn2, rfl, htr2, rfl, rfl⟩ := hp
    refine Wl.on0 ?_
    refine Gm.one 10 ⟨rfl, rfl, rfl, rfl, trivial⟩ (by first | exact Imm.le_refl _ | assumption | (refine Imm.le_trans ?_ (by assumption); first | assumption | (refine Imm.le_trans ?_ (by assumption); assumption))) (by kernel_rfl) rfl ?_
    refine Wl.call 6 rfl T.fn75 rfl (c75 _ _ _ _ _ (by assumption) (by omega) (by assumption)) (tags_of trivial) (fun v3 G3 Ho3 hle3 hp => ?_)
    obtain ⟨tn3, rfl, htr3, rfl, rfl⟩ := hp
    refine Wl.on0 ?_
    refine Gm.one 13 ⟨rfl, rfl, rfl, rfl, trivial⟩ (by first | exact Imm.le_refl _ | assumption | (refine Imm.le_trans ?_ (by assumption); first | assumption | (refine Imm.le_trans ?_ (by assumption); assumption))) (by kernel_rfl) rfl ?_
    refine Wl.storeAll 5 T.size97 rfl rfl rfl rfl rfl rfl ?_
    refine Wl.on0 ?_
    refine Gm.one 14 ⟨rfl, rfl, rfl, rfl, trivial⟩ (by first | exact Imm.le_refl _ | assumption | (refine Imm.le_trans ?_ (by assumption); first | assumption | (refine Imm.le_trans ?_ (by assumption); assumption))) (by kernel_rfl) rfl ?_
    refine Wl.storeAll 4 T.size97 rfl rfl rfl rfl rfl rfl ?_
    refine Wl.on0 ?_
    refine Gm.doneA (by kernel_rfl) ⟨rfl, rfl, rfl, rfl, trivial⟩ (by first | exact Imm.le_refl _ | assumption | (refine Imm.le_trans ?_ (by assumption); first | assumption | (refine Imm.le_trans ?_ (by assumption); assumption))) ?_
    rotate_left
    all_goals first | (refine Ar.retag 4 60 rfl rfl (Ar.retag 5 61 rfl rfl (Ar.meet (tn2, tn3, b5, b6) ⟨htr2, htr3⟩ rfl ?_ ?_)) <;> (repeat (first | exact trivial | refine ⟨rfl, ?_⟩)); done) | (refine Ar.retag 5 60 rfl rfl (Ar.retag 4 61 rfl rfl (Ar.meet (tn2, tn3, b6, b5) ⟨htr2, htr3⟩ rfl ?_ ?_)) <;> (repeat (first | exact trivial | refine ⟨rfl, ?_⟩)); done)
  · obtain ⟨htq, htm⟩ := hk
    have hlt := valL_lt db
    have hxy := dm_plain hx.val hy.val hvq1
    have hQ0 := htq.num dq1 hqa1 hqc1 (decide (n1 ≠ n2))
    have hR0 := htm.num dr1 hra1 hrc1 n1
    refine Wc.gc 7 [61] ?_
    refine Wc.ite rfl (fun hc1 => ?_) (fun hc1 => ?_)
    refine Wc.seq ?_
    refine Wc.draw [0, 1, 2, 3, 61, 60] [(61, 4)] T.mixed rfl ?_
    refine Gm.q 0 [61] (by kernel_rfl) rfl rfl (Qy.loadAll 61 T.agg97 rfl rfl rfl) ?_
    refine Gm.q 1 [1] (by kernel_rfl) rfl rfl (Qy.loadAll 1 T.agg97 rfl rfl rfl) ?_
    refine Gm.one 2 ⟨rfl, rfl, rfl, rfl, rfl, rfl, trivial⟩ (by first | exact Imm.le_refl _ | assumption | (refine Imm.le_trans ?_ (by assumption); first | assumption | (refine Imm.le_trans ?_ (by assumption); assumption))) (by kernel_rfl) rfl ?_
    refine Wl.call 62 rfl T.fn160 rfl (c160 _ _ _ _ _ _ (by assumption) (by assumption) (by omega) (by assumption)) (tags_of trivial) (fun v2 G2 Ho2 hle2 hp => ?_)
    obtain ⟨nr2, rfl, hnr2, rfl, rfl⟩ := hp
    refine Wl.on0 ?_
    refine Gm.one 3 ⟨rfl, rfl, rfl, rfl, rfl, rfl, trivial⟩ (by first | exact Imm.le_refl _ | assumption | (refine Imm.le_trans ?_ (by assumption); first | assumption | (refine Imm.le_trans ?_ (by assumption); assumption))) (by kernel_rfl) rfl ?_
    refine Wl.call 62 rfl T.fn149 rfl (num_add _ ⟨(n1 && decide (0 < tm)), subA ra1 rc1 0 1, tm, rc1⟩ nr2 _ _ hR0 hnr2 (Nat.le_trans htm.1 (by omega)) (Nat.le_trans (Num.len hnr2 (m := lb.length) (by omega)) (by omega))) (tags_of trivial) (fun v3 G3 Ho3 hle3 hp => ?_)
    obtain ⟨rs3, rfl, hrs3, rfl⟩ := hp
    replace hqa1 := hqa1.up hle3
    replace hra1 := hra1.up hle3
    replace ha := ha.up hle3
    replace hb := hb.up hle3
    replace hQ0 := hQ0.up hle3
    replace hR0 := hR0.up hle3
    replace hnr2 := hnr2.up hle3
    refine Wl.on0 ?_
    refine Gm.one 4 ⟨rfl, rfl, rfl, rfl, rfl, rfl, trivial⟩ (by first | exact Imm.le_refl _ | assumption | (refine Imm.le_trans ?_ (by assumption); first | assumption | (refine Imm.le_trans ?_ (by assumption); assumption))) (by kernel_rfl) rfl ?_
    refine Wl.storeAll 61 T.size97 rfl rfl rfl rfl rfl rfl ?_
    refine Wl.on0 ?_
    refine Gm.doneA (by kernel_rfl) ⟨rfl, rfl, rfl, rfl, rfl, trivial⟩ (by first | exact Imm.le_refl _ | assumption | (refine Imm.le_trans ?_ (by assumption); first | assumption | (refine Imm.le_trans ?_ (by assumption); assumption))) ?_
    refine Ar.next ?_
    refine Wc.draw [0, 1, 2, 3, 60, 61] [(60, 5)] T.mixed rfl ?_
    refine Gm.q 0 [60] (by kernel_rfl) rfl rfl (Qy.loadAll 60 T.agg97 rfl rfl rfl) ?_
    refine Gm.q 1 [1] (by kernel_rfl) rfl rfl (Qy.loadAll 1 T.agg97 rfl rfl rfl) ?_
    refine Gm.one 2 ⟨rfl, rfl, rfl, rfl, rfl, rfl, trivial⟩ (by first | exact Imm.le_refl _ | assumption | (refine Imm.le_trans ?_ (by assumption); first | assumption | (refine Imm.le_trans ?_ (by assumption); assumption))) (by kernel_rfl) rfl ?_
    refine Wl.call0 rfl T.fn111 rfl (c111 _ _ _ _ _ y (by assumption) (by omega)) ?_
    refine Wl.on0 ?_
    refine Gm.one 3 ⟨rfl, rfl, rfl, rfl, rfl, rfl, trivial⟩ (by first | exact Imm.le_refl _ | assumption | (refine Imm.le_trans ?_ (by assumption); first | assumption | (refine Imm.le_trans ?_ (by assumption); assumption))) (by kernel_rfl) rfl ?_
    refine Wl.call 62 rfl T.fn45 rfl (c45 _ _ (sgZ_bd9 y)) (tags_of trivial) (fun v4 G4 Ho4 hle4 hp => ?_)
    obtain ⟨ro4, rfl, hro4, rfl⟩ := hp
    replace hrs3 := hrs3.up hle4
    replace hqa1 := hqa1.up hle4
    replace hra1 := hra1.up hle4
    replace ha := ha.up hle4
    replace hb := hb.up hle4
    replace hQ0 := hQ0.up hle4
    replace hR0 := hR0.up hle4
    replace hnr2 := hnr2.up hle4
    refine Wl.on0 ?_
    refine Gm.one 4 ⟨rfl, rfl, rfl, rfl, rfl, rfl, trivial⟩ (by first | exact Imm.le_refl _ | assumption | (refine Imm.le_trans ?_ (by assumption); first | assumption | (refine Imm.le_trans ?_ (by assumption); assumption))) (by kernel_rfl) rfl ?_
    refine Wl.call 62 rfl T.fn161 rfl (num_sub _ ⟨(decide (n1 ≠ n2) && decide (0 < tn)), subA qa1 qc1 0 1, tn, qc1⟩ ro4 _ _ hQ0 hro4 (Nat.le_trans htq.1 (by omega)) (Nat.le_trans (Num.len hro4 (m := 1) (sgZ_lt1N y)) (by omega))) (tags_of trivial) (fun v5 G5 Ho5 hle5 hp => ?_)
    obtain ⟨rd5, rfl, hrd5, rfl⟩ := hp
    replace hro4 := hro4.up hle5
    replace hrs3 := hrs3.up hle5
    replace hqa1 := hqa1.up hle5
    replace hra1 := hra1.up hle5
    replace ha := ha.up hle5
    replace hb := hb.up hle5
    replace hQ0 := hQ0.up hle5
    replace hR0 := hR0.up hle5
    replace hnr2 := hnr2.up hle5
    refine Wl.on0 ?_
    refine Gm.one 5 ⟨rfl, rfl, rfl, rfl, rfl, rfl, trivial⟩ (by first | exact Imm.le_refl _ | assumption | (refine Imm.le_trans ?_ (by assumption); first | assumption | (refine Imm.le_trans ?_ (by assumption); assumption))) (by kernel_rfl) rfl ?_
    refine Wl.storeAll 60 T.size97 rfl rfl rfl rfl rfl rfl ?_
    refine Wl.on0 ?_
    refine Gm.doneA (by kernel_rfl) ⟨rfl, rfl, rfl, rfl, rfl, trivial⟩ (by first | exact Imm.le_refl _ | assumption | (refine Imm.le_trans ?_ (by assumption); first | assumption | (refine Imm.le_trans ?_ (by assumption); assumption))) ?_
    refine Ar.gc 2 [] ?_
    refine Wc.draw [0, 1, 2, 3, 61, 60] [(3, 3), (2, 2)] T.mixed rfl ?_
    refine Gm.q 0 [60] (by kernel_rfl) rfl rfl (Qy.loadAll 60 T.agg97 rfl rfl rfl) ?_
    refine Gm.q 1 [61] (by kernel_rfl) rfl rfl (Qy.loadAll 61 T.agg97 rfl rfl rfl) ?_
    refine Gm.one 2 ⟨rfl, rfl, rfl, rfl, rfl, rfl, trivial⟩ (by first | exact Imm.le_refl _ | assumption | (refine Imm.le_trans ?_ (by assumption); first | assumption | (refine Imm.le_trans ?_ (by assumption); assumption))) (by kernel_rfl) rfl ?_
    refine Wl.storeAll 2 T.size97 rfl rfl rfl rfl rfl rfl ?_
    refine Wl.on0 ?_
    refine Gm.one 3 ⟨rfl, rfl, rfl, rfl, rfl, trivial⟩ (by first | exact Imm.le_refl _ | assumption | (refine Imm.le_trans ?_ (by assumption); first | assumption | (refine Imm.le_trans ?_ (by assumption); assumption))) (by kernel_rfl) rfl ?_
    refine Wl.storeAll 3 T.size97 rfl rfl rfl rfl rfl rfl ?_
    refine Wl.on0 ?_
    refine Gm.doneA (by kernel_rfl) ⟨rfl, rfl, rfl, rfl, trivial⟩ (by first | exact Imm.le_refl _ | assumption | (refine Imm.le_trans ?_ (by assumption); first | assumption | (refine Imm.le_trans ?_ (by assumption); assumption))) ?_
    refine Ar.ga 2 [] ?_
    rotate_left
    refine Wc.gc 3 [] ?_
    refine Wc.draw [0, 1, 2, 3, 61, 60] [(3, 3), (2, 2)] T.mixed rfl ?_
    refine Gm.q 0 [60] (by kernel_rfl) rfl rfl (Qy.loadAll 60 T.agg97 rfl rfl rfl) ?_
    refine Gm.q 1 [61] (by kernel_rfl) rfl rfl (Qy.loadAll 61 T.agg97 rfl rfl rfl) ?_
    refine Gm.one 2 ⟨rfl, rfl, rfl, rfl, rfl, rfl, trivial⟩ (by first | exact Imm.le_refl _ | assumption | (refine Imm.le_trans ?_ (by assumption); first | assumption | (refine Imm.le_trans ?_ (by assumption); assumption))) (by kernel_rfl) rfl ?_
    refine Wl.storeAll 2 T.size97 rfl rfl rfl rfl rfl rfl ?_
    refine Wl.on0 ?_
    refine Gm.one 3 ⟨rfl, rfl, rfl, rfl, rfl, trivial⟩ (by first | exact Imm.le_refl _ | assumption | (refine Imm.le_trans ?_ (by assumption); first | assumption | (refine Imm.le_trans ?_ (by assumption); assumption))) (by kernel_rfl) rfl ?_
    refine Wl.storeAll 3 T.size97 rfl rfl rfl rfl rfl rfl ?_
    refine Wl.on0 ?_
    refine Gm.doneA (by kernel_rfl) ⟨rfl, rfl, rfl, rfl, trivial⟩ (by first | exact Imm.le_refl _ | assumption | (refine Imm.le_trans ?_ (by assumption); first | assumption | (refine Imm.le_trans ?_ (by assumption); assumption))) ?_
    refine Ar.ga 2 [] ?_
    rotate_left
    · refine Ar.out2 (.inr rfl) (Ho := []) rfl (.agg 2 rfl rfl T.agg97) (.agg 3 rfl rfl T.agg97) trivial ?_
      have he := dm_trueN hxy hy0 (by omega) hc1 htm dr1
      refine ⟨rd5, rs3, rfl, ?_, ?_, rfl⟩
      · rw [← he.1]; exact hrd5
      · rw [← he.2]; exact hrs3
    · refine Ar.out2 (.inr rfl) (Ho := []) rfl (.agg 2 rfl rfl T.agg97) (.agg 3 rfl rfl T.agg97) trivial ?_
      have he := dm_falseN hxy hy0 (by omega) hc1 htm dr1
      refine ⟨⟨(decide (n1 ≠ n2) && decide (0 < tn)), subA qa1 qc1 0 1, tn, qc1⟩, ⟨(n1 && decide (0 < tm)), subA ra1 rc1 0 1, tm, rc1⟩, rfl, ?_, ?_, rfl⟩
      · rw [← he.1]; exact hQ0
      · rw [← he.2]; exact hR0
end Go.Proofs.YtelbhbbiejalhaaGreat
set_option maxRecDepth 100000
set_option linter.unusedVariables false
namespace Go.Proofs.YtelbhbbiejalhaaGreat
open Go Go.Sl
set_option maxHeartbeats 4000000
theorem num_divmod (G : Imm) (x y : IV) (zx zy : Int) (hx : Num G x zx) (hy : Num G y zy) (h1 : x.n ≤ 536870912) (h2 : y.n ≤ 536870912) (hy0 : zy ≠ 0) :
    Does Tryz.prog 150 [.agg (Cells.enc x).toArray, .agg (Cells.enc y).toArray] G [] (fun v G' Ho => ∃ q r : IV, v = .tuple #[.agg (Cells.enc q).toArray, .agg (Cells.enc r).toArray] ∧ Num G' q (zx / zy) ∧ Num G' r (zx % zy) ∧ Ho = []) := by
  obtain ⟨n1, a, k1, ca⟩ := x
  obtain ⟨n2, b, k2, cb⟩ := y
  obtain ⟨la, hl, hlc, hA, hI⟩ := hx
  obtain ⟨lb, hl', hlc', hA', hI'⟩ := hy
  simp only at hl hlc hA hI hl' hlc' hA' hI' h1 h2
  subst hl hl'
  exact c150 G n1 n2 a b ca cb la lb zx zy hA hA' hI hI' h1 h2 hlc' hy0
theorem num_of (G : Imm) (n : Int) (hn : -9223372036854775808 ≤ n ∧ n ≤ 9223372036854775807) :
    Does Tryz.prog 45 [.int .i64 n] G [] (fun v G' Ho => ∃ r : IV, v = .agg (Cells.enc r).toArray ∧ Num G' r n ∧ Ho = []) := c45 G n hn
theorem Num.zero_iff {G : Imm} {x : IV} {z : Int} (h : Num G x z) : x.n = 0 ↔ z = 0 := by
  obtain ⟨l, h1, _, _, h4⟩ := h
  rw [← h1]; exact h4.zero_iff
theorem valL_pow (n : Nat) : valL ((List.replicate (n / 16 + 1) (default : U32)).set (n / 16) ⟨p2 (n % 16)⟩) = p2 n := by
  rw [valL_set _ _ _ (by rw [List.length_replicate]; omega)]
  have h0 : dg (List.replicate (n / 16 + 1) (default : U32)) (n / 16) = 0 := by
    unfold dg
    rw [Int.toNat_natCast, List.getElem?_replicate]
    split <;> rfl
  rw [h0, show (default : U32) = ⟨0⟩ from rfl, valL_replicate, pw_p2, Int.zero_add, Int.sub_zero, ← p2_add, show 16 * (n / 16) + n % 16 = n by omega]
theorem Num.out {G : Imm} {x : IV} {z z' : Int} (h : Num G x z) (e : z = z') : Num G x z' := e ▸ h
attribute [local irreducible] valL pw cmpZ p2
theorem num_over (G : Imm) (x y : IV) (zx zy : Int) (hx : Num G x zx) (hy : Num G y zy) (h1 : x.n ≤ 536870912) (h2 : y.n ≤ 536870912) (hy0 : zy ≠ 0) :
    Does Tryz.prog 134 [.agg (Cells.enc x).toArray, .agg (Cells.enc y).toArray] G [] (fun v G' Ho => ∃ q : IV, v = .tuple #[.agg (Cells.enc q).toArray, .bool (decide (zx % zy = 0))] ∧ Num G' q (if zx % zy = 0 then zx / zy else 0) ∧ Ho = []) := by
  refine Does.enter Tryz.func134 rfl Tryz.ntmps134 rfl (fun w => ?_)
  refine Wc.gl 2 [] ?_
  refine Wl.box 0 rfl rfl rfl (fun b1 => ?_)
  refine Wl.box 1 rfl rfl rfl (fun b2 => ?_)
  refine Wl.alloc 2 rfl T.zero97 (fun b3 => ?_)
  refine Wl.gl 7 [0, 1] ?_
  refine Wl.call 3 rfl T.fn150 rfl (num_divmod _ _ _ _ _ hx hy h1 h2 hy0) (tags_of trivial) (fun v1 G1 Ho1 hle1 hp => ?_)
  obtain ⟨q1, r1, rfl, hq1, hr1, rfl⟩ := hp
  replace hx := hx.up hle1
  replace hy := hy.up hle1
  refine Wl.ll0 3 [] ?_
  refine Wl.alloc 3 rfl T.zero97 (fun b4 => ?_)
  refine Wl.alloc 4 rfl T.zero97 (fun b5 => ?_)
  refine Wl.gc 13 [3, 4, 4] ?_
  refine Wc.cond rfl (fun hc1 => ?_) (fun hc1 => ?_)
  refine Wc.gl 2 [] ?_
  refine Wl.q rfl (Qy.build (cs := [_, _]) T.st97 rfl rfl rfl) ?_
  refine Wl.ga 6 [2] ?_
  rotate_left
  refine Wc.ga 10 [3, 2] ?_
  rotate_left
  · refine Ar.out2 (.inr rfl) (Ho := []) rfl (.agg 2 rfl rfl T.agg97) (.tmp rfl) trivial ?_
    have h0 : ¬ zx % zy = 0 := fun e => by have := (Num.zero_iff hr1).2 e; omega
    refine ⟨⟨false, none, 0, 0⟩, by rw [decide_eq_false h0]; rfl, ?_, rfl⟩
    rw [if_neg h0]; exact Num.zero _
  · refine Ar.out2 (.inr rfl) (Ho := []) rfl (.agg 2 rfl rfl T.agg97) (.tmp rfl) trivial ?_
    have h0 : zx % zy = 0 := (Num.zero_iff hr1).1 (by omega)
    refine ⟨q1, by rw [decide_eq_true h0], ?_, rfl⟩
    rw [if_pos h0]; exact hq1
theorem c133 (G : Imm) (n : Nat) (hn : n ≤ 16777216) :
    Does Tryz.prog 133 [.int .i64 (n : Int)] G [] (fun v G' Ho => ∃ r : IV, v = .agg (Cells.enc r).toArray ∧ Num G' r (p2 n) ∧ Ho = []) := by
  refine Does.enter Tryz.func133 rfl Tryz.ntmps133 rfl (fun w => ?_)
  refine Wc.gl 2 [] ?_
  refine Wl.alloc 0 rfl T.zero97 (fun b1 => ?_)
  refine Wl.gl 5 [] ?_
  refine Wl.q rfl (Qy.quoP rfl rfl (by omega)) ?_
  refine Wl.q rfl (Qy.add rfl rfl (by omega)) ?_
  refine Wl.make (α := U32) 1 rfl T.sl35 T.el63 rfl rfl (by omega) (by omega) (fun b2 => ?_)
  refine Wl.gc 3 [] ?_
  obtain ⟨N, hN⟩ : ∃ N, N = n / 16 + 1 := ⟨_, rfl⟩
  have hM : ((n : Int) / 16 + 1).toNat = N := by omega
  rw [hM]
  have hown : ∀ r : List U32, r.length = N → OwnA (some ⟨b2, 0, none⟩) N r [] := fun r hr => .inr ⟨b2, rfl, by rw [hr]; rfl, by omega, by simp only [maxLen]; omega⟩
  have hrl : (List.replicate N (default : U32)).length = N := List.length_replicate
  have hor := hown _ hrl
  refine Wc.re 3 rfl (show _ = Value.slice (some ⟨b2, 0, none⟩) (List.replicate N (default : U32)).length N by rw [List.length_replicate]) ?_
  refine Wc.gl 4 [] ?_
  refine Wl.q rfl (Qy.quoP rfl rfl (by omega)) ?_
  refine Wl.q rfl (Qy.move rfl) ?_
  refine Wl.q rfl (Qy.urem rfl rfl (by omega)) ?_
  refine Wl.q rfl (Qy.shl rfl rfl (by omega)) ?_
  refine Wl.q rfl (Qy.indexAddrO (α := U32) T.sl35 rfl rfl (by assumption) (by omega)) ?_
  refine Wl.setO (z := _) 1 T.size63 rfl rfl rfl (by assumption) (by omega) rfl (fun ho1 => ?_)
  refine Wl.gl 5 [] ?_
  have e3 : (List.replicate N (default : U32)).set ((n : Int) / 16).toNat ⟨1 * 2 ^ min ((n : Int) % 16).toNat IntKind.u32.bits % 2 ^ IntKind.u32.bits⟩ = (List.replicate (n / 16 + 1) (default : U32)).set (n / 16) ⟨p2 (n % 16)⟩ := by
    have h1 : 1 * 2 ^ min ((n : Int) % 16).toNat IntKind.u32.bits % 2 ^ IntKind.u32.bits = p2 (n % 16) := shl_one
    rw [h1, hN, show ((n : Int) / 16).toNat = n / 16 by omega]
  rw [e3] at ho1 ⊢
  obtain ⟨r, hr⟩ : ∃ r, r = (List.replicate (n / 16 + 1) (default : U32)).set (n / 16) ⟨p2 (n % 16)⟩ := ⟨_, rfl⟩
  rw [← hr] at ho1 ⊢
  have hrN : r.length = N := by rw [hr, List.length_set, List.length_replicate, hN]
  have hv : valL r = p2 n := by rw [hr]; exact valL_pow n
  have hd : Digs r := by rw [hr]; exact digs_set (Digs.zeros _) _ ⟨Int.le_of_lt (p2_pos _), by have := p2_le (show n % 16 ≤ 15 by omega); rw [show p2 15 = 32768 by unfold p2; decide] at this; omega⟩
  have hcap := ho1.le
  refine Wl.freezeRow 1 rfl ho1 (fun G9 hle9 hA => ?_)
  refine Wl.re 15 rfl (show _ = Value.slice (some ⟨b2, 0, none⟩) r.length N by rw [hrN, List.length_replicate]) ?_
  refine Wl.call 2 rfl T.fn75 rfl (c75 _ _ _ _ _ (by assumption) (by omega) (by first | assumption | omega)) (tags_of trivial) (fun v1 G1 Ho1 hle1 hp => ?_)
  obtain ⟨tn1, rfl, htr1, rfl, rfl⟩ := hp
  refine Wl.ga 4 [0] ?_
  refine Ar.out1 (.inr rfl) (Ho := Hp.only _ []) rfl (.agg 0 rfl rfl T.agg97) (Hp.sub_only _ _) ?_
  refine ⟨⟨false && decide (0 < tn1), subA (some ⟨b2, 0, none⟩) N 0 1, tn1, N⟩, rfl, ?_, rfl⟩
  have e := htr1.num hd hA hcap false
  rw [if_neg (by decide), hv] at e
  exact e
end Go.Proofs.YtelbhbbiejalhaaGreat
set_option maxRecDepth 100000
set_option linter.unusedVariables false
namespace Go.Proofs.YtelbhbbiejalhaaGreat
open Go Go.Sl
set_option maxHeartbeats 4000000
theorem mul_lt_pw {x y : Int} {k m : Nat} (hx : (x.natAbs : Int) < pw k) (hy : (y.natAbs : Int) < pw m) : ((x * y).natAbs : Int) < pw (k + m) := by
  rw [Int.natAbs_mul, pw_add, Int.natCast_mul]
  have h1 := Int.mul_le_mul_of_nonneg_left (Int.le_of_lt hy) (show (0 : Int) ≤ x.natAbs by omega)
  exact Int.lt_of_le_of_lt h1 (Int.mul_lt_mul_of_pos_right hx (pw_pos m))
/-- x times the one row and y times the other -/
def comb (x : Int) (xs : List Int) (y : Int) (ys : List Int) : List Int := List.zipWith (fun a b => x * a + y * b) xs ys
theorem comb_len {x y : Int} {xs ys : List Int} (h : xs.length = ys.length) : (comb x xs y ys).length = xs.length := by
  unfold comb; rw [List.length_zipWith, h, Nat.min_self]
theorem comb_succ {x y : Int} {xs ys : List Int} (h : xs.length = ys.length) {i : Nat} (hi : i < xs.length) :
    (comb x xs y ys).take (i + 1) = (comb x xs y ys).take i ++ [x * (xs[((i : Nat) : Int).toNat]?.getD 0) + y * (ys[((i : Nat) : Int).toNat]?.getD 0)] := by
  have h1 : i < (comb x xs y ys).length := by rw [comb_len h]; exact hi
  rw [List.take_succ_eq_append_getElem h1, Int.toNat_natCast, List.getElem?_eq_getElem hi, List.getElem?_eq_getElem (by omega : i < ys.length)]
  have h2 : (comb x xs y ys)[i] = x * xs[i] + y * ys[i] := List.getElem_zipWith
  rw [h2]; rfl
/-- two rows alike -/
theorem same_end {xs ys : List Int} (h : xs.length = ys.length) (he : ∀ i : Nat, i < xs.length → xs[i]?.getD 0 = ys[i]?.getD 0) : xs = ys := by
  refine List.ext_getElem h fun i h1 h2 => ?_
  have := he i h1
  rw [List.getElem?_eq_getElem h1, List.getElem?_eq_getElem h2] at this
  exact this
theorem cmpZ_zeroN {x y : Int} : cmpZ x y = 0 ↔ x = y := by
  unfold cmpZ
  split
  · omega
  · split <;> omega
theorem one_ltN : (((1 : Int)).natAbs : Int) < pw 1 := by decide
theorem mone_lt : (((-1 : Int)).natAbs : Int) < pw 1 := by decide
theorem zero_lt (k : Nat) : (((0 : Int)).natAbs : Int) < pw k := pw_pos k
attribute [local irreducible] valL pw cmpZ p2
theorem c46 (G : Imm) (a b : Option Addr) (ca cb : Nat) (la lb : List IV) (xs ys : List Int) (ha : Arr G a la) (hb : Arr G b lb) (hx : Nums G la xs) (hy : Nums G lb ys) (m : Nat) (hm : m ≤ 1073741824) (bx : Go.Sl.Below m xs) (by' : Go.Sl.Below m ys) (h1 : la.length ≤ 1099511627776) (h2 : lb.length ≤ 1099511627776) :
    Does Tryz.prog 46 [.slice a la.length ca, .slice b lb.length cb] G [] (fun v G' Ho => v = .bool (decide (xs = ys)) ∧ G' = G ∧ Ho = []) := by
  have hxl := hx.1
  have hyl := hy.1
  refine Does.enter Tryz.func46 rfl Tryz.ntmps46 rfl (fun w => ?_)
  by_cases hl : la.length = lb.length
  · refine Wc.gc 25 [0] ?_
    refine Wc.loop (ι := Nat) (fun i => ([(5, .int .i64 (i : Int)), (0, Go.Value.slice a (List.length la) ca), (1, Go.Value.slice b (List.length lb) cb)], [])) (fun i => i ≤ la.length ∧ ∀ j : Nat, j < i → xs[j]?.getD 0 = ys[j]?.getD 0) (fun i => la.length - i) (0) (⟨Nat.zero_le _, fun j hj => by omega⟩) ⟨rfl, rfl, rfl, trivial⟩ trivial (fun i => fun (hk : i ≤ la.length ∧ ∀ j : Nat, j < i → xs[j]?.getD 0 = ys[j]?.getD 0) => ?_)
    obtain ⟨hi, he⟩ := hk
    rcases Nat.lt_or_ge i la.length with hia | hia
    · have hxi := hx.at (m := (i : Int)) (by omega)
      have hyi := hy.at (m := (i : Int)) (by omega)
      have hxn := Num.len hxi (bx.at _)
      have hyn := Num.len hyi (by'.at _)
      refine Wc.gc 15 [1] ?_
      refine Wc.draw [] [] T.mixed rfl ?_
      refine Gm.q 0 [] (by kernel_rfl) rfl rfl (Qy.move rfl) ?_
      refine Gm.q 1 [] (by kernel_rfl) rfl rfl (Qy.move rfl) ?_
      refine Gm.q 2 [] (by kernel_rfl) rfl rfl (Qy.at (α := IV) T.sl94 rfl rfl (by assumption) (by omega)) ?_
      refine Gm.q 3 [] (by kernel_rfl) rfl rfl (Qy.loadsG T.agg97 rfl (Arr.elem (by assumption) (by omega)) rfl) ?_
      refine Gm.q 4 [] (by kernel_rfl) rfl rfl (Qy.move rfl) ?_
      refine Gm.q 5 [] (by kernel_rfl) rfl rfl (Qy.move rfl) ?_
      refine Gm.q 6 [] (by kernel_rfl) rfl rfl (Qy.at (α := IV) T.sl94 rfl rfl (by assumption) (by omega)) ?_
      refine Gm.q 7 [] (by kernel_rfl) rfl rfl (Qy.loadsG T.agg97 rfl (Arr.elem (by assumption) (by omega)) rfl) ?_
      refine Gm.one 8 trivial (by first | exact Imm.le_refl _ | assumption | (refine Imm.le_trans ?_ (by assumption); first | assumption | (refine Imm.le_trans ?_ (by assumption); assumption))) (by kernel_rfl) rfl ?_
      refine Wl.call0 rfl T.fn76 rfl (num_cmp _ _ _ _ _ (by assumption) (by assumption) (by omega) (by omega)) ?_
      refine Wl.on0 ?_
      refine Gm.q 9 [] (by kernel_rfl) rfl rfl (Qy.neq rfl rfl) ?_
      refine Gm.doneA (by kernel_rfl) trivial (by first | exact Imm.le_refl _ | assumption | (refine Imm.le_trans ?_ (by assumption); first | assumption | (refine Imm.le_trans ?_ (by assumption); assumption))) ?_
      refine Ar.next ?_
      refine Wc.cond rfl (fun hc1 => ?_) (fun hc1 => ?_)
      refine Wc.ga 11 [] ?_
      rotate_left
      refine Wc.ga 8 [] ?_
      rotate_left
      · refine Ar.out1 (.inr rfl) (Ho := []) rfl (.tmp rfl) trivial ?_
        have hne : ¬ xs = ys := fun e => by subst e; exact hc1 (cmpZ_zeroN.2 rfl)
        exact ⟨by rw [decide_eq_false hne], rfl, rfl⟩
      · have hc2 := cmpZ_zeroN.1 (Classical.not_not.1 hc1)
        rw [Int.toNat_natCast] at hc2
        refine Ar.again (i + 1) ?_ ?_ rfl ⟨rfl, rfl, rfl, trivial⟩ trivial
        · refine ⟨by omega, fun j hj => ?_⟩
          by_cases hji : j = i
          · subst hji; exact hc2
          · exact he j (by omega)
        · show la.length - (i + 1) < la.length - i
          omega
    · refine Wc.ga 21 [0] ?_
      refine Ar.out1 (.inr rfl) (Ho := []) rfl (.tmp rfl) trivial ?_
      have hee : xs = ys := same_end (by omega) (fun j hj => he j (by omega))
      exact ⟨by rw [decide_eq_true hee], rfl, rfl⟩
  · refine Wc.ga 23 [1] ?_
    refine Ar.out1 (.inr rfl) (Ho := []) rfl (.tmp rfl) trivial ?_
    have hne : ¬ xs = ys := fun e => by subst e; omega
    exact ⟨by rw [decide_eq_false hne], rfl, rfl⟩
/-- a row of numbers, frozen -/
def RowOf (G : Imm) (v : Value) (zs : List Int) : Prop := ∃ (o : Option Addr) (c : Nat) (l : List IV), v = .slice o l.length c ∧ Arr G o l ∧ Nums G l zs ∧ l.length ≤ c
theorem c132 (G : Imm) (x y : IV) (zx zy : Int) (a b : Option Addr) (ca cb : Nat) (la lb : List IV) (xs ys : List Int) (hx : Num G x zx) (hy : Num G y zy) (ha : Arr G a la) (hb : Arr G b lb) (hxs : Nums G la xs) (hys : Nums G lb ys) (hl : la.length = lb.length) (k m : Nat) (hk : k + m ≤ 134217728)
    (bx : (zx.natAbs : Int) < pw k) (by' : (zy.natAbs : Int) < pw k) (bxs : Go.Sl.Below m xs) (bys : Go.Sl.Below m ys) (h1 : la.length ≤ 1048576) :
    Does Tryz.prog 132 [.agg (Cells.enc x).toArray, .slice a la.length ca, .agg (Cells.enc y).toArray, .slice b lb.length cb] G [] (fun v G' Ho => RowOf G' v (comb zx xs zy ys) ∧ Ho = []) := by
  have hxl := hxs.1
  have hyl := hys.1
  obtain ⟨K, hK⟩ : ∃ K, K = k + m := ⟨_, rfl⟩
  have hK9 : K ≤ 1073741824 := by omega
  refine Does.enter Tryz.func132 rfl Tryz.ntmps132 rfl (fun w => ?_)
  refine Wc.nilRow 9 (Row 97 ([] : List IV) []) ?_
  refine Wc.gl 2 [] ?_
  refine Wl.box 10 rfl rfl rfl (fun b1 => ?_)
  refine Wl.box 11 rfl rfl rfl (fun b2 => ?_)
  refine Wl.gc 15 [] ?_
  refine Wc.loopG (ι := Nat × Imm × List IV × (Option Addr × Nat × List Value)) (fun (i, Gx, r, (o, d, j)) => ([(10, .int .i64 (i : Int)), (9, .slice o r.length d), (8, Go.Value.slice Option.none 0 0), (6, Go.Value.pointer (Option.some (Go.Addr.mk b2 0 Option.none))), (4, Go.Value.pointer (Option.some (Go.Addr.mk b1 0 Option.none))), (1, Go.Value.slice a (List.length la) ca), (3, Go.Value.slice b (List.length lb) cb)], [(9, o.map (·.block), Row 97 r j), (11, Option.some b2, Go.Obj.cells (List.toArray (Go.Sl.Cells.enc y)) 97), (10, Option.some b1, Go.Obj.cells (List.toArray (Go.Sl.Cells.enc x)) 97)])) (fun (i, Gx, r, (o, d, j)) => Gx) (fun (i, Gx, r, (o, d, j)) => i ≤ la.length ∧ G.le Gx ∧ r.length = i ∧ Nums Gx r ((comb zx xs zy ys).take i) ∧ OwnA o d r j) (fun (i, Gx, r, (o, d, j)) => la.length - i) ((0, G, [], (none, 0, []))) (⟨Nat.zero_le _, Imm.le_refl _, rfl, by rw [List.take_zero]; exact Nums.nil _, OwnA.nil⟩) rfl ⟨rfl, rfl, rfl, rfl, rfl, rfl, rfl, trivial⟩ ⟨rfl, rfl, rfl, trivial⟩ (fun ⟨i, Gx, r, (o, d, j)⟩ => fun (hk : i ≤ la.length ∧ G.le Gx ∧ r.length = i ∧ Nums Gx r ((comb zx xs zy ys).take i) ∧ OwnA o d r j) => ?_)
  obtain ⟨hi, hgx, hri, hrs, hob⟩ := hk
  replace hx := hx.up hgx
  replace hy := hy.up hgx
  replace ha := ha.up hgx
  replace hb := hb.up hgx
  replace hxs := hxs.up hgx
  replace hys := hys.up hgx
  rcases Nat.lt_or_ge i la.length with hia | hia
  · have hxi := hxs.at (m := (i : Int)) (by omega)
    have hyi := hys.at (m := (i : Int)) (by omega)
    have hxn := Num.len hxi (bxs.at _)
    have hyn := Num.len hyi (bys.at _)
    have hxn0 := Num.len hx bx
    have hyn0 := Num.len hy by'
    have hp1 := mul_lt_pw bx (bxs.at (m := m) ((i : Int).toNat))
    have hp2 := mul_lt_pw by' (bys.at (m := m) ((i : Int).toNat))
    rw [← hK] at hp1 hp2
    refine Wc.gc 14 [1] ?_
    refine Wc.draw [10, 11, 9] [(9, 15)] T.mixed rfl ?_
    refine Gm.q 0 [] (by kernel_rfl) rfl rfl (Qy.move rfl) ?_
    refine Gm.q 1 [10] (by kernel_rfl) rfl rfl (Qy.loadAll 10 T.agg97 rfl rfl rfl) ?_
    refine Gm.q 2 [] (by kernel_rfl) rfl rfl (Qy.move rfl) ?_
    refine Gm.q 3 [] (by kernel_rfl) rfl rfl (Qy.move rfl) ?_
    refine Gm.q 4 [] (by kernel_rfl) rfl rfl (Qy.at (α := IV) T.sl94 rfl rfl (by assumption) (by omega)) ?_
    refine Gm.q 5 [] (by kernel_rfl) rfl rfl (Qy.loadsG T.agg97 rfl (Arr.elem (by assumption) (by omega)) rfl) ?_
    refine Gm.q 7 [11] (by kernel_rfl) rfl rfl (Qy.loadAll 11 T.agg97 rfl rfl rfl) ?_
    refine Gm.q 8 [] (by kernel_rfl) rfl rfl (Qy.move rfl) ?_
    refine Gm.q 9 [] (by kernel_rfl) rfl rfl (Qy.move rfl) ?_
    refine Gm.q 10 [] (by kernel_rfl) rfl rfl (Qy.at (α := IV) T.sl94 rfl rfl (by assumption) (by omega)) ?_
    refine Gm.q 11 [] (by kernel_rfl) rfl rfl (Qy.loadsG T.agg97 rfl (Arr.elem (by assumption) (by omega)) rfl) ?_
    refine Gm.one 6 ⟨rfl, rfl, rfl, trivial⟩ (by first | exact Imm.le_refl _ | assumption | (refine Imm.le_trans ?_ (by assumption); first | assumption | (refine Imm.le_trans ?_ (by assumption); assumption))) (by kernel_rfl) rfl ?_
    refine Wl.call 12 rfl T.fn109 rfl (num_mul _ _ _ _ _ (by assumption) (by assumption) (by omega) (by omega)) (tags_of trivial) (fun v1 G1 Ho1 hle1 hp => ?_)
    obtain ⟨pm1, rfl, hpm1, rfl⟩ := hp
    replace hrs := hrs.up hle1
    replace hx := hx.up hle1
    replace hy := hy.up hle1
    replace ha := ha.up hle1
    replace hb := hb.up hle1
    replace hxs := hxs.up hle1
    replace hys := hys.up hle1
    replace hxi := hxi.up hle1
    replace hyi := hyi.up hle1
    refine Wl.on0 ?_
    refine Gm.one 12 ⟨rfl, rfl, rfl, trivial⟩ (by first | exact Imm.le_refl _ | assumption | (refine Imm.le_trans ?_ (by assumption); first | assumption | (refine Imm.le_trans ?_ (by assumption); assumption))) (by kernel_rfl) rfl ?_
    refine Wl.call 12 rfl T.fn109 rfl (num_mul _ _ _ _ _ (by assumption) (by assumption) (by omega) (by omega)) (tags_of trivial) (fun v2 G2 Ho2 hle2 hp => ?_)
    obtain ⟨pm2, rfl, hpm2, rfl⟩ := hp
    replace hpm1 := hpm1.up hle2
    replace hrs := hrs.up hle2
    replace hx := hx.up hle2
    replace hy := hy.up hle2
    replace ha := ha.up hle2
    replace hb := hb.up hle2
    replace hxs := hxs.up hle2
    replace hys := hys.up hle2
    replace hxi := hxi.up hle2
    replace hyi := hyi.up hle2
    refine Wl.on0 ?_
    refine Gm.one 13 ⟨rfl, rfl, rfl, trivial⟩ (by first | exact Imm.le_refl _ | assumption | (refine Imm.le_trans ?_ (by assumption); first | assumption | (refine Imm.le_trans ?_ (by assumption); assumption))) (by kernel_rfl) rfl ?_
    refine Wl.call 12 rfl T.fn149 rfl (num_add _ _ _ _ _ (by assumption) (by assumption) (Nat.le_trans (Num.len (m := K) (by assumption) (by assumption)) hK9) (Nat.le_trans (Num.len (m := K) (by assumption) (by assumption)) hK9)) (tags_of trivial) (fun v3 G3 Ho3 hle3 hp => ?_)
    obtain ⟨ps3, rfl, hps3, rfl⟩ := hp
    replace hpm2 := hpm2.up hle3
    replace hpm1 := hpm1.up hle3
    replace hrs := hrs.up hle3
    replace hx := hx.up hle3
    replace hy := hy.up hle3
    replace ha := ha.up hle3
    replace hb := hb.up hle3
    replace hxs := hxs.up hle3
    replace hys := hys.up hle3
    replace hxi := hxi.up hle3
    replace hyi := hyi.up hle3
    refine Wl.on0 ?_
    refine Gm.one 14 ⟨rfl, rfl, rfl, trivial⟩ (by first | exact Imm.le_refl _ | assumption | (refine Imm.le_trans ?_ (by assumption); first | assumption | (refine Imm.le_trans ?_ (by assumption); assumption))) (by kernel_rfl) rfl ?_
    refine Wl.lit (α := IV) 12 [(ps3)] rfl T.sl94 T.el97 rfl rfl rfl rfl rfl (fun b3 => ?_)
    refine Wl.on0 ?_
    refine Gm.one 15 ⟨rfl, rfl, rfl, trivial⟩ (by first | exact Imm.le_refl _ | assumption | (refine Imm.le_trans ?_ (by assumption); first | assumption | (refine Imm.le_trans ?_ (by assumption); assumption))) (by kernel_rfl) rfl ?_
    refine Wl.append (α := IV) 9 rfl T.sl94 T.el97 rfl rfl rfl (by first | assumption | exact OwnA.nil | exact OwnA.made (by simp)) (Src.row 12 rfl) (by first | omega | (simp only [List.length_append, List.length_cons, List.length_nil, maxLen]; omega)) (by first | omega | (simp only [List.length_append, List.length_cons, List.length_nil, maxLen]; omega)) (fun a1 c1 junk1 ho1 => ?_)
    refine Wl.on0 ?_
    refine Gm.q 16 [] (by kernel_rfl) rfl rfl (Qy.assign rfl) ?_
    refine Gm.doneA (by kernel_rfl) ⟨rfl, rfl, trivial⟩ (by first | exact Imm.le_refl _ | assumption | (refine Imm.le_trans ?_ (by assumption); first | assumption | (refine Imm.le_trans ?_ (by assumption); assumption))) ?_
    refine Ar.ga 7 [] ?_
    refine Ar.again ((i + 1, G3, r ++ [ps3], (a1, c1, junk1))) ?_ ?_ rfl ⟨rfl, rfl, rfl, rfl, rfl, rfl, rfl, trivial⟩ ⟨rfl, rfl, rfl, trivial⟩
    · exact ⟨by omega, Imm.le_trans hgx (Imm.le_trans hle1 (Imm.le_trans hle2 hle3)), by rw [List.length_append]; show r.length + 1 = i + 1; omega, by rw [comb_succ (by omega) (by omega)]; exact hrs.snoc hps3, ho1⟩
    · show la.length - (i + 1) < la.length - i
      omega
  · refine Wc.ga 22 [0] ?_
    have hcap := hob.le
    rw [List.take_of_length_le (by rw [comb_len (by omega)]; omega)] at hrs
    refine Ar.freezeRow 9 rfl hob (fun G9 hle9 hA => ?_)
    refine Ar.out1 (.inr rfl) (Ho := []) rfl (.tmp rfl) trivial ?_
    exact ⟨⟨o, d, r, rfl, hA, hrs.up hle9, hcap⟩, rfl⟩
theorem nums_zeros (G : Imm) (n : Nat) : Nums G (List.replicate n (default : IV)) (List.replicate n 0) := by
  refine ⟨by rw [List.length_replicate, List.length_replicate], fun i hi => ?_⟩
  rw [List.length_replicate] at hi
  rw [List.getElem?_replicate, List.getElem?_replicate, if_pos hi, if_pos hi]
  exact Num.zero G
theorem c44 (G : Imm) (n : Nat) (hn : n ≤ 1048576) :
    Does Tryz.prog 44 [.int .i64 (n : Int)] G [] (fun v G' Ho => RowOf G' v (List.replicate n 0) ∧ Ho = []) := by
  refine Does.enter Tryz.func44 rfl Tryz.ntmps44 rfl (fun w => ?_)
  refine Wc.gl 8 [] ?_
  refine Wl.make (α := IV) 0 rfl T.sl94 T.el97 rfl rfl (by omega) (by omega) (fun b1 => ?_)
  refine Wl.ga 4 [] ?_
  have hr : ∀ N : Nat, (N : Int).toNat = N := fun N => Int.toNat_natCast N
  rw [hr n]
  have hl : (List.replicate n (default : IV)).length = n := List.length_replicate
  have hob : OwnA (some ⟨b1, 0, none⟩) n (List.replicate n (default : IV)) [] := .inr ⟨b1, rfl, by rw [hl]; rfl, by omega, by simp only [maxLen]; omega⟩
  refine Ar.freezeRow 0 rfl hob (fun G9 hle9 hA => ?_)
  refine Ar.out1 (.inr rfl) (Ho := []) rfl (.tmp rfl) trivial ?_
  exact ⟨⟨_, n, _, by rw [hl], hA, nums_zeros _ n, by rw [hl]; exact Nat.le_refl _⟩, rfl⟩
theorem comb_scale (z : Int) (xs : List Int) : comb z xs 0 xs = xs.map (fun a => z * a) := by
  unfold comb
  induction xs with
  | nil => rfl
  | cons a l ih => rw [List.zipWith_cons_cons, ih, List.map_cons, Int.zero_mul, Int.add_zero]
theorem comb_one (c : Int) (xs ys : List Int) : comb 1 xs c ys = List.zipWith (fun a b => a + c * b) xs ys := by
  unfold comb
  congr 1
  funext a b
  rw [Int.one_mul]
theorem c104 (G : Imm) (x : IV) (z : Int) (a : Option Addr) (ca : Nat) (la : List IV) (xs : List Int) (hx : Num G x z) (ha : Arr G a la) (hxs : Nums G la xs) (k m : Nat) (hk : k + m ≤ 134217728)
    (bx : (z.natAbs : Int) < pw k) (bxs : Go.Sl.Below m xs) (h1 : la.length ≤ 1048576) :
    Does Tryz.prog 104 [.slice a la.length ca, .agg (Cells.enc x).toArray] G [] (fun v G' Ho => RowOf G' v (xs.map (fun a => z * a)) ∧ Ho = []) := by
  refine Does.enter Tryz.func104 rfl Tryz.ntmps104 rfl (fun w => ?_)
  refine Wc.gl 2 [] ?_
  refine Wl.box 0 rfl rfl rfl (fun b1 => ?_)
  refine Wl.gl 7 [0] ?_
  refine Wl.q rfl (Qy.build (cs := [_, _]) T.st97 rfl rfl rfl) ?_
  refine Wl.q rfl (Qy.move rfl) ?_
  refine Wl.call 1 rfl T.fn132 rfl (c132 _ x ⟨false, none, 0, 0⟩ z 0 _ _ _ _ _ _ xs xs hx (Num.zero _) ha ha hxs hxs rfl k m hk bx (zero_lt k) bxs bxs h1) (tags_of trivial) (fun v1 G1 Ho1 hle1 hp => ?_)
  obtain ⟨⟨ro1, rc1, rl1, rfl, hrA1, hrs1, hrl1⟩, rfl⟩ := hp
  replace hx := hx.up hle1
  replace ha := ha.up hle1
  replace hxs := hxs.up hle1
  refine Wl.ga 4 [] ?_
  refine Ar.out1 (.inr rfl) (Ho := []) rfl (.tmp rfl) trivial ?_
  exact ⟨⟨ro1, rc1, rl1, rfl, hrA1, by rw [← comb_scale]; exact hrs1, hrl1⟩, rfl⟩
theorem c105 (G : Imm) (a b : Option Addr) (ca cb : Nat) (la lb : List IV) (xs ys : List Int) (ha : Arr G a la) (hb : Arr G b lb) (hxs : Nums G la xs) (hys : Nums G lb ys) (hl : la.length = lb.length) (m : Nat) (hm : 1 + m ≤ 134217728)
    (bxs : Go.Sl.Below m xs) (bys : Go.Sl.Below m ys) (h1 : la.length ≤ 1048576) :
    Does Tryz.prog 105 [.slice a la.length ca, .slice b lb.length cb] G [] (fun v G' Ho => RowOf G' v (List.zipWith (fun a b => a + 1 * b) xs ys) ∧ Ho = []) := by
  refine Does.enter Tryz.func105 rfl Tryz.ntmps105 rfl (fun w => ?_)
  refine Wc.gl 7 [] ?_
  refine Wl.call 0 rfl T.fn45 rfl (num_of _ _ ⟨by decide, by decide⟩) (tags_of trivial) (fun v1 G1 Ho1 hle1 hp => ?_)
  obtain ⟨ri1, rfl, hri1, rfl⟩ := hp
  replace ha := ha.up hle1
  replace hb := hb.up hle1
  replace hxs := hxs.up hle1
  replace hys := hys.up hle1
  refine Wl.q rfl (Qy.move rfl) ?_
  refine Wl.call 0 rfl T.fn45 rfl (num_of _ _ ⟨by decide, by decide⟩) (tags_of trivial) (fun v2 G2 Ho2 hle2 hp => ?_)
  obtain ⟨ri2, rfl, hri2, rfl⟩ := hp
  replace hri1 := hri1.up hle2
  replace ha := ha.up hle2
  replace hb := hb.up hle2
  replace hxs := hxs.up hle2
  replace hys := hys.up hle2
  refine Wl.q rfl (Qy.move rfl) ?_
  refine Wl.call 0 rfl T.fn132 rfl (c132 _ _ _ 1 1 _ _ _ _ la lb xs ys hri1 hri2 ha hb hxs hys hl 1 m hm one_ltN one_ltN bxs bys h1) (tags_of trivial) (fun v3 G3 Ho3 hle3 hp => ?_)
  obtain ⟨⟨ro3, rc3, rl3, rfl, hrA3, hrs3, hrl3⟩, rfl⟩ := hp
  replace hri2 := hri2.up hle3
  replace hri1 := hri1.up hle3
  replace ha := ha.up hle3
  replace hb := hb.up hle3
  replace hxs := hxs.up hle3
  replace hys := hys.up hle3
  refine Wl.ga 4 [] ?_
  refine Ar.out1 (.inr rfl) (Ho := []) rfl (.tmp rfl) trivial ?_
  exact ⟨⟨ro3, rc3, rl3, rfl, hrA3, by rw [← comb_one]; exact hrs3, hrl3⟩, rfl⟩
theorem c106 (G : Imm) (a b : Option Addr) (ca cb : Nat) (la lb : List IV) (xs ys : List Int) (ha : Arr G a la) (hb : Arr G b lb) (hxs : Nums G la xs) (hys : Nums G lb ys) (hl : la.length = lb.length) (m : Nat) (hm : 1 + m ≤ 134217728)
    (bxs : Go.Sl.Below m xs) (bys : Go.Sl.Below m ys) (h1 : la.length ≤ 1048576) :
    Does Tryz.prog 106 [.slice a la.length ca, .slice b lb.length cb] G [] (fun v G' Ho => RowOf G' v (List.zipWith (fun a b => a + (-1) * b) xs ys) ∧ Ho = []) := by
  refine Does.enter Tryz.func106 rfl Tryz.ntmps106 rfl (fun w => ?_)
  refine Wc.gl 7 [] ?_
  refine Wl.call 0 rfl T.fn45 rfl (num_of _ _ ⟨by decide, by decide⟩) (tags_of trivial) (fun v1 G1 Ho1 hle1 hp => ?_)
  obtain ⟨ri1, rfl, hri1, rfl⟩ := hp
  replace ha := ha.up hle1
  replace hb := hb.up hle1
  replace hxs := hxs.up hle1
  replace hys := hys.up hle1
  refine Wl.q rfl (Qy.move rfl) ?_
  refine Wl.call 0 rfl T.fn45 rfl (num_of _ _ ⟨by decide, by decide⟩) (tags_of trivial) (fun v2 G2 Ho2 hle2 hp => ?_)
  obtain ⟨ri2, rfl, hri2, rfl⟩ := hp
  replace hri1 := hri1.up hle2
  replace ha := ha.up hle2
  replace hb := hb.up hle2
  replace hxs := hxs.up hle2
  replace hys := hys.up hle2
  refine Wl.q rfl (Qy.move rfl) ?_
  refine Wl.call 0 rfl T.fn132 rfl (c132 _ _ _ 1 (-1) _ _ _ _ la lb xs ys hri1 hri2 ha hb hxs hys hl 1 m hm one_ltN mone_lt bxs bys h1) (tags_of trivial) (fun v3 G3 Ho3 hle3 hp => ?_)
  obtain ⟨⟨ro3, rc3, rl3, rfl, hrA3, hrs3, hrl3⟩, rfl⟩ := hp
  replace hri2 := hri2.up hle3
  replace hri1 := hri1.up hle3
  replace ha := ha.up hle3
  replace hb := hb.up hle3
  replace hxs := hxs.up hle3
  replace hys := hys.up hle3
  refine Wl.ga 4 [] ?_
  refine Ar.out1 (.inr rfl) (Ho := []) rfl (.tmp rfl) trivial ?_
  exact ⟨⟨ro3, rc3, rl3, rfl, hrA3, by rw [← comb_one]; exact hrs3, hrl3⟩, rfl⟩
theorem map_succ {y : Int} {xs : List Int} {i : Nat} (hi : i < xs.length) :
    (xs.map (· / y)).take (i + 1) = (xs.map (· / y)).take i ++ [xs[((i : Nat) : Int).toNat]?.getD 0 / y] := by
  have h1 : i < (xs.map (· / y)).length := by rw [List.length_map]; exact hi
  rw [List.take_succ_eq_append_getElem h1, Int.toNat_natCast, List.getElem?_eq_getElem hi, List.getElem_map]; rfl
theorem c108 (G : Imm) (y : IV) (zy : Int) (a : Option Addr) (ca : Nat) (la : List IV) (xs : List Int) (hy : Num G y zy) (ha : Arr G a la) (hxs : Nums G la xs) (m : Nat) (hm : m ≤ 134217728) (hyn0 : y.n ≤ 134217728)
    (bxs : Go.Sl.Below m xs) (hy0 : zy ≠ 0) (h1 : la.length ≤ 1048576) :
    Does Tryz.prog 108 [.slice a la.length ca, .agg (Cells.enc y).toArray] G [] (fun v G' Ho => ∃ rv, v = .tuple #[rv, .bool (decide (AllDiv zy xs))] ∧ (AllDiv zy xs → RowOf G' rv (xs.map (· / zy))) ∧ Ho = []) := by
  have hxl := hxs.1
  refine Does.enter Tryz.func108 rfl Tryz.ntmps108 rfl (fun w => ?_)
  refine Wc.nilRow 9 (Row 97 ([] : List IV) []) ?_
  refine Wc.gl 2 [] ?_
  refine Wl.box 10 rfl rfl rfl (fun b1 => ?_)
  refine Wl.gc 16 [] ?_
  refine Wc.loopG (ι := Nat × Imm × List IV × (Option Addr × Nat × List Value)) (fun (i, Gx, r, (o, d, j)) => ([(7, .int .i64 (i : Int)), (6, .slice o r.length d), (3, Go.Value.pointer (Option.some (Go.Addr.mk b1 0 Option.none))), (0, Go.Value.slice a (List.length la) ca)], [(9, o.map (·.block), Row 97 r j), (10, Option.some b1, Go.Obj.cells (List.toArray (Go.Sl.Cells.enc y)) 97)])) (fun (i, Gx, r, (o, d, j)) => Gx) (fun (i, Gx, r, (o, d, j)) => i ≤ la.length ∧ G.le Gx ∧ r.length = i ∧ Nums Gx r ((xs.map (· / zy)).take i) ∧ OwnA o d r j ∧ ∀ q : Nat, q < i → xs[q]?.getD 0 % zy = 0) (fun (i, Gx, r, (o, d, j)) => la.length - i) ((0, G, [], (none, 0, []))) (⟨Nat.zero_le _, Imm.le_refl _, rfl, by rw [List.take_zero]; exact Nums.nil _, OwnA.nil, fun q hq => by omega⟩) rfl ⟨rfl, rfl, rfl, rfl, trivial⟩ ⟨rfl, rfl, trivial⟩ (fun ⟨i, Gx, r, (o, d, j)⟩ => fun (hk : i ≤ la.length ∧ G.le Gx ∧ r.length = i ∧ Nums Gx r ((xs.map (· / zy)).take i) ∧ OwnA o d r j ∧ ∀ q : Nat, q < i → xs[q]?.getD 0 % zy = 0) => ?_)
  obtain ⟨hi, hgx, hri, hrs, hob, hq⟩ := hk
  replace hy := hy.up hgx
  replace ha := ha.up hgx
  replace hxs := hxs.up hgx
  rcases Nat.lt_or_ge i la.length with hia | hia
  · have hxi := hxs.at (m := (i : Int)) (by omega)
    have hxn := Num.len hxi (bxs.at _)
    refine Wc.gc 15 [1] ?_
    refine Wc.draw [10, 9] [] T.mixed rfl ?_
    refine Gm.q 0 [] (by kernel_rfl) rfl rfl (Qy.move rfl) ?_
    refine Gm.q 1 [] (by kernel_rfl) rfl rfl (Qy.move rfl) ?_
    refine Gm.q 2 [] (by kernel_rfl) rfl rfl (Qy.at (α := IV) T.sl94 rfl rfl (by assumption) (by omega)) ?_
    refine Gm.q 3 [] (by kernel_rfl) rfl rfl (Qy.loadsG T.agg97 rfl (Arr.elem (by assumption) (by omega)) rfl) ?_
    refine Gm.q 4 [10] (by kernel_rfl) rfl rfl (Qy.loadAll 10 T.agg97 rfl rfl rfl) ?_
    refine Gm.two 5 9 ⟨rfl, rfl, trivial⟩ (by first | exact Imm.le_refl _ | assumption | (refine Imm.le_trans ?_ (by assumption); first | assumption | (refine Imm.le_trans ?_ (by assumption); assumption))) (by kernel_rfl) rfl rfl ?_ ?_
    refine Wl.call 11 rfl T.fn134 rfl (num_over _ _ _ _ zy (by assumption) (by assumption) (by omega) (by omega) hy0) (tags_of trivial) (fun v1 G1 Ho1 hle1 hp => ?_)
    obtain ⟨qo1, rfl, hqo1, rfl⟩ := hp
    replace hrs := hrs.up hle1
    replace hy := hy.up hle1
    replace ha := ha.up hle1
    replace hxs := hxs.up hle1
    replace hxi := hxi.up hle1
    refine Wl.on0 ?_
    refine Gm.q 6 [] (by kernel_rfl) rfl rfl (Qy.move rfl) ?_
    refine Gm.q 7 [] (by kernel_rfl) rfl rfl (Qy.extract rfl rfl) ?_
    refine Gm.q 8 [] (by kernel_rfl) rfl rfl (Qy.extract rfl rfl) ?_
    refine Gm.one 9 ⟨rfl, rfl, trivial⟩ (by first | exact Imm.le_refl _ | assumption | (refine Imm.le_trans ?_ (by assumption); first | assumption | (refine Imm.le_trans ?_ (by assumption); assumption))) (by kernel_rfl) rfl ?_
    refine Wl.alloc 11 rfl T.zero97 (fun b2 => ?_)
    refine Wl.on0 ?_
    refine Gm.one 10 ⟨rfl, rfl, trivial⟩ (by first | exact Imm.le_refl _ | assumption | (refine Imm.le_trans ?_ (by assumption); first | assumption | (refine Imm.le_trans ?_ (by assumption); assumption))) (by kernel_rfl) rfl ?_
    refine Wl.storeAll 11 T.size97 rfl rfl rfl rfl rfl rfl ?_
    refine Wl.on0 ?_
    refine Gm.q 11 [] (by kernel_rfl) rfl rfl (Qy.assign rfl) ?_
    refine Gm.doneA (by kernel_rfl) ⟨rfl, rfl, trivial⟩ (by first | exact Imm.le_refl _ | assumption | (refine Imm.le_trans ?_ (by assumption); first | assumption | (refine Imm.le_trans ?_ (by assumption); assumption))) ?_
    refine Ar.gl 5 [] ?_
    refine Wl.q rfl (Qy.notD rfl) ?_
    refine Wl.gc 2 [] ?_
    refine Wc.cond rfl (fun hc1 => ?_) (fun hc1 => ?_)
    refine Wc.ga 13 [] ?_
    rotate_left
    refine Wc.gl 5 [11] ?_
    refine Wl.lit (α := IV) 12 [(qo1)] rfl T.sl94 T.el97 rfl rfl rfl rfl rfl (fun b3 => ?_)
    refine Wl.append (α := IV) 9 rfl T.sl94 T.el97 rfl rfl rfl (by first | assumption | exact OwnA.nil | exact OwnA.made (by simp)) (Src.row 12 rfl) (by first | omega | (simp only [List.length_append, List.length_cons, List.length_nil, maxLen]; omega)) (by first | omega | (simp only [List.length_append, List.length_cons, List.length_nil, maxLen]; omega)) (fun a1 c1 junk1 ho1 => ?_)
    refine Wl.ga 9 [] ?_
    rotate_left
    refine Wl.alloc 11 rfl T.zero97 (fun b2 => ?_)
    refine Wl.on0 ?_
    refine Gm.one 5 ⟨rfl, rfl, trivial⟩ (by first | exact Imm.le_refl _ | assumption | (refine Imm.le_trans ?_ (by assumption); first | assumption | (refine Imm.le_trans ?_ (by assumption); assumption))) (by kernel_rfl) rfl ?_
    refine Wl.call 12 rfl T.fn134 rfl (num_over _ _ _ _ zy (by assumption) (by assumption) (by omega) (by omega) hy0) (tags_of trivial) (fun v1 G1 Ho1 hle1 hp => ?_)
    obtain ⟨qo1, rfl, hqo1, rfl⟩ := hp
    replace hrs := hrs.up hle1
    replace hy := hy.up hle1
    replace ha := ha.up hle1
    replace hxs := hxs.up hle1
    replace hxi := hxi.up hle1
    refine Wl.on0 ?_
    refine Gm.q 6 [] (by kernel_rfl) rfl rfl (Qy.move rfl) ?_
    refine Gm.q 7 [] (by kernel_rfl) rfl rfl (Qy.extract rfl rfl) ?_
    refine Gm.q 8 [] (by kernel_rfl) rfl rfl (Qy.extract rfl rfl) ?_
    refine Gm.one 10 ⟨rfl, rfl, trivial⟩ (by first | exact Imm.le_refl _ | assumption | (refine Imm.le_trans ?_ (by assumption); first | assumption | (refine Imm.le_trans ?_ (by assumption); assumption))) (by kernel_rfl) rfl ?_
    refine Wl.storeAll 11 T.size97 rfl rfl rfl rfl rfl rfl ?_
    refine Wl.on0 ?_
    refine Gm.q 11 [] (by kernel_rfl) rfl rfl (Qy.assign rfl) ?_
    refine Gm.doneA (by kernel_rfl) ⟨rfl, rfl, trivial⟩ (by first | exact Imm.le_refl _ | assumption | (refine Imm.le_trans ?_ (by assumption); first | assumption | (refine Imm.le_trans ?_ (by assumption); assumption))) ?_
    refine Ar.gl 5 [] ?_
    refine Wl.q rfl (Qy.notD rfl) ?_
    refine Wl.gc 2 [] ?_
    refine Wc.cond rfl (fun hc1 => ?_) (fun hc1 => ?_)
    refine Wc.ga 13 [] ?_
    rotate_left
    refine Wc.gl 5 [11] ?_
    refine Wl.lit (α := IV) 12 [(qo1)] rfl T.sl94 T.el97 rfl rfl rfl rfl rfl (fun b3 => ?_)
    refine Wl.append (α := IV) 9 rfl T.sl94 T.el97 rfl rfl rfl (by first | assumption | exact OwnA.nil | exact OwnA.made (by simp)) (Src.row 12 rfl) (by first | omega | (simp only [List.length_append, List.length_cons, List.length_nil, maxLen]; omega)) (by first | omega | (simp only [List.length_append, List.length_cons, List.length_nil, maxLen]; omega)) (fun a1 c1 junk1 ho1 => ?_)
    refine Wl.ga 9 [] ?_
    rotate_left
    · refine Ar.out2 (.inr rfl) (Ho := []) rfl (.tmp rfl) (.tmp rfl) trivial ?_
      have hn : ¬ AllDiv zy xs := fun h => hc1 (h _ (by omega))
      exact ⟨_, by rw [decide_eq_false hn], fun h => absurd h hn, rfl⟩
    · have hc2 := Classical.not_not.1 hc1
      rw [if_pos hc2] at hqo1
      refine Ar.again ((i + 1, G1, r ++ [qo1], (a1, c1, junk1))) ?_ ?_ rfl ⟨rfl, rfl, rfl, rfl, trivial⟩ ⟨rfl, rfl, trivial⟩
      · refine ⟨by omega, Imm.le_trans hgx hle1, by rw [List.length_append]; show r.length + 1 = i + 1; omega, by rw [map_succ (by omega)]; exact hrs.snoc hqo1, ho1, fun q hq9 => ?_⟩
        by_cases hqi : q = i
        · subst hqi; rw [Int.toNat_natCast] at hc2; exact hc2
        · exact hq q (by omega)
      · show la.length - (i + 1) < la.length - i
        omega
    · refine Ar.out2 (.inr rfl) (Ho := []) rfl (.tmp rfl) (.tmp rfl) trivial ?_
      have hn : ¬ AllDiv zy xs := fun h => hc1 (h _ (by omega))
      exact ⟨_, by rw [decide_eq_false hn], fun h => absurd h hn, rfl⟩
    · have hc2 := Classical.not_not.1 hc1
      rw [if_pos hc2] at hqo1
      refine Ar.again ((i + 1, G1, r ++ [qo1], (a1, c1, junk1))) ?_ ?_ rfl ⟨rfl, rfl, rfl, rfl, trivial⟩ ⟨rfl, rfl, trivial⟩
      · refine ⟨by omega, Imm.le_trans hgx hle1, by rw [List.length_append]; show r.length + 1 = i + 1; omega, by rw [map_succ (by omega)]; exact hrs.snoc hqo1, ho1, fun q hq9 => ?_⟩
        by_cases hqi : q = i
        · subst hqi; rw [Int.toNat_natCast] at hc2; exact hc2
        · exact hq q (by omega)
      · show la.length - (i + 1) < la.length - i
        omega
  · refine Wc.ga 23 [0] ?_
    have hcap := hob.le
    have hall : AllDiv zy xs := fun q hq9 => hq q (by omega)
    rw [List.take_of_length_le (by rw [List.length_map]; omega)] at hrs
    refine Ar.freezeRow 9 rfl hob (fun G9 hle9 hA => ?_)
    refine Ar.out2 (.inr rfl) (Ho := []) rfl (.tmp rfl) (.tmp rfl) trivial ?_
    exact ⟨_, by rw [decide_eq_true hall], fun _ => ⟨o, d, r, rfl, hA, hrs.up hle9, hcap⟩, rfl⟩
end Go.Proofs.YtelbhbbiejalhaaGreat
set_option maxRecDepth 100000
set_option linter.unusedVariables false
namespace Go.Proofs.YtelbhbbiejalhaaGreat
open Go Go.Sl
set_option maxHeartbeats 4000000
/-- the handle of a row of numbers -/
def RowS (G : Imm) (s : SV) (zs : List Int) : Prop := ∃ l : List IV, l.length = s.n ∧ s.n ≤ s.c ∧ Arr G s.a l ∧ Nums G l zs
theorem RowS.up {G G' : Imm} {s : SV} {zs : List Int} (h : RowS G s zs) (hl : G.le G') : RowS G' s zs := by
  obtain ⟨l, h1, h2, h3, h4⟩ := h
  exact ⟨l, h1, h2, h3.up hl, h4.up hl⟩
theorem RowOf.handle {G : Imm} {v : Value} {zs : List Int} (h : RowOf G v zs) : ∃ s : SV, v = .slice s.a s.n s.c ∧ RowS G s zs := by
  obtain ⟨o, c, l, rfl, h1, h2, h3⟩ := h
  exact ⟨⟨o, l.length, c⟩, rfl, l, rfl, h3, h1, h2⟩
/-- rows of numbers -/
def Grid (G : Imm) (l : List SV) (rs : List (List Int)) : Prop := l.length = rs.length ∧ ∀ i : Nat, i < l.length → RowS G (l[i]?.getD default) (rs[i]?.getD [])
theorem Grid.up {G G' : Imm} {l : List SV} {rs : List (List Int)} (h : Grid G l rs) (hl : G.le G') : Grid G' l rs := ⟨h.1, fun i hi => (h.2 i hi).up hl⟩
theorem Grid.nil (G : Imm) : Grid G [] [] := ⟨rfl, fun i hi => by simp at hi⟩
theorem Grid.at {G : Imm} {l : List SV} {rs : List (List Int)} (h : Grid G l rs) {m : Int} (hm : 0 ≤ m ∧ m < l.length) : RowS G (l[m.toNat]?.getD default) (rs[m.toNat]?.getD []) := h.2 _ (by omega)
theorem Grid.snoc {G : Imm} {l : List SV} {rs : List (List Int)} (h : Grid G l rs) {s : SV} {zs : List Int} (hx : RowS G s zs) : Grid G (l ++ [s]) (rs ++ [zs]) := by
  refine ⟨by simp [h.1], fun i hi => ?_⟩
  rw [List.length_append, List.length_singleton] at hi
  by_cases hc : i < l.length
  · rw [List.getElem?_append_left hc, List.getElem?_append_left (by rw [← h.1]; exact hc)]
    exact h.2 i hc
  · have e : i = l.length := by omega
    subst e
    rw [List.getElem?_concat_length, h.1, List.getElem?_concat_length]
    exact hx
theorem Grid.set {G : Imm} {l : List SV} {rs : List (List Int)} (h : Grid G l rs) (k : Nat) {s : SV} {zs : List Int} (hx : RowS G s zs) : Grid G (l.set k s) (rs.set k zs) := by
  refine ⟨by rw [List.length_set, List.length_set]; exact h.1, fun i hi => ?_⟩
  rw [List.length_set] at hi
  have hi2 : i < rs.length := by rw [← h.1]; exact hi
  rw [List.getElem?_set, List.getElem?_set]
  by_cases hk : k = i
  · subst hk; rw [if_pos rfl, if_pos rfl, if_pos hi, if_pos hi2]; exact hx
  · rw [if_neg hk, if_neg hk]; exact h.2 i hi
attribute [local irreducible] valL pw cmpZ p2
theorem c107 (G : Imm) (i : Sl.Instr) (hc1 : i.op = 5 ∨ i.op = 6 → -9223372036854775808 ≤ i.c ∧ i.c ≤ 9223372036854775807) (hc2 : ¬ (i.op = 5 ∨ i.op = 6) → 0 ≤ i.c ∧ i.c ≤ 64) :
    Does Tryz.prog 107 [.agg (Cells.enc i).toArray] G [] (fun v G' Ho => ∃ r : IV, v = .agg (Cells.enc r).toArray ∧ Num G' r (cst i) ∧ Ho = []) := by
  refine Does.enter Tryz.func107 rfl Tryz.ntmps107 rfl (fun w => ?_)
  by_cases h5 : i.op = 5
  · have hc1 := hc1 (.inl h5)
    refine Wc.gl 2 [] ?_
    refine Wl.box 0 rfl rfl rfl (fun b1 => ?_)
    refine Wl.alloc 1 rfl T.zero97 (fun b2 => ?_)
    refine Wl.gl 9 [0] ?_
    refine Wl.yes 6 rfl (by first | assumption | omega) ?_
    refine Wl.gl 11 [1, 0] ?_
    refine Wl.call 2 rfl T.fn45 rfl (num_of _ _ hc1) (tags_of trivial) (fun v1 G1 Ho1 hle1 hp => ?_)
    obtain ⟨ri1, rfl, hri1, rfl⟩ := hp
    refine Wl.ga 5 [1] ?_
    refine Ar.out1 (.inr rfl) (Ho := []) rfl (.agg 1 rfl rfl T.agg97) trivial ?_
    exact ⟨ri1, rfl, by rw [cst_c (.inl h5)]; exact hri1, rfl⟩
  · by_cases h6 : i.op = 6
    · have hc1 := hc1 (.inr h6)
      refine Wc.gl 2 [] ?_
      refine Wl.box 0 rfl rfl rfl (fun b1 => ?_)
      refine Wl.alloc 1 rfl T.zero97 (fun b2 => ?_)
      refine Wl.gl 9 [0] ?_
      refine Wl.no 6 rfl (by first | assumption | omega) ?_
      refine Wl.gl 14 [0, 1, 0] ?_
      refine Wl.call 2 rfl T.fn45 rfl (num_of _ _ hc1) (tags_of trivial) (fun v1 G1 Ho1 hle1 hp => ?_)
      obtain ⟨ri1, rfl, hri1, rfl⟩ := hp
      refine Wl.ga 5 [1] ?_
      refine Ar.out1 (.inr rfl) (Ho := []) rfl (.agg 1 rfl rfl T.agg97) trivial ?_
      exact ⟨ri1, rfl, by rw [cst_c (.inr h6)]; exact hri1, rfl⟩
    · have hcp := cst_p (i := i) (by omega)
      obtain ⟨c, hc⟩ : ∃ c : Nat, i.c = (c : Int) := ⟨i.c.toNat, by have := hc2 (by omega); omega⟩
      have hc9 : c ≤ 16777216 := by have := hc2 (by omega); omega
      rw [hc, Int.toNat_natCast] at hcp
      clear hc1 hc2
      obtain ⟨o, t, a, b, cc⟩ := i
      simp only at hc h5 h6
      subst hc
      refine Wc.gl 2 [] ?_
      refine Wl.box 0 rfl rfl rfl (fun b1 => ?_)
      refine Wl.alloc 1 rfl T.zero97 (fun b2 => ?_)
      refine Wl.gl 9 [0] ?_
      refine Wl.no 6 rfl (by first | assumption | omega) ?_
      refine Wl.gl 16 [0, 0, 0] ?_
      refine Wl.call 2 rfl T.fn133 rfl (c133 _ c hc9) (tags_of trivial) (fun v1 G1 Ho1 hle1 hp => ?_)
      obtain ⟨ri1, rfl, hri1, rfl⟩ := hp
      refine Wl.ga 4 [1] ?_
      refine Ar.out1 (.inr rfl) (Ho := []) rfl (.agg 1 rfl rfl T.agg97) trivial ?_
      exact ⟨ri1, rfl, by rw [hcp]; exact hri1, rfl⟩
theorem row_scale (G : Imm) (x : IV) (z : Int) (s : SV) (xs : List Int) (hx : Num G x z) (hs : RowS G s xs) (m : Nat) (hk : 5 + m ≤ 134217728)
    (bx : (z.natAbs : Int) < pw 5) (bxs : Go.Sl.Below m xs) (h1 : s.n ≤ 1048576) :
    Does Tryz.prog 104 [.slice s.a s.n s.c, .agg (Cells.enc x).toArray] G [] (fun v G' Ho => ∃ s' : SV, v = .slice s'.a s'.n s'.c ∧ RowS G' s' (xs.map (fun a => z * a)) ∧ Ho = []) := by
  obtain ⟨sa, sn, sc⟩ := s
  obtain ⟨l, hl, hc, hA, hN⟩ := hs
  simp only at hl hc hA h1
  subst hl
  refine (c104 G x z sa sc l xs hx hA hN 5 m hk bx bxs h1).mono fun v G' Ho _ ⟨h, e⟩ => ?_
  obtain ⟨s', e1, e2⟩ := h.handle
  exact ⟨s', e1, e2, e⟩
theorem row_add (G : Imm) (s t : SV) (xs ys : List Int) (hs : RowS G s xs) (ht : RowS G t ys) (hl : xs.length = ys.length) (m : Nat) (hm : 1 + m ≤ 134217728) (bxs : Go.Sl.Below m xs) (bys : Go.Sl.Below m ys) (h1 : s.n ≤ 1048576) :
    Does Tryz.prog 105 [.slice s.a s.n s.c, .slice t.a t.n t.c] G [] (fun v G' Ho => ∃ s' : SV, v = .slice s'.a s'.n s'.c ∧ RowS G' s' (List.zipWith (fun a b => a + 1 * b) xs ys) ∧ Ho = []) := by
  obtain ⟨sa, sn, sc⟩ := s
  obtain ⟨ta, tn, tc⟩ := t
  obtain ⟨l, hl1, hc, hA, hN⟩ := hs
  obtain ⟨l', hl2, hc', hA', hN'⟩ := ht
  simp only at hl1 hc hA h1 hl2 hc' hA'
  subst hl1 hl2
  have e1 := hN.1
  have e2 := hN'.1
  refine (c105 G sa ta sc tc l l' xs ys hA hA' hN hN' (by omega) m hm bxs bys h1).mono fun v G' Ho _ ⟨h, e⟩ => ?_
  obtain ⟨s', e1, e2⟩ := h.handle
  exact ⟨s', e1, e2, e⟩
theorem row_sub (G : Imm) (s t : SV) (xs ys : List Int) (hs : RowS G s xs) (ht : RowS G t ys) (hl : xs.length = ys.length) (m : Nat) (hm : 1 + m ≤ 134217728) (bxs : Go.Sl.Below m xs) (bys : Go.Sl.Below m ys) (h1 : s.n ≤ 1048576) :
    Does Tryz.prog 106 [.slice s.a s.n s.c, .slice t.a t.n t.c] G [] (fun v G' Ho => ∃ s' : SV, v = .slice s'.a s'.n s'.c ∧ RowS G' s' (List.zipWith (fun a b => a + (-1) * b) xs ys) ∧ Ho = []) := by
  obtain ⟨sa, sn, sc⟩ := s
  obtain ⟨ta, tn, tc⟩ := t
  obtain ⟨l, hl1, hc, hA, hN⟩ := hs
  obtain ⟨l', hl2, hc', hA', hN'⟩ := ht
  simp only at hl1 hc hA h1 hl2 hc' hA'
  subst hl1 hl2
  have e1 := hN.1
  have e2 := hN'.1
  refine (c106 G sa ta sc tc l l' xs ys hA hA' hN hN' (by omega) m hm bxs bys h1).mono fun v G' Ho _ ⟨h, e⟩ => ?_
  obtain ⟨s', e1, e2⟩ := h.handle
  exact ⟨s', e1, e2, e⟩
theorem row_over (G : Imm) (y : IV) (zy : Int) (s : SV) (xs : List Int) (hy : Num G y zy) (hs : RowS G s xs) (m : Nat) (hm : m ≤ 134217728) (by' : (zy.natAbs : Int) < pw 5) (bxs : Go.Sl.Below m xs) (hy0 : zy ≠ 0) (h1 : s.n ≤ 1048576) :
    Does Tryz.prog 108 [.slice s.a s.n s.c, .agg (Cells.enc y).toArray] G [] (fun v G' Ho => ∃ rv, v = .tuple #[rv, .bool (decide (AllDiv zy xs))] ∧ (AllDiv zy xs → ∃ s' : SV, rv = .slice s'.a s'.n s'.c ∧ RowS G' s' (xs.map (· / zy))) ∧ Ho = []) := by
  obtain ⟨sa, sn, sc⟩ := s
  obtain ⟨l, hl, hc, hA, hN⟩ := hs
  simp only at hl hc hA h1
  subst hl
  refine (c108 G y zy sa sc l xs hy hA hN m hm (Nat.le_trans (Num.len hy by') (by decide)) bxs hy0 h1).mono fun v G' Ho _ ⟨rv, h, h2, e⟩ => ?_
  exact ⟨rv, h, fun ha => (h2 ha).handle, e⟩
/-- rows of one length, none too large -/
def Even (m N : Nat) (rs : List (List Int)) : Prop := ∀ zs ∈ rs, zs.length = N ∧ Go.Sl.Below m zs
theorem Even.at {m N : Nat} {rs : List (List Int)} (h : Even m N rs) {k : Int} (hk : 0 ≤ k ∧ k < rs.length) : (rs[k.toNat]?.getD []).length = N ∧ Go.Sl.Below m (rs[k.toNat]?.getD []) := by
  have h1 : k.toNat < rs.length := by omega
  rw [List.getElem?_eq_getElem h1]
  exact h _ (List.getElem_mem h1)
theorem RowS.len {G : Imm} {s : SV} {zs : List Int} (h : RowS G s zs) : s.n = zs.length := by
  obtain ⟨l, h1, _, _, h4⟩ := h
  rw [← h1]; exact h4.1
end Go.Proofs.YtelbhbbiejalhaaGreat
set_option maxRecDepth 100000
set_option linter.unusedVariables false
namespace Go.Proofs.YtelbhbbiejalhaaGreat
open Go Go.Sl
set_option maxHeartbeats 4000000
attribute [local irreducible] valL pw cmpZ p2
theorem one_lt5 : (((-1 : Int)).natAbs : Int) < pw 5 := Int.lt_of_lt_of_le mone_lt (pw_le (by decide))
/-- what 'do' answers -/
def DoPostN (i : Sl.Instr) (rs : List (List Int)) (H0 : Hp) (v : Value) (G' : Imm) (Ho : Hp) : Prop :=
  ∃ rv, v = .tuple #[rv, .bool (decide (doI i rs ≠ none))] ∧ (∀ zs, doI i rs = some zs → ∃ s : SV, rv = .slice s.a s.n s.c ∧ RowS G' s zs) ∧ Ho = H0
theorem do_someN {i : Sl.Instr} {rs : List (List Int)} {H0 : Hp} {s : SV} {G' : Imm} {zs : List Int} (h : doI i rs = some zs) (hs : RowS G' s zs) : DoPostN i rs H0 (.tuple #[.slice s.a s.n s.c, .bool true]) G' H0 :=
  ⟨_, by rw [decide_eq_true (show doI i rs ≠ none from fun e => by rw [e] at h; cases h)], fun zs' h' => by rw [h] at h'; cases h'; exact ⟨s, rfl, hs⟩, rfl⟩
theorem do_overN {i : Sl.Instr} {rs : List (List Int)} {H0 : Hp} {rv : Value} {G' : Imm} {y : Int} {xs : List Int} (h : doI i rs = if AllDiv y xs then some (xs.map (· / y)) else none)
    (hs : AllDiv y xs → ∃ s : SV, rv = .slice s.a s.n s.c ∧ RowS G' s (xs.map (· / y))) : DoPostN i rs H0 (.tuple #[rv, .bool (decide (AllDiv y xs))]) G' H0 := by
  by_cases ha : AllDiv y xs
  · rw [if_pos ha] at h
    obtain ⟨s, e1, e2⟩ := hs ha
    subst e1
    rw [decide_eq_true ha]
    exact do_someN h e2
  · rw [if_neg ha] at h
    refine ⟨rv, by rw [decide_eq_false ha, decide_eq_false (show ¬ doI i rs ≠ none from fun e => e h)], (fun zs hz => by rw [h] at hz; cases hz), rfl⟩
theorem c73 (G : Imm) (i : Sl.Instr) (o : Option Addr) (d : Nat) (r : List SV) (j : List Value) (rs : List (List Int)) (m N : Nat) (hob : OwnA o d r j) (hg : Grid G r rs) (he : Even m N rs) (hN : N ≤ 1048576) (hm : 5 + m ≤ 134217728)
    (hop : 1 ≤ i.op ∧ i.op ≤ 8) (ha : 0 ≤ i.a ∧ i.a < r.length) (hb : i.op = 3 ∨ i.op = 4 → 0 ≤ i.b ∧ i.b < r.length) (hcc : constOk i.op i.c = true) (hr : r.length ≤ 1048576) (hz : i.op ≠ 1 → i.op ≠ 2 → i.op ≠ 3 → i.op ≠ 4 → cst i ≠ 0 ∧ ((cst i).natAbs : Int) < pw 5)
    (hc1 : i.op = 5 ∨ i.op = 6 → -9223372036854775808 ≤ i.c ∧ i.c ≤ 9223372036854775807) (hc2 : ¬ (i.op = 5 ∨ i.op = 6) → 0 ≤ i.c ∧ i.c ≤ 64) :
    Does Tryz.prog 73 [.agg (Cells.enc i).toArray, .slice o r.length d] G [(0, o.map (·.block), Row 94 r j)] (fun v G' Ho => DoPostN i rs [(0, o.map (·.block), Row 94 r j)] v G' Ho) := by
  have hgl := hg.1
  have hca := hob.le
  have haR := hg.at ha
  obtain ⟨haL, haB⟩ := he.at (k := i.a) (by omega)
  have haN : (r[i.a.toNat]?.getD default).n ≤ 1048576 := by rw [haR.len, haL]; exact hN
  have hm1 : 1 + m ≤ 134217728 := by omega
  have hm2 : m ≤ 134217728 := by omega
  have hmone := one_lt5
  refine Does.enter Tryz.func73 rfl Tryz.ntmps73 rfl (fun w => ?_)
  by_cases h2 : i.op = 2
  · refine Wc.gl 2 [] ?_
    refine Wl.box 1 rfl rfl rfl (fun b1 => ?_)
    refine Wl.gl 9 [1] ?_
    refine Wl.q rfl (Qy.indexAddrO (α := SV) T.sl89 rfl rfl (by assumption) (by omega)) ?_
    refine Wl.q rfl (Qy.loadO 0 0 T.one94 rfl rfl (by assumption) (by omega) rfl rfl) ?_
    refine Wl.gl 15 [1, 1] ?_
    refine Wl.call 2 rfl T.fn45 rfl (num_of _ _ ⟨by decide, by decide⟩) (tags_of trivial) (fun v1 G1 Ho1 hle1 hp => ?_)
    obtain ⟨ri1, rfl, hri1, rfl⟩ := hp
    replace hg := hg.up hle1
    replace haR := haR.up hle1
    refine Wl.call 2 rfl T.fn104 rfl (row_scale _ _ _ _ _ (by assumption) (by assumption) m hm (by assumption) (by assumption) (by assumption)) (tags_of trivial) (fun v2 G2 Ho2 hle2 hp => ?_)
    obtain ⟨rs2, rfl, hrs2, rfl⟩ := hp
    replace hri1 := hri1.up hle2
    replace hg := hg.up hle2
    replace haR := haR.up hle2
    refine Wl.ga 6 [] ?_
    refine Ar.out2 (.inr rfl) (Ho := [(0, o.map (·.block), Row 94 r j)]) rfl (.tmp rfl) (.tmp rfl) ⟨rfl, trivial⟩ ?_
    exact do_someN (by unfold doI; exact if_pos h2) hrs2
  by_cases h34 : i.op = 3 ∨ i.op = 4
  · have hb := hb h34
    have hbR := hg.at hb
    obtain ⟨hbL, hbB⟩ := he.at (k := i.b) (by omega)
    have hll : (rs[i.a.toNat]?.getD []).length = (rs[i.b.toNat]?.getD []).length := by rw [haL, hbL]
    by_cases h3 : i.op = 3
    · refine Wc.gl 2 [] ?_
      refine Wl.box 1 rfl rfl rfl (fun b1 => ?_)
      refine Wl.gl 9 [1] ?_
      refine Wl.q rfl (Qy.indexAddrO (α := SV) T.sl89 rfl rfl (by assumption) (by omega)) ?_
      refine Wl.q rfl (Qy.loadO 0 0 T.one94 rfl rfl (by assumption) (by omega) rfl rfl) ?_
      refine Wl.gl 29 [1, 0, 1, 1, 1] ?_
      refine Wl.q rfl (Qy.indexAddrO (α := SV) T.sl89 rfl rfl (by assumption) (by omega)) ?_
      refine Wl.q rfl (Qy.loadO 0 0 T.one94 rfl rfl (by assumption) (by omega) rfl rfl) ?_
      refine Wl.call 2 rfl T.fn105 rfl (row_add _ _ _ _ _ (by assumption) hbR hll m hm1 (by assumption) hbB (by assumption)) (tags_of trivial) (fun v1 G1 Ho1 hle1 hp => ?_)
      obtain ⟨rs1, rfl, hrs1, rfl⟩ := hp
      replace hg := hg.up hle1
      replace haR := haR.up hle1
      replace hbR := hbR.up hle1
      refine Wl.ga 6 [] ?_
      refine Ar.out2 (.inr rfl) (Ho := [(0, o.map (·.block), Row 94 r j)]) rfl (.tmp rfl) (.tmp rfl) ⟨rfl, trivial⟩ ?_
      exact do_someN (by unfold doI; exact (if_neg h2).trans (if_pos h3)) hrs1
    · have h4 : i.op = 4 := by omega
      refine Wc.gl 2 [] ?_
      refine Wl.box 1 rfl rfl rfl (fun b1 => ?_)
      refine Wl.gl 9 [1] ?_
      refine Wl.q rfl (Qy.indexAddrO (α := SV) T.sl89 rfl rfl (by assumption) (by omega)) ?_
      refine Wl.q rfl (Qy.loadO 0 0 T.one94 rfl rfl (by assumption) (by omega) rfl rfl) ?_
      refine Wl.gl 40 [1, 0, 1, 0, 1, 1, 1] ?_
      refine Wl.q rfl (Qy.indexAddrO (α := SV) T.sl89 rfl rfl (by assumption) (by omega)) ?_
      refine Wl.q rfl (Qy.loadO 0 0 T.one94 rfl rfl (by assumption) (by omega) rfl rfl) ?_
      refine Wl.call 2 rfl T.fn106 rfl (row_sub _ _ _ _ _ (by assumption) hbR hll m hm1 (by assumption) hbB (by assumption)) (tags_of trivial) (fun v1 G1 Ho1 hle1 hp => ?_)
      obtain ⟨rs1, rfl, hrs1, rfl⟩ := hp
      replace hg := hg.up hle1
      replace haR := haR.up hle1
      replace hbR := hbR.up hle1
      refine Wl.ga 6 [] ?_
      refine Ar.out2 (.inr rfl) (Ho := [(0, o.map (·.block), Row 94 r j)]) rfl (.tmp rfl) (.tmp rfl) ⟨rfl, trivial⟩ ?_
      exact do_someN (by unfold doI; exact (if_neg h2).trans ((if_neg h3).trans (if_pos h4))) hrs1
  by_cases h1 : i.op = 1
  · refine Wc.gl 2 [] ?_
    refine Wl.box 1 rfl rfl rfl (fun b1 => ?_)
    refine Wl.gl 9 [1] ?_
    refine Wl.q rfl (Qy.indexAddrO (α := SV) T.sl89 rfl rfl (by assumption) (by omega)) ?_
    refine Wl.q rfl (Qy.loadO 0 0 T.one94 rfl rfl (by assumption) (by omega) rfl rfl) ?_
    refine Wl.gl 43 [1, 0, 1, 0, 1, 0, 1] ?_
    refine Wl.no 41 rfl (by first | assumption | omega) ?_
    refine Wl.gl 19 [1, 0, 1] ?_
    refine Wl.no 53 rfl (by first | assumption | omega) ?_
    refine Wl.ga 20 [1, 0] ?_
    refine Ar.out2 (.inr rfl) (Ho := [(0, o.map (·.block), Row 94 r j)]) rfl (.tmp rfl) (.tmp rfl) ⟨rfl, trivial⟩ ?_
    exact do_someN (by unfold doI; exact (if_neg h2).trans ((if_neg (fun e => h34 (.inl e))).trans ((if_neg (fun e => h34 (.inr e))).trans ((if_neg (by omega)).trans (if_neg (by omega)))))) haR
  obtain ⟨hy0, hyb⟩ := hz h1 h2 (by omega) (by omega)
  by_cases h5 : i.op = 5
  · refine Wc.gl 2 [] ?_
    refine Wl.box 1 rfl rfl rfl (fun b1 => ?_)
    refine Wl.gl 9 [1] ?_
    refine Wl.q rfl (Qy.indexAddrO (α := SV) T.sl89 rfl rfl (by assumption) (by omega)) ?_
    refine Wl.q rfl (Qy.loadO 0 0 T.one94 rfl rfl (by assumption) (by omega) rfl rfl) ?_
    refine Wl.gl 43 [1, 0, 1, 0, 1, 0, 1] ?_
    refine Wl.yes 41 rfl (by first | assumption | omega) ?_
    refine Wl.gl 11 [1, 1] ?_
    refine Wl.call 2 rfl T.fn107 rfl (c107 _ i hc1 hc2) (tags_of trivial) (fun v1 G1 Ho1 hle1 hp => ?_)
    obtain ⟨ri1, rfl, hri1, rfl⟩ := hp
    replace hg := hg.up hle1
    replace haR := haR.up hle1
    refine Wl.call 2 rfl T.fn104 rfl (row_scale _ _ _ _ _ (by assumption) (by assumption) m hm (by assumption) (by assumption) (by assumption)) (tags_of trivial) (fun v2 G2 Ho2 hle2 hp => ?_)
    obtain ⟨rs2, rfl, hrs2, rfl⟩ := hp
    replace hri1 := hri1.up hle2
    replace hg := hg.up hle2
    replace haR := haR.up hle2
    refine Wl.ga 6 [] ?_
    refine Ar.out2 (.inr rfl) (Ho := [(0, o.map (·.block), Row 94 r j)]) rfl (.tmp rfl) (.tmp rfl) ⟨rfl, trivial⟩ ?_
    exact do_someN (by unfold doI; exact (if_neg h2).trans ((if_neg (fun e => h34 (.inl e))).trans ((if_neg (fun e => h34 (.inr e))).trans (if_pos (.inl h5))))) hrs2
  by_cases h7 : i.op = 7
  · refine Wc.gl 2 [] ?_
    refine Wl.box 1 rfl rfl rfl (fun b1 => ?_)
    refine Wl.gl 9 [1] ?_
    refine Wl.q rfl (Qy.indexAddrO (α := SV) T.sl89 rfl rfl (by assumption) (by omega)) ?_
    refine Wl.q rfl (Qy.loadO 0 0 T.one94 rfl rfl (by assumption) (by omega) rfl rfl) ?_
    refine Wl.gl 43 [1, 0, 1, 0, 1, 0, 1] ?_
    refine Wl.no 41 rfl (by first | assumption | omega) ?_
    refine Wl.gl 14 [1, 1, 1] ?_
    refine Wl.call 2 rfl T.fn107 rfl (c107 _ i hc1 hc2) (tags_of trivial) (fun v1 G1 Ho1 hle1 hp => ?_)
    obtain ⟨ri1, rfl, hri1, rfl⟩ := hp
    replace hg := hg.up hle1
    replace haR := haR.up hle1
    refine Wl.call 2 rfl T.fn104 rfl (row_scale _ _ _ _ _ (by assumption) (by assumption) m hm (by assumption) (by assumption) (by assumption)) (tags_of trivial) (fun v2 G2 Ho2 hle2 hp => ?_)
    obtain ⟨rs2, rfl, hrs2, rfl⟩ := hp
    replace hri1 := hri1.up hle2
    replace hg := hg.up hle2
    replace haR := haR.up hle2
    refine Wl.ga 6 [] ?_
    refine Ar.out2 (.inr rfl) (Ho := [(0, o.map (·.block), Row 94 r j)]) rfl (.tmp rfl) (.tmp rfl) ⟨rfl, trivial⟩ ?_
    exact do_someN (by unfold doI; exact (if_neg h2).trans ((if_neg (fun e => h34 (.inl e))).trans ((if_neg (fun e => h34 (.inr e))).trans (if_pos (.inr h7))))) hrs2
  by_cases h6 : i.op = 6
  · refine Wc.gl 2 [] ?_
    refine Wl.box 1 rfl rfl rfl (fun b1 => ?_)
    refine Wl.gl 9 [1] ?_
    refine Wl.q rfl (Qy.indexAddrO (α := SV) T.sl89 rfl rfl (by assumption) (by omega)) ?_
    refine Wl.q rfl (Qy.loadO 0 0 T.one94 rfl rfl (by assumption) (by omega) rfl rfl) ?_
    refine Wl.gl 43 [1, 0, 1, 0, 1, 0, 1] ?_
    refine Wl.no 41 rfl (by first | assumption | omega) ?_
    refine Wl.gl 19 [1, 0, 1] ?_
    refine Wl.yes 53 rfl (by first | assumption | omega) ?_
    refine Wl.gl 11 [1, 1] ?_
    refine Wl.call 2 rfl T.fn107 rfl (c107 _ i hc1 hc2) (tags_of trivial) (fun v1 G1 Ho1 hle1 hp => ?_)
    obtain ⟨ri1, rfl, hri1, rfl⟩ := hp
    replace hg := hg.up hle1
    replace haR := haR.up hle1
    refine Wl.call 2 rfl T.fn108 rfl (row_over _ _ _ _ _ (by assumption) (by assumption) m hm2 (by assumption) (by assumption) hy0 (by assumption)) (tags_of trivial) (fun v2 G2 Ho2 hle2 hp => ?_)
    obtain ⟨rv2, rfl, hrv2, rfl⟩ := hp
    replace hri1 := hri1.up hle2
    replace hg := hg.up hle2
    replace haR := haR.up hle2
    refine Wl.ga 8 [] ?_
    refine Ar.out2 (.inr rfl) (Ho := [(0, o.map (·.block), Row 94 r j)]) rfl (.tmp rfl) (.tmp rfl) ⟨rfl, trivial⟩ ?_
    exact do_overN (by unfold doI; exact (if_neg h2).trans ((if_neg (fun e => h34 (.inl e))).trans ((if_neg (fun e => h34 (.inr e))).trans ((if_neg (by omega)).trans (if_pos (.inl h6)))))) hrv2
  · have h8 : i.op = 8 := by omega
    refine Wc.gl 2 [] ?_
    refine Wl.box 1 rfl rfl rfl (fun b1 => ?_)
    refine Wl.gl 9 [1] ?_
    refine Wl.q rfl (Qy.indexAddrO (α := SV) T.sl89 rfl rfl (by assumption) (by omega)) ?_
    refine Wl.q rfl (Qy.loadO 0 0 T.one94 rfl rfl (by assumption) (by omega) rfl rfl) ?_
    refine Wl.gl 43 [1, 0, 1, 0, 1, 0, 1] ?_
    refine Wl.no 41 rfl (by first | assumption | omega) ?_
    refine Wl.gl 19 [1, 0, 1] ?_
    refine Wl.no 53 rfl (by first | assumption | omega) ?_
    refine Wl.gl 14 [1, 1, 1] ?_
    refine Wl.call 2 rfl T.fn107 rfl (c107 _ i hc1 hc2) (tags_of trivial) (fun v1 G1 Ho1 hle1 hp => ?_)
    obtain ⟨ri1, rfl, hri1, rfl⟩ := hp
    replace hg := hg.up hle1
    replace haR := haR.up hle1
    refine Wl.call 2 rfl T.fn108 rfl (row_over _ _ _ _ _ (by assumption) (by assumption) m hm2 (by assumption) (by assumption) hy0 (by assumption)) (tags_of trivial) (fun v2 G2 Ho2 hle2 hp => ?_)
    obtain ⟨rv2, rfl, hrv2, rfl⟩ := hp
    replace hri1 := hri1.up hle2
    replace hg := hg.up hle2
    replace haR := haR.up hle2
    refine Wl.ga 8 [] ?_
    refine Ar.out2 (.inr rfl) (Ho := [(0, o.map (·.block), Row 94 r j)]) rfl (.tmp rfl) (.tmp rfl) ⟨rfl, trivial⟩ ?_
    exact do_overN (by unfold doI; exact (if_neg h2).trans ((if_neg (fun e => h34 (.inl e))).trans ((if_neg (fun e => h34 (.inr e))).trans ((if_neg (by omega)).trans (if_pos (.inr h8)))))) hrv2
end Go.Proofs.YtelbhbbiejalhaaGreat
set_option linter.unusedVariables false
namespace Go.Proofs.YtelbhbbiejalhaaGreat
open Go Go.Sl
theorem below_map {m k : Nat} {xs : List Int} {f : Int → Int} (h : ∀ x : Int, (x.natAbs : Int) < pw m → ((f x).natAbs : Int) < pw k) (hx : Go.Sl.Below m xs) : Go.Sl.Below k (xs.map f) := fun z hz => by
  obtain ⟨x, h1, rfl⟩ := List.mem_map.1 hz
  exact h x (hx x h1)
theorem below_zip {m k : Nat} {xs ys : List Int} {f : Int → Int → Int} (h : ∀ x y : Int, (x.natAbs : Int) < pw m → (y.natAbs : Int) < pw m → ((f x y).natAbs : Int) < pw k) (hx : Go.Sl.Below m xs) (hy : Go.Sl.Below m ys) : Go.Sl.Below k (List.zipWith f xs ys) := fun z hz => by
  rw [List.mem_iff_getElem] at hz
  obtain ⟨n, hn, rfl⟩ := hz
  rw [List.getElem_zipWith]
  exact h _ _ (hx _ (List.getElem_mem _)) (hy _ (List.getElem_mem _))
theorem pw_five (m : Nat) : 65536 * pw m ≤ pw (5 + m) := by
  rw [← pw_succ]; exact pw_le (by omega)
theorem doI_even {i : Sl.Instr} {rs : List (List Int)} {m N : Nat} {x : List Int} (he : Even m N rs) (ha : 0 ≤ i.a ∧ i.a < rs.length) (hb : i.op = 3 ∨ i.op = 4 → 0 ≤ i.b ∧ i.b < rs.length)
    (hz : i.op = 5 ∨ i.op = 7 → ((cst i).natAbs : Int) < pw 5) (h : doI i rs = some x) : x.length = N ∧ Go.Sl.Below (5 + m) x := by
  obtain ⟨haL, haB⟩ := he.at ha
  have h5 := pw_five m
  have hp := pw_pos m
  unfold doI at h
  simp only at h
  split at h
  · cases h
    exact ⟨by rw [List.length_map]; exact haL, below_map (fun x hx => by omega) haB⟩
  · split at h
    · rename_i h3
      obtain ⟨hbL, hbB⟩ := he.at (hb (.inl h3))
      cases h
      exact ⟨by rw [List.length_zipWith, haL, hbL, Nat.min_self], below_zip (fun x y hx hy => by omega) haB hbB⟩
    · split at h
      · rename_i h4
        obtain ⟨hbL, hbB⟩ := he.at (hb (.inr h4))
        cases h
        exact ⟨by rw [List.length_zipWith, haL, hbL, Nat.min_self], below_zip (fun x y hx hy => by omega) haB hbB⟩
      · split at h
        · rename_i h57
          cases h
          exact ⟨by rw [List.length_map]; exact haL, below_map (fun x hx => mul_lt_pw (hz h57) hx) haB⟩
        · split at h
          · split at h
            · cases h
              refine ⟨by rw [List.length_map]; exact haL, below_map (fun x hx => ?_) haB⟩
              have h1 : (x / cst i).natAbs ≤ x.natAbs := Int.natAbs_ediv_le_natAbs _ _
              omega
            · cases h
          · cases h
            exact ⟨haL, haB.mono (by omega)⟩
theorem even_regs0 {p : PV} {gs : List (List Int)} {m N : Nat} (hg : Even m N gs) (h0 : 0 < gs.length) : Even m N (regs0 p gs) := fun zs hz => by
  unfold regs0 at hz
  obtain ⟨k, hk, rfl⟩ := List.mem_map.1 hz
  have hN := (hg.at (k := 0) (by omega)).1
  split
  · exact hg.at (k := (k : Int)) (by omega)
  · refine ⟨by rw [List.length_replicate]; exact hN, fun z hz => ?_⟩
    rw [List.eq_of_mem_replicate hz]; exact pw_pos m
theorem even_set {m N : Nat} {rs : List (List Int)} {x : List Int} (h : Even m N rs) (hx : x.length = N ∧ Go.Sl.Below m x) (k : Nat) : Even m N (rs.set k x) := fun zs hz => by
  rcases List.mem_or_eq_of_mem_set hz with h1 | h1
  · exact h zs h1
  · rw [h1]; exact hx
theorem Even.mono {m k N : Nat} {rs : List (List Int)} (h : Even m N rs) (hk : m ≤ k) : Even k N rs := fun zs hz => ⟨(h zs hz).1, (h zs hz).2.mono hk⟩
end Go.Proofs.YtelbhbbiejalhaaGreat
set_option maxRecDepth 100000
set_option linter.unusedVariables false
namespace Go.Proofs.YtelbhbbiejalhaaGreat
open Go Go.Sl
set_option maxHeartbeats 4000000
theorem belowB_map {m k : Nat} {xs : List Int} {f : Int → Int} (h : ∀ x : Int, (x.natAbs : Int) < pb m → ((f x).natAbs : Int) < pb k) (hx : Below m xs) : Below k (xs.map f) := fun z hz => by
  obtain ⟨x, h1, rfl⟩ := List.mem_map.1 hz
  exact h x (hx x h1)
theorem belowB_zip {m k : Nat} {xs ys : List Int} {f : Int → Int → Int} (h : ∀ x y : Int, (x.natAbs : Int) < pb m → (y.natAbs : Int) < pb m → ((f x y).natAbs : Int) < pb k) (hx : Below m xs) (hy : Below m ys) : Below k (List.zipWith f xs ys) := fun z hz => by
  rw [List.mem_iff_getElem] at hz
  obtain ⟨n, hn, rfl⟩ := hz
  rw [List.getElem_zipWith]
  exact h _ _ (hx _ (List.getElem_mem _)) (hy _ (List.getElem_mem _))
theorem doI_small {i : Sl.Instr} {rs : List (List Int)} {m N : Nat} {x : List Int} (he : EvenB m N rs) (ha : 0 ≤ i.a ∧ i.a < rs.length) (hb : i.op = 3 ∨ i.op = 4 → 0 ≤ i.b ∧ i.b < rs.length)
    (hz : i.op = 5 ∨ i.op = 7 → ((cst i).natAbs : Int) < pb 3) (h : doI i rs = some x) : x.length = N ∧ Below (m + 3) x := by
  obtain ⟨haL, haB⟩ := he.at (k := i.a.toNat) (by omega)
  have hp := pb_pos m
  have h4 : 4294967296 * pb m ≤ pb (m + 3) := by rw [← pb_succ]; exact pb_le (by omega)
  unfold doI at h
  simp only at h
  split at h
  · cases h
    exact ⟨by rw [List.length_map]; exact haL, belowB_map (fun x hx => by omega) haB⟩
  · split at h
    · rename_i h3
      obtain ⟨hbL, hbB⟩ := he.at (k := i.b.toNat) (by have := hb (.inl h3); omega)
      cases h
      exact ⟨by rw [List.length_zipWith, haL, hbL, Nat.min_self], belowB_zip (fun x y hx hy => by omega) haB hbB⟩
    · split at h
      · rename_i h4
        obtain ⟨hbL, hbB⟩ := he.at (k := i.b.toNat) (by have := hb (.inr h4); omega)
        cases h
        exact ⟨by rw [List.length_zipWith, haL, hbL, Nat.min_self], belowB_zip (fun x y hx hy => by omega) haB hbB⟩
      · split at h
        · rename_i h57
          cases h
          exact ⟨by rw [List.length_map]; exact haL, belowB_map (fun x hx => by rw [Nat.add_comm]; exact mul_lt_pb (hz h57) hx) haB⟩
        · split at h
          · split at h
            · cases h
              refine ⟨by rw [List.length_map]; exact haL, belowB_map (fun x hx => ?_) haB⟩
              have h1 : (x / cst i).natAbs ≤ x.natAbs := Int.natAbs_ediv_le_natAbs _ _
              omega
            · cases h
          · cases h
            exact ⟨haL, haB.mono (by omega)⟩
theorem EvenB.mono {m k N : Nat} {rs : List (List Int)} (h : EvenB m N rs) (hk : m ≤ k) : EvenB k N rs := fun zs hz => ⟨(h zs hz).1, (h zs hz).2.mono hk⟩
theorem evenB_set {m N : Nat} {rs : List (List Int)} {x : List Int} (h : EvenB m N rs) (hx : x.length = N ∧ Below m x) (k : Nat) : EvenB m N (rs.set k x) := fun zs hz => by
  rcases List.mem_or_eq_of_mem_set hz with h1 | h1
  · exact h zs h1
  · rw [h1]; exact hx
theorem BGrid.set {G : Imm} {r : List SV} {rs : List (List Int)} (h : BGrid G r rs) {s : SV} {x : List Int} (hs : BRow G s x) (k : Nat) : BGrid G (r.set k s) (rs.set k x) := by
  refine ⟨by rw [List.length_set, List.length_set]; exact h.1, fun i hi => ?_⟩
  rw [List.length_set] at hi
  have hrl := h.1
  rw [List.getElem?_set, List.getElem?_set]
  by_cases e : k = i
  · subst e
    rw [if_pos rfl, if_pos rfl, if_pos hi, if_pos (by omega)]
    exact hs
  · rw [if_neg e, if_neg e]
    exact h.2 i hi
attribute [local irreducible] valB pb cmpZ lstWp p2 cst doI
theorem c69 (G : Imm) (k : Int) (s : SV) : Does Tryz.prog 69 [.int .i64 k, .slice s.a s.n s.c] G [] (fun v G' Ho => v = .bool true ∧ G' = G ∧ Ho = []) := by
  refine Does.enter Tryz.func69 rfl Tryz.ntmps69 rfl (fun w => ?_)
  refine Wc.ga 11 [] ?_
  refine Ar.out1 (.inr rfl) (Ho := Hp.only _ []) rfl (.tmp rfl) (Hp.sub_only _ _) ?_
  exact ⟨rfl, rfl, rfl⟩
/-- the run of a program on rows: its registers behind it, or that it fails -/
def RunRPost (p : PV) (gs : List (List Int)) (m N : Nat) (o : Option Addr) (d : Nat) (r : List SV) (j : List Value) (v : Value) (G' : Imm) (Ho : Hp) : Prop :=
  ∃ (r' : List SV) (k : Int), v = .int .i64 k ∧ Ho = [(0, o.map (·.block), Row 42 r' j)] ∧ r'.length = r.length ∧ OwnA o d r' j ∧
    ((∃ rs', runTo p gs p.code.length = some rs' ∧ k = -1 ∧ BGrid G' r' rs' ∧ EvenB (m + 3 * p.code.length) N rs') ∨ (followP p gs = none ∧ 0 ≤ k))
theorem c67 (G : Imm) (p : PV) (gs : List (List Int)) (ac ao : Option Addr) (cc co : Nat) (o : Option Addr) (d : Nat) (r : List SV) (j : List Value) (m N : Nat) (hc : Arr G ac p.code) (hob : OwnA o d r j) (hg : BGrid G r (regs0 p gs)) (hm : EvenB m N (regs0 p gs)) (hN : N ≤ 1048576)
    (hmm : m + 3 * p.code.length ≤ 268435456) (hlen : p.code.length ≤ 16384) (hr : (r.length : Int) = p.regs) (hrr : r.length ≤ 128) (hmay : ∀ i ∈ p.code, mayOk i p.regs = true) :
    Does Tryz.prog 67 [waysR, .agg #[.int .i64 p.ins, .int .i64 p.regs, .slice ac p.code.length cc, .slice ao p.outs.length co], .slice o r.length d, .func (.func 69) #[] #[]] G [(0, o.map (·.block), Row 42 r j)] (RunRPost p gs m N o d r j) := by
  refine Does.enter Tryz.func67 rfl Tryz.ntmps67 rfl (fun w => ?_)
  refine Wc.gl 2 [] ?_
  refine Wl.box 1 rfl rfl rfl (fun b1 => ?_)
  refine Wl.box 2 rfl rfl rfl (fun b2 => ?_)
  refine Wl.gc 3 [] ?_
  refine Wc.scope ?_
  refine Wc.gc 13 [2] ?_
  refine Wc.loopG (ι := Nat × Imm × List SV × List (List Int)) (fun (i, Gx, r2, rs) => ([(16, .int .i64 (i : Int)), (2, .slice o r2.length d), (15, Go.Value.int Go.IntKind.i64 (↑(List.length (Go.Proofs.YtelbhbbiejalhaaGreat.PV.code p)) : Int)), (14, Go.Value.slice ac (List.length (Go.Proofs.YtelbhbbiejalhaaGreat.PV.code p)) cc), (4, Go.Value.pointer (Option.some (Go.Addr.mk b1 0 Option.none))), (3, Go.Value.func (Go.Fn.func 69) #[] #[])], [(0, o.map (·.block), Row 42 r2 j), (2, Option.some b2, Go.Obj.cells #[Go.Value.int Go.IntKind.i64 (Go.Proofs.YtelbhbbiejalhaaGreat.PV.ins p), Go.Value.int Go.IntKind.i64 (Go.Proofs.YtelbhbbiejalhaaGreat.PV.regs p), Go.Value.slice ac (List.length (Go.Proofs.YtelbhbbiejalhaaGreat.PV.code p)) cc, Go.Value.slice ao (List.length (Go.Proofs.YtelbhbbiejalhaaGreat.PV.outs p)) co] 29), (1, Option.some b1, Go.Obj.cells #[Go.Value.func (Go.Fn.func 96) #[] #[], Go.Value.func (Go.Fn.func 97) #[] #[], Go.Value.func (Go.Fn.func 99) #[] #[], Go.Value.func (Go.Fn.func 101) #[] #[], Go.Value.func (Go.Fn.func 102) #[] #[]] 124)])) (fun (i, Gx, r2, rs) => Gx) (fun (i, Gx, r2, rs) => i ≤ p.code.length ∧ G.le Gx ∧ r2.length = r.length ∧ OwnA o d r2 j ∧ BGrid Gx r2 rs ∧ EvenB (m + 3 * i) N rs ∧ runTo p gs i = some rs) (fun (i, Gx, r2, rs) => p.code.length - i) ((0, G, r, regs0 p gs)) (⟨Nat.zero_le _, Imm.le_refl _, rfl, hob, hg, hm, rfl⟩) rfl ⟨rfl, rfl, rfl, rfl, rfl, rfl, trivial⟩ ⟨rfl, rfl, rfl, trivial⟩ (fun ⟨i, Gx, r2, rs⟩ => fun (hk : i ≤ p.code.length ∧ G.le Gx ∧ r2.length = r.length ∧ OwnA o d r2 j ∧ BGrid Gx r2 rs ∧ EvenB (m + 3 * i) N rs ∧ runTo p gs i = some rs) => ?_)
  obtain ⟨hi0, hgx, hr2, ho2, hg2, hb2, hrun⟩ := hk
  replace hc := hc.up hgx
  have hrl := hg2.1
  rcases Nat.lt_or_ge i p.code.length with hic | hic
  · have hmem : (p.code[((i : Nat) : Int).toNat]?.getD default) ∈ p.code := by
      rw [Int.toNat_natCast, List.getElem?_eq_getElem hic]; exact List.getElem_mem hic
    have hmi := hmay _ hmem
    obtain ⟨m1, m2, m3, m4, m5, m6, m7, m8⟩ := may_facts hmi
    have m9 : (p.code[((i : Nat) : Int).toNat]?.getD default).a < rs.length := by omega
    have hbz : (p.code[((i : Nat) : Int).toNat]?.getD default).op = 3 ∨ (p.code[((i : Nat) : Int).toNat]?.getD default).op = 4 ∨ (p.code[((i : Nat) : Int).toNat]?.getD default).b = 0 := by
      unfold mayOk at hmi
      rw [Bool.and_eq_true, Bool.and_eq_true, decide_eq_true_eq] at hmi
      exact hmi.1.1.2.2.2.2
    have mb : 0 ≤ (p.code[((i : Nat) : Int).toNat]?.getD default).b ∧ (p.code[((i : Nat) : Int).toNat]?.getD default).b < r2.length := by
      rcases hbz with h | h | h
      · have := m4 (.inl h); omega
      · have := m4 (.inr h); omega
      · omega
    have mt : 0 ≤ (p.code[((i : Nat) : Int).toNat]?.getD default).to ∧ (p.code[((i : Nat) : Int).toNat]?.getD default).to < r2.length := by omega
    have ma : 0 ≤ (p.code[((i : Nat) : Int).toNat]?.getD default).a ∧ (p.code[((i : Nat) : Int).toNat]?.getD default).a < r2.length := by omega
    have hmi9 : m + 3 * i ≤ 268435456 := by omega
    have hk3 : (p.code[((i : Nat) : Int).toNat]?.getD default).op ≠ 1 → (p.code[((i : Nat) : Int).toNat]?.getD default).op ≠ 2 → (p.code[((i : Nat) : Int).toNat]?.getD default).op ≠ 3 → (p.code[((i : Nat) : Int).toNat]?.getD default).op ≠ 4 → cst (p.code[((i : Nat) : Int).toNat]?.getD default) ≠ 0 ∧ ((cst (p.code[((i : Nat) : Int).toNat]?.getD default)).natAbs : Int) < pb 3 := fun a b c d => ⟨(m6 a b c d).1, Int.lt_of_lt_of_le (m6 a b c d).2 pw5_pb3⟩
    refine Wc.gl 14 [1] ?_
    refine Wl.q rfl (Qy.at (α := Sl.Instr) T.sl26 rfl rfl (by assumption) (by omega)) ?_
    refine Wl.q rfl (Qy.loadsG T.agg50 rfl (Arr.elem (by assumption) (by omega)) rfl) ?_
    refine Wl.alloc 3 rfl T.zero50 (fun b3 => ?_)
    refine Wl.gl 9 [3, 1, 3] ?_
    refine Wl.call 0 rfl T.fn95 rfl (c95 _ (p.code[((i : Nat) : Int).toNat]?.getD default) o d r2 j rs (m + 3 * i) N ho2 hg2 hb2 hN hmi9 m1 ma mb hk3 m7 m8) (tags_of ⟨rfl, trivial⟩) (fun v1 G1 Ho1 hle1 hp => ?_)
    obtain ⟨x, rfl, hx, rfl⟩ := hp
    replace hc := hc.up hle1
    replace hg2 := hg2.up hle1
    by_cases hd : doI (p.code[((i : Nat) : Int).toNat]?.getD default) rs = none
    · have hd2 : ¬ doI (p.code[((i : Nat) : Int).toNat]?.getD default) rs ≠ none := fun h => h hd
      refine Wl.gl 11 [] ?_
      refine Wl.q rfl (Qy.notD rfl) ?_
      refine Wl.ga 16 [1] ?_
      refine Ar.scopeR ?_
      refine Ar.out1 (.inr rfl) (Ho := Hp.only _ [0]) rfl (.tmp rfl) (Hp.sub_only _ _) ?_
      exact ⟨r2, (i : Int), rfl, rfl, hr2, ho2, .inr ⟨runTo_stop hrun hd hic, by omega⟩⟩
    · obtain ⟨z, hz⟩ := Option.ne_none_iff_exists'.1 hd
      have hxz := hx z hz
      have hok : doI (p.code[((i : Nat) : Int).toNat]?.getD default) rs ≠ none := hd
      refine Wl.gl 11 [] ?_
      refine Wl.q rfl (Qy.notD rfl) ?_
      refine Wl.gc 2 [] ?_
      refine Wc.cond rfl (fun hc1 => ?_) (fun hc1 => ?_)
      refine Wc.ga 13 [] ?_
      refine Ar.scopeR ?_
      refine Ar.out1 (.inr rfl) (Ho := Hp.only _ [0]) rfl (.tmp rfl) (Hp.sub_only _ _) ?_
      rotate_left
      refine Wc.gl 8 [3] ?_
      refine Wl.q rfl (Qy.indexAddrO (α := SV) T.sl78 rfl rfl (by assumption) (by omega)) ?_
      refine Wl.setO (z := _) 0 T.size42 rfl rfl rfl (by assumption) (by omega) rfl (fun ho1 => ?_)
      refine Wl.gl 7 [] ?_
      refine Wl.callV (fst := []) (cap := []) 4 rfl T.fn69 rfl rfl (c69 _ _ _) (tags_of trivial) (fun v2 G2 Ho2 hle2 hp => ?_)
      obtain ⟨rfl, rfl, rfl⟩ := hp
      refine Wl.ga 11 [0] ?_
      rotate_left
      · exact absurd hok hc1
      refine Ar.re 2 rfl (show _ = Value.slice o (r2.set (p.code[((i : Nat) : Int).toNat]?.getD default).to.toNat x).length d by rw [List.length_set]) ?_
      refine Ar.again ((i + 1, _, r2.set (p.code[((i : Nat) : Int).toNat]?.getD default).to.toNat x, rs.set (p.code[((i : Nat) : Int).toNat]?.getD default).to.toNat z)) ?_ ?_ rfl ⟨rfl, rfl, rfl, rfl, rfl, rfl, trivial⟩ ⟨rfl, rfl, rfl, trivial⟩
      · refine ⟨by omega, Imm.le_trans hgx hle1, by rw [List.length_set]; exact hr2, by assumption, hg2.set hxz _, ?_, runTo_succ (x := rs) hrun hz⟩
        have hs := doI_small (i := p.code[((i : Nat) : Int).toNat]?.getD default) hb2 (by rw [← hrl]; exact ma) (fun _ => by rw [← hrl]; exact mb) (fun h => (hk3 (fun e => by rw [e] at h; omega) (fun e => by rw [e] at h; omega) (fun e => by rw [e] at h; omega) (fun e => by rw [e] at h; omega)).2) hz
        rw [show m + 3 * (i + 1) = m + 3 * i + 3 by omega]
        exact evenB_set (hb2.mono (by omega)) hs _
      · show p.code.length - (i + 1) < p.code.length - i
        omega
  · have hii : i = p.code.length := by omega
    subst hii
    refine Wc.ga 18 [0] ?_
    refine Ar.scopeR ?_
    refine Ar.out1 (.inr rfl) (Ho := Hp.only _ [0]) rfl (.tmp rfl) (Hp.sub_only _ _) ?_
    exact ⟨r2, -1, rfl, rfl, hr2, ho2, .inl ⟨rs, hrun, rfl, hg2, hb2⟩⟩
end Go.Proofs.YtelbhbbiejalhaaGreat
set_option maxRecDepth 100000
set_option linter.unusedVariables false
namespace Go.Proofs.YtelbhbbiejalhaaGreat
open Go Go.Sl
set_option maxHeartbeats 4000000
theorem c38R (G : Imm) (p : PV) (ac ao : Option Addr) (cc co : Nat) (hc : Arr G ac p.code) (ho : Arr G ao p.outs) (h1 : p.code.length ≤ 1099511627776) (h2 : p.outs.length ≤ 1099511627776) (hR : rightP p = true) :
    Does Tryz.prog 38 [.agg #[.int .i64 p.ins, .int .i64 p.regs, .slice ac p.code.length cc, .slice ao p.outs.length co]] G [] (fun v G' Ho => v = .tuple #[.int .i64 (checkP p).1, .int .i64 0] ∧ G' = G ∧ Ho = []) := by
  have hf : (checkP p).2 = false := by unfold rightP at hR; simpa using hR
  have h := c38 G p ac ao cc co hc ho h1 h2
  rw [hf] at h
  exact h
theorem cmpZ_zero {x y : Int} (h : cmpZ x y = 0) : x = y := by
  unfold cmpZ at h
  split at h
  · omega
  · split at h <;> omega
theorem take_next {za zb : List Int} {i : Nat} (h : za.take i = zb.take i) (h1 : i < za.length) (h2 : i < zb.length) (he : za[i]?.getD 0 = zb[i]?.getD 0) : za.take (i + 1) = zb.take (i + 1) := by
  rw [List.getElem?_eq_getElem h1, List.getElem?_eq_getElem h2] at he
  rw [List.take_add_one, List.take_add_one, h, List.getElem?_eq_getElem h1, List.getElem?_eq_getElem h2]
  have e : za[i] = zb[i] := he
  rw [e]
theorem below_zeros (m n : Nat) : Below m (List.replicate n 0) := fun z hz => by rw [List.eq_of_mem_replicate hz]; exact pb_pos m
attribute [local irreducible] valB pb cmpZ lstWp p2 cst checkP
theorem c32 (G : Imm) (p : PV) (ac ao : Option Addr) (cc co : Nat) (hc : Arr G ac p.code) (ho : Arr G ao p.outs) (h1 : p.code.length ≤ 1099511627776) (h2 : p.outs.length ≤ 1099511627776) (hR : rightP p = true) (n : Int) (hn : n = p.ins) :
    Does Tryz.prog 32 [.agg #[.int .i64 p.ins, .int .i64 p.regs, .slice ac p.code.length cc, .slice ao p.outs.length co], .int .i64 n] G [] (fun v G' Ho => v = .int .i64 0 ∧ G' = G ∧ Ho = []) := by
  refine Does.enter Tryz.func32 rfl Tryz.ntmps32 rfl (fun w => ?_)
  refine Wc.gl 2 [] ?_
  refine Wl.box 0 rfl rfl rfl (fun b1 => ?_)
  refine Wl.gl 6 [0] ?_
  refine Wl.call0 rfl T.fn38 rfl (c38R _ p _ _ _ _ hc ho h1 h2 hR) ?_
  refine Wl.ga 36 [0, 0, 0] ?_
  refine Ar.out1 (.inr rfl) (Ho := Hp.only _ []) rfl (.tmp rfl) (Hp.sub_only _ _) ?_
  exact ⟨rfl, rfl, rfl⟩
theorem c36 (G : Imm) (a b : Option Addr) (ca cb : Nat) (la lb : List IV) (za zb : List Int) (ha : Arr G a la) (hb : Arr G b lb) (hA : Bigs G la za) (hB : Bigs G lb zb) (h1 : la.length ≤ 1048576) (h2 : lb.length ≤ 1048576) (m : Nat) (hm : m ≤ 268435456) (ba : Below m za) (bb : Below m zb) :
    Does Tryz.prog 36 [.slice a la.length ca, .slice b lb.length cb] G [] (fun v G' Ho => ∃ k : Int, v = .int .i64 k ∧ (k = 0 ↔ za = zb) ∧ G' = G ∧ Ho = []) := by
  have e1 := hA.1
  have e2 := hB.1
  refine Does.enter Tryz.func36 rfl Tryz.ntmps36 rfl (fun w => ?_)
  by_cases hn : la.length = lb.length
  · refine Wc.gc 41 [0, 0] ?_
    refine Wc.loop (ι := Nat) (fun i => ([(22, .int .i64 (i : Int)), (21, Go.Value.int Go.IntKind.i64 (↑(List.length la) : Int)), (20, Go.Value.slice a (List.length la) ca), (1, Go.Value.slice b (List.length lb) cb)], [])) (fun i => i ≤ la.length ∧ za.take i = zb.take i) (fun i => la.length - i) (0) (⟨Nat.zero_le _, rfl⟩) ⟨rfl, rfl, rfl, rfl, trivial⟩ trivial (fun i => fun (hk : i ≤ la.length ∧ za.take i = zb.take i) => ?_)
    obtain ⟨hi, hz⟩ := hk
    rcases Nat.lt_or_ge i la.length with hia | hia
    · have hx9 := hA.at (k := (i : Int)) (by omega)
      have hy9 := hB.at (k := (i : Int)) (by omega)
      have hx5 := Nat.le_trans (Big.len hx9 (ba.at _)) (Nat.le_trans hm (show 268435456 ≤ 1073741824 by decide))
      have hy5 := Nat.le_trans (Big.len hy9 (bb.at _)) (Nat.le_trans hm (show 268435456 ≤ 1073741824 by decide))
      refine Wc.gl 14 [1] ?_
      refine Wl.q rfl (Qy.at (α := IV) T.sl42 rfl rfl (by assumption) (by omega)) ?_
      refine Wl.q rfl (Qy.loadsG T.agg37 rfl (Arr.elem (by assumption) (by omega)) rfl) ?_
      refine Wl.alloc 0 rfl T.zero37 (fun b1 => ?_)
      refine Wl.gc 5 [0] ?_
      refine Wc.draw [0] [] T.mixed rfl ?_
      refine Gm.q 0 [0] (by kernel_rfl) rfl rfl (Qy.loadAll 0 T.agg37 rfl rfl rfl) ?_
      refine Gm.q 1 [] (by kernel_rfl) rfl rfl (Qy.move rfl) ?_
      refine Gm.q 2 [] (by kernel_rfl) rfl rfl (Qy.move rfl) ?_
      refine Gm.q 3 [] (by kernel_rfl) rfl rfl (Qy.at (α := IV) T.sl42 rfl rfl (by assumption) (by omega)) ?_
      refine Gm.q 4 [] (by kernel_rfl) rfl rfl (Qy.loadsG T.agg37 rfl (Arr.elem (by assumption) (by omega)) rfl) ?_
      refine Gm.one 5 ⟨rfl, trivial⟩ (by first | exact Imm.le_refl _ | assumption | (refine Imm.le_trans ?_ (by assumption); first | assumption | (refine Imm.le_trans ?_ (by assumption); assumption))) (by kernel_rfl) rfl ?_
      refine Wl.call0 rfl T.fn63 rfl (c63 _ _ _ _ _ hx9 hy9 hx5 hy5) ?_
      refine Wl.on0 ?_
      refine Gm.q 6 [] (by kernel_rfl) rfl rfl (Qy.assign rfl) ?_
      refine Gm.doneA (by kernel_rfl) ⟨rfl, trivial⟩ (by first | exact Imm.le_refl _ | assumption | (refine Imm.le_trans ?_ (by assumption); first | assumption | (refine Imm.le_trans ?_ (by assumption); assumption))) ?_
      refine Ar.gc 7 [] ?_
      refine Wc.cond rfl (fun hc1 => ?_) (fun hc1 => ?_)
      refine Wc.ga 12 [] ?_
      refine Ar.out1 (.inr rfl) (Ho := Hp.only _ []) rfl (.tmp rfl) (Hp.sub_only _ _) ?_
      rotate_left
      refine Wc.ga 7 [] ?_
      rotate_left
      · exact ⟨_, rfl, ⟨fun h => absurd h hc1, fun h => absurd (cmpZ_eq (by rw [h])) hc1⟩, rfl, rfl⟩
      · refine Ar.again (i + 1) ?_ ?_ rfl ⟨rfl, rfl, rfl, rfl, trivial⟩ trivial
        · exact ⟨by omega, take_next hz (by omega) (by omega) (cmpZ_zero (Decidable.not_not.1 hc1))⟩
        · omega
    · have hii : i = la.length := by omega
      subst hii
      refine Wc.ga 18 [0] ?_
      refine Ar.out1 (.inr rfl) (Ho := Hp.only _ []) rfl (.tmp rfl) (Hp.sub_only _ _) ?_
      refine ⟨0, rfl, ⟨fun _ => ?_, fun _ => rfl⟩, rfl, rfl⟩
      rw [List.take_of_length_le (by omega), List.take_of_length_le (by omega)] at hz
      exact hz
  · have hne : za ≠ zb := fun h => hn (by rw [e1, e2, h])
    by_cases hlt : la.length < lb.length
    · refine Wc.ga 26 [1] ?_
      refine Ar.out1 (.inr rfl) (Ho := Hp.only _ []) rfl (.tmp rfl) (Hp.sub_only _ _) ?_
      exact ⟨-1, rfl, ⟨fun h => absurd h (by decide), fun h => absurd h hne⟩, rfl, rfl⟩
    · refine Wc.ga 37 [0, 1] ?_
      refine Ar.out1 (.inr rfl) (Ho := Hp.only _ []) rfl (.tmp rfl) (Hp.sub_only _ _) ?_
      exact ⟨1, rfl, ⟨fun h => absurd h (by decide), fun h => absurd h hne⟩, rfl, rfl⟩
theorem c15 (G : Imm) (a b : Option Addr) (ca cb : Nat) (la lb : List IV) (za zb : List Int) (ha : Arr G a la) (hb : Arr G b lb) (hA : Bigs G la za) (hB : Bigs G lb zb) (h1 : la.length ≤ 1048576) (h2 : lb.length ≤ 1048576) (m : Nat) (hm : m ≤ 268435456) (ba : Below m za) (bb : Below m zb) :
    Does Tryz.prog 15 [.slice a la.length ca, .slice b lb.length cb] G [] (fun v G' Ho => v = .bool (decide (za = zb)) ∧ G' = G ∧ Ho = []) := by
  refine Does.enter Tryz.func15 rfl Tryz.ntmps15 rfl (fun w => ?_)
  refine Wc.gl 9 [] ?_
  refine Wl.call 0 rfl T.fn36 rfl (c36 G _ _ _ _ _ _ za zb ha hb hA hB h1 h2 m hm ba bb) (tags_of trivial) (fun v1 G1 Ho1 hle1 hp => ?_)
  obtain ⟨k1, rfl, hk1, rfl, rfl⟩ := hp
  refine Wl.ga 5 [] ?_
  refine Ar.out1 (.inr rfl) (Ho := Hp.only _ []) rfl (.tmp rfl) (Hp.sub_only _ _) ?_
  exact ⟨by rw [decide_eq_decide.2 hk1], rfl, rfl⟩
end Go.Proofs.YtelbhbbiejalhaaGreat
set_option maxRecDepth 100000
set_option linter.unusedVariables false
namespace Go.Proofs.YtelbhbbiejalhaaGreat
open Go Go.Sl
set_option maxHeartbeats 4000000
theorem brow_next {G : Imm} {r : List SV} {rs : List (List Int)} {k : Nat} {s : SV} (h : ∀ q : Nat, q < k → BRow G (r[q]?.getD default) (rs[q]?.getD [])) (hk : k < r.length) (hs : BRow G s (rs[k]?.getD [])) : ∀ q : Nat, q < k + 1 → BRow G ((r.set k s)[q]?.getD default) (rs[q]?.getD []) := fun q hq => by
  rw [List.getElem?_set]
  by_cases he : k = q
  · subst he; rw [if_pos rfl, if_pos hk]; exact hs
  · rw [if_neg he]; exact h q (by omega)
theorem brows_up {G G' : Imm} {r : List SV} {rs : List (List Int)} {k : Nat} (h : ∀ q : Nat, q < k → BRow G (r[q]?.getD default) (rs[q]?.getD [])) (hl : G.le G') : ∀ q : Nat, q < k → BRow G' (r[q]?.getD default) (rs[q]?.getD []) := fun q hq => (h q hq).up hl
attribute [local irreducible] valB pb cmpZ lstWp p2 cst doI
theorem c66 (G : Imm) (p : PV) (ac ao ga : Option Addr) (cc co gc : Nat) (gl : List SV) (gs : List (List Int)) (m N : Nat) (hc : Arr G ac p.code) (ho : Arr G ao p.outs) (hga : Arr G ga gl) (hgg : BGrid G gl gs) (hev : EvenB m N gs) (hN : N ≤ 4096) (hR : rightP p = true) (hgi : (gl.length : Int) = p.ins) :
    Does Tryz.prog 66 [.agg #[.int .i64 p.ins, .int .i64 p.regs, .slice ac p.code.length cc, .slice ao p.outs.length co], .slice ga gl.length gc] G [] (fun v G' Ho => ∃ b r, v = .tuple #[.slice (some ⟨b, 0, none⟩) r.length p.regs.toNat, .int .i64 0] ∧ BGrid G' r (regs0 p gs) ∧ r.length = p.regs.toNat ∧ Ho = [(1, some b, Row 42 r [])]) := by
  obtain ⟨f1, f2, f3, f4, f5, f6, f7, f8⟩ := right_facts hR
  have h1 : p.code.length ≤ 1099511627776 := by omega
  have h2 : p.outs.length ≤ 1099511627776 := by omega
  have hgl := hgg.1
  obtain ⟨R, hRR⟩ : ∃ R : Nat, p.regs = (R : Int) := ⟨p.regs.toNat, by omega⟩
  refine Does.enter Tryz.func66 rfl Tryz.ntmps66 rfl (fun w => ?_)
  have hM : p.regs.toNat = R := by omega
  have hrl0 := regs0_len p gs
  rw [hM] at hrl0
  have hgl0 : 0 < gl.length := by omega
  obtain ⟨h0L, h0B⟩ := hev.at (k := 0) (by omega)
  obtain ⟨l0, e1, e2, e3, e4⟩ := hgg.2 0 (by omega)
  have h0n : (gl[(0 : Int).toNat]?.getD default).n = N := by
    show (gl[0]?.getD default).n = N
    rw [← e1, e4.1, h0L]
  refine Wc.gl 2 [] ?_
  refine Wl.box 0 rfl rfl rfl (fun b1 => ?_)
  refine Wl.gl 10 [0] ?_
  refine Wl.call0 rfl T.fn32 rfl (c32 _ p _ _ _ _ (by assumption) (by assumption) h1 h2 hR _ hgi) ?_
  refine Wl.gl 15 [0] ?_
  refine Wl.q rfl (Qy.at (α := SV) T.sl78 rfl rfl (by assumption) (by omega)) ?_
  refine Wl.q rfl (Qy.loadG T.one42 rfl (Arr.cell (by assumption) (by omega) 0 rfl rfl)) ?_
  refine Wl.gl 8 [0] ?_
  refine Wl.make (α := SV) 1 rfl T.sl78 T.el42 rfl rfl (by omega) (by omega) (fun b2 => ?_)
  refine Wl.gc 12 [] ?_
  rw [hM]
  have hown : ∀ r : List SV, r.length = R → OwnA (some ⟨b2, 0, none⟩) R r [] := fun r hr => .inr ⟨b2, rfl, by rw [hr]; rfl, by omega, by simp only [maxLen]; omega⟩
  refine Wc.re 8 rfl (show _ = Value.slice (some ⟨b2, 0, none⟩) (List.replicate R (default : SV)).length R by rw [List.length_replicate]) ?_
  refine Wc.re 7 rfl (show _ = Value.int .i64 (N : Int) by rw [h0n]) ?_
  refine Wc.re 25 rfl (show _ = Value.int .i64 (R : Int) by rw [List.length_replicate]) ?_
  refine Wc.loopG (ι := Nat × Imm × List SV) (fun (k, Gx, r) => ([(26, .int .i64 (k : Int)), (8, .slice (some ⟨b2, 0, none⟩) r.length R), (25, Go.Value.int Go.IntKind.i64 (↑R : Int)), (7, Go.Value.int Go.IntKind.i64 (↑N : Int)), (1, Go.Value.slice ga (List.length gl) gc)], [(1, some b2, Row 42 r []), (0, Option.some b1, Go.Obj.cells #[Go.Value.int Go.IntKind.i64 (Go.Proofs.YtelbhbbiejalhaaGreat.PV.ins p), Go.Value.int Go.IntKind.i64 (Go.Proofs.YtelbhbbiejalhaaGreat.PV.regs p), Go.Value.slice ac (List.length (Go.Proofs.YtelbhbbiejalhaaGreat.PV.code p)) cc, Go.Value.slice ao (List.length (Go.Proofs.YtelbhbbiejalhaaGreat.PV.outs p)) co] 29)])) (fun (k, Gx, r) => Gx) (fun (k, Gx, r) => k ≤ R ∧ G.le Gx ∧ r.length = R ∧ ∀ q : Nat, q < k → BRow Gx (r[q]?.getD default) ((regs0 p gs)[q]?.getD [])) (fun (k, Gx, r) => R - k) ((0, G, List.replicate R (default : SV))) (⟨Nat.zero_le _, Imm.le_refl _, List.length_replicate, fun q hq => by omega⟩) rfl ⟨rfl, rfl, rfl, rfl, rfl, trivial⟩ ⟨rfl, rfl, trivial⟩ (fun ⟨k, Gx, r⟩ => fun (hk : k ≤ R ∧ G.le Gx ∧ r.length = R ∧ ∀ q : Nat, q < k → BRow Gx (r[q]?.getD default) ((regs0 p gs)[q]?.getD [])) => ?_)
  obtain ⟨hk0, hgx, hrR, hrow⟩ := hk
  replace hga := hga.up hgx
  replace hgg := hgg.up hgx
  have hor := hown r hrR
  rcases Nat.lt_or_ge k R with hkR | hkR
  · by_cases hkg : k < gl.length
    · have hkn : (gl[((k : Nat) : Int).toNat]?.getD default).n = N := by
        obtain ⟨l1, a1, a2, a3, a4⟩ := hgg.2 k hkg
        rw [Int.toNat_natCast, ← a1, a4.1]
        exact (hev.at (k := k) (by omega)).1
      refine Wc.gl 22 [1] ?_
      refine Wl.make (α := IV) 2 rfl T.sl42 T.el37 rfl rfl (by omega) (by omega) (fun b3 => ?_)
      refine Wl.q rfl (Qy.indexAddrO (α := SV) T.sl78 rfl rfl (by assumption) (by omega)) ?_
      refine Wl.re 32 rfl (show _ = Value.slice (some ⟨b3, 0, none⟩) N N by rw [List.length_replicate]; rfl) ?_
      refine Wl.reH 2 (Row 37 (List.replicate N (default : IV)) []) rfl rfl ?_
      refine Wl.setO (z := (⟨some ⟨b3, 0, none⟩, N, N⟩ : SV)) (m := ((k : Nat) : Int)) 1 T.size42 rfl rfl rfl hor (by omega) rfl (fun ho1 => ?_)
      have hrk : ((r.set k (⟨some ⟨b3, 0, none⟩, N, N⟩ : SV))[k]?.getD default) = ⟨some ⟨b3, 0, none⟩, N, N⟩ := by rw [List.getElem?_set, if_pos rfl, if_pos (by omega)]; rfl
      have ho3 : OwnA (some ⟨b3, 0, none⟩) N (List.replicate N (default : IV)) [] := .inr ⟨b3, rfl, by rw [List.length_replicate]; rfl, by rw [List.length_replicate]; exact Nat.le_refl _, by simp only [maxLen]; omega⟩
      rw [Int.toNat_natCast] at ho1 ⊢
      obtain ⟨r9, hr9⟩ : ∃ r9, r9 = r.set k (⟨some ⟨b3, 0, none⟩, N, N⟩ : SV) := ⟨_, rfl⟩
      have hr9l : r9.length = R := by rw [hr9, List.length_set]; exact hrR
      rw [← hr9] at ho1 hrk ⊢
      refine Wl.gl 16 [1] ?_
      refine Wl.q rfl (Qy.at (α := SV) T.sl78 rfl rfl (by assumption) (by omega)) ?_
      refine Wl.q rfl (Qy.loadG T.one42 rfl (Arr.cell (by assumption) (by omega) 0 rfl rfl)) ?_
      refine Wl.ll0 4 [] ?_
      refine Wl.no 45 rfl (by first | assumption | omega) ?_
      refine Wl.gc 10 [0] ?_
      refine Wc.draw [0, 2, 1] [(1, 8), (2, 8)] T.mixed rfl ?_
      refine Gm.q 0 [] (by kernel_rfl) rfl rfl (Qy.move rfl) ?_
      refine Gm.q 1 [] (by kernel_rfl) rfl rfl (Qy.move rfl) ?_
      refine Gm.q 2 [] (by kernel_rfl) rfl rfl (Qy.indexAddrO (α := SV) T.sl78 rfl rfl (by assumption) (by omega)) ?_
      refine Gm.q 3 [0, 1] (by kernel_rfl) rfl rfl (Qy.loadO 1 0 T.one42 rfl rfl (by assumption) (by omega) rfl rfl) ?_
      refine Gm.q 4 [] (by kernel_rfl) rfl rfl (Qy.move rfl) ?_
      refine Gm.q 5 [] (by kernel_rfl) rfl rfl (Qy.move rfl) ?_
      refine Gm.q 6 [] (by kernel_rfl) rfl rfl (Qy.at (α := SV) T.sl78 rfl rfl (by assumption) (by omega)) ?_
      refine Gm.q 7 [0] (by kernel_rfl) rfl rfl (Qy.loadG T.one42 rfl (Arr.cell (by assumption) (by omega) 0 rfl rfl)) ?_
      refine Gm.one 8 ⟨rfl, rfl, rfl, trivial⟩ (by first | exact Imm.le_refl _ | repeat (first | assumption | refine Imm.le_trans ?_ (by assumption))) (by kernel_rfl) rfl ?_
      obtain ⟨l1, a1, a2, a3, a4⟩ := hgg.2 k hkg
      have hl1 : l1.length = N := by rw [a1]; exact hkn
      refine Wl.re 52 rfl (show _ = Value.slice (some ⟨b3, 0, none⟩) (List.replicate N (default : IV)).length N by rw [Int.toNat_natCast, hrk, List.length_replicate]) ?_
      refine Wl.re 56 rfl (show _ = Value.slice (gl[k]?.getD default).a l1.length (gl[k]?.getD default).c by rw [a1]; rfl) ?_
      refine Wl.copyRow (α := IV) 2 rfl T.sl42 rfl rfl rfl (Src.arr a3) (by rw [hl1, List.length_replicate]; exact Nat.le_refl _) ?_
      refine Wl.reH 2 (Row 37 l1 []) rfl (by rw [hl1, List.drop_replicate, Nat.sub_self, List.replicate_zero, List.append_nil]) ?_
      have ho4 : OwnA (some ⟨b3, 0, none⟩) N l1 [] := .inr ⟨b3, rfl, by rw [hl1]; rfl, by rw [hl1]; exact Nat.le_refl _, by simp only [maxLen]; omega⟩
      refine Wl.on0 ?_
      refine Gm.doneA (by kernel_rfl) ⟨rfl, trivial⟩ (by first | exact Imm.le_refl _ | repeat (first | assumption | refine Imm.le_trans ?_ (by assumption))) ?_
      refine Ar.ga 6 [] ?_
      refine Ar.freezeRow 2 rfl ho4 (fun G1 hle1 hA1 => ?_)
      refine Ar.re 8 rfl (show _ = Value.slice (some ⟨b2, 0, none⟩) r9.length R by rw [hr9l, hrR]) ?_
      refine Ar.again ((k + 1, G1, r9)) ?_ ?_ rfl ⟨rfl, rfl, rfl, rfl, rfl, trivial⟩ ⟨rfl, rfl, trivial⟩
      · have hs9 : BRow G1 ⟨some ⟨b3, 0, none⟩, N, N⟩ ((regs0 p gs)[k]?.getD []) := by
          rw [regs0_at (by omega), if_pos (by omega)]
          exact ⟨l1, hl1, Nat.le_refl _, hA1, a4.up hle1⟩
        refine ⟨by omega, Imm.le_trans hgx hle1, hr9l, fun q hq => ?_⟩
        rw [hr9]
        exact brow_next (brows_up hrow hle1) (by omega) hs9 q hq
      · show R - (k + 1) < R - k
        omega
    · refine Wc.gl 22 [1] ?_
      refine Wl.make (α := IV) 2 rfl T.sl42 T.el37 rfl rfl (by omega) (by omega) (fun b3 => ?_)
      refine Wl.q rfl (Qy.indexAddrO (α := SV) T.sl78 rfl rfl (by assumption) (by omega)) ?_
      refine Wl.re 32 rfl (show _ = Value.slice (some ⟨b3, 0, none⟩) N N by rw [List.length_replicate]; rfl) ?_
      refine Wl.reH 2 (Row 37 (List.replicate N (default : IV)) []) rfl rfl ?_
      refine Wl.setO (z := (⟨some ⟨b3, 0, none⟩, N, N⟩ : SV)) (m := ((k : Nat) : Int)) 1 T.size42 rfl rfl rfl hor (by omega) rfl (fun ho1 => ?_)
      have hrk : ((r.set k (⟨some ⟨b3, 0, none⟩, N, N⟩ : SV))[k]?.getD default) = ⟨some ⟨b3, 0, none⟩, N, N⟩ := by rw [List.getElem?_set, if_pos rfl, if_pos (by omega)]; rfl
      have ho3 : OwnA (some ⟨b3, 0, none⟩) N (List.replicate N (default : IV)) [] := .inr ⟨b3, rfl, by rw [List.length_replicate]; rfl, by rw [List.length_replicate]; exact Nat.le_refl _, by simp only [maxLen]; omega⟩
      rw [Int.toNat_natCast] at ho1 ⊢
      obtain ⟨r9, hr9⟩ : ∃ r9, r9 = r.set k (⟨some ⟨b3, 0, none⟩, N, N⟩ : SV) := ⟨_, rfl⟩
      have hr9l : r9.length = R := by rw [hr9, List.length_set]; exact hrR
      rw [← hr9] at ho1 hrk ⊢
      refine Wl.ga 18 [0] ?_
      refine Ar.freezeRow 2 rfl ho3 (fun G1 hle1 hA1 => ?_)
      refine Ar.re 8 rfl (show _ = Value.slice (some ⟨b2, 0, none⟩) r9.length R by rw [hr9l, hrR]) ?_
      refine Ar.again ((k + 1, G1, r9)) ?_ ?_ rfl ⟨rfl, rfl, rfl, rfl, rfl, trivial⟩ ⟨rfl, rfl, trivial⟩
      · have hs9 : BRow G1 ⟨some ⟨b3, 0, none⟩, N, N⟩ ((regs0 p gs)[k]?.getD []) := by
          rw [regs0_at (by omega), if_neg (by omega), h0L]
          exact ⟨_, List.length_replicate, Nat.le_refl _, hA1, Bigs.zeros _ _⟩
        refine ⟨by omega, Imm.le_trans hgx hle1, hr9l, fun q hq => ?_⟩
        rw [hr9]
        exact brow_next (brows_up hrow hle1) (by omega) hs9 q hq
      · show R - (k + 1) < R - k
        omega
  · refine Wc.ga 20 [0] ?_
    refine Ar.out2 (.inr rfl) (Ho := [(1, some b2, Row 42 r [])]) rfl (.tmp rfl) (.tmp rfl) ⟨rfl, trivial⟩ ?_
    exact ⟨b2, r, rfl, ⟨by omega, fun i hi => hrow i (by omega)⟩, hrR, rfl⟩
end Go.Proofs.YtelbhbbiejalhaaGreat
set_option maxRecDepth 100000
set_option linter.unusedVariables false
namespace Go.Proofs.YtelbhbbiejalhaaGreat
open Go Go.Sl
set_option maxHeartbeats 4000000
theorem brow_snoc {G : Imm} {q : List SV} {os : List (List Int)} {i : Nat} {s : SV} (h : ∀ t : Nat, t < i → BRow G (q[t]?.getD default) (os[t]?.getD [])) (hq : q.length = i) (hs : BRow G s (os[i]?.getD [])) : ∀ t : Nat, t < i + 1 → BRow G ((q ++ [s])[t]?.getD default) (os[t]?.getD []) := fun t ht => by
  rcases Nat.lt_or_ge t i with h1 | h1
  · rw [List.getElem?_append_left (by omega)]; exact h t h1
  · have e : t = i := by omega
    subst e
    rw [List.getElem?_append_right (by omega), hq, Nat.sub_self]; exact hs
theorem outs_at {p : PV} {rs : List (List Int)} {i : Nat} (hi : i < p.outs.length) : (outsOf p rs)[i]?.getD [] = rs[(p.outs[((i : Nat) : Int).toNat]?.getD default).toNat]?.getD [] := by
  unfold outsOf
  rw [List.getElem?_map, Int.toNat_natCast, List.getElem?_eq_getElem hi]; rfl
attribute [local irreducible] valB pb cmpZ lstWp p2 cst doI
theorem c70 (G : Imm) (a : Option Addr) (c : Nat) (l : List IV) (ha : Arr G a l) (hl : l.length ≤ 1048576) :
    Does Tryz.prog 70 [.slice a l.length c] G [] (fun v G' Ho => ∃ s d, v = .slice s l.length d ∧ Arr G' s l ∧ l.length ≤ d ∧ Ho = []) := by
  by_cases hne : a = none
  · have h0 : l = [] := by
      rcases ha.2 with h | ⟨b, o, h, _⟩
      · exact List.eq_nil_of_length_eq_zero h
      · rw [hne] at h; cases h
    subst hne
    subst h0
    have hyes : (none : Option Addr) = none := rfl
    refine Does.enter Tryz.func70 rfl Tryz.ntmps70 rfl (fun w => ?_)
    refine Wc.gl 9 [] ?_
    refine Wl.q rfl (Qy.eqlSliceNil T.sl42 rfl rfl) ?_
    refine Wl.ga 10 [1] ?_
    refine Ar.e1 ?_
    exact ⟨none, 0, rfl, Arr.nil _, Nat.le_refl _, rfl⟩
  refine Does.enter Tryz.func70 rfl Tryz.ntmps70 rfl (fun w => ?_)
  refine Wc.gl 9 [] ?_
  refine Wl.q rfl (Qy.eqlSliceNil T.sl42 rfl rfl) ?_
  refine Wl.gl 7 [0] ?_
  refine Wl.lit0 0 rfl T.sl42 (fun b1 => ?_)
  refine Wl.ll0 1 [] ?_
  refine Wl.reH 0 (Row 37 ([] : List IV) []) rfl rfl ?_
  refine Wl.append (α := IV) (xs := []) (ys := l) (junk := []) 0 rfl T.sl42 T.el37 rfl rfl rfl (.inr ⟨b1, rfl, rfl, Nat.le_refl _, Nat.zero_le _⟩) (Src.arr ha) (by rw [List.length_nil]; omega) (by rw [List.length_nil]; simp only [maxLen]; omega) (fun a1 c1 junk1 ho1 => ?_)
  rw [List.nil_append] at ho1 ⊢
  have hc1 := ho1.le
  refine Wl.ga 4 [] ?_
  refine Ar.freezeRow 0 rfl ho1 (fun G1 hle1 hA1 => ?_)
  refine Ar.e1 ?_
  exact ⟨a1, c1, rfl, hA1, hc1, rfl⟩
/-- what Rows answers -/
def RowsPost (p : PV) (gs : List (List Int)) (m N : Nat) (v : Value) (G' : Imm) (Ho : Hp) : Prop :=
  Ho = [] ∧ ((∃ os b r c', followP p gs = some os ∧ v = .tuple #[.slice b (List.length r) c', .int .i64 0, .int .i64 0] ∧ Arr G' b r ∧ List.length r ≤ c' ∧ BGrid G' r os ∧ EvenB (m + 3 * p.code.length) N os) ∨ (followP p gs = none ∧ ∃ k, v = .tuple #[.slice none 0 0, .int .i64 k, .int .i64 20]))
theorem c39 (G : Imm) (p : PV) (ac ao ga : Option Addr) (cc co gc : Nat) (gl : List SV) (gs : List (List Int)) (m N : Nat) (hc : Arr G ac p.code) (ho : Arr G ao p.outs) (hga : Arr G ga gl) (hgg : BGrid G gl gs) (hev : EvenB m N gs) (hmm : m ≤ 1048576) (hN : N ≤ 4096) (hR : rightP p = true) (hgi : (gl.length : Int) = p.ins) :
    Does Tryz.prog 39 [.agg #[.int .i64 p.ins, .int .i64 p.regs, .slice ac p.code.length cc, .slice ao p.outs.length co], .slice ga gl.length gc] G [] (RowsPost p gs m N) := by
  obtain ⟨f1, f2, f3, f4, f5, f6, f7, f8⟩ := right_facts hR
  obtain ⟨R, hRR⟩ : ∃ R : Nat, p.regs = (R : Int) := ⟨p.regs.toNat, by omega⟩
  refine Does.enter Tryz.func39 rfl Tryz.ntmps39 rfl (fun w => ?_)
  refine Wc.nilRow 0 (Row 42 ([] : List SV) []) ?_
  refine Wc.gl 2 [] ?_
  refine Wl.box 1 rfl rfl rfl (fun b1 => ?_)
  refine Wl.gl 9 [1] ?_
  refine Wl.k 2 rfl (c66 _ p ac ao ga cc co gc gl gs m N hc ho hga hgg hev hN hR hgi) (fun v1 G1 Ho1 hle1 hp => ?_)
  obtain ⟨b9, r0, rfl, hg0, hr0, rfl⟩ := hp
  replace hc := hc.up hle1
  replace ho := ho.up hle1
  have hrl0 := regs0_len p gs
  have hm0 : EvenB m N (regs0 p gs) := fun zs hz => by
    unfold regs0 at hz
    obtain ⟨k, hk, rfl⟩ := List.mem_map.1 hz
    have hN9 := (hev.at (k := 0) (by have := hgg.1; omega)).1
    split
    · exact hev.at (k := k) (by omega)
    · rw [hN9]
      exact ⟨List.length_replicate, below_zeros m _⟩
  refine Wl.gc 19 [0] ?_
  refine Wc.draw [0, 1, 3] [(3, 3), (1, 3), (0, 3)] T.mixed rfl ?_
  refine Gm.c 1 [1] [1] ?_
  refine Gm.c 2 [] [] ?_
  refine Gm.o1 0 ?_
  refine Wl.k0 rfl (c68 _) ?_
  refine Wl.on0 ?_
  refine Gm.o1 3 ?_
  refine Wl.k 3 rfl (c67 _ p gs ac ao cc co (some ⟨b9, 0, none⟩) p.regs.toNat r0 [] m N hc (.inr ⟨b9, rfl, by rw [hr0]; rfl, by omega, by simp only [maxLen]; omega⟩) hg0 hm0 (by omega) (by omega) f4 (by omega) (by omega) f8) (fun v9 G9 Ho9 hle9 hp => ?_)
  obtain ⟨r9, k9, rfl, rfl, hr9, ho9, hcase⟩ := hp
  replace ho := ho.up hle9
  rcases hcase with ⟨rs, hrs, rfl, hg9, he9⟩ | ⟨hno, hk9⟩
  · have hrs1 := hg9.1
    have lr9 : r9.length = R := by omega
    have hfol : followP p gs = some (outsOf p rs) := by unfold followP; rw [hrs]; rfl
    refine Wl.on0 ?_
    refine Gm.c 4 [] [] ?_
    refine Gm.doneA (by kernel_rfl) trivial (by first | exact Imm.le_refl _ | repeat (first | assumption | refine Imm.le_trans ?_ (by assumption))) ?_
    refine Ar.gc 25 [0, 1] ?_
    refine Wc.re 7 rfl (show _ = Value.slice (some ⟨b9, 0, none⟩) r9.length p.regs.toNat by rw [hr9]) ?_
    refine Wc.loopG (ι := Nat × Imm × List SV × (Option Addr × Nat × List Value)) (fun (i, Gx, q, (o, d, j)) => ([(32, .int .i64 (i : Int)), (10, .slice o q.length d), (7, Go.Value.slice (Option.some (Go.Addr.mk b9 0 Option.none)) (List.length r9) (Int.toNat (Go.Proofs.YtelbhbbiejalhaaGreat.PV.regs p))), (31, Go.Value.int Go.IntKind.i64 (↑(List.length (Go.Proofs.YtelbhbbiejalhaaGreat.PV.outs p)) : Int)), (30, Go.Value.slice ao (List.length (Go.Proofs.YtelbhbbiejalhaaGreat.PV.outs p)) co), (6, Go.Value.int Go.IntKind.i64 0), (5, Go.Value.int Go.IntKind.i64 0), (4, Go.Value.slice Option.none 0 0)], [(0, o.map (·.block), Row 42 q j), (3, some b9, Row 42 r9 []), (1, Option.some b1, Go.Obj.cells #[Go.Value.int Go.IntKind.i64 (Go.Proofs.YtelbhbbiejalhaaGreat.PV.ins p), Go.Value.int Go.IntKind.i64 (Go.Proofs.YtelbhbbiejalhaaGreat.PV.regs p), Go.Value.slice ac (List.length (Go.Proofs.YtelbhbbiejalhaaGreat.PV.code p)) cc, Go.Value.slice ao (List.length (Go.Proofs.YtelbhbbiejalhaaGreat.PV.outs p)) co] 29)])) (fun (i, Gx, q, (o, d, j)) => Gx) (fun (i, Gx, q, (o, d, j)) => i ≤ p.outs.length ∧ G9.le Gx ∧ q.length = i ∧ (∀ t : Nat, t < i → BRow Gx (q[t]?.getD default) ((outsOf p rs)[t]?.getD [])) ∧ OwnA o d q j) (fun (i, Gx, q, (o, d, j)) => p.outs.length - i) ((0, G9, [], (none, 0, []))) (⟨Nat.zero_le _, Imm.le_refl _, rfl, fun t ht => by omega, OwnA.nil⟩) rfl ⟨rfl, rfl, rfl, rfl, rfl, rfl, rfl, rfl, trivial⟩ ⟨rfl, rfl, rfl, trivial⟩ (fun ⟨i, Gx, q, (o, d, j)⟩ => fun (hk : i ≤ p.outs.length ∧ G9.le Gx ∧ q.length = i ∧ (∀ t : Nat, t < i → BRow Gx (q[t]?.getD default) ((outsOf p rs)[t]?.getD [])) ∧ OwnA o d q j) => ?_)
    obtain ⟨hi0, hgx, hqi, hbq, hoq⟩ := hk
    replace ho := ho.up hgx
    rcases Nat.lt_or_ge i p.outs.length with hio | hio
    · have hmem : p.outs[((i : Nat) : Int).toNat]?.getD default ∈ p.outs := by
        rw [Int.toNat_natCast, List.getElem?_eq_getElem hio]; exact List.getElem_mem hio
      have hrg := f7 _ hmem
      obtain ⟨l1, a1, a2, a3, a4⟩ := hg9.2 (p.outs[((i : Nat) : Int).toNat]?.getD default).toNat (by omega)
      have hN1 := (he9.at (k := (p.outs[((i : Nat) : Int).toNat]?.getD default).toNat) (by omega)).1
      have hl1 : l1.length = N := by rw [a4.1, hN1]
      refine Wc.gl 13 [1] ?_
      refine Wl.q rfl (Qy.at (α := Int) T.sl27 rfl rfl (by assumption) (by omega)) ?_
      refine Wl.q rfl (Qy.loadG T.one3 rfl (Arr.cell (by assumption) (by omega) 0 rfl rfl)) ?_
      refine Wl.gl 7 [] ?_
      refine Wl.q rfl (Qy.indexAddrO (α := SV) T.sl78 rfl rfl (by assumption) (by omega)) ?_
      refine Wl.q rfl (Qy.loadO 3 0 T.one42 rfl rfl (by assumption) (by omega) rfl rfl) ?_
      refine Wl.re 40 rfl (show _ = Value.slice (r9[(p.outs[((i : Nat) : Int).toNat]?.getD default).toNat]?.getD default).a l1.length (r9[(p.outs[((i : Nat) : Int).toNat]?.getD default).toNat]?.getD default).c by rw [a1]) ?_
      refine Wl.k 20 rfl (c70 _ _ _ l1 (a3.up hgx) (by omega)) (fun v1 G2 Ho1 hle2 hp => ?_)
      obtain ⟨s2, d2, rfl, hA2, hd2, rfl⟩ := hp
      refine Wl.lit (α := SV) 4 [⟨_, _, _⟩] rfl T.sl78 T.el42 rfl rfl rfl rfl rfl (fun b2 => ?_)
      refine Wl.append (α := SV) 0 rfl T.sl78 T.el42 rfl rfl rfl (by first | assumption | exact OwnA.nil | exact OwnA.made (by simp)) (Src.row 4 rfl) (by first | omega | (simp only [List.length_append, List.length_cons, List.length_nil, maxLen]; omega)) (by first | omega | (simp only [List.length_append, List.length_cons, List.length_nil, maxLen]; omega)) (fun a1 c1 junk1 ho1 => ?_)
      refine Wl.ga 8 [] ?_
      refine Ar.again ((i + 1, G2, q ++ [⟨s2, l1.length, d2⟩], (a1, c1, junk1))) ?_ ?_ rfl ⟨rfl, rfl, rfl, rfl, rfl, rfl, rfl, rfl, trivial⟩ ⟨rfl, rfl, rfl, trivial⟩
      · refine ⟨by omega, Imm.le_trans hgx hle2, by rw [List.length_append, hqi]; rfl, brow_snoc (fun t ht => (hbq t ht).up hle2) hqi ?_, ho1⟩
        rw [outs_at hio]
        exact ⟨l1, rfl, hd2, hA2, a4.up (Imm.le_trans hgx hle2)⟩
      · show p.outs.length - (i + 1) < p.outs.length - i
        omega
    · have hii : i = p.outs.length := by omega
      subst hii
      have hqd := hoq.le
      refine Wc.ga 21 [0] ?_
      refine Ar.freezeRow 0 rfl hoq (fun G8 hle8 hA => ?_)
      refine Ar.out3 (.inr rfl) (Ho := []) rfl (.tmp rfl) (.tmp rfl) (.tmp rfl) trivial ?_
      have hol : (outsOf p rs).length = p.outs.length := by unfold outsOf; rw [List.length_map]
      refine ⟨rfl, .inl ⟨outsOf p rs, o, q, d, hfol, rfl, hA, hqd, ⟨by omega, fun t ht => (hbq t (by omega)).up hle8⟩, fun zs hz => ?_⟩⟩
      unfold outsOf at hz
      obtain ⟨x, hx, rfl⟩ := List.mem_map.1 hz
      have hx7 := f7 x hx
      exact he9.at (k := x.toNat) (by omega)
  · refine Wl.on0 ?_
    refine Gm.c 4 [] [] ?_
    refine Gm.doneA (by kernel_rfl) trivial (by first | exact Imm.le_refl _ | repeat (first | assumption | refine Imm.le_trans ?_ (by assumption))) ?_
    refine Ar.ga 18 [1] ?_
    refine Ar.out3 (.inr rfl) (Ho := []) rfl (.tmp rfl) (.tmp rfl) (.tmp rfl) trivial ?_
    exact ⟨rfl, .inr ⟨hno, k9, rfl⟩⟩
end Go.Proofs.YtelbhbbiejalhaaGreat
set_option maxRecDepth 100000
set_option linter.unusedVariables false
namespace Go.Proofs.YtelbhbbiejalhaaGreat
open Go Go.Sl
set_option maxHeartbeats 4000000
theorem row_next {G : Imm} {r : List SV} {rs : List (List Int)} {k : Nat} {s : SV} (h : ∀ q : Nat, q < k → RowS G (r[q]?.getD default) (rs[q]?.getD [])) (hk : k < r.length) (hs : RowS G s (rs[k]?.getD [])) : ∀ q : Nat, q < k + 1 → RowS G ((r.set k s)[q]?.getD default) (rs[q]?.getD []) := fun q hq => by
  rw [List.getElem?_set]
  by_cases he : k = q
  · subst he; rw [if_pos rfl, if_pos hk]; exact hs
  · rw [if_neg he]; exact h q (by omega)
theorem rows_up {G G' : Imm} {r : List SV} {rs : List (List Int)} {k : Nat} (h : ∀ q : Nat, q < k → RowS G (r[q]?.getD default) (rs[q]?.getD [])) (hl : G.le G') : ∀ q : Nat, q < k → RowS G' (r[q]?.getD default) (rs[q]?.getD []) := fun q hq => (h q hq).up hl
theorem outs_succ {p : PV} {rs : List (List Int)} {q : Nat} (hq : q < p.outs.length) :
    (outsOf p rs).take (q + 1) = (outsOf p rs).take q ++ [rs[(p.outs[((q : Nat) : Int).toNat]?.getD default).toNat]?.getD []] := by
  have h1 : q < (outsOf p rs).length := by unfold outsOf; rw [List.length_map]; exact hq
  have h2 : (outsOf p rs)[q] = rs[(p.outs[q]).toNat]?.getD [] := List.getElem_map _
  rw [List.take_succ_eq_append_getElem h1, h2, Int.toNat_natCast, List.getElem?_eq_getElem hq]; rfl
attribute [local irreducible] valL pw cmpZ p2
theorem c42 (G : Imm) (p : PV) (ac ao ga : Option Addr) (cc co gc : Nat) (gl : List SV) (gs : List (List Int)) (N : Nat) (hc : Arr G ac p.code) (ho : Arr G ao p.outs) (hga : Arr G ga gl) (hgg : Grid G gl gs) (hev : Even 4 N gs) (hN : N ≤ 1048576) (hR : rightP p = true) (hgi : (gl.length : Int) = p.ins) (hcl : p.code.length ≤ 16384) :
    Does Tryz.prog 42 [.agg #[.int .i64 p.ins, .int .i64 p.regs, .slice ac p.code.length cc, .slice ao p.outs.length co], .slice ga gl.length gc] G [] (fun v G' Ho => ∃ sv bad ov, v = .tuple #[sv, .int .i64 bad, ov] ∧ (followP p gs = none → 0 ≤ bad ∧ ov = .slice none 0 0) ∧
      (∀ os, followP p gs = some os → bad = -1 ∧ ∃ (oa : Option Addr) (oc : Nat) (ol : List SV), ov = .slice oa ol.length oc ∧ Arr G' oa ol ∧ Grid G' ol os) ∧ Ho = []) := by
  obtain ⟨f1, f2, f3, f4, f5, f6, f7, f8⟩ := right_facts hR
  have hgl := hgg.1
  obtain ⟨R, hRR⟩ : ∃ R : Nat, p.regs = (R : Int) := ⟨p.regs.toNat, by omega⟩
  refine Does.enter Tryz.func42 rfl Tryz.ntmps42 rfl (fun w => ?_)
  have hM : p.regs.toNat = R := by omega
  have hrl0 := regs0_len p gs
  rw [hM] at hrl0
  have hgl0 : 0 < gl.length := by omega
  have h0R := hgg.at (m := 0) (by omega)
  obtain ⟨h0L, h0B⟩ := hev.at (k := 0) (by omega)
  have h0n : (gl[(0 : Int).toNat]?.getD default).n ≤ 1048576 := by rw [h0R.len, h0L]; exact hN
  refine Wc.gl 2 [] ?_
  refine Wl.box 0 rfl rfl rfl (fun b1 => ?_)
  refine Wl.gl 9 [0] ?_
  refine Wl.make (α := SV) 1 rfl T.sl89 T.el94 rfl rfl (by omega) (by omega) (fun b2 => ?_)
  refine Wl.gc 10 [] ?_
  rw [hM]
  have hown : ∀ r : List SV, r.length = R → OwnA (some ⟨b2, 0, none⟩) R r [] := fun r hr => .inr ⟨b2, rfl, by rw [hr]; rfl, by omega, by simp only [maxLen]; omega⟩
  refine Wc.re 7 rfl (show _ = Value.slice (some ⟨b2, 0, none⟩) (List.replicate R (default : SV)).length R by rw [List.length_replicate]) ?_
  refine Wc.loopG (ι := Nat × Imm × List SV) (fun (k, Gx, r) => ([(8, .int .i64 (k : Int)), (7, .slice (some ⟨b2, 0, none⟩) r.length R), (6, Go.Value.slice Option.none 0 0), (5, Go.Value.int Go.IntKind.i64 0), (4, Go.Value.slice Option.none 0 0), (2, Go.Value.pointer (Option.some (Go.Addr.mk b1 0 Option.none))), (1, Go.Value.slice ga (List.length gl) gc)], [(1, some b2, Row 94 r []), (0, Option.some b1, Go.Obj.cells #[Go.Value.int Go.IntKind.i64 (Go.Proofs.YtelbhbbiejalhaaGreat.PV.ins p), Go.Value.int Go.IntKind.i64 (Go.Proofs.YtelbhbbiejalhaaGreat.PV.regs p), Go.Value.slice ac (List.length (Go.Proofs.YtelbhbbiejalhaaGreat.PV.code p)) cc, Go.Value.slice ao (List.length (Go.Proofs.YtelbhbbiejalhaaGreat.PV.outs p)) co] 29)])) (fun (k, Gx, r) => Gx) (fun (k, Gx, r) => k ≤ R ∧ G.le Gx ∧ r.length = R ∧ ∀ q : Nat, q < k → RowS Gx (r[q]?.getD default) ((regs0 p gs)[q]?.getD [])) (fun (k, Gx, r) => R - k) ((0, G, List.replicate R (default : SV))) (⟨Nat.zero_le _, Imm.le_refl _, List.length_replicate, fun q hq => by omega⟩) rfl ⟨rfl, rfl, rfl, rfl, rfl, rfl, rfl, trivial⟩ ⟨rfl, rfl, trivial⟩ (fun ⟨k, Gx, r⟩ => fun (hk : k ≤ R ∧ G.le Gx ∧ r.length = R ∧ ∀ q : Nat, q < k → RowS Gx (r[q]?.getD default) ((regs0 p gs)[q]?.getD [])) => ?_)
  obtain ⟨hk0, hgx, hrR, hrow⟩ := hk
  replace hc := hc.up hgx
  replace ho := ho.up hgx
  replace hga := hga.up hgx
  replace hgg := hgg.up hgx
  have hor := hown r hrR
  rcases Nat.lt_or_ge k R with hkR | hkR
  · by_cases hkg : k < gl.length
    · refine Wc.gl 19 [0, 1] ?_
      refine Wl.q rfl (Qy.at (α := SV) T.sl89 rfl rfl (by assumption) (by omega)) ?_
      refine Wl.q rfl (Qy.loadG T.one94 rfl (Arr.cell (by assumption) (by omega) 0 rfl rfl)) ?_
      refine Wl.q rfl (Qy.len T.sl94 rfl) ?_
      refine Wl.call 2 rfl T.fn44 rfl (c44 _ _ (by assumption)) (tags_of trivial) (fun v1 G1 Ho1 hle1 hp => ?_)
      obtain ⟨⟨zo1, zc1, zl1, rfl, hzA1, hzN1, hzl1⟩, rfl⟩ := hp
      replace hc := hc.up hle1
      replace ho := ho.up hle1
      replace hga := hga.up hle1
      replace hgg := hgg.up hle1
      refine Wl.q rfl (Qy.indexAddrO (α := SV) T.sl89 rfl rfl (by assumption) (by omega)) ?_
      refine Wl.setO (z := ⟨zo1, zl1.length, zc1⟩) 1 T.size94 rfl rfl rfl (by assumption) (by omega) rfl (fun ho1 => ?_)
      refine Wl.gl 16 [1] ?_
      refine Wl.q rfl (Qy.at (α := SV) T.sl89 rfl rfl (by assumption) (by omega)) ?_
      refine Wl.q rfl (Qy.loadG T.one94 rfl (Arr.cell (by assumption) (by omega) 0 rfl rfl)) ?_
      refine Wl.q rfl (Qy.indexAddrO (α := SV) T.sl89 rfl rfl (by assumption) (by omega)) ?_
      refine Wl.setO (z := gl[((k : Nat) : Int).toNat]?.getD default) 1 T.size94 rfl rfl rfl (by assumption) (by rw [List.length_set]; omega) rfl (fun ho2 => ?_)
      refine Wl.ga 8 [] ?_
      rw [Int.toNat_natCast, List.set_set]
      refine Ar.re 7 rfl (show _ = Value.slice (some ⟨b2, 0, none⟩) (r.set k (gl[k]?.getD default)).length R by rw [List.length_set]) ?_
      refine Ar.again ((k + 1, G1, r.set k (gl[k]?.getD default))) ?_ ?_ rfl ⟨rfl, rfl, rfl, rfl, rfl, rfl, rfl, trivial⟩ ⟨rfl, rfl, trivial⟩
      · refine ⟨by omega, Imm.le_trans hgx hle1, by rw [List.length_set]; exact hrR, row_next (rows_up hrow hle1) (by omega) ?_⟩
        rw [regs0_at (by omega), if_pos (by omega)]
        exact hgg.2 k hkg
      · show R - (k + 1) < R - k
        omega
    · refine Wc.gl 19 [0, 1] ?_
      refine Wl.q rfl (Qy.at (α := SV) T.sl89 rfl rfl (by assumption) (by omega)) ?_
      refine Wl.q rfl (Qy.loadG T.one94 rfl (Arr.cell (by assumption) (by omega) 0 rfl rfl)) ?_
      refine Wl.q rfl (Qy.len T.sl94 rfl) ?_
      refine Wl.call 2 rfl T.fn44 rfl (c44 _ _ (by assumption)) (tags_of trivial) (fun v1 G1 Ho1 hle1 hp => ?_)
      obtain ⟨⟨zo1, zc1, zl1, rfl, hzA1, hzN1, hzl1⟩, rfl⟩ := hp
      replace hc := hc.up hle1
      replace ho := ho.up hle1
      replace hga := hga.up hle1
      replace hgg := hgg.up hle1
      refine Wl.q rfl (Qy.indexAddrO (α := SV) T.sl89 rfl rfl (by assumption) (by omega)) ?_
      refine Wl.setO (z := ⟨zo1, zl1.length, zc1⟩) 1 T.size94 rfl rfl rfl (by assumption) (by omega) rfl (fun ho1 => ?_)
      refine Wl.ga 19 [0] ?_
      rw [Int.toNat_natCast]
      refine Ar.re 7 rfl (show _ = Value.slice (some ⟨b2, 0, none⟩) (r.set k (⟨zo1, zl1.length, zc1⟩ : SV)).length R by rw [List.length_set]) ?_
      refine Ar.again ((k + 1, G1, r.set k (⟨zo1, zl1.length, zc1⟩ : SV))) ?_ ?_ rfl ⟨rfl, rfl, rfl, rfl, rfl, rfl, rfl, trivial⟩ ⟨rfl, rfl, trivial⟩
      · refine ⟨by omega, Imm.le_trans hgx hle1, by rw [List.length_set]; exact hrR, row_next (rows_up hrow hle1) (by omega) ?_⟩
        rw [regs0_at (by omega), if_neg (by omega)]
        refine ⟨zl1, rfl, hzl1, hzA1, ?_⟩
        have e := hzN1
        rw [h0R.len] at e
        exact e
      · show R - (k + 1) < R - k
        omega
  · have hg0 : Grid Gx r (regs0 p gs) := ⟨by omega, fun q hq => hrow q (by omega)⟩
    have he0 : Even 4 N (regs0 p gs) := even_regs0 hev (by omega)
    refine Wc.gc 27 [0, 0] ?_
    refine Wc.nilRow 3 (Row 94 ([] : List SV) []) ?_
    refine Wc.loopG (ι := Nat × Imm × List SV × List (List Int) × List SV × (Option Addr × Nat × List Value)) (fun (i, Gy, r2, rs, st, (o, d, j)) => ([(10, .int .i64 (i : Int)), (9, .slice o st.length d), (7, .slice (some ⟨b2, 0, none⟩) r2.length R), (2, Go.Value.pointer (Option.some (Go.Addr.mk b1 0 Option.none)))], [(3, o.map (·.block), Row 94 st j), (1, some b2, Row 94 r2 []), (0, Option.some b1, Go.Obj.cells #[Go.Value.int Go.IntKind.i64 (Go.Proofs.YtelbhbbiejalhaaGreat.PV.ins p), Go.Value.int Go.IntKind.i64 (Go.Proofs.YtelbhbbiejalhaaGreat.PV.regs p), Go.Value.slice ac (List.length (Go.Proofs.YtelbhbbiejalhaaGreat.PV.code p)) cc, Go.Value.slice ao (List.length (Go.Proofs.YtelbhbbiejalhaaGreat.PV.outs p)) co] 29)])) (fun (i, Gy, r2, rs, st, (o, d, j)) => Gy) (fun (i, Gy, r2, rs, st, (o, d, j)) => i ≤ p.code.length ∧ Gx.le Gy ∧ r2.length = R ∧ Grid Gy r2 rs ∧ Even (4 + 5 * i) N rs ∧ runTo p gs i = some rs ∧ OwnA o d st j ∧ st.length = i) (fun (i, Gy, r2, rs, st, (o, d, j)) => p.code.length - i) ((0, Gx, r, regs0 p gs, [], (none, 0, []))) (⟨Nat.zero_le _, Imm.le_refl _, hrR, hg0, he0, rfl, OwnA.nil, rfl⟩) rfl ⟨rfl, rfl, rfl, rfl, trivial⟩ ⟨rfl, rfl, rfl, trivial⟩ (fun ⟨i, Gy, r2, rs, st, (o, d, j)⟩ => fun (hk : i ≤ p.code.length ∧ Gx.le Gy ∧ r2.length = R ∧ Grid Gy r2 rs ∧ Even (4 + 5 * i) N rs ∧ runTo p gs i = some rs ∧ OwnA o d st j ∧ st.length = i) => ?_)
    obtain ⟨hi0, hgy, hr2, hg2, he2, hrun, hob, hst⟩ := hk
    replace hc := hc.up hgy
    replace ho := ho.up hgy
    have hor2 := hown r2 hr2
    have hg2l := hg2.1
    rcases Nat.lt_or_ge i p.code.length with hic | hic
    · have hmem : (p.code[((i : Nat) : Int).toNat]?.getD default) ∈ p.code := by
        rw [Int.toNat_natCast, List.getElem?_eq_getElem hic]; exact List.getElem_mem hic
      obtain ⟨m1, m2, m3, m4, m5, m6, m7, m8⟩ := may_facts (f8 _ hmem)
      have m3' : 0 ≤ (p.code[((i : Nat) : Int).toNat]?.getD default).a ∧ (p.code[((i : Nat) : Int).toNat]?.getD default).a < r2.length := by omega
      have m2' : 0 ≤ (p.code[((i : Nat) : Int).toNat]?.getD default).to ∧ (p.code[((i : Nat) : Int).toNat]?.getD default).to < r2.length := by omega
      have he9 := Even.at he2 (k := (p.code[((i : Nat) : Int).toNat]?.getD default).a) (by omega)
      obtain ⟨ci, hci⟩ : ∃ ci, ci = p.code[((i : Nat) : Int).toNat]?.getD default := ⟨_, rfl⟩
      refine Wc.gl 20 [0, 1, 0] ?_
      refine Wl.q rfl (Qy.at (α := Sl.Instr) T.sl26 rfl rfl (by assumption) (by omega)) ?_
      refine Wl.q rfl (Qy.loadsG T.agg50 rfl (Arr.elem (by assumption) (by omega)) rfl) ?_
      refine Wl.q rfl (Qy.move rfl) ?_
      refine Wl.call 1 rfl T.fn73 rfl (c73 _ (p.code[((i : Nat) : Int).toNat]?.getD default) (some ⟨b2, 0, none⟩) R r2 [] rs (4 + 5 * i) N hor2 hg2 he2 hN (by omega) m1 m3' (fun h => by have := m4 h; omega) m5 (by omega) m6 m7 m8) (tags_of ⟨rfl, trivial⟩) (fun v1 G1 Ho1 hle1 hp => ?_)
      obtain ⟨rv, rfl, hrv, rfl⟩ := hp
      by_cases hd : doI (p.code[((i : Nat) : Int).toNat]?.getD default) rs = none
      · have hd2 : ¬ doI (p.code[((i : Nat) : Int).toNat]?.getD default) rs ≠ none := fun h => h hd
        refine Wl.gl 11 [] ?_
        refine Wl.q rfl (Qy.notD rfl) ?_
        refine Wl.ga 19 [1] ?_
        refine Ar.out3 (.inr rfl) (Ho := []) rfl (.tmp rfl) (.tmp rfl) (.tmp rfl) trivial ?_
        have hfn := runTo_stop hrun hd hic
        exact ⟨_, (i : Int), _, rfl, fun _ => ⟨Int.natCast_nonneg i, rfl⟩, fun os h => (by rw [hfn] at h; cases h), rfl⟩
      · obtain ⟨zs, hzs⟩ := Option.ne_none_iff_exists'.1 hd
        obtain ⟨s, rfl, hs⟩ := hrv zs hzs
        have hok : doI (p.code[((i : Nat) : Int).toNat]?.getD default) rs ≠ none := hd
        replace hc := hc.up hle1
        replace ho := ho.up hle1
        replace hg2 := hg2.up hle1
        refine Wl.gl 11 [] ?_
        refine Wl.q rfl (Qy.notD rfl) ?_
        refine Wl.gc 2 [] ?_
        refine Wc.cond rfl (fun hc1 => ?_) (fun hc1 => ?_)
        refine Wc.ga 16 [] ?_
        rotate_left
        refine Wc.gl 8 [0] ?_
        refine Wl.q rfl (Qy.at (α := Sl.Instr) T.sl26 rfl rfl (by assumption) (by omega)) ?_
        refine Wl.q rfl (Qy.fieldAddr T.fa50_1 rfl) ?_
        refine Wl.q rfl (Qy.loadG T.one3 rfl (Arr.cell (by assumption) (by omega) 1 rfl rfl)) ?_
        refine Wl.q rfl (Qy.move rfl) ?_
        refine Wl.q rfl (Qy.indexAddrO (α := SV) T.sl89 rfl rfl (by assumption) (by omega)) ?_
        refine Wl.setO (z := _) 1 T.size94 rfl rfl rfl (by assumption) (by omega) rfl (fun ho1 => ?_)
        refine Wl.gl 5 [] ?_
        refine Wl.lit (α := SV) 4 [⟨_, _, _⟩] rfl T.sl89 T.el94 rfl rfl rfl rfl rfl (fun b3 => ?_)
        refine Wl.append (α := SV) 3 rfl T.sl89 T.el94 rfl rfl rfl (by first | assumption | exact OwnA.nil | exact OwnA.made (by simp)) (Src.row 4 rfl) (by first | omega | (simp only [List.length_append, List.length_cons, List.length_nil, maxLen]; omega)) (by first | omega | (simp only [List.length_append, List.length_cons, List.length_nil, maxLen]; omega)) (fun a2 c2 junk2 ho2 => ?_)
        refine Wl.ga 9 [] ?_
        rotate_left
        · exact absurd hok hc1
        · refine Ar.re 7 rfl (show _ = Value.slice (some ⟨b2, 0, none⟩) (r2.set (p.code[((i : Nat) : Int).toNat]?.getD default).to.toNat s).length R by rw [List.length_set]) ?_
          refine Ar.again ((i + 1, G1, r2.set (p.code[((i : Nat) : Int).toNat]?.getD default).to.toNat s, rs.set (p.code[((i : Nat) : Int).toNat]?.getD default).to.toNat zs, st ++ [s], (a2, c2, junk2))) ?_ ?_ rfl ⟨rfl, rfl, rfl, rfl, trivial⟩ ⟨rfl, rfl, rfl, trivial⟩
          · have hx := doI_even (i := p.code[((i : Nat) : Int).toNat]?.getD default) he2 (by omega) (fun h => by have := m4 h; omega) (fun h => (m6 (by omega) (by omega) (by omega) (by omega)).2) hzs
            refine ⟨by omega, Imm.le_trans hgy hle1, by rw [List.length_set]; exact hr2, hg2.set _ hs, ?_, runTo_succ (x := []) hrun hzs, by assumption, by rw [List.length_append]; show st.length + 1 = i + 1; omega⟩
            rw [show 4 + 5 * (i + 1) = 5 + (4 + 5 * i) by omega]
            exact even_set (he2.mono (by omega)) hx _
          · show p.code.length - (i + 1) < p.code.length - i
            omega
    · have hie : i = p.code.length := by omega
      subst hie
      have hfo : followP p gs = some (outsOf p rs) := by unfold followP; rw [hrun]; rfl
      have hol : (outsOf p rs).length = p.outs.length := by unfold outsOf; rw [List.length_map]
      refine Wc.gc 28 [0, 0] ?_
      refine Wc.nilRow 4 (Row 94 ([] : List SV) []) ?_
      refine Wc.loop (ι := Nat × List SV × (Option Addr × Nat × List Value)) (fun (q, ol, (oo, od, oj)) => ([(14, .int .i64 (q : Int)), (13, .slice oo ol.length od), (9, Go.Value.slice o (List.length st) d), (7, Go.Value.slice (Option.some (Go.Addr.mk b2 0 Option.none)) (List.length r2) R), (2, Go.Value.pointer (Option.some (Go.Addr.mk b1 0 Option.none)))], [(4, oo.map (·.block), Row 94 ol oj), (3, Option.map (fun x => Go.Addr.block x) o, Go.Sl.Row (α := Go.Sl.SV) 94 (st) (j)), (1, Option.some b2, Go.Sl.Row (α := Go.Sl.SV) 94 (r2) ([])), (0, Option.some b1, Go.Obj.cells #[Go.Value.int Go.IntKind.i64 (Go.Proofs.YtelbhbbiejalhaaGreat.PV.ins p), Go.Value.int Go.IntKind.i64 (Go.Proofs.YtelbhbbiejalhaaGreat.PV.regs p), Go.Value.slice ac (List.length (Go.Proofs.YtelbhbbiejalhaaGreat.PV.code p)) cc, Go.Value.slice ao (List.length (Go.Proofs.YtelbhbbiejalhaaGreat.PV.outs p)) co] 29)])) (fun (q, ol, (oo, od, oj)) => q ≤ p.outs.length ∧ ol.length = q ∧ Grid Gy ol ((outsOf p rs).take q) ∧ OwnA oo od ol oj) (fun (q, ol, (oo, od, oj)) => p.outs.length - q) ((0, [], (none, 0, []))) (⟨Nat.zero_le _, rfl, by rw [List.take_zero]; exact Grid.nil _, OwnA.nil⟩) ⟨rfl, rfl, rfl, rfl, rfl, trivial⟩ ⟨rfl, rfl, rfl, rfl, trivial⟩ (fun ⟨q, ol, (oo, od, oj)⟩ => fun (hk : q ≤ p.outs.length ∧ ol.length = q ∧ Grid Gy ol ((outsOf p rs).take q) ∧ OwnA oo od ol oj) => ?_)
      obtain ⟨hq0, hql, hqg, hqo⟩ := hk
      rcases Nat.lt_or_ge q p.outs.length with hqc | hqc
      · have hmem : (p.outs[((q : Nat) : Int).toNat]?.getD default) ∈ p.outs := by
          rw [Int.toNat_natCast, List.getElem?_eq_getElem hqc]; exact List.getElem_mem hqc
        have hrr := f7 _ hmem
        have hrr2 : 0 ≤ (p.outs[((q : Nat) : Int).toNat]?.getD default) ∧ (p.outs[((q : Nat) : Int).toNat]?.getD default) < r2.length := by omega
        have hss := hg2.at hrr2
        refine Wc.gl 21 [0, 1, 0] ?_
        refine Wl.q rfl (Qy.at (α := Int) T.sl27 rfl rfl (by assumption) (by omega)) ?_
        refine Wl.q rfl (Qy.loadG T.one3 rfl (Arr.cell (by assumption) (by omega) 0 rfl rfl)) ?_
        refine Wl.q rfl (Qy.indexAddrO (α := SV) T.sl89 rfl rfl (by assumption) (by omega)) ?_
        refine Wl.q rfl (Qy.loadO 1 0 T.one94 rfl rfl (by assumption) (by omega) rfl rfl) ?_
        refine Wl.lit (α := SV) 5 [⟨_, _, _⟩] rfl T.sl89 T.el94 rfl rfl rfl rfl rfl (fun b3 => ?_)
        refine Wl.append (α := SV) 4 rfl T.sl89 T.el94 rfl rfl rfl (by first | assumption | exact OwnA.nil | exact OwnA.made (by simp)) (Src.row 5 rfl) (by first | omega | (simp only [List.length_append, List.length_cons, List.length_nil, maxLen]; omega)) (by first | omega | (simp only [List.length_append, List.length_cons, List.length_nil, maxLen]; omega)) (fun a1 c1 junk1 ho1 => ?_)
        refine Wl.ga 9 [] ?_
        refine Ar.again ((q + 1, ol ++ [r2[(p.outs[((q : Nat) : Int).toNat]?.getD default).toNat]?.getD default], (a1, c1, junk1))) ?_ ?_ rfl ⟨rfl, rfl, rfl, rfl, rfl, trivial⟩ ⟨rfl, rfl, rfl, rfl, trivial⟩
        · exact ⟨by omega, by rw [List.length_append]; show ol.length + 1 = q + 1; omega, by rw [outs_succ hqc]; exact hqg.snoc hss, by assumption⟩
        · show p.outs.length - (q + 1) < p.outs.length - q
          omega
      · refine Wc.ga 26 [0, 0] ?_
        rw [List.take_of_length_le (by omega)] at hqg
        refine Ar.freezeRow 4 rfl hqo (fun G9 hle9 hA => ?_)
        refine Ar.out3 (.inr rfl) (Ho := []) rfl (.tmp rfl) (.tmp rfl) (.tmp rfl) trivial ?_
        exact ⟨_, -1, _, rfl, fun h => (by rw [hfo] at h; cases h), fun os h => (by rw [hfo] at h; cases h; exact ⟨rfl, oo, od, ol, rfl, hA, hqg.up hle9⟩), rfl⟩
end Go.Proofs.YtelbhbbiejalhaaGreat
set_option maxRecDepth 100000
set_option linter.unusedVariables false
namespace Go.Proofs.YtelbhbbiejalhaaGreat
open Go Go.Sl
set_option maxHeartbeats 4000000
attribute [local irreducible] valB valL pb pw cmpZ lstWp p2 RightL powR
/-- few digits -/
def small (z : Int) : Prop := z.natAbs < 18446744073709551616
theorem Num.few {G : Imm} {x : IV} {z : Int} (h : Num G x z) (hz : small z) : x.n ≤ 4 := by
  obtain ⟨l, h1, _, _, h4⟩ := h
  rw [← h1]
  refine h4.len ?_
  have e : pw 4 = 18446744073709551616 := by unfold pw; decide
  unfold small at hz; omega
theorem small_pow {c : Int} {e : Nat} (hc : -16 ≤ c ∧ c ≤ 16) (he : e ≤ 15) : small (c ^ e) := by
  unfold small
  have e2 : (c ^ e).natAbs ≤ 16 ^ 15 := by
    rw [Int.natAbs_pow]
    exact Nat.le_trans (Nat.pow_le_pow_left (show c.natAbs ≤ 16 by omega) e) (Nat.pow_le_pow_right (by omega) he)
  have e3 : (16 : Nat) ^ 15 = 1152921504606846976 := by decide
  omega
theorem c109N (G : Imm) (x y : IV) (zx zy : Int) (hx : Num G x zx) (hy : Num G y zy) (bx : small zx) (bz : small zy) :
    Does Tryz.prog 109 [.agg #[.bool x.neg, .slice x.a x.n x.c], .agg #[.bool y.neg, .slice y.a y.n y.c]] G [] (fun v G' Ho => ∃ r : IV, v = .agg #[.bool r.neg, .slice r.a r.n r.c] ∧ Num G' r (zx * zy) ∧ Ho = []) := by
  have f1 := Num.few hx bx
  have f2 := Num.few hy bz
  obtain ⟨n1, a, k1, ca⟩ := x
  obtain ⟨n2, b, k2, cb⟩ := y
  obtain ⟨la, rfl, hla, hA, hx⟩ := hx
  obtain ⟨lb, rfl, hlb, hB, hy⟩ := hy
  exact c109 G n1 n2 a b ca cb la lb zx zy hA hB hx hy (Nat.le_trans f1 (by decide)) (Nat.le_trans f2 (by decide))
theorem c110 (G : Imm) (x : IV) (z : Int) (e : Nat) (hx : Num G x z) (hz : -16 ≤ z ∧ z ≤ 16) (he : e ≤ 15) :
    Does Tryz.prog 110 [.agg #[.bool x.neg, .slice x.a x.n x.c], .int .i64 e] G [] (fun v G' Ho => ∃ r : IV, v = .agg #[.bool r.neg, .slice r.a r.n r.c] ∧ Num G' r (z ^ e) ∧ Ho = []) := by
  refine Does.enter Tryz.func110 rfl Tryz.ntmps110 rfl (fun w => ?_)
  refine Wc.gl 2 [] ?_
  refine Wl.box 0 rfl rfl rfl (fun b1 => ?_)
  refine Wl.alloc 1 rfl T.zero97 (fun b2 => ?_)
  refine Wl.gl 4 [] ?_
  refine Wl.call 2 rfl T.fn45 rfl (c45 _ 1 (by decide)) (tags_of trivial) (fun v1 G1 Ho1 hle1 hp => ?_)
  obtain ⟨ro1, rfl, hro1, rfl⟩ := hp
  replace hx := hx.up hle1
  refine Wl.alloc 2 rfl T.zero97 (fun b3 => ?_)
  refine Wl.gc 10 [2] ?_
  refine Wc.loopG (ι := Nat × Imm × IV) (fun (k, Gx, r) => ([(6, .int .i64 (k : Int)), (5, Go.Value.pointer (Option.some (Go.Addr.mk b3 0 Option.none))), (4, Go.Value.pointer (Option.some (Go.Addr.mk b2 0 Option.none))), (2, Go.Value.pointer (Option.some (Go.Addr.mk b1 0 Option.none))), (1, Go.Value.int Go.IntKind.i64 (↑e : Int))], [(2, some b3, .cells #[.bool r.neg, .slice r.a r.n r.c] 97), (1, Option.some b2, Go.Obj.cells #[Go.Value.bool Bool.false, Go.Value.slice Option.none 0 0] 97), (0, Option.some b1, Go.Obj.cells #[Go.Value.bool (Go.Sl.IV.neg x), Go.Value.slice (Go.Sl.IV.a x) (Go.Sl.IV.n x) (Go.Sl.IV.c x)] 97)])) (fun (k, Gx, r) => Gx) (fun (k, Gx, r) => k ≤ e ∧ G1.le Gx ∧ Num Gx r (z ^ k)) (fun (k, Gx, r) => e - k) ((0, G1, ro1)) (⟨Nat.zero_le _, Imm.le_refl _, by rw [Int.pow_zero]; exact hro1⟩) rfl ⟨rfl, rfl, rfl, rfl, rfl, trivial⟩ ⟨rfl, rfl, rfl, trivial⟩ (fun ⟨k, Gx, r⟩ => fun (hk : k ≤ e ∧ G1.le Gx ∧ Num Gx r (z ^ k)) => ?_)
  obtain ⟨hk1, hk2, hk3⟩ := hk
  rcases Nat.lt_or_ge k e with hke | hke
  · have hx' := hx.up hk2
    have s1 : small (z ^ k) := small_pow hz (by omega)
    have s2 : small z := by unfold small; omega
    refine Wc.gl 16 [1, 2, 0] ?_
    refine Wl.call 3 rfl T.fn109 rfl (c109N _ r x (z ^ k) z (by assumption) (by assumption) s1 s2) (tags_of trivial) (fun v2 G2 Ho2 hle2 hp => ?_)
    obtain ⟨rt2, rfl, hrt2, rfl⟩ := hp
    replace hk3 := hk3.up hle2
    replace hx' := hx'.up hle2
    refine Wl.ga 9 [2] ?_
    refine Ar.re 6 rfl (show _ = Value.int .i64 ((k + 1 : Nat) : Int) from rfl) ?_
    refine Ar.again ((k + 1, _, rt2)) ?_ ?_ rfl ⟨rfl, rfl, rfl, rfl, rfl, trivial⟩ ⟨rfl, rfl, rfl, trivial⟩
    · exact ⟨by omega, Imm.le_trans hk2 (by assumption), by rw [Int.pow_succ]; exact hrt2⟩
    · show e - (k + 1) < e - k
      omega
  · have hke : k = e := by omega
    subst hke
    refine Wc.ga 21 [0, 2, 1] ?_
    refine Ar.out1 (.inr rfl) (Ho := Hp.only _ []) rfl (.agg 1 rfl rfl T.agg97) (Hp.sub_only _ _) ?_
    exact ⟨_, rfl, hk3, rfl⟩
theorem c110I (G : Imm) (x : IV) (z e : Int) (hx : Num G x z) (hz : -16 ≤ z ∧ z ≤ 16) (he : 0 ≤ e ∧ e ≤ 15) :
    Does Tryz.prog 110 [.agg #[.bool x.neg, .slice x.a x.n x.c], .int .i64 e] G [] (fun v G' Ho => ∃ r : IV, v = .agg #[.bool r.neg, .slice r.a r.n r.c] ∧ Num G' r (z ^ e.toNat) ∧ Ho = []) := by
  obtain ⟨k, rfl⟩ : ∃ k : Nat, e = (k : Int) := ⟨e.toNat, by omega⟩
  exact c110 G x z k hx hz (by omega)
theorem c74 (G : Imm) (a b : Int) (n : Nat) (hp : near a b) (hn : n ≤ 15) :
    Does Tryz.prog 74 [.agg #[.int .i64 a, .int .i64 b], .int .i64 n] G [] (fun v G' Ho => ∃ (s : Option Addr) (r : List IV) (c' : Nat), v = .slice s r.length c' ∧ Arr G' s r ∧ Nums G' r (powR a b n) ∧ r.length ≤ c' ∧ Ho = []) := by
  refine Does.enter Tryz.func74 rfl Tryz.ntmps74 rfl (fun w => ?_)
  refine Wc.nilRow 9 (Row 97 ([] : List IV) []) ?_
  refine Wc.gl 2 [] ?_
  refine Wl.box 10 rfl rfl rfl (fun b1 => ?_)
  refine Wl.gc 15 [] ?_
  refine Wc.loopG (ι := Nat × Imm × List IV × (Option Addr × Nat × List Value)) (fun (k, Gx, r, (o, d, j)) => ([(6, .int .i64 (k : Int)), (5, .slice o r.length d), (4, Go.Value.slice Option.none 0 0), (2, Go.Value.pointer (Option.some (Go.Addr.mk b1 0 Option.none))), (1, Go.Value.int Go.IntKind.i64 (↑n : Int))], [(9, o.map (·.block), Row 97 r j), (10, Option.some b1, Go.Obj.cells #[Go.Value.int Go.IntKind.i64 a, Go.Value.int Go.IntKind.i64 b] 34)])) (fun (k, Gx, r, (o, d, j)) => Gx) (fun (k, Gx, r, (o, d, j)) => k ≤ n ∧ G.le Gx ∧ r.length = k ∧ Nums Gx r ((powR a b n).take k) ∧ OwnA o d r j) (fun (k, Gx, r, (o, d, j)) => n - k) ((0, G, [], (none, 0, []))) (⟨Nat.zero_le _, Imm.le_refl _, rfl, by rw [List.take_zero]; exact Nums.nil _, OwnA.nil⟩) rfl ⟨rfl, rfl, rfl, rfl, rfl, trivial⟩ ⟨rfl, rfl, trivial⟩ (fun ⟨k, Gx, r, (o, d, j)⟩ => fun (hk : k ≤ n ∧ G.le Gx ∧ r.length = k ∧ Nums Gx r ((powR a b n).take k) ∧ OwnA o d r j) => ?_)
  obtain ⟨hk1, hk2, hk3, hk4, hk5⟩ := hk
  rcases Nat.lt_or_ge k n with hke | hke
  · have s1 : small (a ^ (k : Int).toNat) := small_pow (by unfold near at hp; omega) (by omega)
    have s2 : small (b ^ ((n : Int) - 1 - (k : Int)).toNat) := small_pow (by unfold near at hp; omega) (by omega)
    refine Wc.gc 13 [1] ?_
    refine Wc.draw [10, 9] [(9, 16)] T.mixed rfl ?_
    refine Gm.q 0 [] (by kernel_rfl) rfl rfl (Qy.move rfl) ?_
    refine Gm.q 1 [] (by kernel_rfl) rfl rfl (Qy.fieldAddr T.fa34_0 rfl) ?_
    refine Gm.q 2 [10] (by kernel_rfl) rfl rfl (Qy.load 10 T.one3 rfl rfl rfl) ?_
    refine Gm.q 4 [] (by kernel_rfl) rfl rfl (Qy.move rfl) ?_
    refine Gm.q 6 [] (by kernel_rfl) rfl rfl (Qy.fieldAddr T.fa34_1 rfl) ?_
    refine Gm.q 7 [10] (by kernel_rfl) rfl rfl (Qy.load 10 T.one3 rfl rfl rfl) ?_
    refine Gm.q 9 [] (by kernel_rfl) rfl rfl (Qy.move rfl) ?_
    refine Gm.q 10 [] (by kernel_rfl) rfl rfl (Qy.sub rfl rfl (by omega)) ?_
    refine Gm.q 11 [] (by kernel_rfl) rfl rfl (Qy.move rfl) ?_
    refine Gm.q 12 [] (by kernel_rfl) rfl rfl (Qy.sub rfl rfl (by omega)) ?_
    refine Gm.one 3 ⟨rfl, rfl, trivial⟩ (by first | exact Imm.le_refl _ | repeat (first | assumption | refine Imm.le_trans ?_ (by assumption))) (by kernel_rfl) rfl ?_
    refine Wl.call 11 rfl T.fn45 rfl (c45 _ _ (by unfold near at hp; omega)) (tags_of trivial) (fun v1 G1 Ho1 hle1 hp => ?_)
    obtain ⟨ro1, rfl, hro1, rfl⟩ := hp
    replace hk4 := hk4.up hle1
    refine Wl.on0 ?_
    refine Gm.one 5 ⟨rfl, rfl, trivial⟩ (by first | exact Imm.le_refl _ | repeat (first | assumption | refine Imm.le_trans ?_ (by assumption))) (by kernel_rfl) rfl ?_
    refine Wl.call 11 rfl T.fn110 rfl (c110I _ _ _ _ (by assumption) (by unfold near at hp; omega) (by omega)) (tags_of trivial) (fun v2 G2 Ho2 hle2 hp => ?_)
    obtain ⟨rp2, rfl, hrp2, rfl⟩ := hp
    replace hro1 := hro1.up hle2
    replace hk4 := hk4.up hle2
    refine Wl.on0 ?_
    refine Gm.one 8 ⟨rfl, rfl, trivial⟩ (by first | exact Imm.le_refl _ | repeat (first | assumption | refine Imm.le_trans ?_ (by assumption))) (by kernel_rfl) rfl ?_
    refine Wl.call 11 rfl T.fn45 rfl (c45 _ _ (by unfold near at hp; omega)) (tags_of trivial) (fun v3 G3 Ho3 hle3 hp => ?_)
    obtain ⟨ro3, rfl, hro3, rfl⟩ := hp
    replace hrp2 := hrp2.up hle3
    replace hro1 := hro1.up hle3
    replace hk4 := hk4.up hle3
    refine Wl.on0 ?_
    refine Gm.one 13 ⟨rfl, rfl, trivial⟩ (by first | exact Imm.le_refl _ | repeat (first | assumption | refine Imm.le_trans ?_ (by assumption))) (by kernel_rfl) rfl ?_
    refine Wl.call 11 rfl T.fn110 rfl (c110I _ _ _ _ (by assumption) (by unfold near at hp; omega) (by omega)) (tags_of trivial) (fun v4 G4 Ho4 hle4 hp => ?_)
    obtain ⟨rp4, rfl, hrp4, rfl⟩ := hp
    replace hro3 := hro3.up hle4
    replace hrp2 := hrp2.up hle4
    replace hro1 := hro1.up hle4
    replace hk4 := hk4.up hle4
    refine Wl.on0 ?_
    refine Gm.one 14 ⟨rfl, rfl, trivial⟩ (by first | exact Imm.le_refl _ | repeat (first | assumption | refine Imm.le_trans ?_ (by assumption))) (by kernel_rfl) rfl ?_
    refine Wl.call 11 rfl T.fn109 rfl (c109N _ _ _ _ _ hrp2 hrp4 s1 s2) (tags_of trivial) (fun v5 G5 Ho5 hle5 hp => ?_)
    obtain ⟨rt5, rfl, hrt5, rfl⟩ := hp
    replace hrp4 := hrp4.up hle5
    replace hro3 := hro3.up hle5
    replace hrp2 := hrp2.up hle5
    replace hro1 := hro1.up hle5
    replace hk4 := hk4.up hle5
    refine Wl.on0 ?_
    refine Gm.one 15 ⟨rfl, rfl, trivial⟩ (by first | exact Imm.le_refl _ | repeat (first | assumption | refine Imm.le_trans ?_ (by assumption))) (by kernel_rfl) rfl ?_
    refine Wl.lit (α := IV) 11 [⟨_, _, _, _⟩] rfl T.sl93 T.el97 rfl rfl rfl rfl rfl (fun b2 => ?_)
    refine Wl.on0 ?_
    refine Gm.one 16 ⟨rfl, rfl, trivial⟩ (by first | exact Imm.le_refl _ | repeat (first | assumption | refine Imm.le_trans ?_ (by assumption))) (by kernel_rfl) rfl ?_
    refine Wl.append (α := IV) 9 rfl T.sl93 T.el97 rfl rfl rfl (by first | assumption | exact OwnA.nil | exact OwnA.made (by simp)) (Src.row 11 rfl) (by first | omega | (simp only [List.length_append, List.length_cons, List.length_nil, maxLen]; omega)) (by first | omega | (simp only [List.length_append, List.length_cons, List.length_nil, maxLen]; omega)) (fun a1 c1 junk1 ho1 => ?_)
    refine Wl.on0 ?_
    refine Gm.q 17 [] (by kernel_rfl) rfl rfl (Qy.assign rfl) ?_
    refine Gm.doneA (by kernel_rfl) ⟨rfl, trivial⟩ (by first | exact Imm.le_refl _ | repeat (first | assumption | refine Imm.le_trans ?_ (by assumption))) ?_
    refine Ar.ga 7 [] ?_
    refine Ar.re 6 rfl (show _ = Value.int .i64 ((k + 1 : Nat) : Int) from rfl) ?_
    refine Ar.again ((k + 1, _, r ++ [rt5], (a1, c1, junk1))) ?_ ?_ rfl ⟨rfl, rfl, rfl, rfl, rfl, trivial⟩ ⟨rfl, rfl, trivial⟩
    · refine ⟨by omega, Imm.le_trans hk2 (by repeat (first | assumption | refine Imm.le_trans ?_ (by assumption))), by rw [List.length_append, hk3]; rfl, ?_, ho1⟩
      have e : (powR a b n).take (k + 1) = (powR a b n).take k ++ [a ^ (k : Int).toNat * b ^ ((n : Int) - 1 - (k : Int)).toNat] := by
        rw [List.take_add_one]
        congr 1
        unfold powR
        rw [List.getElem?_map, List.getElem?_range hke, Int.toNat_natCast, show ((n : Int) - 1 - (k : Int)).toNat = n - 1 - k by omega]; rfl
      rw [e]
      exact hk4.snoc hrt5
    · show n - (k + 1) < n - k
      omega
  · have hie : k = n := by omega
    subst hie
    have e : (powR a b k).take k = powR a b k := List.take_of_length_le (by unfold powR; simp)
    rw [e] at hk4
    refine Wc.ga 21 [0] ?_
    refine Ar.freezeRow 9 rfl hk5 (fun G8 hle8 hA8 => ?_)
    refine Ar.out1 (.inr rfl) (Ho := []) rfl (.tmp rfl) trivial ?_
    exact ⟨_, _, _, rfl, hA8, hk4.up hle8, hk5.le, rfl⟩
end Go.Proofs.YtelbhbbiejalhaaGreat
set_option maxRecDepth 100000
set_option linter.unusedVariables false
namespace Go.Proofs.YtelbhbbiejalhaaGreat
open Go Go.Sl
set_option maxHeartbeats 4000000
attribute [local irreducible] valB valL pb pw cmpZ lstWp p2 RightL powR
/-- a row of the reference's numbers, by its slice -/
def NRow (G : Imm) (s : SV) (zs : List Int) : Prop := ∃ l : List IV, l.length = s.n ∧ s.n ≤ s.c ∧ Arr G s.a l ∧ Nums G l zs
theorem NRow.up {G G' : Imm} {s : SV} {zs : List Int} (h : NRow G s zs) (hl : G.le G') : NRow G' s zs := by
  obtain ⟨l, h1, h2, h3, h4⟩ := h
  exact ⟨l, h1, h2, h3.up hl, h4.up hl⟩
def NGrid (G : Imm) (l : List SV) (rs : List (List Int)) : Prop := l.length = rs.length ∧ ∀ i : Nat, i < l.length → NRow G (l[i]?.getD default) (rs[i]?.getD [])
theorem NGrid.up {G G' : Imm} {l : List SV} {rs : List (List Int)} (h : NGrid G l rs) (hl : G.le G') : NGrid G' l rs := ⟨h.1, fun i hi => (h.2 i hi).up hl⟩
theorem NGrid.nil (G : Imm) : NGrid G [] [] := ⟨rfl, fun i hi => by simp at hi⟩
theorem NGrid.snoc {G : Imm} {l : List SV} {rs : List (List Int)} (h : NGrid G l rs) {s : SV} {zs : List Int} (hs : NRow G s zs) : NGrid G (l ++ [s]) (rs ++ [zs]) := by
  refine ⟨by rw [List.length_append, List.length_append, h.1]; rfl, fun i hi => ?_⟩
  rw [List.length_append, List.length_singleton] at hi
  rcases Nat.lt_or_ge i l.length with h1 | h1
  · rw [List.getElem?_append_left h1, List.getElem?_append_left (by rw [← h.1]; exact h1)]; exact h.2 i h1
  · have : i = l.length := by omega
    subst this
    rw [List.getElem?_append_right (Nat.le_refl _), List.getElem?_append_right (by rw [h.1]; exact Nat.le_refl _), Nat.sub_self, h.1, Nat.sub_self]
    exact hs
theorem c43 (G : Imm) (a : Option Addr) (c : Nat) (l : List R2) (ha : Arr G a l) (h1 : l.length ≤ 1048576) (hc : l.length ≤ c) (hr1 : l.length ≤ 15) (hr2 : ∀ i, i < l.length → okP (l[i]?.getD default)) :
    Does Tryz.prog 43 [.slice a l.length c] G [] (fun v G' Ho => ∃ (s : Option Addr) (r : List SV) (c' : Nat), v = .slice s r.length c' ∧ Arr G' s r ∧ NGrid G' r (gridR l) ∧ r.length ≤ c' ∧ Ho = []) := by
  refine Does.enter Tryz.func43 rfl Tryz.ntmps43 rfl (fun w => ?_)
  refine Wc.nilRow 9 (Row 94 ([] : List SV) []) ?_
  refine Wc.gc 17 [] ?_
  refine Wc.loopG (ι := Nat × Imm × List SV × (Option Addr × Nat × List Value)) (fun (i, Gx, r, (o, d, j)) => ([(4, .int .i64 (i : Int)), (3, .slice o r.length d), (2, Go.Value.slice Option.none 0 0), (0, Go.Value.slice a (List.length l) c)], [(9, o.map (·.block), Row 94 r j)])) (fun (i, Gx, r, (o, d, j)) => Gx) (fun (i, Gx, r, (o, d, j)) => i ≤ l.length ∧ G.le Gx ∧ r.length = i ∧ NGrid Gx r ((gridR l).take i) ∧ OwnA o d r j) (fun (i, Gx, r, (o, d, j)) => l.length - i) ((0, G, [], (none, 0, []))) (⟨Nat.zero_le _, Imm.le_refl _, rfl, by rw [List.take_zero]; exact NGrid.nil _, OwnA.nil⟩) rfl ⟨rfl, rfl, rfl, rfl, trivial⟩ ⟨rfl, trivial⟩ (fun ⟨i, Gx, r, (o, d, j)⟩ => fun (hk : i ≤ l.length ∧ G.le Gx ∧ r.length = i ∧ NGrid Gx r ((gridR l).take i) ∧ OwnA o d r j) => ?_)
  obtain ⟨hi1, hi2, hi3, hi4, hi5⟩ := hk
  replace ha := ha.up hi2
  rcases Nat.lt_or_ge i l.length with hil | hil
  · have hnear : near (l[((i : Nat) : Int).toNat]?.getD default).a (l[((i : Nat) : Int).toNat]?.getD default).b := (hr2 i hil).1
    refine Wc.gl 18 [1] ?_
    refine Wl.q rfl (Qy.at (α := R2) T.sl22 rfl rfl (by assumption) (by omega)) ?_
    refine Wl.q rfl (Qy.loadsG T.agg34 rfl (Arr.elem (by assumption) (by omega)) rfl) ?_
    refine Wl.ll0 2 [] ?_
    refine Wl.call 10 rfl T.fn74 rfl (c74 _ _ _ l.length hnear (by omega)) (tags_of trivial) (fun v1 G1 Ho1 hle1 hp => ?_)
    obtain ⟨ps1, pr1, pc1, rfl, hpA1, hpB1, hpL1, rfl⟩ := hp
    replace ha := ha.up hle1
    refine Wl.lit (α := SV) 10 [⟨_, _, _⟩] rfl T.sl89 T.el94 rfl rfl rfl rfl rfl (fun b1 => ?_)
    refine Wl.append (α := SV) 9 rfl T.sl89 T.el94 rfl rfl rfl (by first | assumption | exact OwnA.nil | exact OwnA.made (by simp)) (Src.row 10 rfl) (by first | omega | (simp only [List.length_append, List.length_cons, List.length_nil, maxLen]; omega)) (by first | omega | (simp only [List.length_append, List.length_cons, List.length_nil, maxLen]; omega)) (fun a1 c1 junk1 ho1 => ?_)
    refine Wl.ga 9 [] ?_
    refine Ar.re 4 rfl (show _ = Value.int .i64 ((i + 1 : Nat) : Int) from rfl) ?_
    refine Ar.again ((i + 1, _, r ++ [⟨ps1, pr1.length, pc1⟩], (a1, c1, junk1))) ?_ ?_ rfl ⟨rfl, rfl, rfl, rfl, trivial⟩ ⟨rfl, trivial⟩
    · refine ⟨by omega, Imm.le_trans hi2 (by assumption), by rw [List.length_append, hi3]; rfl, ?_, ho1⟩
      have e : (gridR l).take (i + 1) = (gridR l).take i ++ [powR (l[((i : Nat) : Int).toNat]?.getD default).a (l[((i : Nat) : Int).toNat]?.getD default).b l.length] := by
        rw [List.take_add_one]
        congr 1
        unfold gridR
        rw [List.getElem?_map, Int.toNat_natCast, List.getElem?_eq_getElem hil]; rfl
      rw [e]
      exact NGrid.snoc (by first | assumption | exact hi4.up (by assumption)) ⟨pr1, rfl, hpL1, hpA1, hpB1⟩
    · show l.length - (i + 1) < l.length - i
      omega
  · have hie : i = l.length := by omega
    subst hie
    have e : (gridR l).take l.length = gridR l := List.take_of_length_le (by unfold gridR; rw [List.length_map]; exact Nat.le_refl _)
    rw [e] at hi4
    refine Wc.ga 22 [0] ?_
    refine Ar.freezeRow 9 rfl hi5 (fun G8 hle8 hA8 => ?_)
    refine Ar.out1 (.inr rfl) (Ho := []) rfl (.tmp rfl) trivial ?_
    exact ⟨_, _, _, rfl, hA8, hi4.up hle8, hi5.le, rfl⟩
end Go.Proofs.YtelbhbbiejalhaaGreat
set_option maxRecDepth 100000
set_option linter.unusedVariables false
namespace Go.Proofs.YtelbhbbiejalhaaGreat
open Go Go.Sl
set_option maxHeartbeats 4000000
theorem follow_none (G : Imm) (p : PV) (ac ao ga : Option Addr) (cc co gc : Nat) (gl : List SV) (gs : List (List Int)) (N : Nat) (hc : Arr G ac p.code) (ho : Arr G ao p.outs) (hga : Arr G ga gl) (hgg : Grid G gl gs) (hev : Even 4 N gs) (hN : N ≤ 1048576) (hR : rightP p = true) (hgi : (gl.length : Int) = p.ins) (hcl : p.code.length ≤ 16384) (hf : followP p gs = none) :
    Does Tryz.prog 42 [.agg #[.int .i64 p.ins, .int .i64 p.regs, .slice ac p.code.length cc, .slice ao p.outs.length co], .slice ga gl.length gc] G [] (fun v G' Ho => ∃ sv bad, v = .tuple #[sv, .int .i64 bad, .slice none 0 0] ∧ 0 ≤ bad ∧ Ho = []) := by
  refine (c42 G p ac ao ga cc co gc gl gs N hc ho hga hgg hev hN hR hgi hcl).mono fun v G' Ho _ ⟨sv, bad, ov, e, h1, h2, h3⟩ => ?_
  obtain ⟨e1, e2⟩ := h1 hf
  subst e2
  exact ⟨sv, bad, e, e1, h3⟩
theorem follow_some (G : Imm) (p : PV) (ac ao ga : Option Addr) (cc co gc : Nat) (gl : List SV) (gs : List (List Int)) (N : Nat) (hc : Arr G ac p.code) (ho : Arr G ao p.outs) (hga : Arr G ga gl) (hgg : Grid G gl gs) (hev : Even 4 N gs) (hN : N ≤ 1048576) (hR : rightP p = true) (hgi : (gl.length : Int) = p.ins) (hcl : p.code.length ≤ 16384) (os : List (List Int)) (hf : followP p gs = some os) :
    Does Tryz.prog 42 [.agg #[.int .i64 p.ins, .int .i64 p.regs, .slice ac p.code.length cc, .slice ao p.outs.length co], .slice ga gl.length gc] G [] (fun v G' Ho => ∃ sv oa oc ol, v = .tuple #[sv, .int .i64 (-1), .slice oa ol.length oc] ∧ Arr G' oa ol ∧ Grid G' ol os ∧ Ho = []) := by
  refine (c42 G p ac ao ga cc co gc gl gs N hc ho hga hgg hev hN hR hgi hcl).mono fun v G' Ho _ ⟨sv, bad, ov, e, h1, h2, h3⟩ => ?_
  obtain ⟨e1, oa, oc, ol, e2, e3, e4⟩ := h2 os hf
  subst e1 e2
  exact ⟨sv, oa, oc, ol, e, e3, e4, h3⟩
theorem follow_len {p : PV} {gs os : List (List Int)} (h : followP p gs = some os) : os.length = p.outs.length := by
  unfold followP at h
  obtain ⟨rs, h1, h2⟩ := Option.map_eq_some_iff.1 h
  subst h2
  unfold outsOf; rw [List.length_map]
theorem row_same (G : Imm) (s t : SV) (xs ys : List Int) (hs : RowS G s xs) (ht : RowS G t ys) (m : Nat) (hm : m ≤ 1073741824) (bx : Go.Sl.Below m xs) (by' : Go.Sl.Below m ys) (h1 : s.n ≤ 1048576) (h2 : t.n ≤ 1048576) :
    Does Tryz.prog 46 [.slice s.a s.n s.c, .slice t.a t.n t.c] G [] (fun v G' Ho => v = .bool (decide (xs = ys)) ∧ G' = G ∧ Ho = []) := by
  obtain ⟨sa, sn, sc⟩ := s
  obtain ⟨ta, tn, tc⟩ := t
  obtain ⟨l, hl, hc, hA, hN⟩ := hs
  obtain ⟨l', hl', hc', hA', hN'⟩ := ht
  simp only at hl hc hA h1 hl' hc' hA' h2
  subst hl hl'
  exact c46 G sa ta sc tc l l' xs ys hA hA' hN hN' m hm bx by' (by omega) (by omega)
theorem run_even {p : PV} {gs : List (List Int)} {N : Nat} (hR : rightP p = true) (hev : Even 4 N gs) (h0 : 0 < gs.length) : ∀ (k : Nat) (rs : List (List Int)), k ≤ p.code.length → runTo p gs k = some rs → Even (4 + 5 * k) N rs ∧ rs.length = p.regs.toNat
  | 0, rs, _, h => by
    cases h
    exact ⟨even_regs0 hev h0, regs0_len p gs⟩
  | k + 1, rs, hk, h => by
    obtain ⟨f1, f2, f3, f4, f5, f6, f7, f8⟩ := right_facts hR
    unfold runTo at h
    obtain ⟨rs0, h1, h2⟩ := Option.bind_eq_some_iff.1 h
    obtain ⟨y, h3, h4⟩ := Option.map_eq_some_iff.1 h2
    obtain ⟨he, hl⟩ := run_even hR hev h0 k rs0 (by omega) h1
    subst h4
    have hmem : (p.code[((k : Nat) : Int).toNat]?.getD default) ∈ p.code := by
      rw [Int.toNat_natCast, List.getElem?_eq_getElem (by omega)]; exact List.getElem_mem _
    obtain ⟨m1, m2, m3, m4, m5, m6, m7, m8⟩ := may_facts (f8 _ hmem)
    have hx := doI_even (i := p.code[((k : Nat) : Int).toNat]?.getD default) he (by omega) (fun h => by have := m4 h; omega) (fun h => (m6 (by omega) (by omega) (by omega) (by omega)).2) h3
    refine ⟨?_, by rw [List.length_set]; exact hl⟩
    rw [show 4 + 5 * (k + 1) = 5 + (4 + 5 * k) by omega]
    exact even_set (he.mono (by omega)) hx _
theorem follow_even {p : PV} {gs os : List (List Int)} {N : Nat} (hR : rightP p = true) (hev : Even 4 N gs) (h0 : 0 < gs.length) (h : followP p gs = some os) : Even (4 + 5 * p.code.length) N os := by
  obtain ⟨f1, f2, f3, f4, f5, f6, f7, f8⟩ := right_facts hR
  unfold followP at h
  obtain ⟨rs, h1, h2⟩ := Option.map_eq_some_iff.1 h
  obtain ⟨he, hl⟩ := run_even hR hev h0 _ rs (Nat.le_refl _) h1
  subst h2
  intro zs hz
  unfold outsOf at hz
  obtain ⟨r, hr, rfl⟩ := List.mem_map.1 hz
  exact he.at (k := r) (by have := f7 r hr; omega)
theorem ngrid_grid {G : Imm} {l : List SV} {rs : List (List Int)} (h : NGrid G l rs) : Grid G l rs := ⟨h.1, h.2⟩
theorem gridR_lenN (l : List R2) : (gridR l).length = l.length := by unfold gridR; rw [List.length_map]
theorem powR_even {a b : Int} {n : Nat} (h : near a b) (hn : n ≤ 15) : (powR a b n).length = n ∧ Go.Sl.Below 4 (powR a b n) := by
  refine ⟨by unfold powR; rw [List.length_map, List.length_range], fun z hz => ?_⟩
  unfold powR at hz
  obtain ⟨k, hk, rfl⟩ := List.mem_map.1 hz
  have hk := List.mem_range.1 hk
  have e4 : pw 4 = 18446744073709551616 := by unfold pw; decide
  have e : (a ^ k * b ^ (n - 1 - k)).natAbs ≤ 16 ^ 15 := by
    rw [Int.natAbs_mul, Int.natAbs_pow, Int.natAbs_pow]
    refine Nat.le_trans (Nat.mul_le_mul (Nat.pow_le_pow_left (show a.natAbs ≤ 16 by unfold near at h; omega) k) (Nat.pow_le_pow_left (show b.natAbs ≤ 16 by unfold near at h; omega) _)) ?_
    rw [← Nat.pow_add]
    exact Nat.pow_le_pow_right (by omega) (by omega)
  have e3 : (16 : Nat) ^ 15 = 1152921504606846976 := by decide
  omega
theorem gridR_even {l : List R2} (h1 : l.length ≤ 15) (hr : ∀ i, i < l.length → near (l[i]?.getD default).a (l[i]?.getD default).b) : Even 4 l.length (gridR l) := fun zs hz => by
  unfold gridR at hz
  obtain ⟨p, hp, rfl⟩ := List.mem_map.1 hz
  obtain ⟨i, hi, rfl⟩ := List.mem_iff_getElem.1 hp
  have := hr i hi
  rw [List.getElem?_eq_getElem hi] at this
  have this : near l[i].a l[i].b := this
  exact powR_even this h1
/-- the row with a one at j -/
def unitR (n j : Nat) : List Int := (List.replicate n 0).set j 1
theorem unit_nums {G : Imm} {n j : Nat} {x : IV} (hx : Num G x 1) (hj : j < n) : Nums G ((List.replicate n (default : IV)).set j x) (unitR n j) := by
  unfold unitR
  refine ⟨by rw [List.length_set, List.length_set, List.length_replicate, List.length_replicate], fun i hi => ?_⟩
  rw [List.length_set, List.length_replicate] at hi
  rw [List.getElem?_set, List.getElem?_set]
  by_cases h : j = i
  · subst h
    rw [if_pos rfl, if_pos rfl, if_pos (by rw [List.length_replicate]; exact hj), if_pos (by rw [List.length_replicate]; exact hj)]
    exact hx
  · rw [if_neg h, if_neg h, List.getElem?_replicate, List.getElem?_replicate, if_pos hi, if_pos hi]
    exact Num.zero G
theorem unit_below (n j m : Nat) (hm : 1 ≤ m) : Go.Sl.Below m (unitR n j) := by
  have h1 : pw 1 = 65536 := by unfold pw; decide
  refine Go.Sl.Below.mono (m := 1) (fun z hz => ?_) hm
  unfold unitR at hz
  rcases List.mem_or_eq_of_mem_set hz with h | h
  · rw [List.eq_of_mem_replicate h, h1]; decide
  · rw [h, h1]; decide
/-- does a program interpolate there? -/
def InterpP (p : PV) (l : List R2) : Prop := rightP p = true ∧ p.ins = l.length ∧ p.outs.length = l.length ∧ followP p (gridR l) = some ((List.range l.length).map (unitR l.length))
instance (p : PV) (l : List R2) : Decidable (InterpP p l) := inferInstanceAs (Decidable (_ ∧ _))
attribute [local irreducible] valB valL pb pw cmpZ lstWp p2 powR gridR followP rightP
theorem c44W (G : Imm) (n : Nat) (hn : n ≤ 1048576) :
    Does Tryz.prog 44 [.int .i64 (n : Int)] G [] (fun v G' Ho => ∃ b, v = .slice (some ⟨b, 0, none⟩) (List.replicate n (default : IV)).length n ∧ G' = G ∧ OwnA (some ⟨b, 0, none⟩) n (List.replicate n (default : IV)) [] ∧ Ho = [(0, some b, Row 97 (List.replicate n (default : IV)) [])]) := by
  refine Does.enter Tryz.func44 rfl Tryz.ntmps44 rfl (fun w => ?_)
  refine Wc.gl 8 [] ?_
  refine Wl.make (α := IV) 0 rfl T.sl94 T.el97 rfl rfl (by omega) (by omega) (fun b1 => ?_)
  refine Wl.ga 4 [] ?_
  have e : (List.replicate ((n : Int)).toNat (default : IV)).length = n := by rw [List.length_replicate]; omega
  refine Ar.out1 (.inr rfl) (Ho := [(0, some b1, Row 97 (List.replicate n (default : IV)) [])]) rfl (.tmp rfl) ⟨rfl, trivial⟩ ?_
  refine ⟨b1, by simp, rfl, .inr ⟨b1, rfl, by rw [List.length_replicate]; rfl, by rw [List.length_replicate]; exact Nat.le_refl _, by simp only [maxLen]; omega⟩, rfl⟩
theorem c19 (G : Imm) (p : PV) (ac ao a : Option Addr) (cc co c : Nat) (l : List R2) (hc : Arr G ac p.code) (ho : Arr G ao p.outs) (ha : Arr G a l) (hcl : p.code.length ≤ 16384) (hol : p.outs.length ≤ 1099511627776) (hlc : l.length ≤ c) (hr0 : 1 ≤ l.length) (hr1 : l.length ≤ 15) (hr2 : ∀ i, i < l.length → okP (l[i]?.getD default)) :
    Does Tryz.prog 19 [.agg #[.int .i64 p.ins, .int .i64 p.regs, .slice ac p.code.length cc, .slice ao p.outs.length co], .slice a l.length c] G [] (fun v G' Ho => v = .bool (decide (InterpP p l)) ∧ Ho = []) := by
  have hr : ∀ i, i < l.length → near (l[i]?.getD default).a (l[i]?.getD default).b := fun i hi => (hr2 i hi).1
  have hev := gridR_even hr1 hr
  refine Does.enter Tryz.func19 rfl Tryz.ntmps19 rfl (fun w => ?_)
  refine Wc.gl 2 [] ?_
  refine Wl.box 0 rfl rfl rfl (fun b1 => ?_)
  refine Wl.gl 6 [0] ?_
  refine Wl.call0 rfl T.fn18 rfl (c18 _ p _ _ _ _ (by assumption) (by assumption) (by omega) (by omega)) ?_
  refine Wl.gl 7 [] ?_
  refine Wl.q rfl (Qy.notD rfl) ?_
  refine Wl.q rfl (Qy.move rfl) ?_
  apply Wl.joinOr 6 15 21 rfl
  intro hg1
  refine Wl.ll0 11 [0] ?_
  exact Wl.back 6 0 rfl rfl rfl rfl rfl
  intro hg1
  refine Wl.ll0 6 [] ?_
  exact Wl.back 6 0 rfl rfl rfl rfl rfl
  refine Wl.q rfl (Qy.move rfl) ?_
  apply Wl.joinOr 7 22 29 rfl
  intro hg1
  refine Wl.ll0 13 [0] ?_
  exact Wl.back 7 0 rfl rfl rfl rfl rfl
  intro hg1
  refine Wl.ll0 7 [] ?_
  exact Wl.back 7 0 rfl rfl rfl rfl rfl
  refine Wl.gc 2 [] ?_
  refine Wc.cond rfl (fun hc1 => ?_) (fun hc1 => ?_)
  refine Wc.ga 7 [] ?_
  rotate_left
  refine Wc.gc 3 [] ?_
  refine Wc.draw [0] [(0, 3)] T.mixed rfl ?_
  refine Gm.q 0 [0] (by kernel_rfl) rfl rfl (Qy.loadAll 0 T.agg29 rfl rfl rfl) ?_
  refine Gm.q 1 [] (by kernel_rfl) rfl rfl (Qy.move rfl) ?_
  refine Gm.one 2 ⟨rfl, trivial⟩ (by first | exact Imm.le_refl _ | repeat (first | assumption | refine Imm.le_trans ?_ (by assumption))) (by kernel_rfl) rfl ?_
  refine Wl.call 1 rfl T.fn43 rfl (c43 _ _ _ l (by assumption) (by omega) hlc hr1 hr2) (tags_of trivial) (fun v1 G1 Ho1 hle1 hp => ?_)
  obtain ⟨ws1, wr1, wc1, rfl, hwA1, hwB1, hwL1, rfl⟩ := hp
  replace hc := hc.up hle1
  replace ho := ho.up hle1
  replace ha := ha.up hle1
  refine Wl.on0 ?_
  refine Gm.one 3 ⟨rfl, trivial⟩ (by first | exact Imm.le_refl _ | repeat (first | assumption | refine Imm.le_trans ?_ (by assumption))) (by kernel_rfl) rfl ?_
  rotate_left
  · refine Ar.out1 (.inr rfl) (Ho := []) rfl (.tmp rfl) trivial ?_
    refine ⟨?_, rfl⟩
    congr 1
    refine (decide_eq_false fun h => ?_).symm
    obtain ⟨h1, h2, h3, _⟩ := h
    rcases hc1 with (h | h) | h
    · exact h h1
    · exact h h2
    · omega
  have hR : rightP p = true := Classical.byContradiction fun h => hc1 (.inl (.inl h))
  have hpi : p.ins = l.length := Classical.byContradiction fun h => hc1 (.inl (.inr h))
  have hpo : p.outs.length = l.length := Classical.byContradiction fun h => hc1 (.inr (by omega))
  have hwl : wr1.length = l.length := hwB1.1.trans (gridR_lenN l)
  cases hf : followP p (gridR l) with
  | none =>
    refine Wl.call 1 rfl T.fn42 rfl (follow_none _ p _ _ _ _ _ _ _ (gridR l) l.length (by assumption) (by assumption) (by assumption) (ngrid_grid hwB1) hev (by omega) hR (by omega) hcl hf) (tags_of trivial) (fun v2 G2 Ho2 hle2 hp => ?_)
    obtain ⟨sv2, bad2, rfl, hbad2, rfl⟩ := hp
    replace hwA1 := hwA1.up hle2
    replace hc := hc.up hle2
    replace ho := ho.up hle2
    replace ha := ha.up hle2
    refine Wl.on0 ?_
    refine Gm.q 4 [] (by kernel_rfl) rfl rfl (Qy.move rfl) ?_
    refine Gm.q 5 [] (by kernel_rfl) rfl rfl (Qy.extract rfl rfl) ?_
    refine Gm.q 6 [] (by kernel_rfl) rfl rfl (Qy.extract rfl rfl) ?_
    refine Gm.q 7 [] (by kernel_rfl) rfl rfl (Qy.extract rfl rfl) ?_
    refine Gm.q 8 [] (by kernel_rfl) rfl rfl (Qy.assign rfl) ?_
    refine Gm.q 9 [] (by kernel_rfl) rfl rfl (Qy.assign rfl) ?_
    refine Gm.q 10 [] (by kernel_rfl) rfl rfl (Qy.assign rfl) ?_
    refine Gm.doneA (by kernel_rfl) trivial (by first | exact Imm.le_refl _ | repeat (first | assumption | refine Imm.le_trans ?_ (by assumption))) ?_
    refine Ar.ga 16 [1] ?_
    refine Ar.out1 (.inr rfl) (Ho := []) rfl (.tmp rfl) trivial ?_
    refine ⟨?_, rfl⟩
    congr 1
    refine (decide_eq_false fun h => ?_).symm
    have h4 := h.2.2.2
    rw [hf] at h4
    cases h4
  | some os =>
    refine Wl.call 1 rfl T.fn42 rfl (follow_some _ p _ _ _ _ _ _ _ (gridR l) l.length (by assumption) (by assumption) (by assumption) (ngrid_grid hwB1) hev (by omega) hR (by omega) hcl os hf) (tags_of trivial) (fun v2 G2 Ho2 hle2 hp => ?_)
    obtain ⟨sv2, oa2, oc2, ol2, rfl, hoA2, hoG2, rfl⟩ := hp
    replace hwA1 := hwA1.up hle2
    replace hc := hc.up hle2
    replace ho := ho.up hle2
    replace ha := ha.up hle2
    refine Wl.on0 ?_
    refine Gm.q 4 [] (by kernel_rfl) rfl rfl (Qy.move rfl) ?_
    refine Gm.q 5 [] (by kernel_rfl) rfl rfl (Qy.extract rfl rfl) ?_
    refine Gm.q 6 [] (by kernel_rfl) rfl rfl (Qy.extract rfl rfl) ?_
    refine Gm.q 7 [] (by kernel_rfl) rfl rfl (Qy.extract rfl rfl) ?_
    refine Gm.q 8 [] (by kernel_rfl) rfl rfl (Qy.assign rfl) ?_
    refine Gm.q 9 [] (by kernel_rfl) rfl rfl (Qy.assign rfl) ?_
    refine Gm.q 10 [] (by kernel_rfl) rfl rfl (Qy.assign rfl) ?_
    refine Gm.doneA (by kernel_rfl) trivial (by first | exact Imm.le_refl _ | repeat (first | assumption | refine Imm.le_trans ?_ (by assumption))) ?_
    refine Ar.gc 18 [0] ?_
    have hol2 : ol2.length = l.length := by rw [hoG2.1, follow_len hf, hpo]
    have hose := follow_even hR hev (by rw [gridR_lenN]; omega) hf
    refine Wc.loopG (ι := Nat × Imm) (fun (j, Gx) => ([(9, .int .i64 (j : Int)), (8, Go.Value.slice oa2 (List.length ol2) oc2), (1, Go.Value.slice a (List.length l) c)], [(0, Option.some b1, Go.Obj.cells #[Go.Value.int Go.IntKind.i64 (Go.Proofs.YtelbhbbiejalhaaGreat.PV.ins p), Go.Value.int Go.IntKind.i64 (Go.Proofs.YtelbhbbiejalhaaGreat.PV.regs p), Go.Value.slice ac (List.length (Go.Proofs.YtelbhbbiejalhaaGreat.PV.code p)) cc, Go.Value.slice ao (List.length (Go.Proofs.YtelbhbbiejalhaaGreat.PV.outs p)) co] 29)])) (fun (j, Gx) => Gx) (fun (j, Gx) => j ≤ l.length ∧ G2.le Gx ∧ (∀ i, i < j → os[i]?.getD [] = unitR l.length i)) (fun (j, Gx) => l.length - j) ((0, G2)) (⟨Nat.zero_le _, Imm.le_refl _, fun i h => absurd h (by omega)⟩) rfl ⟨rfl, rfl, rfl, trivial⟩ ⟨rfl, trivial⟩ (fun ⟨j, Gx⟩ => fun (hk : j ≤ l.length ∧ G2.le Gx ∧ (∀ i, i < j → os[i]?.getD [] = unitR l.length i)) => ?_)
    obtain ⟨hj1, hj2, hj3⟩ := hk
    replace ha := ha.up hj2
    replace hoA2 := hoA2.up hj2
    rcases Nat.lt_or_ge j l.length with hjl | hjl
    · refine Wc.gl 18 [1] ?_
      refine Wl.call 20 rfl T.fn44 rfl (c44W _ l.length (by omega)) (tags_of trivial) (fun v3 G3 Ho3 hle3 hp => ?_)
      obtain ⟨ub, rfl, rfl, huo, rfl⟩ := hp
      refine Wl.gl 7 [] ?_
      refine Wl.call 21 rfl T.fn45 rfl (c45 _ 1 (by decide)) (tags_of trivial) (fun v4 G4 Ho4 hle4 hp => ?_)
      obtain ⟨ro4, rfl, hro4, rfl⟩ := hp
      replace ha := ha.up hle4
      replace hoA2 := hoA2.up hle4
      refine Wl.q rfl (Qy.indexAddrO (α := IV) T.sl94 rfl rfl huo (by rw [List.length_replicate]; omega)) ?_
      refine Wl.setO (α := IV) (z := ro4) 20 T.size97 rfl rfl rfl huo (by rw [List.length_replicate]; omega) rfl (fun huo2 => ?_)
      refine Wl.gl 6 [] ?_
      refine Wl.q rfl (Qy.at (α := SV) T.sl89 rfl rfl (by assumption) (by omega)) ?_
      refine Wl.q rfl (Qy.loadG T.one94 rfl (Arr.cell (by assumption) (by omega) 0 rfl rfl)) ?_
      refine Wl.q rfl (Qy.move rfl) ?_
      have hRow : RowS G4 (ol2[((j : Nat) : Int).toNat]?.getD default) (os[j]?.getD []) := (hoG2.up (Imm.le_trans hj2 hle4)).2 j (by omega)
      have hose2 : (os[j]?.getD []).length = l.length ∧ Go.Sl.Below (4 + 5 * p.code.length) (os[j]?.getD []) := hose.at (k := (j : Int)) (by rw [follow_len hf]; omega)
      refine Wl.callB 30 rfl T.fn46 rfl (fun Gy hGy hgy => row_same Gy (ol2[((j : Nat) : Int).toNat]?.getD default) ⟨some ⟨ub, 0, none⟩, (List.replicate l.length (default : IV)).length, l.length⟩ (os[j]?.getD []) (unitR l.length j) (hRow.up hGy)
        ⟨(List.replicate l.length (default : IV)).set j ro4, by rw [List.length_set], by rw [List.length_replicate]; exact Nat.le_refl _, Arr.own hgy 20 rfl huo2, unit_nums (hro4.up hGy) hjl⟩ (4 + 5 * p.code.length) (by omega) hose2.2 (unit_below _ _ _ (by omega)) ?_ ?_) (fun v5 Gy5 G5 Ho5 hle5 hp => ?_)
      · obtain ⟨q, hq1, _, _, hq4⟩ := hRow
        rw [← hq1, hq4.1, hose2.1]; omega
      · show (List.replicate l.length (default : IV)).length ≤ 1048576
        rw [List.length_replicate]; omega
      · obtain ⟨rfl, rfl, rfl⟩ := hp
        refine Wl.q rfl (Qy.notD rfl) ?_
        refine Wl.gc 2 [] ?_
        refine Wc.cond rfl (fun hc2 => ?_) (fun hc2 => ?_)
        refine Wc.ga 11 [] ?_
        rotate_left
        refine Wc.ga 8 [] ?_
        rotate_left
        · refine Ar.out1 (.inr rfl) (Ho := []) rfl (.tmp rfl) trivial ?_
          refine ⟨?_, rfl⟩
          congr 1
          refine (decide_eq_false fun h => ?_).symm
          have h4 := h.2.2.2
          rw [hf] at h4
          have h5 : os = (List.range l.length).map (unitR l.length) := Option.some.inj h4
          refine hc2 ?_
          rw [h5, List.getElem?_map, List.getElem?_range hjl]; rfl
        · refine Ar.re 9 rfl (show _ = Value.int .i64 ((j + 1 : Nat) : Int) from rfl) ?_
          refine Ar.again ((j + 1, _)) ?_ ?_ rfl ⟨rfl, rfl, rfl, trivial⟩ ⟨rfl, trivial⟩
          · refine ⟨hjl, Imm.le_trans hj2 hle4, fun i hi => ?_⟩
            rcases Nat.lt_or_ge i j with h | h
            · exact hj3 i h
            · have e : i = j := by omega
              subst e
              exact Classical.byContradiction fun h => hc2 h
          · show l.length - (j + 1) < l.length - j
            omega
    · have hje : j = l.length := by omega
      subst hje
      refine Wc.ga 21 [0] ?_
      refine Ar.out1 (.inr rfl) (Ho := []) rfl (.tmp rfl) trivial ?_
      refine ⟨?_, rfl⟩
      congr 1
      refine (decide_eq_true ⟨hR, hpi, hpo, ?_⟩).symm
      rw [hf]
      congr 1
      have hosl : os.length = l.length := by rw [follow_len hf, hpo]
      apply List.ext_getElem
      · rw [hosl, List.length_map, List.length_range]
      · intro i h1 h2
        have h3 := hj3 i (by omega)
        rw [List.getElem?_eq_getElem h1] at h3
        rw [List.getElem_map, List.getElem_range]
        exact h3
end Go.Proofs.YtelbhbbiejalhaaGreat
set_option maxRecDepth 100000
set_option linter.unusedVariables false
namespace Go.Proofs.YtelbhbbiejalhaaGreat
open Go Go.Sl
set_option maxHeartbeats 4000000
attribute [local irreducible] valB pb cmpZ lstWp p2 cst doI
theorem c71 (G : Imm) (n : Nat) (hn : n ≤ 4096) :
    Does Tryz.prog 71 [.int .i64 (n : Int)] G [] (fun v G' Ho => ∃ b, v = .tuple #[.slice (some ⟨b, 0, none⟩) (List.replicate n (default : IV)).length n, .int .i64 0] ∧ G' = G ∧ Ho = [(0, some b, Row 37 (List.replicate n (default : IV)) [])]) := by
  refine Does.enter Tryz.func71 rfl Tryz.ntmps71 rfl (fun w => ?_)
  refine Wc.gl 12 [] ?_
  refine Wl.no 6 rfl (by first | assumption | omega) ?_
  refine Wl.gl 13 [0] ?_
  refine Wl.make (α := IV) 0 rfl T.sl42 T.el37 rfl rfl (by omega) (by omega) (fun b1 => ?_)
  refine Wl.ga 5 [] ?_
  refine Ar.out2 (.inr rfl) (Ho := [(0, some b1, Row 37 (List.replicate n (default : IV)) [])]) rfl (.tmp rfl) (.tmp rfl) ⟨rfl, trivial⟩ ?_
  exact ⟨b1, by simp, rfl, rfl⟩
theorem c40 (G : Imm) (n j : Nat) (hn : n ≤ 4096) (hj : j < n) :
    Does Tryz.prog 40 [.int .i64 (n : Int), .int .i64 (j : Int)] G [] (fun v G' Ho => ∃ s l d, v = .tuple #[.slice s (List.length l) d, .int .i64 0] ∧ Arr G' s l ∧ List.length l = n ∧ n ≤ d ∧ Bigs G' l (unitR n j) ∧ Ho = []) := by
  refine Does.enter Tryz.func40 rfl Tryz.ntmps40 rfl (fun w => ?_)
  refine Wc.gl 9 [] ?_
  refine Wl.call 0 rfl T.fn71 rfl (c71 _ n hn) (tags_of trivial) (fun v1 G1 Ho1 hle1 hp => ?_)
  obtain ⟨b1, rfl, rfl, rfl⟩ := hp
  have ho3 : OwnA (some ⟨b1, 0, none⟩) n (List.replicate n (default : IV)) [] := .inr ⟨b1, rfl, by rw [List.length_replicate]; rfl, by rw [List.length_replicate]; exact Nat.le_refl _, by simp only [maxLen]; omega⟩
  obtain ⟨r0, hr0⟩ : ∃ r0, r0 = List.replicate n (default : IV) := ⟨_, rfl⟩
  have lr0 : r0.length = n := by rw [hr0, List.length_replicate]
  rw [← hr0] at ho3 ⊢
  refine Wl.gl 22 [0] ?_
  refine Wl.no 20 rfl (by first | assumption | omega) ?_
  refine Wl.gl 18 [0] ?_
  refine Wl.call 1 rfl T.fn10 rfl (c10 _ _ (by decide)) (tags_of trivial) (fun v2 G2 Ho2 hle2 hp => ?_)
  obtain ⟨ri2, rfl, hri2, rfl⟩ := hp
  refine Wl.q rfl (Qy.indexAddrO (α := IV) T.sl42 rfl rfl (by assumption) (by omega)) ?_
  refine Wl.setO (z := ri2) (m := ((j : Nat) : Int)) 0 T.size37 rfl rfl rfl ho3 (by omega) rfl (fun ho1 => ?_)
  have hB : Bigs G2 (r0.set j ri2) (unitR n j) := by
    rw [hr0]; unfold unitR
    exact (Bigs.zeros G2 n).set j hri2
  have hl9 : (r0.set j ri2).length = n := by rw [List.length_set]; exact lr0
  rw [Int.toNat_natCast] at ho1 ⊢
  obtain ⟨r9, hr9⟩ : ∃ r9, r9 = r0.set j ri2 := ⟨_, rfl⟩
  rw [← hr9] at ho1 hB hl9 ⊢
  refine Wl.ga 10 [] ?_
  refine Ar.freezeRow 0 rfl ho1 (fun G3 hle3 hA3 => ?_)
  refine Ar.re 4 rfl (show _ = Value.slice (some ⟨b1, 0, none⟩) r9.length n by rw [hl9, lr0]) ?_
  refine Ar.out2 (.inr rfl) (Ho := Hp.only _ []) rfl (.tmp rfl) (.tmp rfl) (Hp.sub_only _ _) ?_
  exact ⟨_, r9, n, rfl, hA3, hl9, Nat.le_refl _, hB.up hle3, rfl⟩
end Go.Proofs.YtelbhbbiejalhaaGreat
set_option maxRecDepth 100000
set_option linter.unusedVariables false
namespace Go.Proofs.YtelbhbbiejalhaaGreat
open Go Go.Sl
set_option maxHeartbeats 4000000
theorem pb2_pw4 : pb 2 = pw 4 := by unfold pb pw; decide
theorem even_evenB {N : Nat} {gs : List (List Int)} (h : Even 4 N gs) : EvenB 2 N gs := fun zs hz => ⟨(h zs hz).1, fun z hz' => by rw [pb2_pw4]; exact (h zs hz).2 z hz'⟩
theorem unit_belowB (n j : Nat) : Below 2 (unitR n j) := fun z hz => by
  rw [pb2_pw4]; exact unit_below n j 4 (by omega) z hz
/-- the rows are the units'? -/
theorem units_eq {os : List (List Int)} {n : Nat} (hl : os.length = n) : (os = (List.range n).map (unitR n)) ↔ ∀ t : Nat, t < n → os[t]?.getD [] = unitR n t := by
  constructor
  · intro h t ht
    rw [h, List.getElem?_map, List.getElem?_range ht]; rfl
  · intro h
    refine List.ext_getElem? fun i => ?_
    rcases Nat.lt_or_ge i n with h1 | h1
    · have := h i h1
      rw [List.getElem?_eq_getElem (by omega)] at this ⊢
      rw [List.getElem?_map, List.getElem?_range h1]
      show some os[i] = some (unitR n i)
      rw [← this]; rfl
    · rw [List.getElem?_eq_none (by omega), List.getElem?_eq_none (by rw [List.length_map, List.length_range]; omega)]
attribute [local irreducible] valB pb pw cmpZ lstWp p2 cst doI followP gridR rightP unitR
theorem c38P (G : Imm) (p : PV) (ac ao : Option Addr) (cc co : Nat) (hc : Arr G ac p.code) (ho : Arr G ao p.outs) (h1 : p.code.length ≤ 1099511627776) (h2 : p.outs.length ≤ 1099511627776) (hP : ¬ rightP p = true) :
    Does Tryz.prog 38 [.agg #[.int .i64 p.ins, .int .i64 p.regs, .slice ac p.code.length cc, .slice ao p.outs.length co]] G [] (fun v G' Ho => v = .tuple #[.int .i64 (checkP p).1, .int .i64 80] ∧ G' = G ∧ Ho = []) := by
  have hf : (checkP p).2 = true := by unfold rightP at hP; simpa using hP
  have h := c38 G p ac ao cc co hc ho h1 h2
  rw [hf] at h
  exact h
theorem c17P (G : Imm) (p : PV) (ac ao : Option Addr) (cc co : Nat) (a : Option Addr) (c : Nat) (l : List R2) (hc : Arr G ac p.code) (ho : Arr G ao p.outs) (hcl : p.code.length ≤ 1099511627776) (hol : p.outs.length ≤ 1099511627776) (ha : Arr G a l) (hac : l.length ≤ c) (hl : l.length ≤ 1048576) (hR : RightL l) (hP : ¬ rightP p = true) :
    Does Tryz.prog 17 [.agg #[.int .i64 p.ins, .int .i64 p.regs, .slice ac p.code.length cc, .slice ao p.outs.length co], .slice a l.length c] G [] (fun v G' Ho => v = .tuple #[.bool false, .int .i64 80] ∧ Ho = []) := by
  have hl15 := hR.2.1
  refine Does.enter Tryz.func17 rfl Tryz.ntmps17 rfl (fun w => ?_)
  refine Wc.gl 2 [] ?_
  refine Wl.box 0 rfl rfl rfl (fun b1 => ?_)
  refine Wl.gl 7 [] ?_
  refine Wl.k 1 rfl (c37R _ a c l (by assumption) (by omega) hac hR hl15 hR.2.2.1) (fun v1 G1 Ho1 hle1 hp => ?_)
  obtain ⟨gs1, gr1, gc1, rfl, hga1, hgb1, hgc1, rfl⟩ := hp
  replace hc := hc.up hle1
  replace ho := ho.up hle1
  replace ha := ha.up hle1
  refine Wl.gl 21 [0, 0] ?_
  refine Wl.k0 rfl (c38P _ p _ _ _ _ (by assumption) (by assumption) hcl hol hP) ?_
  refine Wl.ga 22 [1] ?_
  refine Ar.e2 ?_
  exact ⟨rfl, rfl⟩
theorem c17Y (G : Imm) (p : PV) (ac ao : Option Addr) (cc co : Nat) (a : Option Addr) (c : Nat) (l : List R2) (hc : Arr G ac p.code) (ho : Arr G ao p.outs) (hcl : p.code.length ≤ 1099511627776) (hol : p.outs.length ≤ 1099511627776) (ha : Arr G a l) (hac : l.length ≤ c) (hl : l.length ≤ 1048576) (hR : RightL l) (hP : rightP p = true) :
    Does Tryz.prog 17 [.agg #[.int .i64 p.ins, .int .i64 p.regs, .slice ac p.code.length cc, .slice ao p.outs.length co], .slice a l.length c] G [] (fun v G' Ho => v = .tuple #[.bool (decide (InterpP p l)), .int .i64 0] ∧ Ho = []) := by
  have hl1 := hR.1
  have hl15 := hR.2.1
  have hev := even_evenB (gridR_even hl15 (fun i hi => (hR.2.2.1 i hi).1))
  have hgl := gridR_lenN l
  obtain ⟨f1, f2, f3, f4, f5, f6, f7, f8⟩ := right_facts hP
  refine Does.enter Tryz.func17 rfl Tryz.ntmps17 rfl (fun w => ?_)
  by_cases hI : p.ins = l.length
  · by_cases hO : p.outs.length = l.length
    · refine Wc.gl 2 [] ?_
      refine Wl.box 0 rfl rfl rfl (fun b1 => ?_)
      refine Wl.gl 7 [] ?_
      refine Wl.k 1 rfl (c37R _ a c l (by assumption) (by omega) hac hR hl15 hR.2.2.1) (fun v1 G1 Ho1 hle1 hp => ?_)
      obtain ⟨gs1, gr1, gc1, rfl, hga1, hgb1, hgc1, rfl⟩ := hp
      replace hc := hc.up hle1
      replace ho := ho.up hle1
      replace ha := ha.up hle1
      refine Wl.gl 21 [0, 0] ?_
      refine Wl.k0 rfl (c38R _ p _ _ _ _ (by assumption) (by assumption) hcl hol hP) ?_
      refine Wl.gl 24 [0, 0] ?_
      refine Wl.no 35 rfl (by first | assumption | omega) ?_
      refine Wl.gl 22 [0, 0, 0] ?_
      refine Wl.k 20 rfl (c39 _ p ac ao gs1 cc co gc1 gr1 (gridR l) 2 l.length (by assumption) (by assumption) (by assumption) (by assumption) hev (by omega) (by omega) hP (by rw [hgb1.1, hgl, hI])) (fun v9 G9 Ho9 hle9 hp => ?_)
      obtain ⟨rfl, ⟨os, ob, orr, oc, hfo, rfl, hoA, hol9, hoB, hoE⟩ | ⟨hno, k9, rfl⟩⟩ := hp
      · have hos := follow_len hfo
        have hoL := hoB.1
        replace ha := ha.up hle9
        have hiff : InterpP p l ↔ ∀ t : Nat, t < l.length → os[t]?.getD [] = unitR l.length t := by
          rw [← units_eq (by omega)]
          unfold InterpP
          rw [hfo]
          exact ⟨fun h => Option.some.inj h.2.2.2, fun h => ⟨hP, hI, hO, by rw [h]⟩⟩
        refine Wl.gc 28 [0] ?_
        refine Wc.loopG (ι := Nat × Imm) (fun (i, Gx) => ([(54, .int .i64 (i : Int)), (53, Go.Value.int Go.IntKind.i64 (↑(List.length orr) : Int)), (52, Go.Value.slice ob (List.length orr) oc), (1, Go.Value.slice a (List.length l) c)], [(0, Option.some b1, Go.Obj.cells #[Go.Value.int Go.IntKind.i64 (Go.Proofs.YtelbhbbiejalhaaGreat.PV.ins p), Go.Value.int Go.IntKind.i64 (Go.Proofs.YtelbhbbiejalhaaGreat.PV.regs p), Go.Value.slice ac (List.length (Go.Proofs.YtelbhbbiejalhaaGreat.PV.code p)) cc, Go.Value.slice ao (List.length (Go.Proofs.YtelbhbbiejalhaaGreat.PV.outs p)) co] 29)])) (fun (i, Gx) => Gx) (fun (i, Gx) => i ≤ l.length ∧ G9.le Gx ∧ ∀ t : Nat, t < i → os[t]?.getD [] = unitR l.length t) (fun (i, Gx) => l.length - i) ((0, G9)) (⟨Nat.zero_le _, Imm.le_refl _, fun t ht => by omega⟩) rfl ⟨rfl, rfl, rfl, rfl, trivial⟩ ⟨rfl, trivial⟩ (fun ⟨i, Gx⟩ => fun (hk : i ≤ l.length ∧ G9.le Gx ∧ ∀ t : Nat, t < i → os[t]?.getD [] = unitR l.length t) => ?_)
        obtain ⟨hi0, hgx, hall⟩ := hk
        replace hoA := hoA.up hgx
        rcases Nat.lt_or_ge i l.length with hil | hil
        · obtain ⟨l1, a1, a2, a3, a4⟩ := (hoB.up hgx).2 i (by omega)
          have hE1 := hoE.at (k := i) (by omega)
          refine Wc.gl 14 [1] ?_
          refine Wl.q rfl (Qy.at (α := SV) T.sl78 rfl rfl (by assumption) (by omega)) ?_
          refine Wl.q rfl (Qy.loadG T.one42 rfl (Arr.cell (by assumption) (by omega) 0 rfl rfl)) ?_
          refine Wl.gl 9 [] ?_
          refine Wl.k 20 rfl (c40 _ l.length i (by omega) hil) (fun v1 G2 Ho1 hle2 hp => ?_)
          obtain ⟨s2, l2, d2, rfl, hA2, hl2, hd2, hB2, rfl⟩ := hp
          refine Wl.gl 11 [] ?_
          refine Wl.re 66 rfl (show _ = Value.slice (orr[i]?.getD default).a l1.length (orr[i]?.getD default).c by rw [a1]; rfl) ?_
          refine Wl.k 20 rfl (c15 _ _ _ _ _ l1 l2 (os[i]?.getD []) (unitR l.length i) (a3.up hle2) hA2 (a4.up hle2) hB2 (by rw [a4.1, hE1.1]; omega) (by omega) (2 + 3 * p.code.length) (by omega) hE1.2 ((unit_belowB _ _).mono (by omega))) (fun v1 G3 Ho1 hle3 hp => ?_)
          obtain ⟨rfl, rfl, rfl⟩ := hp
          by_cases he : os[i]?.getD [] = unitR l.length i
          · have he2 : ¬ ¬ (os[i]?.getD [] = unitR l.length i) := fun h => h he
            refine Wl.q rfl (Qy.notD rfl) ?_
            refine Wl.ga 10 [0] ?_
            refine Ar.again ((i + 1, G3)) ?_ ?_ rfl ⟨rfl, rfl, rfl, rfl, trivial⟩ ⟨rfl, trivial⟩
            · refine ⟨by omega, Imm.le_trans hgx hle2, fun t ht => ?_⟩
              rcases Nat.lt_or_ge t i with h1 | h1
              · exact hall t h1
              · have e : t = i := by omega
                rw [e]; exact he
            · show l.length - (i + 1) < l.length - i
              omega
          · have hnI : ¬ InterpP p l := fun h => he (hiff.1 h i hil)
            refine Wl.q rfl (Qy.notD rfl) ?_
            refine Wl.ga 15 [1] ?_
            refine Ar.e2 ?_
            exact ⟨by rw [decide_eq_false hnI], rfl⟩
        · have hyI : InterpP p l := hiff.2 (fun t ht => hall t (by omega))
          refine Wc.ga 19 [0] ?_
          refine Ar.e2 ?_
          exact ⟨by rw [decide_eq_true hyI], rfl⟩
      · have hnI : ¬ InterpP p l := fun h => by have := h.2.2.2; rw [hno] at this; cases this
        refine Wl.ga 25 [1] ?_
        refine Ar.e2 ?_
        exact ⟨by rw [decide_eq_false hnI], rfl⟩
    · have hnI : ¬ InterpP p l := fun h => hO h.2.2.1
      refine Wc.gl 2 [] ?_
      refine Wl.box 0 rfl rfl rfl (fun b1 => ?_)
      refine Wl.gl 7 [] ?_
      refine Wl.k 1 rfl (c37R _ a c l (by assumption) (by omega) hac hR hl15 hR.2.2.1) (fun v1 G1 Ho1 hle1 hp => ?_)
      obtain ⟨gs1, gr1, gc1, rfl, hga1, hgb1, hgc1, rfl⟩ := hp
      replace hc := hc.up hle1
      replace ho := ho.up hle1
      replace ha := ha.up hle1
      refine Wl.gl 21 [0, 0] ?_
      refine Wl.k0 rfl (c38R _ p _ _ _ _ (by assumption) (by assumption) hcl hol hP) ?_
      refine Wl.gl 24 [0, 0] ?_
      refine Wl.no 35 rfl (by first | assumption | omega) ?_
      refine Wl.ga 24 [0, 1] ?_
      refine Ar.e2 ?_
      all_goals exact ⟨by rw [decide_eq_false hnI], rfl⟩
  · have hnI : ¬ InterpP p l := fun h => hI h.2.1
    refine Wc.gl 2 [] ?_
    refine Wl.box 0 rfl rfl rfl (fun b1 => ?_)
    refine Wl.gl 7 [] ?_
    refine Wl.k 1 rfl (c37R _ a c l (by assumption) (by omega) hac hR hl15 hR.2.2.1) (fun v1 G1 Ho1 hle1 hp => ?_)
    obtain ⟨gs1, gr1, gc1, rfl, hga1, hgb1, hgc1, rfl⟩ := hp
    replace hc := hc.up hle1
    replace ho := ho.up hle1
    replace ha := ha.up hle1
    refine Wl.gl 21 [0, 0] ?_
    refine Wl.k0 rfl (c38R _ p _ _ _ _ (by assumption) (by assumption) hcl hol hP) ?_
    refine Wl.gl 24 [0, 0] ?_
    refine Wl.yes 35 rfl (by first | assumption | omega) ?_
    refine Wl.ga 18 [1] ?_
    refine Ar.e2 ?_
    all_goals exact ⟨by rw [decide_eq_false hnI], rfl⟩
end Go.Proofs.YtelbhbbiejalhaaGreat
set_option maxRecDepth 100000
set_option linter.unusedVariables false
set_option linter.unusedSectionVars false
set_option linter.unusedSimpArgs false
namespace Go.Proofs.YtelbhbbiejalhaaGreat
open Go Go.Sl
set_option maxHeartbeats 4000000
attribute [local irreducible] RightL RightR gridR InterpP rightP
theorem right_live : RightL [⟨0, 1⟩] := by
  unfold RightL
  refine ⟨by simp, by simp, fun i hi => ?_, ?_⟩
  · have : i = 0 := by simp at hi; omega
    subst this
    show okP ⟨0, 1⟩
    unfold okP near
    simp
  · rintro ⟨j, hj, i, hi, _⟩
    simp at hj; omega
theorem c20L (G : Imm) (a : Option Addr) (c : Nat) (ha : Arr G a [(⟨0, 1⟩ : R2)]) (hc : 1 ≤ c) : Does Tryz.prog 20 [.slice a [(⟨0, 1⟩ : R2)].length c] G [] (fun v G' Ho => v = .bool true ∧ G' = G ∧ Ho = []) :=
  c20Y G a c _ ha (by simp) (by simpa using hc) right_live
theorem c6 (G : Imm) : Does Tryz.prog 6 [] G [] (fun v G' Ho => v = .bool true ∧ G' = G ∧ Ho = []) := by
  refine Does.enter Tryz.func6 rfl Tryz.ntmps6 rfl (fun w => ?_)
  refine Wc.gl 7 [] ?_
  refine Wl.q rfl (Qy.build (cs := [_, _]) T.st34 rfl rfl rfl) ?_
  refine Wl.lit (α := R2) 0 [⟨0, 1⟩] rfl T.sl22 T.el34 rfl rfl rfl rfl rfl (fun b1 => ?_)
  refine Wl.callB 1 rfl T.fn20 rfl (fun Gx hGx hgx => (c20L _ _ _ (by first | exact Arr.up (by assumption) hGx | exact Arr.nil _ | exact Arr.own hgx 0 rfl (by first | assumption | exact OwnA.made (by simp [maxLen]))) (by omega))) (fun v1 Gx1 G1 Ho1 hlx1 hp => ?_)
  obtain ⟨rfl, rfl, rfl⟩ := hp
  refine Wl.ga 4 [] ?_
  refine Ar.out1 (.inr rfl) (Ho := []) rfl (.tmp rfl) trivial ?_
  exact ⟨rfl, rfl, rfl⟩
theorem c7Y (G : Imm) (a : Option Addr) (c : Nat) (l : List R2) (ha : Arr G a l) (h1 : l.length ≤ 1048576) (hc : l.length ≤ c) (hR : RightL l) : Does Tryz.prog 7 [.slice a l.length c] G [] (fun v G' Ho => v = .bool true ∧ G' = G ∧ Ho = []) :=
  (c7 G a c l ha h1 hc).mono fun v G' Ho _ ⟨b, e1, e2, e3, e4⟩ => ⟨by rw [e1, e2.2 ((right_iff l).1 hR)], e3, e4⟩
theorem c7N (G : Imm) (a : Option Addr) (c : Nat) (l : List R2) (ha : Arr G a l) (h1 : l.length ≤ 1048576) (hc : l.length ≤ c) (hR : ¬ RightL l) : Does Tryz.prog 7 [.slice a l.length c] G [] (fun v G' Ho => v = .bool false ∧ G' = G ∧ Ho = []) :=
  (c7 G a c l ha h1 hc).mono fun v G' Ho _ ⟨b, e1, e2, e3, e4⟩ => ⟨by rw [e1]; congr 1; cases b; { rfl }; exact absurd ((right_iff l).2 (e2.1 rfl)) hR, e3, e4⟩
section
variable (G : Imm) (p : PV) (ac ao : Option Addr) (cc co : Nat) (a : Option Addr) (c : Nat) (l : List R2) (hc : Arr G ac p.code) (ho : Arr G ao p.outs) (hcl : p.code.length ≤ 1099511627776) (hol : p.outs.length ≤ 1099511627776) (ha : Arr G a l) (hac : l.length ≤ c) (hl : l.length ≤ 1048576)
include hc ho hcl hol
theorem c18Y (hP : rightP p = true) : Does Tryz.prog 18 [.agg #[.int .i64 p.ins, .int .i64 p.regs, .slice ac p.code.length cc, .slice ao p.outs.length co]] G [] (fun v G' Ho => v = .bool true ∧ G' = G ∧ Ho = []) := by
  have h := c18 G p ac ao cc co hc ho hcl hol
  rw [decide_eq_true hP] at h; exact h
theorem c18N (hP : ¬ rightP p = true) : Does Tryz.prog 18 [.agg #[.int .i64 p.ins, .int .i64 p.regs, .slice ac p.code.length cc, .slice ao p.outs.length co]] G [] (fun v G' Ho => v = .bool false ∧ G' = G ∧ Ho = []) := by
  have h := c18 G p ac ao cc co hc ho hcl hol
  rw [decide_eq_false hP] at h; exact h
include ha hac hl
theorem c17T (hR : RightL l) (hP : rightP p = true) (hI : InterpP p l) : Does Tryz.prog 17 [.agg #[.int .i64 p.ins, .int .i64 p.regs, .slice ac p.code.length cc, .slice ao p.outs.length co], .slice a l.length c] G [] (fun v G' Ho => v = .tuple #[.bool true, .int .i64 0] ∧ Ho = []) := by
  have h := c17Y G p ac ao cc co a c l hc ho hcl hol ha hac hl hR hP
  rw [decide_eq_true hI] at h; exact h
theorem c17F (hR : RightL l) (hP : rightP p = true) (hI : ¬ InterpP p l) : Does Tryz.prog 17 [.agg #[.int .i64 p.ins, .int .i64 p.regs, .slice ac p.code.length cc, .slice ao p.outs.length co], .slice a l.length c] G [] (fun v G' Ho => v = .tuple #[.bool false, .int .i64 0] ∧ Ho = []) := by
  have h := c17Y G p ac ao cc co a c l hc ho hcl hol ha hac hl hR hP
  rw [decide_eq_false hI] at h; exact h
theorem c19T (hcl2 : p.code.length ≤ 16384) (h1 : 1 ≤ l.length) (h15 : l.length ≤ 15) (hr2 : ∀ i, i < l.length → okP (l[i]?.getD default)) (hI : InterpP p l) : Does Tryz.prog 19 [.agg #[.int .i64 p.ins, .int .i64 p.regs, .slice ac p.code.length cc, .slice ao p.outs.length co], .slice a l.length c] G [] (fun v G' Ho => v = .bool true ∧ Ho = []) := by
  have h := c19 G p ac ao a cc co c l hc ho ha hcl2 hol hac h1 h15 hr2
  rw [decide_eq_true hI] at h; exact h
theorem c19F (hcl2 : p.code.length ≤ 16384) (h1 : 1 ≤ l.length) (h15 : l.length ≤ 15) (hr2 : ∀ i, i < l.length → okP (l[i]?.getD default)) (hI : ¬ InterpP p l) : Does Tryz.prog 19 [.agg #[.int .i64 p.ins, .int .i64 p.regs, .slice ac p.code.length cc, .slice ao p.outs.length co], .slice a l.length c] G [] (fun v G' Ho => v = .bool false ∧ Ho = []) := by
  have h := c19 G p ac ao a cc co c l hc ho ha hcl2 hol hac h1 h15 hr2
  rw [decide_eq_false hI] at h; exact h
end
/-- the law's answer -/
def LawTrue (v : Value) (G' : Imm) (Ho : Hp) : Prop := v = .bool true ∧ Ho = []
section
variable (G : Imm) (p : PV) (ac ao : Option Addr) (cc co : Nat) (a : Option Addr) (c : Nat) (l : List R2) (hc : Arr G ac p.code) (ho : Arr G ao p.outs) (hcl : p.code.length ≤ 1048576) (hol : p.outs.length ≤ 1048576) (ha : Arr G a l) (hac : l.length ≤ c) (hl : l.length ≤ 1048576)
include hc ho hcl hol ha hac hl
end
end Go.Proofs.YtelbhbbiejalhaaGreat
set_option linter.unusedVariables false
namespace Go.Sl
open Go
section
variable {P : Program} {B : Bs} {e : Env} {D : List Deferred} {H H' : Hp} {G : Imm}
end
/-- two blocks ahead of others -/
abbrev Hp.two (x y : Option Nat × Obj) (T : Hp) : Hp := (0, x) :: (1, y) :: T.shift 2
section
variable {P : Program} {ops : Array Oper} {rest : List Oper} {B : Bs} {e : Env} {D : List Deferred} {H : Hp} {G : Imm} {K : Act → World → Prop}
  {ty : TypeId} {pos : String} {after : Array Edge} {d : Nat}
end
section
variable {P : Program} {B : Bs} {e : Env} {D : List Deferred} {H : Hp} {G : Imm}
theorem Ar.againGT {ι : Type} {I : ι → Env × Hp} {T : ι → Hp} {g : ι → Imm} {k : Nat} {φ : ι → Prop} {μ : ι → Nat} {m : Nat} {Q : Exit → Act → World → Prop} (j : ι) (hφ : φ j) (hμ : μ j < m) (hg : G = g j)
    (he : e.sub (I j).1) (hH : H.sub (I j).2) (ht : H.tl k (T j)) : Ar (Exit.then (Again B (fun i => ⟨(I i).1, D, (I i).2 ++ (T i).shift k, g i⟩) φ μ m) Q) .normal B ⟨e, D, H, G⟩ :=
  fun a w hh => ⟨j, hφ, hμ, by rw [hg] at hh; exact hh.cutT he hH ht⟩
end
section stmt
variable {P : Program} {B : Bs} {e : Env} {D : List Deferred} {H : Hp} {G : Imm}
variable {β γ ι : Type} {Q : Exit → Act → World → Prop} {f : FuncId} {caps : List Value} {enc : β → γ → List Value} {o1 o2 : β → γ → Option Nat × Obj} {good : β → γ → Prop} {xs : List β} {ps : List Nat} {assign body : Code} {g : Operand}
end stmt
section
variable {P : Program} {e : Env} {H : Hp} {G : Imm} {ty : TypeId}
end
end Go.Sl
set_option maxRecDepth 100000
set_option linter.unusedVariables false
namespace Go.Proofs.YtelbhbbiejalhaaGreat
open Go Go.Sl
set_option maxHeartbeats 4000000
/-- 0 to n - 1 -/
def idx (n : Nat) : List Int := (List.range n).map fun (k : Nat) => (k : Int)
theorem idx_len (n : Nat) : (idx n).length = n := by unfold idx; rw [List.length_map, List.length_range]
theorem idx_succ (n : Nat) : idx (n + 1) = idx n ++ [(n : Int)] := by unfold idx; rw [List.range_succ, List.map_append]; rfl
theorem c25 (G : Imm) (n : Nat) (hn : n ≤ 1048576) :
    Does Tryz.prog 25 [.int .i64 (n : Int)] G [] (fun v G' Ho => ∃ (s : Option Addr) (c : Nat), v = .slice s (idx n).length c ∧ Arr G' s (idx n) ∧ (idx n).length ≤ c ∧ Ho = []) := by
  refine Does.enter Tryz.func25 rfl Tryz.ntmps25 rfl (fun w => ?_)
  refine Wc.nilRow 9 (Row 3 ([] : List Int) []) ?_
  refine Wc.gc 18 [] ?_
  refine Wc.loop (ι := Nat × (Option Addr × Nat × List Value)) (fun (k, (o, d, j)) => ([(6, .int .i64 (k : Int)), (3, .slice o (idx k).length d), (5, Go.Value.int Go.IntKind.i64 (↑n : Int)), (2, Go.Value.slice Option.none 0 0)], [(9, o.map (·.block), Row 3 (idx k) j)])) (fun (k, (o, d, j)) => k ≤ n ∧ OwnA o d (idx k) j) (fun (k, (o, d, j)) => n - k) ((0, (none, 0, []))) (⟨Nat.zero_le _, OwnA.nil⟩) ⟨rfl, rfl, rfl, rfl, trivial⟩ ⟨rfl, trivial⟩ (fun ⟨k, (o, d, j)⟩ => fun (hk : k ≤ n ∧ OwnA o d (idx k) j) => ?_)
  obtain ⟨hk1, hk2⟩ := hk
  have hkl := idx_len k
  rcases Nat.lt_or_ge k n with hke | hke
  · refine Wc.gl 20 [1] ?_
    refine Wl.lit (α := Int) 10 [((↑k : Int))] rfl T.sl27 T.el3 rfl rfl rfl rfl rfl (fun b1 => ?_)
    refine Wl.append (α := Int) 9 rfl T.sl27 T.el3 rfl rfl rfl (by first | assumption | exact OwnA.nil | exact OwnA.made (by simp)) (Src.row 10 rfl) (by first | omega | (simp only [List.length_append, List.length_cons, List.length_nil, maxLen]; omega)) (by first | omega | (simp only [List.length_append, List.length_cons, List.length_nil, maxLen]; omega)) (fun a1 c1 junk1 ho1 => ?_)
    refine Wl.ga 8 [] ?_
    refine Ar.re 6 rfl (show _ = Value.int .i64 ((k + 1 : Nat) : Int) from rfl) ?_
    refine Ar.re 3 rfl (show _ = Value.slice a1 (idx (k + 1)).length c1 by rw [idx_succ]) ?_
    refine Ar.reH 9 (Row 3 (idx (k + 1)) junk1) rfl (by rw [idx_succ]) ?_
    refine Ar.again ((k + 1, (a1, c1, junk1))) ?_ ?_ rfl ⟨rfl, rfl, rfl, rfl, trivial⟩ ⟨rfl, trivial⟩
    · exact ⟨hke, by rw [idx_succ]; exact ho1⟩
    · show n - (k + 1) < n - k
      omega
  · have hke : k = n := by omega
    subst hke
    refine Wc.ga 19 [0] ?_
    refine Ar.freezeRow 9 rfl hk2 (fun G8 hle8 hA8 => ?_)
    refine Ar.out1 (.inr rfl) (Ho := []) rfl (.tmp rfl) trivial ?_
    exact ⟨_, _, rfl, hA8, hk2.le, rfl⟩
/-- how many points have coordinates with a common factor -/
def uneven (l : List R2) : Nat := (l.filter fun p => decide (Int.gcd p.a p.b ≠ 1)).length
end Go.Proofs.YtelbhbbiejalhaaGreat
set_option maxRecDepth 100000
set_option linter.unusedVariables false
namespace Go.Proofs.YtelbhbbiejalhaaGreat
open Go Go.Sl
set_option maxHeartbeats 4000000
/-- a division? -/
def isDiv (i : Sl.Instr) : Prop := i.op = 6 ∨ i.op = 8
instance (i : Sl.Instr) : Decidable (isDiv i) := inferInstanceAs (Decidable (_ ∨ _))
/-- a constant that is too great -/
def farC (i : Sl.Instr) : Prop := (i.op = 6 ∨ i.op = 5) ∧ (512 < i.c ∨ i.c < -512)
instance (i : Sl.Instr) : Decidable (farC i) := inferInstanceAs (Decidable (_ ∧ _))
def divs (c : List Sl.Instr) : Nat := (c.filter fun i => decide (isDiv i)).length
/-- no more divisions than allowed, constants within reach -/
def FewP (p : PV) (l : List R2) : Prop := (∀ i ∈ p.code, ¬ farC i) ∧ (divs p.code : Int) ≤ (l.length : Int) * ((l.length : Int) - 1) / 2 + ((l.length : Int) - 1) * (uneven l : Int)
instance (p : PV) (l : List R2) : Decidable (FewP p l) := inferInstanceAs (Decidable (_ ∧ _))
end Go.Proofs.YtelbhbbiejalhaaGreat
set_option maxRecDepth 100000
set_option linter.unusedVariables false
namespace Go.Proofs.YtelbhbbiejalhaaGreat
open Go Go.Sl
set_option maxHeartbeats 4000000
theorem c118 (G : Imm) (b : Nat) (n : Int) (ac : Option Addr) (cc : Nat) (code : List Sl.Instr) (j : List Value) (wa : Option Addr) (wn wc : Nat) (op to x y c : Int) (ho : OwnA ac cc code j) (hl : code.length ≤ 1048576) :
    Does Tryz.prog 118 [.pointer (some ⟨b, 0, none⟩), .int .i64 op, .int .i64 to, .int .i64 x, .int .i64 y, .int .i64 c] G [(0, some b, .cells #[.int .i64 n, .slice ac code.length cc, .slice wa wn wc] 139), (1, ac.map (·.block), Row 50 code j)]
      (fun v G' Ho => v = .tuple #[] ∧ G' = G ∧ ∃ (a' : Option Addr) (c' : Nat) (j' : List Value), OwnA a' c' (code ++ [⟨op, to, x, y, c⟩]) j' ∧ Ho = [(0, some b, .cells #[.int .i64 n, .slice a' (code ++ [(⟨op, to, x, y, c⟩ : Sl.Instr)]).length c', .slice wa wn wc] 139), (1, a'.map (·.block), Row 50 (code ++ [⟨op, to, x, y, c⟩]) j')]) := by
  refine Does.enter Tryz.func118 rfl Tryz.ntmps118 rfl (fun w => ?_)
  refine Wc.gl 11 [0] ?_
  refine Wl.q rfl (Qy.build (cs := [_, _, _, _, _]) T.st50 rfl rfl rfl) ?_
  refine Wl.lit (α := Sl.Instr) 2 [⟨op, to, x, y, c⟩] rfl T.sl26 T.el50 rfl rfl rfl rfl rfl (fun b1 => ?_)
  refine Wl.append (α := Sl.Instr) 1 rfl T.sl26 T.el50 rfl rfl rfl (by first | assumption | exact OwnA.nil | exact OwnA.made (by simp)) (Src.row 2 rfl) (by first | omega | (simp only [List.length_append, List.length_cons, List.length_nil, maxLen]; omega)) (by first | omega | (simp only [List.length_append, List.length_cons, List.length_nil, maxLen]; omega)) (fun a1 c1 junk1 ho1 => ?_)
  refine Wl.ga 4 [0] ?_
  refine Ar.out0 (.inl rfl) (Ho := [(0, some b, .cells #[.int .i64 n, .slice a1 (code ++ [(⟨op, to, x, y, c⟩ : Sl.Instr)]).length c1, .slice wa wn wc] 139), (1, a1.map (·.block), Row 50 (code ++ [⟨op, to, x, y, c⟩]) junk1)]) rfl ⟨rfl, rfl, trivial⟩ ?_
  exact ⟨rfl, rfl, a1, c1, junk1, ho1, rfl⟩
end Go.Proofs.YtelbhbbiejalhaaGreat
