/- Parts of the proof (part 3): what the rows' text needs of the texts that lead to it. -/
import Derived.Test.YtelbhbbiejalhaaGreatMWb
set_option linter.unusedVariables false
set_option linter.unusedSimpArgs false
set_option linter.unusedSectionVars false
set_option maxRecDepth 100000
set_option linter.unusedVariables false
namespace Go.Proofs.YtelbhbbiejalhaaGreat
open Go Go.Sl
set_option maxHeartbeats 4000000
theorem lg_drop {r s : List U32} {i : Nat} (h : s.drop i = r.drop i) : lg s i = lg r i := by
  have e : s[i]? = r[i]? := by
    have := congrArg (·[0]?) h
    simpa [List.getElem?_drop] using this
  unfold lg; rw [Int.toNat_natCast, e]
theorem bdrop_next {r s : List U32} {i : Nat} (h : s.drop i = r.drop i) (d : U32) : (s.set i d).drop (i + 1) = r.drop (i + 1) := by
  rw [List.drop_set_of_lt (by omega), ← List.drop_drop, ← List.drop_drop, h]
attribute [local irreducible] valB pb cmpZ
theorem c147 (G : Imm) (b : Nat) (p u q : List U32) (junk : List Value) (cw : Nat) (v : Option Addr) (cv : Nat) (lv : List U32) (t : Int) (hv : Arr G v lv) (du : Lims u) (dv : Lims lv) (h1 : u.length ≤ 1073741824) (h2 : lv.length < u.length) (ht : 0 ≤ t ∧ t < 4294967296) :
    Does Tryz.prog 147 [.slice (some ⟨b, p.length, none⟩) u.length cw, .slice v lv.length cv, .int .u64 t] G [(0, some b, Row 63 (p ++ (u ++ q)) junk)] (fun r G' Ho => ∃ (w : List U32) (o : Int), r = .bool (decide (0 < o)) ∧ Ho = [(0, some b, Row 63 (p ++ (w ++ q)) junk)] ∧ G' = G ∧ (o = 0 ∨ o = 1) ∧ w.length = u.length ∧ Lims w ∧ valB u - t * valB lv = valB w - pb u.length * o) := by
  refine Does.enter Tryz.func147 rfl Tryz.ntmps147 rfl (fun w => ?_)
  refine Wc.gc 20 [] ?_
  refine Wc.loop (ι := Nat × Int × Int × List U32) (fun (i, c, o, w) => ([(13, .int .i64 (i : Int)), (7, .int .u64 c), (8, .int .u64 o), (12, Go.Value.int Go.IntKind.i64 (↑(List.length u) : Int)), (6, Go.Value.bool Bool.false), (0, Go.Value.slice (Option.some (Go.Addr.mk b (List.length p) Option.none)) (List.length u) cw), (1, Go.Value.slice v (List.length lv) cv), (2, Go.Value.int Go.IntKind.u64 t)], [(0, some b, Row 63 (p ++ (w ++ q)) junk)])) (fun (i, c, o, w) => i ≤ u.length ∧ w.length = u.length ∧ Lims w ∧ 0 ≤ c ∧ c < 4294967296 ∧ 0 ≤ o ∧ o ≤ 1 ∧ (lv.length < i → c = 0) ∧ w.drop i = u.drop i ∧ valB (u.take i) - t * valB (lv.take i) = valB (w.take i) - pb i * (o + c)) (fun (i, c, o, w) => u.length - i) ((0, 0, 0, u)) (⟨Nat.zero_le _, rfl, du, by decide, by decide, by decide, by decide, fun _ => rfl, rfl, by rw [List.take_zero, List.take_zero, valB_nil, Int.mul_zero, Int.add_zero, Int.mul_zero]⟩) ⟨rfl, rfl, rfl, rfl, rfl, rfl, rfl, rfl, trivial⟩ ⟨rfl, trivial⟩ (fun ⟨i, c, o, w⟩ => fun (hk : i ≤ u.length ∧ w.length = u.length ∧ Lims w ∧ 0 ≤ c ∧ c < 4294967296 ∧ 0 ≤ o ∧ o ≤ 1 ∧ (lv.length < i → c = 0) ∧ w.drop i = u.drop i ∧ valB (u.take i) - t * valB (lv.take i) = valB (w.take i) - pb i * (o + c)) => ?_)
  obtain ⟨hi, hwn, hdw, hc0, hc1, ho0, ho1, hcz, hdrop, hval⟩ := hk
  rcases Nat.lt_or_ge i u.length with hia | hia
  · have hx : 0 ≤ (w[((i : Nat) : Int).toNat]?.getD default).v ∧ (w[((i : Nat) : Int).toNat]?.getD default).v < 4294967296 := lg_lt hdw (by omega)
    have ex : (w[((i : Nat) : Int).toNat]?.getD default).v = lg u i := lg_drop hdrop
    rcases Nat.lt_or_ge i lv.length with hib | hib
    · have hy : 0 ≤ (lv[((i : Nat) : Int).toNat]?.getD default).v ∧ (lv[((i : Nat) : Int).toNat]?.getD default).v < 4294967296 := lg_lt dv hib
      have hca := less_carry ⟨hc0, hc1⟩ hy ht
      have hm : 0 ≤ (lv[((i : Nat) : Int).toNat]?.getD default).v * t ∧ (lv[((i : Nat) : Int).toNat]?.getD default).v * t ≤ 18446744073709551615 := by omega
      by_cases hlt : (w[((i : Nat) : Int).toNat]?.getD default).v < (c + (lv[((i : Nat) : Int).toNat]?.getD default).v * t) % 4294967296
      · refine Wc.gl 31 [1, 1] ?_
        refine Wl.q rfl (Qy.at (α := U32) T.sl35 rfl rfl (by assumption) (by omega)) ?_
        refine Wl.q rfl (Qy.loadG T.one63 rfl (Arr.cell (by assumption) (by omega) 0 rfl rfl)) ?_
        refine Wl.q rfl (Qy.conv64 rfl T.u61 rfl (by omega)) ?_
        refine Wl.q rfl (Qy.move rfl) ?_
        refine Wl.q rfl (Qy.umul64 rfl rfl (by first | assumption | omega)) ?_
        refine Wl.q rfl (Qy.uadd64 rfl rfl (by omega)) ?_
        refine Wl.gl 7 [] ?_
        refine Wl.q rfl (Qy.indexAddr T.sl35 rfl rfl (by omega)) ?_
        refine Wl.q rfl (Qy.loadW 0 T.one63 rfl rfl (by omega)) ?_
        refine Wl.q rfl (Qy.conv64 rfl T.u61 rfl (by omega)) ?_
        refine Wl.q rfl (Qy.move rfl) ?_
        refine Wl.q rfl (Qy.andLow rfl rfl (by omega)) ?_
        refine Wl.q rfl (Qy.usubN rfl rfl (by omega)) ?_
        refine Wl.q rfl (Qy.move rfl) ?_
        refine Wl.q rfl (Qy.usub64 rfl rfl (by omega)) ?_
        refine Wl.gl 6 [] ?_
        refine Wl.q rfl (Qy.shr32 rfl rfl (by omega)) ?_
        refine Wl.gl 8 [] ?_
        refine Wl.q rfl (Qy.trunc32 rfl T.u63 rfl) ?_
        refine Wl.q rfl (Qy.indexAddr T.sl35 rfl rfl (by omega)) ?_
        refine Wl.setW 0 T.size63 rfl rfl rfl (by omega) ?_
        refine Wl.gl 4 [] ?_
        refine Wl.q rfl (Qy.shr32 rfl rfl (by omega)) ?_
        refine Wl.q rfl (Qy.and1 rfl rfl (by omega)) ?_
        refine Wl.ga 8 [] ?_
        have es : ((w[((i : Nat) : Int).toNat]?.getD default).v - (c + (lv[((i : Nat) : Int).toNat]?.getD default).v * t) % 4294967296 + 18446744073709551616 - o) % 4294967296 = ((w[((i : Nat) : Int).toNat]?.getD default).v - (c + (lv[((i : Nat) : Int).toNat]?.getD default).v * t) % 4294967296 - o + 4294967296 * 1) := by omega
        have ec : ((w[((i : Nat) : Int).toNat]?.getD default).v - (c + (lv[((i : Nat) : Int).toNat]?.getD default).v * t) % 4294967296 + 18446744073709551616 - o) / 4294967296 % 2 = 1 := by omega
        refine Ar.re 8 rfl (show _ = Value.int .u64 1 by rw [ec]) ?_
        refine Ar.reH 0 (Row 63 (p ++ (w.set i (⟨((w[((i : Nat) : Int).toNat]?.getD default).v - (c + (lv[((i : Nat) : Int).toNat]?.getD default).v * t) % 4294967296 - o + 4294967296 * 1)⟩ : U32) ++ q)) junk) rfl (by rw [← es, Int.toNat_natCast]) ?_
        refine Ar.again ((i + 1, (c + (lv[((i : Nat) : Int).toNat]?.getD default).v * t) / 4294967296, 1, w.set i (⟨((w[((i : Nat) : Int).toNat]?.getD default).v - (c + (lv[((i : Nat) : Int).toNat]?.getD default).v * t) % 4294967296 - o + 4294967296 * 1)⟩ : U32))) ?_ ?_ rfl ⟨rfl, rfl, rfl, rfl, rfl, rfl, rfl, rfl, trivial⟩ ⟨rfl, trivial⟩
        · exact ⟨by omega, by rw [List.length_set]; exact hwn, lims_set hdw _ (by omega), by omega, by omega, by decide, by decide, by omega, bdrop_next hdrop _, less_next (c' := (c + (lv[((i : Nat) : Int).toNat]?.getD default).v * t)) (b := o) (b' := 1) (by omega) hval (by rfl) (by rw [← ex])⟩
        · show u.length - (i + 1) < u.length - i
          omega
      · by_cases hlt2 : (w[((i : Nat) : Int).toNat]?.getD default).v - (c + (lv[((i : Nat) : Int).toNat]?.getD default).v * t) % 4294967296 < o
        · refine Wc.gl 31 [1, 1] ?_
          refine Wl.q rfl (Qy.at (α := U32) T.sl35 rfl rfl (by assumption) (by omega)) ?_
          refine Wl.q rfl (Qy.loadG T.one63 rfl (Arr.cell (by assumption) (by omega) 0 rfl rfl)) ?_
          refine Wl.q rfl (Qy.conv64 rfl T.u61 rfl (by omega)) ?_
          refine Wl.q rfl (Qy.move rfl) ?_
          refine Wl.q rfl (Qy.umul64 rfl rfl (by first | assumption | omega)) ?_
          refine Wl.q rfl (Qy.uadd64 rfl rfl (by omega)) ?_
          refine Wl.gl 7 [] ?_
          refine Wl.q rfl (Qy.indexAddr T.sl35 rfl rfl (by omega)) ?_
          refine Wl.q rfl (Qy.loadW 0 T.one63 rfl rfl (by omega)) ?_
          refine Wl.q rfl (Qy.conv64 rfl T.u61 rfl (by omega)) ?_
          refine Wl.q rfl (Qy.move rfl) ?_
          refine Wl.q rfl (Qy.andLow rfl rfl (by omega)) ?_
          refine Wl.q rfl (Qy.usub64 rfl rfl (by omega)) ?_
          refine Wl.q rfl (Qy.move rfl) ?_
          refine Wl.q rfl (Qy.usubN rfl rfl (by omega)) ?_
          refine Wl.gl 6 [] ?_
          refine Wl.q rfl (Qy.shr32 rfl rfl (by omega)) ?_
          refine Wl.gl 8 [] ?_
          refine Wl.q rfl (Qy.trunc32 rfl T.u63 rfl) ?_
          refine Wl.q rfl (Qy.indexAddr T.sl35 rfl rfl (by omega)) ?_
          refine Wl.setW 0 T.size63 rfl rfl rfl (by omega) ?_
          refine Wl.gl 4 [] ?_
          refine Wl.q rfl (Qy.shr32 rfl rfl (by omega)) ?_
          refine Wl.q rfl (Qy.and1 rfl rfl (by omega)) ?_
          refine Wl.ga 8 [] ?_
          have es : ((w[((i : Nat) : Int).toNat]?.getD default).v - (c + (lv[((i : Nat) : Int).toNat]?.getD default).v * t) % 4294967296 - o + 18446744073709551616) % 4294967296 = ((w[((i : Nat) : Int).toNat]?.getD default).v - (c + (lv[((i : Nat) : Int).toNat]?.getD default).v * t) % 4294967296 - o + 4294967296 * 1) := by omega
          have ec : ((w[((i : Nat) : Int).toNat]?.getD default).v - (c + (lv[((i : Nat) : Int).toNat]?.getD default).v * t) % 4294967296 - o + 18446744073709551616) / 4294967296 % 2 = 1 := by omega
          refine Ar.re 8 rfl (show _ = Value.int .u64 1 by rw [ec]) ?_
          refine Ar.reH 0 (Row 63 (p ++ (w.set i (⟨((w[((i : Nat) : Int).toNat]?.getD default).v - (c + (lv[((i : Nat) : Int).toNat]?.getD default).v * t) % 4294967296 - o + 4294967296 * 1)⟩ : U32) ++ q)) junk) rfl (by rw [← es, Int.toNat_natCast]) ?_
          refine Ar.again ((i + 1, (c + (lv[((i : Nat) : Int).toNat]?.getD default).v * t) / 4294967296, 1, w.set i (⟨((w[((i : Nat) : Int).toNat]?.getD default).v - (c + (lv[((i : Nat) : Int).toNat]?.getD default).v * t) % 4294967296 - o + 4294967296 * 1)⟩ : U32))) ?_ ?_ rfl ⟨rfl, rfl, rfl, rfl, rfl, rfl, rfl, rfl, trivial⟩ ⟨rfl, trivial⟩
          · exact ⟨by omega, by rw [List.length_set]; exact hwn, lims_set hdw _ (by omega), by omega, by omega, by decide, by decide, by omega, bdrop_next hdrop _, less_next (c' := (c + (lv[((i : Nat) : Int).toNat]?.getD default).v * t)) (b := o) (b' := 1) (by omega) hval (by rfl) (by rw [← ex])⟩
          · show u.length - (i + 1) < u.length - i
            omega
        · refine Wc.gl 31 [1, 1] ?_
          refine Wl.q rfl (Qy.at (α := U32) T.sl35 rfl rfl (by assumption) (by omega)) ?_
          refine Wl.q rfl (Qy.loadG T.one63 rfl (Arr.cell (by assumption) (by omega) 0 rfl rfl)) ?_
          refine Wl.q rfl (Qy.conv64 rfl T.u61 rfl (by omega)) ?_
          refine Wl.q rfl (Qy.move rfl) ?_
          refine Wl.q rfl (Qy.umul64 rfl rfl (by first | assumption | omega)) ?_
          refine Wl.q rfl (Qy.uadd64 rfl rfl (by omega)) ?_
          refine Wl.gl 7 [] ?_
          refine Wl.q rfl (Qy.indexAddr T.sl35 rfl rfl (by omega)) ?_
          refine Wl.q rfl (Qy.loadW 0 T.one63 rfl rfl (by omega)) ?_
          refine Wl.q rfl (Qy.conv64 rfl T.u61 rfl (by omega)) ?_
          refine Wl.q rfl (Qy.move rfl) ?_
          refine Wl.q rfl (Qy.andLow rfl rfl (by omega)) ?_
          refine Wl.q rfl (Qy.usub64 rfl rfl (by omega)) ?_
          refine Wl.q rfl (Qy.move rfl) ?_
          refine Wl.q rfl (Qy.usub64 rfl rfl (by omega)) ?_
          refine Wl.gl 6 [] ?_
          refine Wl.q rfl (Qy.shr32 rfl rfl (by omega)) ?_
          refine Wl.gl 8 [] ?_
          refine Wl.q rfl (Qy.conv32 rfl T.u63 rfl (by omega)) ?_
          refine Wl.q rfl (Qy.indexAddr T.sl35 rfl rfl (by omega)) ?_
          refine Wl.setW 0 T.size63 rfl rfl rfl (by omega) ?_
          refine Wl.gl 4 [] ?_
          refine Wl.q rfl (Qy.shr32 rfl rfl (by omega)) ?_
          refine Wl.q rfl (Qy.and1 rfl rfl (by omega)) ?_
          refine Wl.ga 8 [] ?_
          have es : ((w[((i : Nat) : Int).toNat]?.getD default).v - (c + (lv[((i : Nat) : Int).toNat]?.getD default).v * t) % 4294967296 - o) = ((w[((i : Nat) : Int).toNat]?.getD default).v - (c + (lv[((i : Nat) : Int).toNat]?.getD default).v * t) % 4294967296 - o + 4294967296 * 0) := by omega
          have ec : ((w[((i : Nat) : Int).toNat]?.getD default).v - (c + (lv[((i : Nat) : Int).toNat]?.getD default).v * t) % 4294967296 - o) / 4294967296 % 2 = 0 := by omega
          refine Ar.re 8 rfl (show _ = Value.int .u64 0 by rw [ec]) ?_
          refine Ar.reH 0 (Row 63 (p ++ (w.set i (⟨((w[((i : Nat) : Int).toNat]?.getD default).v - (c + (lv[((i : Nat) : Int).toNat]?.getD default).v * t) % 4294967296 - o + 4294967296 * 0)⟩ : U32) ++ q)) junk) rfl (by rw [← es, Int.toNat_natCast]) ?_
          refine Ar.again ((i + 1, (c + (lv[((i : Nat) : Int).toNat]?.getD default).v * t) / 4294967296, 0, w.set i (⟨((w[((i : Nat) : Int).toNat]?.getD default).v - (c + (lv[((i : Nat) : Int).toNat]?.getD default).v * t) % 4294967296 - o + 4294967296 * 0)⟩ : U32))) ?_ ?_ rfl ⟨rfl, rfl, rfl, rfl, rfl, rfl, rfl, rfl, trivial⟩ ⟨rfl, trivial⟩
          · exact ⟨by omega, by rw [List.length_set]; exact hwn, lims_set hdw _ (by omega), by omega, by omega, by decide, by decide, by omega, bdrop_next hdrop _, less_next (c' := (c + (lv[((i : Nat) : Int).toNat]?.getD default).v * t)) (b := o) (b' := 0) (by omega) hval (by rfl) (by rw [← ex])⟩
          · show u.length - (i + 1) < u.length - i
            omega
    · have z := lg_end hib
      by_cases hlt : (w[((i : Nat) : Int).toNat]?.getD default).v < (c) % 4294967296
      · refine Wc.gl 33 [1, 0] ?_
        refine Wl.q rfl (Qy.indexAddr T.sl35 rfl rfl (by omega)) ?_
        refine Wl.q rfl (Qy.loadW 0 T.one63 rfl rfl (by omega)) ?_
        refine Wl.q rfl (Qy.conv64 rfl T.u61 rfl (by omega)) ?_
        refine Wl.q rfl (Qy.move rfl) ?_
        refine Wl.q rfl (Qy.andLow rfl rfl (by omega)) ?_
        refine Wl.q rfl (Qy.usubN rfl rfl (by omega)) ?_
        refine Wl.q rfl (Qy.move rfl) ?_
        refine Wl.q rfl (Qy.usub64 rfl rfl (by omega)) ?_
        refine Wl.gl 6 [] ?_
        refine Wl.q rfl (Qy.shr32 rfl rfl (by omega)) ?_
        refine Wl.gl 8 [] ?_
        refine Wl.q rfl (Qy.trunc32 rfl T.u63 rfl) ?_
        refine Wl.q rfl (Qy.indexAddr T.sl35 rfl rfl (by omega)) ?_
        refine Wl.setW 0 T.size63 rfl rfl rfl (by omega) ?_
        refine Wl.gl 4 [] ?_
        refine Wl.q rfl (Qy.shr32 rfl rfl (by omega)) ?_
        refine Wl.q rfl (Qy.and1 rfl rfl (by omega)) ?_
        refine Wl.ga 8 [] ?_
        have es : ((w[((i : Nat) : Int).toNat]?.getD default).v - (c) % 4294967296 + 18446744073709551616 - o) % 4294967296 = ((w[((i : Nat) : Int).toNat]?.getD default).v - (c) % 4294967296 - o + 4294967296 * 1) := by omega
        have ec : ((w[((i : Nat) : Int).toNat]?.getD default).v - (c) % 4294967296 + 18446744073709551616 - o) / 4294967296 % 2 = 1 := by omega
        refine Ar.re 8 rfl (show _ = Value.int .u64 1 by rw [ec]) ?_
        refine Ar.reH 0 (Row 63 (p ++ (w.set i (⟨((w[((i : Nat) : Int).toNat]?.getD default).v - (c) % 4294967296 - o + 4294967296 * 1)⟩ : U32) ++ q)) junk) rfl (by rw [← es, Int.toNat_natCast]) ?_
        refine Ar.again ((i + 1, (c) / 4294967296, 1, w.set i (⟨((w[((i : Nat) : Int).toNat]?.getD default).v - (c) % 4294967296 - o + 4294967296 * 1)⟩ : U32))) ?_ ?_ rfl ⟨rfl, rfl, rfl, rfl, rfl, rfl, rfl, rfl, trivial⟩ ⟨rfl, trivial⟩
        · exact ⟨by omega, by rw [List.length_set]; exact hwn, lims_set hdw _ (by omega), by omega, by omega, by decide, by decide, by intro _; omega, bdrop_next hdrop _, less_next (c' := (c)) (b := o) (b' := 1) (by omega) hval (by rw [z, Int.zero_mul, Int.add_zero]) (by rw [← ex])⟩
        · show u.length - (i + 1) < u.length - i
          omega
      · by_cases hlt2 : (w[((i : Nat) : Int).toNat]?.getD default).v - (c) % 4294967296 < o
        · refine Wc.gl 33 [1, 0] ?_
          refine Wl.q rfl (Qy.indexAddr T.sl35 rfl rfl (by omega)) ?_
          refine Wl.q rfl (Qy.loadW 0 T.one63 rfl rfl (by omega)) ?_
          refine Wl.q rfl (Qy.conv64 rfl T.u61 rfl (by omega)) ?_
          refine Wl.q rfl (Qy.move rfl) ?_
          refine Wl.q rfl (Qy.andLow rfl rfl (by omega)) ?_
          refine Wl.q rfl (Qy.usub64 rfl rfl (by omega)) ?_
          refine Wl.q rfl (Qy.move rfl) ?_
          refine Wl.q rfl (Qy.usubN rfl rfl (by omega)) ?_
          refine Wl.gl 6 [] ?_
          refine Wl.q rfl (Qy.shr32 rfl rfl (by omega)) ?_
          refine Wl.gl 8 [] ?_
          refine Wl.q rfl (Qy.trunc32 rfl T.u63 rfl) ?_
          refine Wl.q rfl (Qy.indexAddr T.sl35 rfl rfl (by omega)) ?_
          refine Wl.setW 0 T.size63 rfl rfl rfl (by omega) ?_
          refine Wl.gl 4 [] ?_
          refine Wl.q rfl (Qy.shr32 rfl rfl (by omega)) ?_
          refine Wl.q rfl (Qy.and1 rfl rfl (by omega)) ?_
          refine Wl.ga 8 [] ?_
          have es : ((w[((i : Nat) : Int).toNat]?.getD default).v - (c) % 4294967296 - o + 18446744073709551616) % 4294967296 = ((w[((i : Nat) : Int).toNat]?.getD default).v - (c) % 4294967296 - o + 4294967296 * 1) := by omega
          have ec : ((w[((i : Nat) : Int).toNat]?.getD default).v - (c) % 4294967296 - o + 18446744073709551616) / 4294967296 % 2 = 1 := by omega
          refine Ar.re 8 rfl (show _ = Value.int .u64 1 by rw [ec]) ?_
          refine Ar.reH 0 (Row 63 (p ++ (w.set i (⟨((w[((i : Nat) : Int).toNat]?.getD default).v - (c) % 4294967296 - o + 4294967296 * 1)⟩ : U32) ++ q)) junk) rfl (by rw [← es, Int.toNat_natCast]) ?_
          refine Ar.again ((i + 1, (c) / 4294967296, 1, w.set i (⟨((w[((i : Nat) : Int).toNat]?.getD default).v - (c) % 4294967296 - o + 4294967296 * 1)⟩ : U32))) ?_ ?_ rfl ⟨rfl, rfl, rfl, rfl, rfl, rfl, rfl, rfl, trivial⟩ ⟨rfl, trivial⟩
          · exact ⟨by omega, by rw [List.length_set]; exact hwn, lims_set hdw _ (by omega), by omega, by omega, by decide, by decide, by intro _; omega, bdrop_next hdrop _, less_next (c' := (c)) (b := o) (b' := 1) (by omega) hval (by rw [z, Int.zero_mul, Int.add_zero]) (by rw [← ex])⟩
          · show u.length - (i + 1) < u.length - i
            omega
        · refine Wc.gl 33 [1, 0] ?_
          refine Wl.q rfl (Qy.indexAddr T.sl35 rfl rfl (by omega)) ?_
          refine Wl.q rfl (Qy.loadW 0 T.one63 rfl rfl (by omega)) ?_
          refine Wl.q rfl (Qy.conv64 rfl T.u61 rfl (by omega)) ?_
          refine Wl.q rfl (Qy.move rfl) ?_
          refine Wl.q rfl (Qy.andLow rfl rfl (by omega)) ?_
          refine Wl.q rfl (Qy.usub64 rfl rfl (by omega)) ?_
          refine Wl.q rfl (Qy.move rfl) ?_
          refine Wl.q rfl (Qy.usub64 rfl rfl (by omega)) ?_
          refine Wl.gl 6 [] ?_
          refine Wl.q rfl (Qy.shr32 rfl rfl (by omega)) ?_
          refine Wl.gl 8 [] ?_
          refine Wl.q rfl (Qy.conv32 rfl T.u63 rfl (by omega)) ?_
          refine Wl.q rfl (Qy.indexAddr T.sl35 rfl rfl (by omega)) ?_
          refine Wl.setW 0 T.size63 rfl rfl rfl (by omega) ?_
          refine Wl.gl 4 [] ?_
          refine Wl.q rfl (Qy.shr32 rfl rfl (by omega)) ?_
          refine Wl.q rfl (Qy.and1 rfl rfl (by omega)) ?_
          refine Wl.ga 8 [] ?_
          have es : ((w[((i : Nat) : Int).toNat]?.getD default).v - (c) % 4294967296 - o) = ((w[((i : Nat) : Int).toNat]?.getD default).v - (c) % 4294967296 - o + 4294967296 * 0) := by omega
          have ec : ((w[((i : Nat) : Int).toNat]?.getD default).v - (c) % 4294967296 - o) / 4294967296 % 2 = 0 := by omega
          refine Ar.re 8 rfl (show _ = Value.int .u64 0 by rw [ec]) ?_
          refine Ar.reH 0 (Row 63 (p ++ (w.set i (⟨((w[((i : Nat) : Int).toNat]?.getD default).v - (c) % 4294967296 - o + 4294967296 * 0)⟩ : U32) ++ q)) junk) rfl (by rw [← es, Int.toNat_natCast]) ?_
          refine Ar.again ((i + 1, (c) / 4294967296, 0, w.set i (⟨((w[((i : Nat) : Int).toNat]?.getD default).v - (c) % 4294967296 - o + 4294967296 * 0)⟩ : U32))) ?_ ?_ rfl ⟨rfl, rfl, rfl, rfl, rfl, rfl, rfl, rfl, trivial⟩ ⟨rfl, trivial⟩
          · exact ⟨by omega, by rw [List.length_set]; exact hwn, lims_set hdw _ (by omega), by omega, by omega, by decide, by decide, by intro _; omega, bdrop_next hdrop _, less_next (c' := (c)) (b := o) (b' := 0) (by omega) hval (by rw [z, Int.zero_mul, Int.add_zero]) (by rw [← ex])⟩
          · show u.length - (i + 1) < u.length - i
            omega
  · have hii : i = u.length := by omega
    subst hii
    have hc := hcz (by omega)
    subst hc
    refine Wc.ga 20 [0] ?_
    refine Ar.out1 (.inr rfl) (Ho := Hp.only _ [0]) rfl (.tmp rfl) (Hp.sub_only _ _) ?_
    rw [take_all (Nat.le_refl _), take_all (by omega), take_all (by omega), Int.add_zero] at hval
    exact ⟨w, o, rfl, rfl, rfl, by omega, hwn, hdw, hval⟩
end Go.Proofs.YtelbhbbiejalhaaGreat
set_option maxRecDepth 100000
set_option linter.unusedVariables false
namespace Go.Proofs.YtelbhbbiejalhaaGreat
open Go Go.Sl
set_option maxHeartbeats 4000000
theorem kn_bound {u v : List U32} {m : Nat} (hu : u.length = m + 3) (hv : v.length = m + 2) (du : Lims u) (dv : Lims v) (h : valB u < 4294967296 * valB v) : lg u (m + 2) * 4294967296 + lg u (m + 1) < lg v (m + 1) * 4294967296 + 4294967296 := by
  have e1 := top3 hu
  have e2 := top2 hv
  have e3 := take_rng dv (show m ≤ v.length by omega)
  have e4 := take_rng du (show m ≤ u.length by omega)
  have a0 := lg_rng dv m
  have b0 := lg_rng du m
  have hp := pb_pos m
  generalize lg u (m + 2) * 4294967296 + lg u (m + 1) = high at *
  generalize lg v (m + 1) = v1 at *
  generalize lg v m = v0 at *
  generalize lg u m = u0 at *
  refine Int.lt_of_mul_lt_mul_left (a := pb m * 4294967296) ?_ (by omega)
  have f1 := Int.mul_le_mul_of_nonneg_left (show v0 + 4294967296 * v1 + 1 ≤ v1 * 4294967296 + 4294967296 by omega) (Int.le_of_lt hp)
  have f2 := Int.mul_nonneg (Int.le_of_lt hp) b0.1
  rw [Int.mul_add, Int.mul_one] at f1
  rw [Int.mul_add, ← Int.mul_assoc] at e1
  have f3 : pb m * 4294967296 * (v1 * 4294967296 + 4294967296) = 4294967296 * (pb m * (v1 * 4294967296 + 4294967296)) := by rw [Int.mul_comm (pb m) 4294967296, Int.mul_assoc]
  rw [f3]
  omega
attribute [local irreducible] valB pb cmpZ
theorem c128 (G : Imm) (b : Nat) (p u q : List U32) (junk : List Value) (cw : Nat) (v : Option Addr) (cv : Nat) (lv : List U32) (m : Nat) (hv : Arr G v lv) (du : Lims u) (dv : Lims lv) (h1 : u.length ≤ 1073741824) (hu : u.length = m + 3) (hl : lv.length = m + 2) (htop : 2147483648 ≤ lg lv (m + 1)) (hlt : valB u < 4294967296 * valB lv) :
    Does Tryz.prog 128 [.slice (some ⟨b, p.length, none⟩) u.length cw, .slice v lv.length cv] G [(0, some b, Row 63 (p ++ (u ++ q)) junk)] (fun r G' Ho => ∃ (w : List U32) (g : Int), r = .int .u32 g ∧ Ho = [(0, some b, Row 63 (p ++ (w ++ q)) junk)] ∧ G' = G ∧ 0 ≤ g ∧ g < 4294967296 ∧ w.length = u.length ∧ Lims w ∧ valB w = valB u - g * valB lv ∧ valB w < valB lv) := by
  have hU2 := lg_rng du (m + 2)
  have hU1 := lg_rng du (m + 1)
  have hU0 := lg_rng du m
  have hV1 := lg_rng dv (m + 1)
  have hV0 := lg_rng dv m
  have eu2 : (u[((lv.length : Nat) : Int).toNat]?.getD default).v = lg u (m + 2) := by unfold lg; rw [hl]
  have eu1 : (u[(((lv.length : Nat) : Int) - 1).toNat]?.getD default).v = lg u (m + 1) := by unfold lg; rw [show (((lv.length : Nat) : Int) - 1).toNat = ((m + 1 : Nat) : Int).toNat by omega]
  have eu0 : (u[(((lv.length : Nat) : Int) - 2).toNat]?.getD default).v = lg u m := by unfold lg; rw [show (((lv.length : Nat) : Int) - 2).toNat = ((m : Nat) : Int).toNat by omega]
  have ev1 : (lv[(((lv.length : Nat) : Int) - 1).toNat]?.getD default).v = lg lv (m + 1) := by unfold lg; rw [show (((lv.length : Nat) : Int) - 1).toNat = ((m + 1 : Nat) : Int).toNat by omega]
  have ev0 : (lv[(((lv.length : Nat) : Int) - 2).toNat]?.getD default).v = lg lv m := by unfold lg; rw [show (((lv.length : Nat) : Int) - 2).toNat = ((m : Nat) : Int).toNat by omega]
  refine Does.enter Tryz.func128 rfl Tryz.ntmps128 rfl (fun w => ?_)
  have hp1 : 0 < lg lv (m + 1) := by omega
  obtain ⟨high, hhigh⟩ : ∃ high, high = lg u (m + 2) * 4294967296 + lg u (m + 1) := ⟨_, rfl⟩
  obtain ⟨hk1, hk2, hk3, hk4, hk5⟩ := kn_first hu hl du dv hhigh hp1 rfl rfl
  have hq := Int.ediv_le_self (lg lv (m + 1)) (show 0 ≤ high by omega)
  have hVm : 0 < valB lv := by
    have := top2 hl
    have h3 := take_rng dv (show m ≤ lv.length by omega)
    have h4 := Int.mul_pos (pb_pos m) (show 0 < lg lv m + 4294967296 * lg lv (m + 1) by omega)
    omega
  have hUp : valB u < 4294967296 * valB lv := hlt
  have hbrk : high < lg lv (m + 1) * 4294967296 + 4294967296 := hhigh ▸ kn_bound hu hl du dv hlt
  refine Wc.gc 5 [] ?_
  refine Wc.scope ?_
  refine Wc.gc 8 [] ?_
  refine Wc.draw [0] [] T.mixed rfl ?_
  refine Gm.q 0 [] (by kernel_rfl) rfl rfl (Qy.move rfl) ?_
  refine Gm.q 1 [] (by kernel_rfl) rfl rfl (Qy.move rfl) ?_
  refine Gm.q 2 [] (by kernel_rfl) rfl rfl (Qy.indexAddr T.sl35 rfl rfl (by omega)) ?_
  refine Gm.q 3 [0] (by kernel_rfl) rfl rfl (Qy.loadW 0 T.one63 rfl rfl (by omega)) ?_
  refine Gm.q 4 [] (by kernel_rfl) rfl rfl (Qy.conv64 rfl T.u61 rfl (by omega)) ?_
  refine Gm.q 5 [] (by kernel_rfl) rfl rfl (Qy.shl32 rfl rfl (by omega)) ?_
  refine Gm.q 6 [] (by kernel_rfl) rfl rfl (Qy.move rfl) ?_
  refine Gm.q 7 [] (by kernel_rfl) rfl rfl (Qy.move rfl) ?_
  refine Gm.q 8 [] (by kernel_rfl) rfl rfl (Qy.sub rfl rfl (by omega)) ?_
  refine Gm.q 9 [] (by kernel_rfl) rfl rfl (Qy.indexAddr T.sl35 rfl rfl (by omega)) ?_
  refine Gm.q 10 [0] (by kernel_rfl) rfl rfl (Qy.loadW 0 T.one63 rfl rfl (by omega)) ?_
  refine Gm.q 11 [] (by kernel_rfl) rfl rfl (Qy.conv64 rfl T.u61 rfl (by omega)) ?_
  refine Gm.q 12 [] (by kernel_rfl) rfl rfl (Qy.orLow rfl rfl (by omega) (by omega)) ?_
  refine Gm.q 13 [] (by kernel_rfl) rfl rfl (Qy.assign rfl) ?_
  refine Gm.doneA (by kernel_rfl) ⟨rfl, trivial⟩ (by first | exact Imm.le_refl _ | assumption | (refine Imm.le_trans ?_ (by assumption); first | assumption | (refine Imm.le_trans ?_ (by assumption); assumption))) ?_
  refine Ar.next ?_
  refine Wc.meet (ι := Int × Int) (fun (g, r) => ([(0, .slice (some ⟨b, p.length, none⟩) u.length cw), (1, .slice v lv.length cv), (5, .int .i64 (lv.length : Int)), (7, .int .u64 g), (8, .int .u64 r), (4, Go.Value.int Go.IntKind.u32 0)], [(0, some b, Row 63 (p ++ (u ++ q)) junk)])) (fun (g, r) => g * lg lv (m + 1) + r = high ∧ 0 ≤ g ∧ g ≤ 18446744073709551615 ∧ 0 ≤ r ∧ r < 4294967296 ∧ valB u < (g + 1) * valB lv) ?_ (fun ⟨g, r⟩ => fun (hk : g * lg lv (m + 1) + r = high ∧ 0 ≤ g ∧ g ≤ 18446744073709551615 ∧ 0 ≤ r ∧ r < 4294967296 ∧ valB u < (g + 1) * valB lv) => ?_)
  · refine Wc.draw [0] [] T.mixed rfl ?_
    refine Gm.q 0 [] (by kernel_rfl) rfl rfl (Qy.move rfl) ?_
    refine Gm.q 1 [] (by kernel_rfl) rfl rfl (Qy.move rfl) ?_
    refine Gm.q 2 [] (by kernel_rfl) rfl rfl (Qy.move rfl) ?_
    refine Gm.q 3 [] (by kernel_rfl) rfl rfl (Qy.sub rfl rfl (by omega)) ?_
    refine Gm.q 4 [] (by kernel_rfl) rfl rfl (Qy.at (α := U32) T.sl35 rfl rfl (by assumption) (by omega)) ?_
    refine Gm.q 5 [0] (by kernel_rfl) rfl rfl (Qy.loadG T.one63 rfl (Arr.cell (by assumption) (by omega) 0 rfl rfl)) ?_
    refine Gm.q 6 [] (by kernel_rfl) rfl rfl (Qy.conv64 rfl T.u61 rfl (by omega)) ?_
    refine Gm.q 7 [] (by kernel_rfl) rfl rfl (Qy.uquo64 rfl rfl (by omega)) ?_
    refine Gm.q 8 [] (by kernel_rfl) rfl rfl (Qy.move rfl) ?_
    refine Gm.q 9 [] (by kernel_rfl) rfl rfl (Qy.move rfl) ?_
    refine Gm.q 10 [] (by kernel_rfl) rfl rfl (Qy.move rfl) ?_
    refine Gm.q 11 [] (by kernel_rfl) rfl rfl (Qy.sub rfl rfl (by omega)) ?_
    refine Gm.q 12 [] (by kernel_rfl) rfl rfl (Qy.at (α := U32) T.sl35 rfl rfl (by assumption) (by omega)) ?_
    refine Gm.q 13 [0] (by kernel_rfl) rfl rfl (Qy.loadG T.one63 rfl (Arr.cell (by assumption) (by omega) 0 rfl rfl)) ?_
    refine Gm.q 14 [] (by kernel_rfl) rfl rfl (Qy.conv64 rfl T.u61 rfl (by omega)) ?_
    refine Gm.q 15 [] (by kernel_rfl) rfl rfl (Qy.urem rfl rfl (by omega)) ?_
    refine Gm.q 16 [] (by kernel_rfl) rfl rfl (Qy.assign rfl) ?_
    refine Gm.q 17 [] (by kernel_rfl) rfl rfl (Qy.assign rfl) ?_
    refine Gm.doneA (by kernel_rfl) ⟨rfl, trivial⟩ (by first | exact Imm.le_refl _ | assumption | (refine Imm.le_trans ?_ (by assumption); first | assumption | (refine Imm.le_trans ?_ (by assumption); assumption))) ?_
    · refine Ar.re 7 rfl (show _ = Value.int .u64 (high / lg lv (m + 1)) by rw [eu2, eu1, ev1, hhigh]) ?_
      refine Ar.re 8 rfl (show _ = Value.int .u64 (high % lg lv (m + 1)) by rw [eu2, eu1, ev1, hhigh]) ?_
      refine Ar.meet ((high / lg lv (m + 1), high % lg lv (m + 1))) ?_ rfl ⟨rfl, rfl, rfl, rfl, rfl, rfl, trivial⟩ ⟨rfl, trivial⟩
      exact ⟨hk1, hk2, by omega, hk3, by omega, hk5⟩
  obtain ⟨hg1, hg2, hg3, hr1, hr2, hgu⟩ := hk
  clear hk1 hk2 hk3 hk4 hk5 hq
  refine Wc.gc 3 [] ?_
  refine Wc.meet (ι := Int) (fun gg => ([(0, .slice (some ⟨b, p.length, none⟩) u.length cw), (1, .slice v lv.length cv), (5, .int .i64 (lv.length : Int)), (7, .int .u64 gg), (4, Go.Value.int Go.IntKind.u32 0)], [(0, some b, Row 63 (p ++ (u ++ q)) junk)])) (fun gg => 0 ≤ gg ∧ gg < 4294967296 ∧ valB u < (gg + 1) * valB lv ∧ (gg - 1) * valB lv ≤ valB u) ?_ (fun gg => fun (hk : 0 ≤ gg ∧ gg < 4294967296 ∧ valB u < (gg + 1) * valB lv ∧ (gg - 1) * valB lv ≤ valB u) => ?_)
  · refine Wc.block ?_
    refine Wc.loop (ι := Int × Int) (fun (g, r) => ([(7, .int .u64 g), (8, .int .u64 r), (0, Go.Value.slice (Option.some (Go.Addr.mk b (List.length p) Option.none)) (List.length u) cw), (1, Go.Value.slice v (List.length lv) cv), (5, Go.Value.int Go.IntKind.i64 (↑(List.length lv) : Int)), (4, Go.Value.int Go.IntKind.u32 0)], [(0, some b, Row 63 (p ++ (u ++ q)) junk)])) (fun (g, r) => g * lg lv (m + 1) + r = high ∧ 0 ≤ g ∧ g ≤ 18446744073709551615 ∧ 0 ≤ r ∧ r < 4294967296 ∧ valB u < (g + 1) * valB lv) (fun (g, r) => (4294967296 - r).toNat) ((g, r)) (⟨hg1, hg2, hg3, hr1, hr2, hgu⟩) ⟨rfl, rfl, rfl, rfl, rfl, rfl, trivial⟩ ⟨rfl, trivial⟩ (fun ⟨g, r⟩ => fun (hk : g * lg lv (m + 1) + r = high ∧ 0 ≤ g ∧ g ≤ 18446744073709551615 ∧ 0 ≤ r ∧ r < 4294967296 ∧ valB u < (g + 1) * valB lv) => ?_)
    clear hg1 hg2 hg3 hr1 hr2 hgu
    obtain ⟨hg1, hg2, hg3, hr1, hr2, hgu⟩ := hk
    have dec : 4294967296 ≤ g ∨ r * 4294967296 + lg u m < g * lg lv m → 1 ≤ g ∧ (g - 1) * lg lv (m + 1) + (r + lg lv (m + 1)) = high ∧ valB u < (g - 1 + 1) * valB lv := fun hd => by
      have hg0 : 1 ≤ g := by
        rcases hd with hd | hd
        · omega
        · rcases (show g = 0 ∨ 1 ≤ g by omega) with h | h
          · rw [h, Int.zero_mul] at hd; omega
          · exact h
      refine ⟨hg0, by rw [Int.sub_mul, Int.one_mul]; omega, ?_⟩
      rw [show g - 1 + 1 = g by omega]
      rcases hd with hd | hd
      · have := Int.mul_le_mul_of_nonneg_right hd (Int.le_of_lt hVm)
        omega
      · exact kn_dec hu hl du dv hhigh hg1 hg2 hd
    have brk : (g - 1) * lg lv (m + 1) + (r + lg lv (m + 1)) = high → valB u < (g - 1 + 1) * valB lv → 4294967296 ≤ r + lg lv (m + 1) → 1 ≤ g → 0 ≤ g - 1 ∧ g - 1 < 4294967296 ∧ valB u < (g - 1 + 1) * valB lv ∧ (g - 1 - 1) * valB lv ≤ valB u := fun h h2 h3 h4 => by
      have hlt' := kn_break h h3 hp1 hbrk
      have hm0 := bmul_small ⟨(show 0 ≤ g - 1 by omega), hlt'⟩ hV0
      exact ⟨by omega, hlt', h2, kn_end hu hl du dv hhigh h ⟨by omega, hlt'⟩ (by omega) (by omega)⟩
    by_cases hgb : g < 4294967296
    · have hm0 := bmul_small ⟨hg2, hgb⟩ hV0
      have hm : 0 ≤ g * (lv[(((lv.length : Nat) : Int) - 2).toNat]?.getD default).v ∧ g * (lv[(((lv.length : Nat) : Int) - 2).toNat]?.getD default).v ≤ 18446744073709551615 := by rw [ev0]; omega
      by_cases hcond : r * 4294967296 + lg u m < g * lg lv m
      · obtain ⟨hg0, hnx, hnu⟩ := dec (.inr hcond)
        have hcond' : r * 4294967296 + (u[(((lv.length : Nat) : Int) - 2).toNat]?.getD default).v < g * (lv[(((lv.length : Nat) : Int) - 2).toNat]?.getD default).v := by rw [eu0, ev0]; exact hcond
        refine Wc.gc 2 [] ?_
        refine Wc.draw [0] [] T.mixed rfl ?_
        refine Gm.q 0 [] (by kernel_rfl) rfl rfl (Qy.move rfl) ?_
        refine Gm.q 1 [] (by kernel_rfl) rfl rfl (Qy.shr32 rfl rfl (by omega)) ?_
        refine Gm.q 2 [] (by kernel_rfl) rfl rfl (Qy.gtr rfl rfl) ?_
        refine Gm.q 3 [] (by kernel_rfl) rfl rfl (Qy.move rfl) ?_
        refine Gm.no 45 rfl (by first | assumption | omega) ?_
        refine Gm.qYes 4 [] (by kernel_rfl) rfl rfl rfl rfl (Qy.move rfl) ?_
        refine Gm.qYes 5 [] (by kernel_rfl) rfl rfl rfl rfl (Qy.move rfl) ?_
        refine Gm.qYes 6 [] (by kernel_rfl) rfl rfl rfl rfl (Qy.move rfl) ?_
        refine Gm.qYes 7 [] (by kernel_rfl) rfl rfl rfl rfl (Qy.sub rfl rfl (by omega)) ?_
        refine Gm.qYes 8 [] (by kernel_rfl) rfl rfl rfl rfl (Qy.at (α := U32) T.sl35 rfl rfl (by assumption) (by omega)) ?_
        refine Gm.qYes 9 [0] (by kernel_rfl) rfl rfl rfl rfl (Qy.loadG T.one63 rfl (Arr.cell (by assumption) (by omega) 0 rfl rfl)) ?_
        refine Gm.qYes 10 [] (by kernel_rfl) rfl rfl rfl rfl (Qy.conv64 rfl T.u61 rfl (by omega)) ?_
        refine Gm.qYes 11 [] (by kernel_rfl) rfl rfl rfl rfl (Qy.umul64 rfl rfl (by first | assumption | omega)) ?_
        refine Gm.qYes 12 [] (by kernel_rfl) rfl rfl rfl rfl (Qy.move rfl) ?_
        refine Gm.qYes 13 [] (by kernel_rfl) rfl rfl rfl rfl (Qy.shl32 rfl rfl (by omega)) ?_
        refine Gm.qYes 14 [] (by kernel_rfl) rfl rfl rfl rfl (Qy.move rfl) ?_
        refine Gm.qYes 15 [] (by kernel_rfl) rfl rfl rfl rfl (Qy.move rfl) ?_
        refine Gm.qYes 16 [] (by kernel_rfl) rfl rfl rfl rfl (Qy.sub rfl rfl (by omega)) ?_
        refine Gm.qYes 17 [] (by kernel_rfl) rfl rfl rfl rfl (Qy.indexAddr T.sl35 rfl rfl (by omega)) ?_
        refine Gm.qYes 18 [0] (by kernel_rfl) rfl rfl rfl rfl (Qy.loadW 0 T.one63 rfl rfl (by omega)) ?_
        refine Gm.qYes 19 [] (by kernel_rfl) rfl rfl rfl rfl (Qy.conv64 rfl T.u61 rfl (by omega)) ?_
        refine Gm.qYes 20 [] (by kernel_rfl) rfl rfl rfl rfl (Qy.orLow rfl rfl (by omega) (by omega)) ?_
        refine Gm.qYes 21 [] (by kernel_rfl) rfl rfl rfl rfl (Qy.gtr rfl rfl) ?_
        refine Gm.q 22 [] (by kernel_rfl) rfl rfl (Qy.pick rfl rfl) ?_
        refine Gm.doneA (by kernel_rfl) ⟨rfl, trivial⟩ (by first | exact Imm.le_refl _ | assumption | (refine Imm.le_trans ?_ (by assumption); first | assumption | (refine Imm.le_trans ?_ (by assumption); assumption))) ?_
        refine Ar.gl 8 [1] ?_
        refine Wl.q rfl (Qy.usub64 rfl rfl (by omega)) ?_
        refine Wl.gl 9 [] ?_
        refine Wl.q rfl (Qy.at (α := U32) T.sl35 rfl rfl (by assumption) (by omega)) ?_
        refine Wl.q rfl (Qy.loadG T.one63 rfl (Arr.cell (by assumption) (by omega) 0 rfl rfl)) ?_
        refine Wl.q rfl (Qy.conv64 rfl T.u61 rfl (by omega)) ?_
        refine Wl.q rfl (Qy.uadd64 rfl rfl (by omega)) ?_
        refine Wl.gl 6 [] ?_
        refine Wl.q rfl (Qy.shr32 rfl rfl (by omega)) ?_
        refine Wl.gc 3 [] ?_
        refine Wc.cond rfl (fun hc1 => ?_) (fun hc1 => ?_)
        refine Wc.ga 4 [] ?_
        rotate_left
        refine Wc.ga 2 [] ?_
        rotate_left
        · refine Ar.re 7 rfl rfl ?_
          refine Ar.meet (g - 1) ?_ rfl ⟨rfl, rfl, rfl, rfl, rfl, trivial⟩ ⟨rfl, trivial⟩
          exact brk hnx hnu (by rw [← ev1]; omega) hg0
        · refine Ar.re 8 rfl (show _ = Value.int .u64 (r + lg lv (m + 1)) by rw [ev1]) ?_
          refine Ar.again ((g - 1, r + lg lv (m + 1))) ?_ ?_ rfl ⟨rfl, rfl, rfl, rfl, rfl, rfl, trivial⟩ ⟨rfl, trivial⟩
          · exact ⟨hnx, by omega, by omega, by omega, by rw [← ev1]; omega, hnu⟩
          · show (4294967296 - (r + lg lv (m + 1))).toNat < (4294967296 - r).toNat
            omega
      · have hcond' : ¬ r * 4294967296 + (u[(((lv.length : Nat) : Int) - 2).toNat]?.getD default).v < g * (lv[(((lv.length : Nat) : Int) - 2).toNat]?.getD default).v := by rw [eu0, ev0]; exact hcond
        refine Wc.gc 2 [] ?_
        refine Wc.draw [0] [] T.mixed rfl ?_
        refine Gm.q 0 [] (by kernel_rfl) rfl rfl (Qy.move rfl) ?_
        refine Gm.q 1 [] (by kernel_rfl) rfl rfl (Qy.shr32 rfl rfl (by omega)) ?_
        refine Gm.q 2 [] (by kernel_rfl) rfl rfl (Qy.gtr rfl rfl) ?_
        refine Gm.q 3 [] (by kernel_rfl) rfl rfl (Qy.move rfl) ?_
        refine Gm.no 45 rfl (by first | assumption | omega) ?_
        refine Gm.qYes 4 [] (by kernel_rfl) rfl rfl rfl rfl (Qy.move rfl) ?_
        refine Gm.qYes 5 [] (by kernel_rfl) rfl rfl rfl rfl (Qy.move rfl) ?_
        refine Gm.qYes 6 [] (by kernel_rfl) rfl rfl rfl rfl (Qy.move rfl) ?_
        refine Gm.qYes 7 [] (by kernel_rfl) rfl rfl rfl rfl (Qy.sub rfl rfl (by omega)) ?_
        refine Gm.qYes 8 [] (by kernel_rfl) rfl rfl rfl rfl (Qy.at (α := U32) T.sl35 rfl rfl (by assumption) (by omega)) ?_
        refine Gm.qYes 9 [0] (by kernel_rfl) rfl rfl rfl rfl (Qy.loadG T.one63 rfl (Arr.cell (by assumption) (by omega) 0 rfl rfl)) ?_
        refine Gm.qYes 10 [] (by kernel_rfl) rfl rfl rfl rfl (Qy.conv64 rfl T.u61 rfl (by omega)) ?_
        refine Gm.qYes 11 [] (by kernel_rfl) rfl rfl rfl rfl (Qy.umul64 rfl rfl (by first | assumption | omega)) ?_
        refine Gm.qYes 12 [] (by kernel_rfl) rfl rfl rfl rfl (Qy.move rfl) ?_
        refine Gm.qYes 13 [] (by kernel_rfl) rfl rfl rfl rfl (Qy.shl32 rfl rfl (by omega)) ?_
        refine Gm.qYes 14 [] (by kernel_rfl) rfl rfl rfl rfl (Qy.move rfl) ?_
        refine Gm.qYes 15 [] (by kernel_rfl) rfl rfl rfl rfl (Qy.move rfl) ?_
        refine Gm.qYes 16 [] (by kernel_rfl) rfl rfl rfl rfl (Qy.sub rfl rfl (by omega)) ?_
        refine Gm.qYes 17 [] (by kernel_rfl) rfl rfl rfl rfl (Qy.indexAddr T.sl35 rfl rfl (by omega)) ?_
        refine Gm.qYes 18 [0] (by kernel_rfl) rfl rfl rfl rfl (Qy.loadW 0 T.one63 rfl rfl (by omega)) ?_
        refine Gm.qYes 19 [] (by kernel_rfl) rfl rfl rfl rfl (Qy.conv64 rfl T.u61 rfl (by omega)) ?_
        refine Gm.qYes 20 [] (by kernel_rfl) rfl rfl rfl rfl (Qy.orLow rfl rfl (by omega) (by omega)) ?_
        refine Gm.qYes 21 [] (by kernel_rfl) rfl rfl rfl rfl (Qy.gtr rfl rfl) ?_
        refine Gm.q 22 [] (by kernel_rfl) rfl rfl (Qy.pick rfl rfl) ?_
        refine Gm.doneA (by kernel_rfl) ⟨rfl, trivial⟩ (by first | exact Imm.le_refl _ | assumption | (refine Imm.le_trans ?_ (by assumption); first | assumption | (refine Imm.le_trans ?_ (by assumption); assumption))) ?_
        refine Ar.ga 6 [0] ?_
        refine Ar.meet (g) ?_ rfl ⟨rfl, rfl, rfl, rfl, rfl, trivial⟩ ⟨rfl, trivial⟩
        exact ⟨hg2, hgb, hgu, kn_end hu hl du dv hhigh hg1 ⟨hg2, hgb⟩ (by omega) (by omega)⟩
    · obtain ⟨hg0, hnx, hnu⟩ := dec (.inl (by omega))
      refine Wc.gc 2 [] ?_
      refine Wc.draw [0] [] T.mixed rfl ?_
      refine Gm.q 0 [] (by kernel_rfl) rfl rfl (Qy.move rfl) ?_
      refine Gm.q 1 [] (by kernel_rfl) rfl rfl (Qy.shr32 rfl rfl (by omega)) ?_
      refine Gm.q 2 [] (by kernel_rfl) rfl rfl (Qy.gtr rfl rfl) ?_
      refine Gm.q 3 [] (by kernel_rfl) rfl rfl (Qy.move rfl) ?_
      refine Gm.yes 45 rfl (by first | assumption | omega) ?_
      refine Gm.qNo 4 (by kernel_rfl) rfl rfl rfl rfl ?_
      refine Gm.qNo 5 (by kernel_rfl) rfl rfl rfl rfl ?_
      refine Gm.qNo 6 (by kernel_rfl) rfl rfl rfl rfl ?_
      refine Gm.qNo 7 (by kernel_rfl) rfl rfl rfl rfl ?_
      refine Gm.qNo 8 (by kernel_rfl) rfl rfl rfl rfl ?_
      refine Gm.qNo 9 (by kernel_rfl) rfl rfl rfl rfl ?_
      refine Gm.qNo 10 (by kernel_rfl) rfl rfl rfl rfl ?_
      refine Gm.qNo 11 (by kernel_rfl) rfl rfl rfl rfl ?_
      refine Gm.qNo 12 (by kernel_rfl) rfl rfl rfl rfl ?_
      refine Gm.qNo 13 (by kernel_rfl) rfl rfl rfl rfl ?_
      refine Gm.qNo 14 (by kernel_rfl) rfl rfl rfl rfl ?_
      refine Gm.qNo 15 (by kernel_rfl) rfl rfl rfl rfl ?_
      refine Gm.qNo 16 (by kernel_rfl) rfl rfl rfl rfl ?_
      refine Gm.qNo 17 (by kernel_rfl) rfl rfl rfl rfl ?_
      refine Gm.qNo 18 (by kernel_rfl) rfl rfl rfl rfl ?_
      refine Gm.qNo 19 (by kernel_rfl) rfl rfl rfl rfl ?_
      refine Gm.qNo 20 (by kernel_rfl) rfl rfl rfl rfl ?_
      refine Gm.qNo 21 (by kernel_rfl) rfl rfl rfl rfl ?_
      refine Gm.q 22 [] (by kernel_rfl) rfl rfl (Qy.pick rfl rfl) ?_
      refine Gm.doneA (by kernel_rfl) ⟨rfl, trivial⟩ (by first | exact Imm.le_refl _ | assumption | (refine Imm.le_trans ?_ (by assumption); first | assumption | (refine Imm.le_trans ?_ (by assumption); assumption))) ?_
      refine Ar.gl 8 [1] ?_
      refine Wl.q rfl (Qy.usub64 rfl rfl (by omega)) ?_
      refine Wl.gl 9 [] ?_
      refine Wl.q rfl (Qy.at (α := U32) T.sl35 rfl rfl (by assumption) (by omega)) ?_
      refine Wl.q rfl (Qy.loadG T.one63 rfl (Arr.cell (by assumption) (by omega) 0 rfl rfl)) ?_
      refine Wl.q rfl (Qy.conv64 rfl T.u61 rfl (by omega)) ?_
      refine Wl.q rfl (Qy.uadd64 rfl rfl (by omega)) ?_
      refine Wl.gl 6 [] ?_
      refine Wl.q rfl (Qy.shr32 rfl rfl (by omega)) ?_
      refine Wl.gc 3 [] ?_
      refine Wc.cond rfl (fun hc1 => ?_) (fun hc1 => ?_)
      refine Wc.ga 4 [] ?_
      rotate_left
      refine Wc.ga 2 [] ?_
      rotate_left
      · refine Ar.re 7 rfl rfl ?_
        refine Ar.meet (g - 1) ?_ rfl ⟨rfl, rfl, rfl, rfl, rfl, trivial⟩ ⟨rfl, trivial⟩
        exact brk hnx hnu (by rw [← ev1]; omega) hg0
      · refine Ar.re 8 rfl (show _ = Value.int .u64 (r + lg lv (m + 1)) by rw [ev1]) ?_
        refine Ar.again ((g - 1, r + lg lv (m + 1))) ?_ ?_ rfl ⟨rfl, rfl, rfl, rfl, rfl, rfl, trivial⟩ ⟨rfl, trivial⟩
        · exact ⟨hnx, by omega, by omega, by omega, by rw [← ev1]; omega, hnu⟩
        · show (4294967296 - (r + lg lv (m + 1))).toNat < (4294967296 - r).toNat
          omega
  clear hg1 hg2 hg3 hr1 hr2 hgu
  obtain ⟨hg1, hg2, hg3, hg4⟩ := hk
  refine Wc.gl 6 [] ?_
  refine Wl.call 0 rfl T.fn147 rfl (c147 _ b p u q junk cw v cv lv gg hv du dv h1 (by omega) ⟨hg1, hg2⟩) (tags_of ⟨rfl, trivial⟩) (fun r1 G1 Ho1 hle1 hp => ?_)
  obtain ⟨lw1, lo1, rfl, rfl, rfl, hlo1, hln1, hld1, hlv1⟩ := hp
  have hfew := valB_lt hld1
  have hnn := valB_nonneg hld1
  rcases hlo1 with hlo1 | hlo1
  · subst hlo1
    rw [Int.mul_zero, Int.sub_zero] at hlv1
    refine Wl.q rfl (Qy.notD rfl) ?_
    refine Wl.gl 6 [1] ?_
    refine Wl.q rfl (Qy.conv32 rfl T.u63 rfl (by omega)) ?_
    refine Wl.ga 5 [] ?_
    refine Ar.scopeR ?_
    refine Ar.out1 (.inr rfl) (Ho := Hp.only _ [0]) rfl (.tmp rfl) (Hp.sub_only _ _) ?_
    refine ⟨lw1, gg, rfl, rfl, rfl, hg1, hg2, hln1, hld1, hlv1.symm, ?_⟩
    rw [Int.add_mul, Int.one_mul] at hg3
    omega
  · subst hlo1
    rw [Int.mul_one, ← hln1] at hlv1
    have hover : valB u < gg * valB lv := by omega
    have hgp : 1 ≤ gg := by
      rcases (show gg = 0 ∨ 1 ≤ gg by omega) with h | h
      · rw [h, Int.zero_mul] at hover
        have := valB_nonneg du
        omega
      · exact h
    refine Wl.q rfl (Qy.notD rfl) ?_
    refine Wl.gl 8 [0] ?_
    refine Wl.q rfl (Qy.usub64 rfl rfl (by omega)) ?_
    refine Wl.gc 17 [] ?_
    refine Wc.loop (ι := Nat × Int × List U32) (fun (i, c, z) => ([(89, .int .i64 (i : Int)), (9, .int .u64 c), (88, Go.Value.int Go.IntKind.i64 (↑(List.length u) : Int)), (7, Go.Value.int Go.IntKind.u64 (gg - 1)), (0, Go.Value.slice (Option.some (Go.Addr.mk b (List.length p) Option.none)) (List.length u) cw), (1, Go.Value.slice v (List.length lv) cv), (5, Go.Value.int Go.IntKind.i64 (↑(List.length lv) : Int)), (4, Go.Value.int Go.IntKind.u32 0)], [(0, some b, Row 63 (p ++ (z ++ q)) junk)])) (fun (i, c, z) => i ≤ lw1.length ∧ z.length = lw1.length ∧ Lims z ∧ 0 ≤ c ∧ c ≤ 1 ∧ z.drop i = lw1.drop i ∧ valB (lw1.take i) + valB (lv.take i) = valB (z.take i) + pb i * c) (fun (i, c, z) => lw1.length - i) ((0, 0, lw1)) (⟨Nat.zero_le _, rfl, hld1, by decide, by decide, rfl, by rw [List.take_zero, List.take_zero, valB_nil, Int.mul_zero]⟩) ⟨rfl, rfl, rfl, rfl, rfl, rfl, rfl, rfl, trivial⟩ ⟨rfl, trivial⟩ (fun ⟨i, c, z⟩ => fun (hk : i ≤ lw1.length ∧ z.length = lw1.length ∧ Lims z ∧ 0 ≤ c ∧ c ≤ 1 ∧ z.drop i = lw1.drop i ∧ valB (lw1.take i) + valB (lv.take i) = valB (z.take i) + pb i * c) => ?_)
    obtain ⟨hi, hzn, hzd, hc0, hc1, hdrop, hval⟩ := hk
    rcases Nat.lt_or_ge i lw1.length with hia | hia
    · have hx : 0 ≤ (z[((i : Nat) : Int).toNat]?.getD default).v ∧ (z[((i : Nat) : Int).toNat]?.getD default).v < 4294967296 := lg_lt hzd (by omega)
      have ex : (z[((i : Nat) : Int).toNat]?.getD default).v = lg lw1 i := lg_drop hdrop
      rcases Nat.lt_or_ge i lv.length with hib | hib
      · have hy : 0 ≤ (lv[((i : Nat) : Int).toNat]?.getD default).v ∧ (lv[((i : Nat) : Int).toNat]?.getD default).v < 4294967296 := lg_lt dv hib
        refine Wc.gl 22 [1] ?_
        refine Wl.q rfl (Qy.indexAddr T.sl35 rfl rfl (by omega)) ?_
        refine Wl.q rfl (Qy.loadW 0 T.one63 rfl rfl (by omega)) ?_
        refine Wl.q rfl (Qy.conv64 rfl T.u61 rfl (by omega)) ?_
        refine Wl.q rfl (Qy.uadd64 rfl rfl (by omega)) ?_
        refine Wl.gl 16 [1] ?_
        refine Wl.q rfl (Qy.at (α := U32) T.sl35 rfl rfl (by assumption) (by omega)) ?_
        refine Wl.q rfl (Qy.loadG T.one63 rfl (Arr.cell (by assumption) (by omega) 0 rfl rfl)) ?_
        refine Wl.q rfl (Qy.conv64 rfl T.u61 rfl (by omega)) ?_
        refine Wl.q rfl (Qy.uadd64 rfl rfl (by omega)) ?_
        refine Wl.gl 8 [] ?_
        refine Wl.q rfl (Qy.trunc32 rfl T.u63 rfl) ?_
        refine Wl.q rfl (Qy.indexAddr T.sl35 rfl rfl (by omega)) ?_
        refine Wl.setW 0 T.size63 rfl rfl rfl (by omega) ?_
        refine Wl.gl 4 [] ?_
        refine Wl.q rfl (Qy.shr32 rfl rfl (by omega)) ?_
        refine Wl.ga 8 [] ?_
        refine Ar.reH 0 (Row 63 (p ++ (z.set i (⟨(c + (z[((i : Nat) : Int).toNat]?.getD default).v + (lv[((i : Nat) : Int).toNat]?.getD default).v) % 4294967296⟩ : U32) ++ q)) junk) rfl (by rw [Int.toNat_natCast]) ?_
        refine Ar.again ((i + 1, (c + (z[((i : Nat) : Int).toNat]?.getD default).v + (lv[((i : Nat) : Int).toNat]?.getD default).v) / 4294967296, z.set i (⟨(c + (z[((i : Nat) : Int).toNat]?.getD default).v + (lv[((i : Nat) : Int).toNat]?.getD default).v) % 4294967296⟩ : U32))) ?_ ?_ rfl ⟨rfl, rfl, rfl, rfl, rfl, rfl, rfl, rfl, trivial⟩ ⟨rfl, trivial⟩
        · exact ⟨by omega, by rw [List.length_set]; exact hzn, lims_set hzd _ (mod32 _), by omega, by omega, bdrop_next hdrop _, add_next (by omega) hval (by rw [ex]; rfl)⟩
        · show lw1.length - (i + 1) < lw1.length - i
          omega
      · have hz0 := lg_end hib
        refine Wc.gl 22 [1] ?_
        refine Wl.q rfl (Qy.indexAddr T.sl35 rfl rfl (by omega)) ?_
        refine Wl.q rfl (Qy.loadW 0 T.one63 rfl rfl (by omega)) ?_
        refine Wl.q rfl (Qy.conv64 rfl T.u61 rfl (by omega)) ?_
        refine Wl.q rfl (Qy.uadd64 rfl rfl (by omega)) ?_
        refine Wl.gl 19 [0] ?_
        refine Wl.q rfl (Qy.trunc32 rfl T.u63 rfl) ?_
        refine Wl.q rfl (Qy.indexAddr T.sl35 rfl rfl (by omega)) ?_
        refine Wl.setW 0 T.size63 rfl rfl rfl (by omega) ?_
        refine Wl.gl 4 [] ?_
        refine Wl.q rfl (Qy.shr32 rfl rfl (by omega)) ?_
        refine Wl.ga 8 [] ?_
        refine Ar.reH 0 (Row 63 (p ++ (z.set i (⟨(c + (z[((i : Nat) : Int).toNat]?.getD default).v) % 4294967296⟩ : U32) ++ q)) junk) rfl (by rw [Int.toNat_natCast]) ?_
        refine Ar.again ((i + 1, (c + (z[((i : Nat) : Int).toNat]?.getD default).v) / 4294967296, z.set i (⟨(c + (z[((i : Nat) : Int).toNat]?.getD default).v) % 4294967296⟩ : U32))) ?_ ?_ rfl ⟨rfl, rfl, rfl, rfl, rfl, rfl, rfl, rfl, trivial⟩ ⟨rfl, trivial⟩
        · exact ⟨by omega, by rw [List.length_set]; exact hzn, lims_set hzd _ (mod32 _), by omega, by omega, bdrop_next hdrop _, add_next (by omega) hval (by rw [ex, hz0, Int.add_zero])⟩
        · show lw1.length - (i + 1) < lw1.length - i
          omega
    · have hii : i = lw1.length := by omega
      subst hii
      have hvl := valB_lt dv
      have hpl := pb_le (show lv.length ≤ lw1.length by omega)
      have hback := back_end (g := gg) (u := u) (n := lw1.length) (by omega) hg4 hover rfl hzn (by omega) (by omega) hzd ⟨hc0, hc1⟩ hval
      refine Wc.gl 15 [0] ?_
      refine Wl.q rfl (Qy.conv32 rfl T.u63 rfl (by omega)) ?_
      refine Wl.ga 4 [] ?_
      refine Ar.scopeR ?_
      refine Ar.out1 (.inr rfl) (Ho := Hp.only _ [0]) rfl (.tmp rfl) (Hp.sub_only _ _) ?_
      refine ⟨z, gg - 1, rfl, rfl, rfl, by omega, by omega, by omega, hzd, hback, ?_⟩
      rw [Int.sub_mul, Int.one_mul] at hback
      omega
end Go.Proofs.YtelbhbbiejalhaaGreat
set_option maxRecDepth 100000
set_option linter.unusedVariables false
namespace Go.Proofs.YtelbhbbiejalhaaGreat
open Go Go.Sl
set_option maxHeartbeats 4000000
/-- a power of two below 32 bits, and what is left of a limb's -/
theorem pow_split {s : Nat} (hs : s ≤ 32) : ∃ Q : Int, ((2 ^ s : Nat) : Int) * Q = 4294967296 ∧ 0 < Q ∧ 0 < ((2 ^ s : Nat) : Int) := by
  refine ⟨((2 ^ (32 - s) : Nat) : Int), ?_, ?_, ?_⟩
  · rw [← Int.natCast_mul, ← Nat.pow_add, Nat.add_sub_cancel' hs]; decide
  · have : 0 < 2 ^ (32 - s) := Nat.pow_pos (by decide)
    omega
  · have : 0 < 2 ^ s := Nat.pow_pos (by decide)
    omega
theorem shl_parts {X : Int} {s : Nat} (hs : s ≤ 32) (hX : 0 ≤ X ∧ X < 4294967296) : (X * ((2 ^ s : Nat) : Int)) % 4294967296 % ((2 ^ s : Nat) : Int) = 0 ∧ 0 ≤ X * ((2 ^ s : Nat) : Int) / 4294967296 ∧ X * ((2 ^ s : Nat) : Int) / 4294967296 < ((2 ^ s : Nat) : Int) ∧ 0 ≤ X * ((2 ^ s : Nat) : Int) ∧ X * ((2 ^ s : Nat) : Int) < 18446744073709551616 := by
  obtain ⟨Q, h1, h2, h3⟩ := pow_split hs
  generalize ((2 ^ s : Nat) : Int) = P at *
  have hn := Int.mul_nonneg hX.1 (Int.le_of_lt h3)
  have hlt := Int.mul_lt_mul_of_pos_right hX.2 h3
  have hP : P ≤ 4294967296 := by
    have := Int.mul_le_mul_of_nonneg_left (show 1 ≤ Q by omega) (Int.le_of_lt h3)
    omega
  refine ⟨?_, Int.ediv_nonneg hn (by decide), Int.ediv_lt_of_lt_mul (by decide) (by rw [Int.mul_comm P]; exact hlt), hn, by omega⟩
  rw [Int.emod_emod_of_dvd _ ⟨Q, h1.symm⟩]
  exact Int.mul_emod_left X P
theorem shl_next {la r : List U32} {i d : Nat} {P hi lo : Int} (hk : i + d + 1 < r.length) (hz : lg r (i + d + 1) = 0) (hv : valB r = pb d * P * valB (la.take i)) (hlo : lo = lg r (i + d) + lg la i * P % 4294967296) (hhi : hi = lg la i * P / 4294967296) :
    valB ((r.set (i + d) ⟨lo⟩).set (i + d + 1) ⟨hi⟩) = pb d * P * valB (la.take (i + 1)) := by
  rw [valB_set _ _ _ (by rw [List.length_set]; exact hk), valB_set r _ _ (by omega), lg_set_ne (by omega), hz, bval_step, hv, hlo, hhi, pb_succ, pb_add]
  have h1 := bcarry (pb i * pb d) (lg la i * P)
  show pb d * P * valB (la.take i) + pb i * pb d * (lg r (i + d) + lg la i * P % 4294967296 - lg r (i + d)) + 4294967296 * (pb i * pb d) * (lg la i * P / 4294967296 - 0) = _
  have e1 : lg r (i + d) + lg la i * P % 4294967296 - lg r (i + d) = lg la i * P % 4294967296 := by omega
  have e2 : pb d * P * (pb i * lg la i) = pb i * pb d * (lg la i * P) := by
    rw [Int.mul_comm (pb i) (pb d), Int.mul_assoc, Int.mul_assoc, Int.mul_comm (lg la i) P, Int.mul_left_comm P]
  rw [e1, Int.sub_zero, Int.mul_add, e2, ← h1]
  omega
theorem shr_part {A0 A1 : Int} {s : Nat} (hs : s ≤ 32) (h0 : 0 ≤ A0 ∧ A0 < 4294967296) (h1 : 0 ≤ A1 ∧ A1 < 4294967296) : ((2 ^ s : Nat) : Int) * (((A1 * 4294967296 + A0) / ((2 ^ s : Nat) : Int)) % 4294967296) = 4294967296 * (A1 % ((2 ^ s : Nat) : Int)) + A0 - A0 % ((2 ^ s : Nat) : Int) := by
  obtain ⟨Q, hQ, hQ0, hP⟩ := pow_split hs
  generalize ((2 ^ s : Nat) : Int) = P at *
  have e0 := Int.emod_add_mul_ediv A0 P
  have e1 := Int.emod_add_mul_ediv A1 P
  have n0 := Int.emod_nonneg A0 (Int.ne_of_gt hP)
  have l0 := Int.emod_lt_of_pos A0 hP
  have n1 := Int.emod_nonneg A1 (Int.ne_of_gt hP)
  have l1 := Int.emod_lt_of_pos A1 hP
  have q0 := Int.ediv_nonneg h0.1 (Int.le_of_lt hP)
  have q0' : A0 / P < Q := Int.ediv_lt_of_lt_mul hP (by rw [Int.mul_comm]; omega)
  generalize A0 % P = r0 at *
  generalize A1 % P = r1 at *
  generalize A0 / P = y0 at *
  generalize A1 / P = y1 at *
  have e2 : A1 * 4294967296 + A0 = r0 + P * (A1 * Q + y0) := by
    rw [Int.mul_add, Int.mul_left_comm P, hQ]; omega
  have e3 : (A1 * 4294967296 + A0) / P = A1 * Q + y0 := by
    rw [e2, Int.add_mul_ediv_left _ _ (Int.ne_of_gt hP), Int.ediv_eq_zero_of_lt n0 l0, Int.zero_add]
  have e4 : A1 * Q + y0 = r1 * Q + y0 + 4294967296 * y1 := by
    rw [← e1, Int.add_mul, ← hQ, Int.mul_right_comm P Q y1, Int.mul_assoc P y1 Q]; omega
  have f1 := Int.mul_nonneg n1 (Int.le_of_lt hQ0)
  have f2 := Int.mul_le_mul_of_nonneg_right (show r1 + 1 ≤ P by omega) (Int.le_of_lt hQ0)
  rw [Int.add_mul, Int.one_mul, hQ] at f2
  have e5 : (A1 * Q + y0) % 4294967296 = r1 * Q + y0 := by
    rw [e4, Int.add_mul_emod_self_left, Int.emod_eq_of_lt (by omega) (by omega)]
  rw [e3, e5, Int.mul_add, Int.mul_left_comm P r1 Q, hQ]
  omega
theorem shr_next {m r : List U32} {i : Nat} {P out ρ : Int} (hi : i < r.length) (hv : P * valB (r.take i) + ρ = valB (m.take i) + pb i * (lg m i % P)) (ho : P * out = 4294967296 * (lg m (i + 1) % P) + lg m i - lg m i % P) :
    P * valB ((r.set i ⟨out⟩).take (i + 1)) + ρ = valB (m.take (i + 1)) + pb (i + 1) * (lg m (i + 1) % P) := by
  rw [bval_step (r.set i _), bval_step m, lg_set hi, List.take_set_of_le (Nat.le_refl i), pb_succ, Int.mul_add, Int.mul_left_comm P, ho, Int.mul_sub, Int.mul_add, Int.mul_left_comm (pb i) 4294967296]
  rw [Int.mul_assoc]
  omega
theorem shr_end {m r : List U32} {P : Int} (hP : 0 < P) (hn : r.length = m.length) (hv : P * valB (r.take m.length) + lg m 0 % P = valB (m.take m.length) + pb m.length * (lg m m.length % P)) : valB r = valB m / P := by
  rw [take_all (by omega), take_all (Nat.le_refl _), lg_end (Nat.le_refl _), Int.zero_emod, Int.mul_zero, Int.add_zero] at hv
  rw [← hv, Int.add_comm, Int.add_mul_ediv_left _ _ (Int.ne_of_gt hP), Int.ediv_eq_zero_of_lt (Int.emod_nonneg _ (Int.ne_of_gt hP)) (Int.emod_lt_of_pos _ hP), Int.zero_add]
theorem pow_room {x y : Int} {s : Nat} (hs : s ≤ 32) (hx : x < ((2 ^ s : Nat) : Int)) (h0 : 0 ≤ x) (hy : 0 ≤ y ∧ y < 4294967296) (hm : y % ((2 ^ s : Nat) : Int) = 0) : 0 ≤ x + y ∧ x + y < 4294967296 := by
  obtain ⟨Q, hQ, hQ0, hP⟩ := pow_split hs
  generalize ((2 ^ s : Nat) : Int) = P at *
  refine ⟨by omega, ?_⟩
  have h1 := Int.emod_add_mul_ediv y P
  rw [hm, Int.zero_add] at h1
  have h2 : y / P < Q := Int.ediv_lt_of_lt_mul hP (by rw [Int.mul_comm]; omega)
  have h3 := Int.mul_le_mul_of_nonneg_left (show y / P + 1 ≤ Q by omega) (Int.le_of_lt hP)
  rw [Int.mul_add, Int.mul_one, hQ, h1] at h3
  omega
attribute [local irreducible] valB pb cmpZ
theorem c127 (G : Imm) (a : Option Addr) (ca : Nat) (la : List U32) (d s : Nat) (ha : Arr G a la) (da : Lims la) (h1 : la.length ≤ 1073741824) (hs : s < 32) (hd : d ≤ 1000) :
    Does Tryz.prog 127 [.slice a la.length ca, .int .i64 ((32 * d + s : Nat) : Int)] G [] (fun v G' Ho => ∃ r, v = .tuple #[r, .int .i64 0] ∧ Nat32 G' r (pb d * ((2 ^ s : Nat) : Int) * valB la) (la.length + d + 1) ∧ Ho = []) := by
  refine Does.enter Tryz.func127 rfl Tryz.ntmps127 rfl (fun w => ?_)
  have ed : ((32 * d + s : Nat) : Int) / 32 = (d : Int) := by omega
  have es : ((32 * d + s : Nat) : Int) % 32 = (s : Int) := by omega
  have hP : 0 < ((2 ^ s : Nat) : Int) := (pow_split (by omega)).choose_spec.2.2
  refine Wc.gl 31 [0, 0] ?_
  refine Wl.q rfl (Qy.quoP rfl rfl (by omega)) ?_
  refine Wl.ll0 2 [] ?_
  refine Wl.make (α := U32) 0 rfl T.sl35 T.el63 rfl rfl (by omega) (by omega) (fun b1 => ?_)
  refine Wl.gl 6 [] ?_
  refine Wl.q rfl (Qy.urem rfl rfl (by omega)) ?_
  refine Wl.gc 12 [] ?_
  obtain ⟨N, hN⟩ : ∃ N, N = la.length + d + 1 := ⟨_, rfl⟩
  have hM : ((la.length : Int) + ((32 * d + s : Nat) : Int) / 32 + 1).toNat = N := by omega
  rw [hM]
  have hown : ∀ r : List U32, r.length = N → OwnA (some ⟨b1, 0, none⟩) N r [] := fun r hr => .inr ⟨b1, rfl, by rw [hr]; rfl, by omega, by simp only [maxLen]; omega⟩
  refine Wc.re 6 rfl (show _ = Value.slice (some ⟨b1, 0, none⟩) (List.replicate N (default : U32)).length N by rw [List.length_replicate]) ?_
  refine Wc.re 7 rfl (show _ = Value.int .i64 (s : Int) by rw [es]) ?_
  refine Wc.loop (ι := Nat × List U32) (fun (i, r) => ([(26, .int .i64 (i : Int)), (6, .slice (some ⟨b1, 0, none⟩) r.length N), (7, Go.Value.int Go.IntKind.i64 (↑s : Int)), (25, Go.Value.int Go.IntKind.i64 (↑(List.length la) : Int)), (24, Go.Value.slice a (List.length la) ca), (5, Go.Value.int Go.IntKind.i64 0), (4, Go.Value.slice Option.none 0 0), (1, Go.Value.int Go.IntKind.i64 (↑(32 * d + s) : Int))], [(0, some b1, Row 63 r [])])) (fun (i, r) => i ≤ la.length ∧ r.length = N ∧ Lims r ∧ valB r = pb d * ((2 ^ s : Nat) : Int) * valB (la.take i) ∧ lg r (i + d) < ((2 ^ s : Nat) : Int) ∧ ∀ k, i + d < k → lg r k = 0) (fun (i, r) => la.length - i) ((0, List.replicate N (default : U32))) (⟨Nat.zero_le _, List.length_replicate, Lims.zeros N, by rw [List.take_zero, valB_nil, Int.mul_zero]; exact valB_replicate N, by rw [lg_zeros]; exact hP, fun k _ => lg_zeros N k⟩) ⟨rfl, rfl, rfl, rfl, rfl, rfl, rfl, rfl, trivial⟩ ⟨rfl, trivial⟩ (fun ⟨i, r⟩ => fun (hk : i ≤ la.length ∧ r.length = N ∧ Lims r ∧ valB r = pb d * ((2 ^ s : Nat) : Int) * valB (la.take i) ∧ lg r (i + d) < ((2 ^ s : Nat) : Int) ∧ ∀ k, i + d < k → lg r k = 0) => ?_)
  obtain ⟨hi, hrN, hdr, hv, hlow, hz⟩ := hk
  have hor := hown r hrN
  rcases Nat.lt_or_ge i la.length with hia | hia
  · have hx : 0 ≤ (la[((i : Nat) : Int).toNat]?.getD default).v ∧ (la[((i : Nat) : Int).toNat]?.getD default).v < 4294967296 := lg_lt da hia
    have ekk : ((i : Int) + ((32 * d + s : Nat) : Int) / 32).toNat = i + d := by omega
    have hpt := shl_parts (s := s) (by omega) hx
    refine Wc.gl 14 [1] ?_
    refine Wl.q rfl (Qy.at (α := U32) T.sl35 rfl rfl (by assumption) (by omega)) ?_
    refine Wl.q rfl (Qy.loadG T.one63 rfl (Arr.cell (by assumption) (by omega) 0 rfl rfl)) ?_
    refine Wl.gl 7 [] ?_
    refine Wl.q rfl (Qy.conv64 rfl T.u61 rfl (by omega)) ?_
    refine Wl.q rfl (Qy.move rfl) ?_
    refine Wl.q rfl (Qy.shlV rfl rfl (by omega) (by omega)) ?_
    refine Wl.gl 8 [] ?_
    refine Wl.q rfl (Qy.quoP rfl rfl (by omega)) ?_
    refine Wl.q rfl (Qy.add rfl rfl (by omega)) ?_
    refine Wl.q rfl (Qy.indexAddrO (α := U32) T.sl35 rfl rfl (by assumption) (by omega)) ?_
    refine Wl.q rfl (Qy.loadO 0 0 T.one63 rfl rfl (by assumption) (by omega) rfl rfl) ?_
    refine Wl.q rfl (Qy.move rfl) ?_
    refine Wl.q rfl (Qy.trunc32 rfl T.u63 rfl) ?_
    refine Wl.q rfl (Qy.orW rfl rfl) ?_
    refine Wl.q rfl (Qy.indexAddrO (α := U32) T.sl35 rfl rfl (by assumption) (by omega)) ?_
    refine Wl.setO (z := _) 0 T.size63 rfl rfl rfl (by assumption) (by omega) rfl (fun ho1 => ?_)
    refine Wl.gl 6 [] ?_
    refine Wl.q rfl (Qy.quoP rfl rfl (by omega)) ?_
    refine Wl.ll0 2 [] ?_
    refine Wl.q rfl (Qy.indexAddrO (α := U32) T.sl35 rfl rfl (by assumption) (by omega)) ?_
    obtain ⟨r1, hr1⟩ : ∃ r1, r1 = r.set (i + d) (⟨lg r (i + d) + (la[((i : Nat) : Int).toNat]?.getD default).v * ((2 ^ s : Nat) : Int) % 4294967296⟩ : U32) := ⟨_, rfl⟩
    have hk0 := lg_rng hdr (i + d)
    have hlo : bits BinOp.or IntKind.u32 (r[((i : Int) + ((32 * d + s : Nat) : Int) / 32).toNat]?.getD default).v ((la[((i : Nat) : Int).toNat]?.getD default).v * ((2 ^ s : Nat) : Int) % 4294967296) = lg r (i + d) + (la[((i : Nat) : Int).toNat]?.getD default).v * ((2 ^ s : Nat) : Int) % 4294967296 := by
      rw [ekk]
      exact or_part_u32 _ _ s ⟨hk0.1, hlow⟩ (mod32 _) (by omega) hpt.1
    have hr1N : r1.length = N := by rw [hr1, List.length_set]; exact hrN
    have hsum := pow_room (s := s) (by omega) hlow hk0.1 (mod32 _) hpt.1
    have hd1 : Lims r1 := by rw [hr1]; exact lims_set hdr _ hsum
    have hz1 : lg r1 (i + d + 1) = 0 := by rw [hr1, lg_set_ne (by omega)]; exact hz _ (by omega)
    have hor1 := hown r1 hr1N
    refine Wl.reH 0 (Row 63 r1 []) rfl ?_ ?_
    · show Row 63 (r.set ((i : Int) + ((32 * d + s : Nat) : Int) / 32).toNat ⟨bits BinOp.or IntKind.u32 (r[((i : Int) + ((32 * d + s : Nat) : Int) / 32).toNat]?.getD default).v ((la[((i : Nat) : Int).toNat]?.getD default).v * ((2 ^ s : Nat) : Int) % 4294967296)⟩) [] = _
      rw [hlo, ekk, hr1]
    skip
    refine Wl.q rfl (Qy.loadO (m := (i : Int) + ((32 * d + s : Nat) : Int) / 32 + 1) (c := N) (xs := r1) (junk := []) 0 0 T.one63 rfl rfl hor1 (by omega) rfl rfl) ?_
    refine Wl.q rfl (Qy.move rfl) ?_
    refine Wl.q rfl (Qy.shr32 rfl rfl (by omega)) ?_
    refine Wl.q rfl (Qy.conv32 rfl T.u63 rfl (by omega)) ?_
    refine Wl.q rfl (Qy.orW rfl rfl) ?_
    refine Wl.q rfl (Qy.indexAddrO (α := U32) T.sl35 rfl rfl (by assumption) (by omega)) ?_
    refine Wl.setO (z := _) 0 T.size63 rfl rfl rfl (by assumption) (by omega) rfl (fun ho2 => ?_)
    refine Wl.ga 7 [] ?_
    have hhi : bits BinOp.or IntKind.u32 (r1[((i : Int) + ((32 * d + s : Nat) : Int) / 32 + 1).toNat]?.getD default).v ((la[((i : Nat) : Int).toNat]?.getD default).v * ((2 ^ s : Nat) : Int) / 4294967296) = (la[((i : Nat) : Int).toNat]?.getD default).v * ((2 ^ s : Nat) : Int) / 4294967296 := by
      rw [show ((i : Int) + ((32 * d + s : Nat) : Int) / 32 + 1).toNat = i + d + 1 by omega, show (r1[i + d + 1]?.getD default).v = 0 by simpa only [lg, Int.toNat_natCast] using hz1]
      rw [or_part_u32 0 _ 0 (by decide) (by omega) (by decide) (Int.emod_one _), Int.zero_add]
    obtain ⟨r2, hr2⟩ : ∃ r2, r2 = r1.set (i + d + 1) (⟨(la[((i : Nat) : Int).toNat]?.getD default).v * ((2 ^ s : Nat) : Int) / 4294967296⟩ : U32) := ⟨_, rfl⟩
    refine Ar.reH 0 (Row 63 r2 []) rfl ?_ ?_
    · show Row 63 (r1.set ((i : Int) + ((32 * d + s : Nat) : Int) / 32 + 1).toNat ⟨bits BinOp.or IntKind.u32 (r1[((i : Int) + ((32 * d + s : Nat) : Int) / 32 + 1).toNat]?.getD default).v ((la[((i : Nat) : Int).toNat]?.getD default).v * ((2 ^ s : Nat) : Int) / 4294967296)⟩) [] = _
      rw [hhi, show ((i : Int) + ((32 * d + s : Nat) : Int) / 32 + 1).toNat = i + d + 1 by omega, hr2]
    have hr2N : r2.length = N := by rw [hr2, List.length_set]; exact hr1N
    refine Ar.re 6 rfl (show _ = Value.slice (some ⟨b1, 0, none⟩) r2.length N by rw [hr2N, hrN]) ?_
    have hlt32 := (pow_split (s := s) (by omega))
    refine Ar.again ((i + 1, r2)) ?_ ?_ rfl ⟨rfl, rfl, rfl, rfl, rfl, rfl, rfl, rfl, trivial⟩ ⟨rfl, trivial⟩
    · refine ⟨by omega, hr2N, by rw [hr2]; exact lims_set hd1 _ ⟨hpt.2.1, by omega⟩, ?_, ?_, ?_⟩
      · rw [hr2, hr1]
        exact shl_next (by omega) (hz _ (by omega)) hv rfl rfl
      · rw [show i + 1 + d = i + d + 1 by omega, hr2, lg_set (by omega)]
        exact hpt.2.2.1
      · intro k hk
        rw [hr2, lg_set_ne (by omega), hr1, lg_set_ne (by omega)]
        exact hz k (by omega)
    · show la.length - (i + 1) < la.length - i
      omega
  · rw [take_all hia] at hv
    refine Wc.gl 15 [0] ?_
    refine Wl.freezeRow 0 rfl hor (fun G9 hle9 hA => ?_)
    refine Wl.call 1 rfl T.fn56 rfl (c56 _ _ _ _ (by assumption) (by omega) (by first | assumption | omega)) (tags_of trivial) (fun v1 G1 Ho1 hle1 hp => ?_)
    obtain ⟨ta1, tm1, rfl, hta1, hte1, htr1, htl1, rfl, rfl⟩ := hp
    refine Wl.ga 5 [] ?_
    refine Ar.out2 (.inr rfl) (Ho := Hp.only _ []) rfl (.tmp rfl) (.tmp rfl) (Hp.sub_only _ _) ?_
    exact ⟨_, rfl, Nat32.of hta1 hte1 htr1 hdr hv (by omega), rfl⟩
theorem c129 (G : Imm) (a : Option Addr) (ca : Nat) (la : List U32) (s : Nat) (ha : Arr G a la) (da : Lims la) (h1 : la.length ≤ 1073741824) (hca : la.length ≤ ca) (hs : s < 32) :
    Does Tryz.prog 129 [.slice a la.length ca, .int .i64 (s : Int)] G [] (fun v G' Ho => ∃ r, v = .tuple #[r, .int .i64 0] ∧ Nat32 G' r (valB la / ((2 ^ s : Nat) : Int)) la.length ∧ Ho = []) := by
  refine Does.enter Tryz.func129 rfl Tryz.ntmps129 rfl (fun w => ?_)
  have ed : (s : Int) / 32 = 0 := by omega
  have es : (s : Int) % 32 = (s : Int) := by omega
  have hP : 0 < ((2 ^ s : Nat) : Int) := (pow_split (by omega)).choose_spec.2.2
  refine Wc.gl 19 [0] ?_
  refine Wl.call 0 rfl T.fn56 rfl (c56 _ _ _ _ (by assumption) (by omega) (by first | assumption | omega)) (tags_of trivial) (fun v1 G1 Ho1 hle1 hp => ?_)
  obtain ⟨ta1, tm1, rfl, hta1, hte1, htr1, htl1, rfl, rfl⟩ := hp
  refine Wl.gl 7 [] ?_
  refine Wl.q rfl (Qy.quoP rfl rfl (by omega)) ?_
  refine Wl.gc 5 [] ?_
  refine Wc.cond rfl (fun hc1 => ?_) (fun hc1 => ?_)
  refine Wc.ga 8 [] ?_
  refine Ar.out2 (.inr rfl) (Ho := Hp.only _ []) rfl (.tmp rfl) (.tmp rfl) (Hp.sub_only _ _) ?_
  rotate_left
  refine Wc.gl 6 [] ?_
  refine Wl.q rfl (Qy.quoP rfl rfl (by omega)) ?_
  refine Wl.q rfl (Qy.cutL T.sl35 rfl rfl (by omega) (by omega)) ?_
  refine Wl.gl 6 [] ?_
  refine Wl.q rfl (Qy.urem rfl rfl (by omega)) ?_
  refine Wl.gl 7 [] ?_
  refine Wl.make (α := U32) 0 rfl T.sl35 T.el63 rfl rfl (by omega) (by omega) (fun b1 => ?_)
  refine Wl.gc 12 [] ?_
  rotate_left
  · have hz : tm1 = [] := List.eq_nil_of_length_eq_zero (by omega)
    have hv0 : valB la = 0 := by rw [← trim_val hte1 htr1, hz, valB_nil]
    refine ⟨_, rfl, ⟨none, [], rfl, Arr.nil _, Lims.nil, Top.nil, ?_, Nat.zero_le _⟩, rfl⟩
    rw [hv0, Int.zero_ediv, valB_nil]
  have dm := trim_lims hte1 da
  have hta2 : Arr G1 (subA ta1 tm1.length 0 1) tm1 := by
    have h2 := barr_sub (c := tm1.length) (sz := 1) hta1 tm1.length
    rw [take_all (Nat.le_refl _)] at h2
    exact h2
  obtain ⟨tb, htb⟩ : ∃ tb, tb = subA ta1 tm1.length 0 1 := ⟨_, rfl⟩
  rw [← htb] at hta2
  obtain ⟨N, hN⟩ : ∃ N, N = tm1.length := ⟨_, rfl⟩
  have hM : (((tm1.length - ((s : Int) / 32).toNat : Nat) : Int)).toNat = N := by omega
  rw [hM]
  have hown : ∀ r : List U32, r.length = N → OwnA (some ⟨b1, 0, none⟩) N r [] := fun r hr => .inr ⟨b1, rfl, by rw [hr]; rfl, by omega, by simp only [maxLen]; omega⟩
  refine Wc.re 7 rfl (show _ = Value.slice (some ⟨b1, 0, none⟩) (List.replicate N (default : U32)).length N by rw [List.length_replicate]) ?_
  refine Wc.re 6 rfl (show _ = Value.int .i64 (s : Int) by rw [es]) ?_
  refine Wc.re 0 rfl (show _ = Value.slice tb tm1.length tm1.length by rw [ed, htb]; rfl) ?_
  refine Wc.re 29 rfl (show _ = Value.slice tb tm1.length tm1.length by rw [ed, htb]; rfl) ?_
  refine Wc.re 30 rfl (show _ = Value.int .i64 (tm1.length : Int) by rw [ed]; rfl) ?_
  refine Wc.loop (ι := Nat × List U32) (fun (i, r) => ([(31, .int .i64 (i : Int)), (7, .slice (some ⟨b1, 0, none⟩) r.length N), (30, Go.Value.int Go.IntKind.i64 (↑(List.length tm1) : Int)), (29, Go.Value.slice tb (List.length tm1) (List.length tm1)), (0, Go.Value.slice tb (List.length tm1) (List.length tm1)), (6, Go.Value.int Go.IntKind.i64 (↑s : Int)), (5, Go.Value.int Go.IntKind.i64 0), (4, Go.Value.slice Option.none 0 0)], [(0, some b1, Row 63 r [])])) (fun (i, r) => i ≤ tm1.length ∧ r.length = N ∧ Lims r ∧ ((2 ^ s : Nat) : Int) * valB (r.take i) + lg tm1 0 % ((2 ^ s : Nat) : Int) = valB (tm1.take i) + pb i * (lg tm1 i % ((2 ^ s : Nat) : Int))) (fun (i, r) => tm1.length - i) ((0, List.replicate N (default : U32))) (⟨Nat.zero_le _, List.length_replicate, Lims.zeros N, by rw [List.take_zero, List.take_zero, valB_nil, Int.mul_zero, pb_zero, Int.one_mul]⟩) ⟨rfl, rfl, rfl, rfl, rfl, rfl, rfl, rfl, trivial⟩ ⟨rfl, trivial⟩ (fun ⟨i, r⟩ => fun (hk : i ≤ tm1.length ∧ r.length = N ∧ Lims r ∧ ((2 ^ s : Nat) : Int) * valB (r.take i) + lg tm1 0 % ((2 ^ s : Nat) : Int) = valB (tm1.take i) + pb i * (lg tm1 i % ((2 ^ s : Nat) : Int))) => ?_)
  obtain ⟨hi, hrN, hdr, hv⟩ := hk
  have hor := hown r hrN
  rcases Nat.lt_or_ge i tm1.length with hia | hia
  · have hx : 0 ≤ (tm1[((i : Nat) : Int).toNat]?.getD default).v ∧ (tm1[((i : Nat) : Int).toNat]?.getD default).v < 4294967296 := lg_lt dm hia
    have ex : (tm1[((i : Nat) : Int).toNat]?.getD default).v = lg tm1 i := rfl
    have ex1 : (tm1[(((i : Nat) : Int) + 1).toNat]?.getD default).v = lg tm1 (i + 1) := by unfold lg; rw [show (((i : Nat) : Int) + 1).toNat = ((i + 1 : Nat) : Int).toNat by omega]
    have hy : 0 ≤ (tm1[(((i : Nat) : Int) + 1).toNat]?.getD default).v ∧ (tm1[(((i : Nat) : Int) + 1).toNat]?.getD default).v < 4294967296 := by rw [ex1]; exact lg_rng dm _
    by_cases hib : i + 1 < tm1.length
    · refine Wc.gl 14 [1] ?_
      refine Wl.q rfl (Qy.at (α := U32) T.sl35 rfl rfl (by assumption) (by omega)) ?_
      refine Wl.q rfl (Qy.loadG T.one63 rfl (Arr.cell (by assumption) (by omega) 0 rfl rfl)) ?_
      refine Wl.gl 7 [] ?_
      refine Wl.q rfl (Qy.conv64 rfl T.u61 rfl (by omega)) ?_
      refine Wl.gl 19 [1] ?_
      refine Wl.q rfl (Qy.at (α := U32) T.sl35 rfl rfl (by assumption) (by omega)) ?_
      refine Wl.q rfl (Qy.loadG T.one63 rfl (Arr.cell (by assumption) (by omega) 0 rfl rfl)) ?_
      refine Wl.q rfl (Qy.conv64 rfl T.u61 rfl (by omega)) ?_
      refine Wl.q rfl (Qy.shl32 rfl rfl (by omega)) ?_
      refine Wl.q rfl (Qy.orHigh rfl rfl (by omega) (by omega)) ?_
      refine Wl.gl 8 [] ?_
      refine Wl.q rfl (Qy.shrV rfl rfl (by omega) (by omega)) ?_
      refine Wl.q rfl (Qy.trunc32 rfl T.u63 rfl) ?_
      refine Wl.q rfl (Qy.indexAddrO (α := U32) T.sl35 rfl rfl (by assumption) (by omega)) ?_
      refine Wl.setO (z := _) 0 T.size63 rfl rfl rfl (by assumption) (by omega) rfl (fun ho1 => ?_)
      refine Wl.ga 7 [] ?_
      obtain ⟨out, hout⟩ : ∃ out, out = ((tm1[(((i : Nat) : Int) + 1).toNat]?.getD default).v * 4294967296 + (tm1[((i : Nat) : Int).toNat]?.getD default).v) / ((2 ^ s : Nat) : Int) % 4294967296 := ⟨_, rfl⟩
      have hpart : ((2 ^ s : Nat) : Int) * out = 4294967296 * (lg tm1 (i + 1) % ((2 ^ s : Nat) : Int)) + lg tm1 i - lg tm1 i % ((2 ^ s : Nat) : Int) := by
        rw [hout, ex, ex1]; exact shr_part (by omega) (lg_rng dm i) (lg_rng dm (i + 1))
      refine Ar.reH 0 (Row 63 (r.set i (⟨out⟩ : U32)) []) rfl (by rw [hout, Int.toNat_natCast]) ?_
      refine Ar.re 7 rfl (show _ = Value.slice (some ⟨b1, 0, none⟩) (r.set i (⟨out⟩ : U32)).length N by rw [List.length_set]) ?_
      refine Ar.again ((i + 1, r.set i (⟨out⟩ : U32))) ?_ ?_ rfl ⟨rfl, rfl, rfl, rfl, rfl, rfl, rfl, rfl, trivial⟩ ⟨rfl, trivial⟩
      · exact ⟨by omega, by rw [List.length_set]; exact hrN, lims_set hdr _ (by rw [hout]; exact mod32 _), shr_next (by omega) hv hpart⟩
      · show tm1.length - (i + 1) < tm1.length - i
        omega
    · have hz0 := lg_end (show tm1.length ≤ i + 1 by omega)
      refine Wc.gl 14 [1] ?_
      refine Wl.q rfl (Qy.at (α := U32) T.sl35 rfl rfl (by assumption) (by omega)) ?_
      refine Wl.q rfl (Qy.loadG T.one63 rfl (Arr.cell (by assumption) (by omega) 0 rfl rfl)) ?_
      refine Wl.gl 7 [] ?_
      refine Wl.q rfl (Qy.conv64 rfl T.u61 rfl (by omega)) ?_
      refine Wl.gl 21 [0] ?_
      refine Wl.q rfl (Qy.shrV rfl rfl (by omega) (by omega)) ?_
      refine Wl.q rfl (Qy.trunc32 rfl T.u63 rfl) ?_
      refine Wl.q rfl (Qy.indexAddrO (α := U32) T.sl35 rfl rfl (by assumption) (by omega)) ?_
      refine Wl.setO (z := _) 0 T.size63 rfl rfl rfl (by assumption) (by omega) rfl (fun ho1 => ?_)
      refine Wl.ga 7 [] ?_
      obtain ⟨out, hout⟩ : ∃ out, out = (tm1[((i : Nat) : Int).toNat]?.getD default).v / ((2 ^ s : Nat) : Int) % 4294967296 := ⟨_, rfl⟩
      have hpart : ((2 ^ s : Nat) : Int) * out = 4294967296 * (lg tm1 (i + 1) % ((2 ^ s : Nat) : Int)) + lg tm1 i - lg tm1 i % ((2 ^ s : Nat) : Int) := by
        rw [hout, show (tm1[((i : Nat) : Int).toNat]?.getD default).v = lg tm1 (i + 1) * 4294967296 + lg tm1 i by rw [hz0, Int.zero_mul, Int.zero_add]; rfl]; exact shr_part (by omega) (lg_rng dm i) (lg_rng dm (i + 1))
      refine Ar.reH 0 (Row 63 (r.set i (⟨out⟩ : U32)) []) rfl (by rw [hout, Int.toNat_natCast]) ?_
      refine Ar.re 7 rfl (show _ = Value.slice (some ⟨b1, 0, none⟩) (r.set i (⟨out⟩ : U32)).length N by rw [List.length_set]) ?_
      refine Ar.again ((i + 1, r.set i (⟨out⟩ : U32))) ?_ ?_ rfl ⟨rfl, rfl, rfl, rfl, rfl, rfl, rfl, rfl, trivial⟩ ⟨rfl, trivial⟩
      · exact ⟨by omega, by rw [List.length_set]; exact hrN, lims_set hdr _ (by rw [hout]; exact mod32 _), shr_next (by omega) hv hpart⟩
      · show tm1.length - (i + 1) < tm1.length - i
        omega
  · have hii : i = tm1.length := by omega
    subst hii
    have hval := shr_end hP (by omega) hv
    refine Wc.gl 15 [0] ?_
    refine Wl.freezeRow 0 rfl hor (fun G9 hle9 hA => ?_)
    refine Wl.call 1 rfl T.fn56 rfl (c56 _ _ _ _ (by assumption) (by omega) (by first | assumption | omega)) (tags_of trivial) (fun v2 G2 Ho2 hle2 hp => ?_)
    obtain ⟨ta2, tm2, rfl, hta2, hte2, htr2, htl2, rfl, rfl⟩ := hp
    refine Wl.ga 5 [] ?_
    refine Ar.out2 (.inr rfl) (Ho := Hp.only _ []) rfl (.tmp rfl) (.tmp rfl) (Hp.sub_only _ _) ?_
    rw [trim_val hte1 htr1] at hval
    exact ⟨_, rfl, Nat32.of hta2 hte2 htr2 hdr hval (by omega), rfl⟩
end Go.Proofs.YtelbhbbiejalhaaGreat
set_option linter.unusedVariables false
namespace Go.Sl
open Go
section
variable {P : Program} {ops : Array Oper} {rest : List Oper} {B : Bs} {e : Env} {D : List Deferred} {H : Hp} {G : Imm} {K : Act → World → Prop}
  {ty : TypeId} {pos : String} {after : Array Edge} {d : Nat} {α : Type} [Cells α]
theorem run_appendArr {w : World} (hw : HoldH H G w) {T E bytes : Nat} {zs : List Value} (hT : isSlice P T E (Cells.sz α)) (hE : ElemOf P E (Cells.sz α) bytes zs) {a ad : Option Addr} {c2 : Nat} {xs ys : List α}
    (hA : Src H G a xs) (hx0 : 0 < xs.length) (hsrc : Src H G ad ys) (hy0 : 0 < ys.length) (hb : (xs.length + ys.length) * bytes ≤ 140737488355328) (hl : xs.length + ys.length ≤ maxLen) :
    ∃ c' junk' w', (Builtin.append_ #[T, T] ty #[.slice a xs.length xs.length, .slice ad ys.length c2]).run P w = .ok (.slice (some ⟨w.heap.size, 0, none⟩) (xs ++ ys).length c') w' ∧ OwnA (some ⟨w.heap.size, 0, none⟩) c' (xs ++ ys) junk' ∧
      Upd (fun _ => False) w w' ∧ w'.heap.size = w.heap.size + 1 ∧ w'.heap[w.heap.size]? = some (Row E (xs ++ ys) junk') := by
  obtain ⟨i, z, hi, hz1, hz2, hs, hby, hzl, hsz⟩ := hE
  have hm63 : xs.length + ys.length ≤ 9223372036854775807 := by simp only [maxLen] at hl; omega
  have hlen : (xs ++ ys).length = xs.length + ys.length := List.length_append
  have hyl : (flat ys).length = ys.length * i.size := by rw [flat_length, hs]
  have hxl : (flat xs).length = xs.length * i.size := by rw [flat_length, hs]
  have junkLen : ∀ k, (Builtin.zeroCells z.cells k).toList.length = k * Cells.sz α := fun k => by
    rw [Array.length_toList, size_zeroCells, hz2]; simp [hzl]
  have fresh : ∀ old, old < xs.length + ys.length → ∃ junk', OwnA (some ⟨w.heap.size, 0, none⟩) (grownCap w (xs.length + ys.length) old E) (xs ++ ys) junk' ∧
      (w.drew.alloc (.cells ((flat xs).toArray ++ (flat ys).toArray ++ Builtin.zeroCells z.cells (grownCap w (xs.length + ys.length) old E - (xs.length + ys.length))) E)).heap[w.heap.size]? = some (Row E (xs ++ ys) junk') := fun old hold => by
    have hge := grownCap_ge w (xs.length + ys.length) old E
    have hcm : grownCap w (xs.length + ys.length) old E ≤ maxLen := grownCap_le_maxLen w _ old E hl
    refine ⟨(Builtin.zeroCells z.cells (grownCap w (xs.length + ys.length) old E - (xs.length + ys.length))).toList, .inr ⟨_, rfl, ?_, by rw [hlen]; exact hge, hcm⟩, ?_⟩
    · rw [junkLen, hlen, ← Nat.add_mul]; congr 1; omega
    · rw [show w.heap.size = w.drew.heap.size from rfl, alloc_new]
      congr 1
      simp [Row, flat_append]
  have hupd : ∀ o, Upd (fun _ => False) w (w.drew.alloc o) := fun o => (Upd.refl _ w).drew.alloc o
  rcases hA w hw with ⟨_, h0⟩ | ⟨ax, rfl, hcell⟩
  · rw [h0] at hx0; simp at hx0
  rcases hsrc w hw with ⟨_, h0⟩ | ⟨src, rfl, hsr⟩
  · rw [h0] at hy0; simp at hy0
  have hr := run_append_grow (P := P) w T ty E i z hT.1 hi hz1 ax xs.length xs.length (flat xs) hxl hcell src ys.length c2 (flat ys) hyl hsr (by omega) (by omega) (growslice_fits (by omega) (by rw [hby]; exact hb))
  obtain ⟨junk', h1, h2⟩ := fresh xs.length (by omega)
  exact ⟨_, junk', _, by rw [hlen]; exact hr, h1, hupd _, by simp, h2⟩
theorem Wl.appendArr {s x : Operand} {T E bytes : Nat} {zs : List Value} {a ad : Option Addr} {c2 : Nat} {xs ys : List α} (t : Nat) (hn : Nat.ble (d + 1) B.n = true) (hT : isSlice P T E (Cells.sz α)) (hE : ElemOf P E (Cells.sz α) bytes zs)
    (hs : e.ev s = some (.slice a xs.length xs.length)) (hx : e.ev x = some (.slice ad ys.length c2)) (hA : Src H G a xs) (hx0 : 0 < xs.length) (hsrc : Src H G ad ys) (hy0 : 0 < ys.length)
    (hb : (xs.length + ys.length) * bytes ≤ 140737488355328) (hl : xs.length + ys.length ≤ maxLen)
    (h : ∀ b c' junk', OwnA (some ⟨b, 0, none⟩) c' (xs ++ ys) junk' → Wl P ops rest B ⟨(d, .slice (some ⟨b, 0, none⟩) (xs ++ ys).length c') :: e, D, (t, some b, Row E (xs ++ ys) junk') :: H, G⟩ K) :
    Wl P ops (⟨some d, .call { callee := .builtin .append, args := #[s, x], argTypes := #[T, T] }, ty, pos, after, none⟩ :: rest) B ⟨e, D, H, G⟩ K := by
  intro ac w hh
  obtain ⟨c', junk', w', hrun, ho', hu, hsz, hbk⟩ := run_appendArr (c2 := c2) (ty := ty) hh.mem hT hE hA hx0 hsrc hy0 hb hl
  unfold lstWp
  rw [if_pos (by simp [Region.wanted])]
  unfold opWp
  have hex : (execOp ac.eval ⟨some d, .call { callee := .builtin .append, args := #[s, x], argTypes := #[T, T] }, ty, pos, after, none⟩).run P w = .ok (.value (.slice (some ⟨w.heap.size, 0, none⟩) (xs ++ ys).length c')) w' := by
    simp only [execOp, resolve, invoke, builtin, Sem.run_bind, Sem.run_pure, Result.andThen_ok, List.map_toArray, List.map_cons, List.map_nil, hh.eval hs, hh.eval hx, hrun]
  rw [hex]
  exact h _ c' junk' ho' _ _ (Hold.put (hh.ownNew t hu hsz hbk) hn _)
end
end Go.Sl
set_option maxRecDepth 100000
set_option linter.unusedVariables false
namespace Go.Proofs.YtelbhbbiejalhaaGreat
open Go Go.Sl
set_option maxHeartbeats 4000000
theorem lims_drop {l : List U32} (h : Lims l) (k : Nat) : Lims (l.drop k) := fun d hd => h d (List.mem_of_mem_drop hd)
theorem bitAux_bounds : ∀ (f x : Nat), 0 < x → x < 2 ^ f → 1 ≤ Lib.bitLenAux f x ∧ Lib.bitLenAux f x ≤ f ∧ 2 ^ (Lib.bitLenAux f x - 1) ≤ x ∧ x < 2 ^ Lib.bitLenAux f x
  | 0, x, h0, h1 => by simp at h1; omega
  | f + 1, x, h0, h1 => by
    unfold Lib.bitLenAux
    rw [if_neg (by omega)]
    by_cases h2 : x / 2 = 0
    · have hx : x = 1 := by omega
      subst hx
      have : Lib.bitLenAux f (1 / 2) = 0 := by cases f <;> simp [Lib.bitLenAux]
      rw [this]; simp
    · have ih := bitAux_bounds f (x / 2) (by omega) (by rw [Nat.pow_succ] at h1; omega)
      obtain ⟨a1, a2, a3, a4⟩ := ih
      refine ⟨by omega, by omega, ?_, ?_⟩
      · rw [Nat.add_sub_cancel_left, ← Nat.sub_add_cancel a1, Nat.pow_succ]; omega
      · rw [Nat.add_comm 1, Nat.pow_succ]; omega
/-- a limb shifted up till its highest bit is 1 -/
theorem lead_room {x : Int} (h0 : 0 < x) (h1 : x < 4294967296) : ∃ s : Nat, s < 32 ∧ 32 - (Lib.bitLen x.toNat : Int) = (s : Int) ∧ 2147483648 ≤ ((2 ^ s : Nat) : Int) * x ∧ ((2 ^ s : Nat) : Int) * (x + 1) ≤ 4294967296 := by
  have hb := bitAux_bounds 64 x.toNat (by omega) (by have : (2:Nat) ^ 64 = 18446744073709551616 := by decide
                                                     omega)
  have hle := Lib.bitLen_le x.toNat 32 (by omega) (by omega)
  unfold Lib.bitLen at hle ⊢
  generalize Lib.bitLenAux 64 x.toNat = L at *
  obtain ⟨b1, b2, b3, b4⟩ := hb
  refine ⟨32 - L, by omega, by omega, ?_, ?_⟩
  · have e : 2 ^ (32 - L) * 2 ^ (L - 1) = 2147483648 := by
      rw [← Nat.pow_add, show 32 - L + (L - 1) = 31 by omega]
    have h2 := Nat.mul_le_mul_left (2 ^ (32 - L)) b3
    rw [e] at h2
    have h3 : ((2 ^ (32 - L) : Nat) : Int) * x = ((2 ^ (32 - L) * x.toNat : Nat) : Int) := by rw [Int.natCast_mul, Int.toNat_of_nonneg (by omega)]
    rw [h3]; omega
  · have e : 2 ^ (32 - L) * 2 ^ L = 4294967296 := by
      rw [← Nat.pow_add, show 32 - L + L = 32 by omega]
    have h2 := Nat.mul_le_mul_left (2 ^ (32 - L)) (show x.toNat + 1 ≤ 2 ^ L by omega)
    rw [e] at h2
    have h3 : ((2 ^ (32 - L) : Nat) : Int) * (x + 1) = ((2 ^ (32 - L) * (x.toNat + 1) : Nat) : Int) := by rw [Int.natCast_mul, Int.natCast_add, Int.toNat_of_nonneg (by omega)]; rfl
    rw [h3]; omega
theorem norm_top {b v : List U32} {m : Nat} {P : Int} (hP : 0 < P) (hb : b.length = m + 2) (db : Lims b) (dv : Lims v) (tv : Top v) (hx : 2147483648 ≤ P * lg b (m + 1)) (hx2 : P * (lg b (m + 1) + 1) ≤ 4294967296) (hv : valB v = P * valB b) : v.length = m + 2 ∧ 2147483648 ≤ lg v (m + 1) := by
  have e1 := bval_step b (m + 1)
  rw [take_all (show b.length ≤ m + 1 + 1 by omega)] at e1
  have h1 := valB_lt (db.take (m + 1))
  have h2 := valB_nonneg (db.take (m + 1))
  rw [List.length_take, Nat.min_eq_left (by omega)] at h1
  have hp := pb_pos (m + 1)
  have up : valB v < pb (m + 2) := by
    have f1 := Int.mul_lt_mul_of_pos_left (show valB b < pb (m + 1) * (lg b (m + 1) + 1) by rw [Int.mul_add, Int.mul_one]; omega) hP
    have f2 := Int.mul_le_mul_of_nonneg_left hx2 (Int.le_of_lt hp)
    rw [hv, show m + 2 = m + 1 + 1 by omega, pb_succ, Int.mul_comm 4294967296]
    rw [Int.mul_left_comm P] at f1
    omega
  have low : pb (m + 1) * 2147483648 ≤ valB v := by
    have f1 := Int.mul_le_mul_of_nonneg_left (show pb (m + 1) * lg b (m + 1) ≤ valB b by omega) (Int.le_of_lt hP)
    have f2 := Int.mul_le_mul_of_nonneg_left hx (Int.le_of_lt hp)
    rw [hv]
    rw [Int.mul_left_comm P] at f1
    omega
  have l1 := ltop_len dv tv up
  have l2 : m + 2 ≤ v.length := by
    rcases Nat.lt_or_ge v.length (m + 2) with h | h
    · have f1 := valB_lt dv
      have f2 := pb_le (show v.length ≤ m + 1 by omega)
      omega
    · exact h
  have hl : v.length = m + 2 := by omega
  refine ⟨hl, ?_⟩
  have e2 := bval_step v (m + 1)
  rw [take_all (show v.length ≤ m + 1 + 1 by omega)] at e2
  have h3 := valB_lt (dv.take (m + 1))
  rw [List.length_take, Nat.min_eq_left (by omega)] at h3
  rcases Int.lt_or_le (lg v (m + 1)) 2147483648 with h | h
  · have f1 := Int.mul_le_mul_of_nonneg_left (show lg v (m + 1) + 1 ≤ 2147483648 by omega) (Int.le_of_lt hp)
    rw [Int.mul_add, Int.mul_one] at f1
    omega
  · exact h
theorem cmpZ_neg {x y : Int} (h : cmpZ x y < 0) : x < y := by
  unfold cmpZ at h
  split at h
  · assumption
  · split at h <;> omega
/-- the window's own place in the row -/
theorem win_open (R : List U32) (i n : Nat) : R = R.take i ++ ((R.drop i).take n ++ R.drop (i + n)) := by
  rw [← List.drop_drop, List.take_append_drop, List.take_append_drop]
theorem div_start {u v : List U32} (du : Lims u) (dv : Lims v) (tv : Top v) (h0 : 0 < v.length) (hl : v.length ≤ u.length) : valB ((u ++ [(default : U32)]).drop (u.length + 1 - v.length)) < valB v := by
  rw [List.drop_append_of_le_length (by omega), valB_append, valB_one]
  have h1 := valB_lt (lims_drop du (u.length + 1 - v.length))
  rw [List.length_drop, show u.length - (u.length + 1 - v.length) = v.length - 1 by omega] at h1
  have h2 := ltop_ge dv tv (fun e => by rw [e] at h0; simp at h0)
  show valB (u.drop (u.length + 1 - v.length)) + pb _ * 0 < _
  rw [Int.mul_zero]; omega
/-- the window below v times 2^32, nought above it -/
theorem win_room {R v : List U32} {i n : Nat} (dR : Lims R) (dv : Lims v) (hi : i < R.length) (hn : v.length = n) (hl : i + (n + 1) ≤ R.length) (h : valB (R.drop (i + 1)) < valB v) :
    valB ((R.drop i).take (n + 1)) < 4294967296 * valB v ∧ valB (R.drop (i + (n + 1))) = 0 := by
  have e1 := bdrop_step hi
  have e2 := bval_split (R.drop i) (show n + 1 ≤ (R.drop i).length by rw [List.length_drop]; omega)
  rw [List.drop_drop] at e2
  have h1 := lg_rng dR i
  have h2 := valB_lt dv
  rw [hn] at h2
  have h3 := valB_nonneg (lims_drop dR (i + (n + 1)))
  have h4 := valB_nonneg ((lims_drop dR i).take (n + 1))
  have h5 := valB_nonneg (lims_drop dR (i + 1))
  have hp := pb_pos (n + 1)
  have h6 : valB (R.drop (i + (n + 1))) = 0 := by
    rcases (show valB (R.drop (i + (n + 1))) = 0 ∨ 1 ≤ valB (R.drop (i + (n + 1))) by omega) with hz | hz
    · exact hz
    · have f1 := Int.mul_le_mul_of_nonneg_left hz (Int.le_of_lt hp)
      rw [Int.mul_one] at f1
      have f2 := pb_succ n
      omega
  refine ⟨?_, h6⟩
  rw [h6, Int.mul_zero] at e2
  omega
theorem div_end {a b q R P : Int} (hP : 0 < P) (h : P * a = q * (P * b) + R) (h0 : 0 ≤ R) (h1 : R < P * b) : R / P = a % b ∧ q = a / b ∧ 0 < b := by
  have e : R = P * (a - q * b) := by rw [Int.mul_sub, Int.mul_left_comm P q]; omega
  have e1 : R / P = a - q * b := by rw [e, Int.mul_ediv_cancel_left _ (Int.ne_of_gt hP)]
  have l0 : 0 ≤ a - q * b := by
    rw [e] at h0
    exact Int.le_of_mul_le_mul_left (by rw [Int.mul_zero]; exact h0) hP
  have l1 : a - q * b < b := by
    rw [e] at h1
    exact Int.lt_of_mul_lt_mul_left h1 (Int.le_of_lt hP)
  have hb : 0 < b := by omega
  have := (Int.ediv_emod_unique (a := a) (b := b) (r := a - q * b) (q := q) hb).2 ⟨by rw [Int.mul_comm b q]; omega, l0, l1⟩
  exact ⟨e1.trans this.2.symm, this.1.symm, hb⟩
theorem Nat32.short {G : Imm} {v : Value} {z : Int} {n : Nat} {lb : List U32} (h : Nat32 G v z n) (db : Lims lb) (hz : z < valB lb) : Nat32 G v z lb.length := by
  obtain ⟨b, m, h1, h2, h3, h4, h5, h6⟩ := h
  refine ⟨b, m, h1, h2, h3, h4, h5, ?_⟩
  rcases Nat.lt_or_ge lb.length m.length with h7 | h7
  · have := ltop_lt_len db h3 h4 h7; omega
  · exact h7
theorem c126 (G : Imm) (x : Int) (h0 : 0 ≤ x) (h1 : x ≤ 4294967295) : Does Tryz.prog 126 [.int .u32 x] G [] (fun v G' Ho => v = .int .i64 (32 - (Lib.bitLen x.toNat : Int)) ∧ G' = G ∧ Ho = []) :=
  Does.pureCalls fun w => Tryz.bits_LeadingZeros32 x w h0 h1
end Go.Proofs.YtelbhbbiejalhaaGreat
set_option maxRecDepth 100000
set_option linter.unusedVariables false
namespace Go.Proofs.YtelbhbbiejalhaaGreat
open Go Go.Sl
set_option maxHeartbeats 4000000
/-- how far a limb is shifted till its highest bit is 1 -/
theorem c126s (G : Imm) (x : Int) (h0 : 0 < x) (h1 : x < 4294967296) : Does Tryz.prog 126 [.int .u32 x] G [] (fun v G' Ho => ∃ sh : Nat, v = .int .i64 (sh : Int) ∧ sh < 32 ∧ 2147483648 ≤ ((2 ^ sh : Nat) : Int) * x ∧ ((2 ^ sh : Nat) : Int) * (x + 1) ≤ 4294967296 ∧ G' = G ∧ Ho = []) := by
  obtain ⟨sh, h2, h3, h4, h5⟩ := lead_room h0 h1
  exact (c126 G x (by omega) (by omega)).mono fun v G' Ho _ ⟨e1, e2, e3⟩ => ⟨sh, by rw [e1, h3], h2, h4, h5, e2, e3⟩
theorem c127z (G : Imm) (a : Option Addr) (ca : Nat) (la : List U32) (s : Nat) (ha : Arr G a la) (da : Lims la) (h1 : la.length ≤ 1073741824) (hs : s < 32) :
    Does Tryz.prog 127 [.slice a la.length ca, .int .i64 (s : Int)] G [] (fun v G' Ho => ∃ r, v = .tuple #[r, .int .i64 0] ∧ Nat32 G' r (((2 ^ s : Nat) : Int) * valB la) (la.length + 1) ∧ Ho = []) := by
  have h := c127 G a ca la 0 s ha da h1 hs (by omega)
  rw [show 32 * 0 + s = s by omega, pb_zero, Int.one_mul] at h
  exact h
attribute [local irreducible] valB pb cmpZ lstWp
theorem c90 (G : Imm) (a b : Option Addr) (ca cb : Nat) (la lb : List U32) (ha : Arr G a la) (hb : Arr G b lb) (da : Lims la) (ta : Top la) (db : Lims lb) (h1 : la.length ≤ 536870912) (h2 : lb.length ≤ 536870912) (h3 : la.length ≤ ca) (h4 : lb.length ≤ cb) (hB : 0 < valB lb) :
    Does Tryz.prog 90 [.slice a la.length ca, .slice b lb.length cb] G [] (fun v G' Ho => ∃ q r, v = .tuple #[q, r, .int .i64 0] ∧ Nat32 G' q (valB la / valB lb) la.length ∧ Nat32 G' r (valB la % valB lb) lb.length ∧ Ho = []) := by
  have hA := valB_nonneg da
  refine Does.enter Tryz.func90 rfl Tryz.ntmps90 rfl (fun w => ?_)
  refine Wc.gl 10 [] ?_
  refine Wl.call 0 rfl T.fn56 rfl (c56 _ _ _ _ (by assumption) (by omega) (by first | assumption | omega)) (tags_of trivial) (fun v1 G1 Ho1 hle1 hp => ?_)
  obtain ⟨ta1, tm1, rfl, hta1, hte1, htr1, htl1, rfl, rfl⟩ := hp
  refine Wl.gc 3 [] ?_
  have dm := trim_lims hte1 db
  have tp := trim_top hte1 htr1
  have hV := trim_val hte1 htr1
  have hpos : 0 < tm1.length := by
    rcases Nat.eq_zero_or_pos tm1.length with h | h
    · have h5 := List.eq_nil_of_length_eq_zero h
      rw [h5, valB_nil] at hV
      omega
    · exact h
  by_cases hlt : valB la < valB tm1
  · have hcmp : cmpZ (valB la) (valB tm1) = -1 := cmpZ_lt hlt
    refine Wc.gl 16 [0] ?_
    refine Wl.call0 rfl T.fn29 rfl (c29 _ _ _ _ _ _ _ (by assumption) (by assumption) (by assumption) (by assumption) (by omega) (by omega) (by omega) (by omega)) ?_
    refine Wl.gl 7 [1] ?_
    refine Wl.call 0 rfl T.fn55 rfl (c55 _ _ _ _ (by assumption) (by first | omega | (simp only [List.length_cons, List.length_nil]; omega)) (by first | omega | (simp only [List.length_cons, List.length_nil]; omega))) (tags_of trivial) (fun v2 G2 Ho2 hle2 hp => ?_)
    obtain ⟨na2, nm2, rfl, hna2, hne2, hnt2, hnl2, rfl⟩ := hp
    replace ha := ha.up hle2
    replace hb := hb.up hle2
    replace hta1 := hta1.up hle2
    refine Wl.ga 7 [] ?_
    refine Ar.out3 (.inr rfl) (Ho := Hp.only _ []) rfl (.tmp rfl) (.tmp rfl) (.tmp rfl) (Hp.sub_only _ _) ?_
    refine ⟨_, _, rfl, ⟨none, [], rfl, Arr.nil _, Lims.nil, Top.nil, ?_, Nat.zero_le _⟩, Nat32.short (Nat32.of hna2 hne2 hnt2 da ?_ (Nat.le_refl _)) db ?_, rfl⟩
    · rw [valB_nil, Int.ediv_eq_zero_of_lt hA (by omega)]
    · rw [Int.emod_eq_of_lt hA (by omega)]
    · exact Int.emod_lt_of_pos _ hB
  · have hcmp : ¬ cmpZ (valB la) (valB tm1) < 0 := fun h => hlt (cmpZ_neg h)
    by_cases hone : tm1.length = 1
    · have hv1 := bone_val hone
      have hr1 := lg_rng dm 0
      have e1 : (tm1[(0 : Int).toNat]?.getD default).v = lg tm1 0 := rfl
      have hb0 : 0 < (tm1[(0 : Int).toNat]?.getD default).v ∧ (tm1[(0 : Int).toNat]?.getD default).v < 4294967296 := by rw [e1]; omega
      refine Wc.gl 16 [0] ?_
      refine Wl.call0 rfl T.fn29 rfl (c29 _ _ _ _ _ _ _ (by assumption) (by assumption) (by assumption) (by assumption) (by omega) (by omega) (by omega) (by omega)) ?_
      refine Wl.gl 19 [0, 1] ?_
      refine Wl.q rfl (Qy.at (α := U32) T.sl35 rfl rfl (by assumption) (by omega)) ?_
      refine Wl.q rfl (Qy.loadG T.one63 rfl (Arr.cell (by assumption) (by omega) 0 rfl rfl)) ?_
      refine Wl.call 0 rfl T.fn125 rfl (c125 _ _ _ _ _ (by assumption) (by assumption) (by omega) (by omega) (by omega)) (tags_of trivial) (fun v2 G2 Ho2 hle2 hp => ?_)
      obtain ⟨dq2, dz2, dm2, rfl, ⟨dqa2, dqm2, rfl, hdqa2, hdql2, hdqt2, hdqv2, hdqn2⟩, hdv2, hd02, hd12, rfl⟩ := hp
      replace ha := ha.up hle2
      replace hb := hb.up hle2
      replace hta1 := hta1.up hle2
      refine Wl.gl 13 [] ?_
      refine Wl.lit (α := U32) 0 [⟨dm2⟩] rfl T.sl35 T.el63 rfl rfl rfl rfl rfl (fun b1 => ?_)
      have hdl : Lims [(⟨dm2⟩ : U32)] := Lims.one (by omega)
      refine Wl.freezeRow 0 rfl (OwnA.made (xs := [(⟨dm2⟩ : U32)]) (by simp [maxLen])) (fun G9 hle9 hA9 => ?_)
      replace hdqa2 := hdqa2.up hle9
      refine Wl.call 1 rfl T.fn55 rfl (c55 _ _ _ _ (by assumption) (by first | omega | (simp only [List.length_cons, List.length_nil]; omega)) (by first | omega | (simp only [List.length_cons, List.length_nil]; omega))) (tags_of trivial) (fun v3 G3 Ho3 hle3 hp => ?_)
      obtain ⟨na3, nm3, rfl, hna3, hne3, hnt3, hnl3, rfl⟩ := hp
      replace hA9 := hA9.up hle3
      replace hdqa2 := hdqa2.up hle3
      refine Wl.ga 7 [] ?_
      refine Ar.out3 (.inr rfl) (Ho := Hp.only _ []) rfl (.tmp rfl) (.tmp rfl) (.tmp rfl) (Hp.sub_only _ _) ?_
      have hdu := (Int.ediv_emod_unique (a := valB la) (b := valB lb) (r := dm2) (q := dz2) hB).2 ⟨by rw [Int.mul_comm, ← hV, hv1, ← e1]; omega, hd02, by rw [← hV, hv1, ← e1]; exact hd12⟩
      refine ⟨_, _, rfl, ⟨dqa2, dqm2, rfl, hdqa2, hdql2, hdqt2, by rw [hdqv2, hdu.1], hdqn2⟩, Nat32.short (Nat32.of hna3 hne3 hnt3 hdl (by rw [valB_one, hdu.2]) (Nat.le_refl _)) db (Int.emod_lt_of_pos _ hB), rfl⟩
    · obtain ⟨m, hm⟩ : ∃ m, tm1.length = m + 2 := ⟨tm1.length - 2, by omega⟩
      have hx := lg_rng dm (m + 1)
      have ex : (tm1[((tm1.length : Int) - 1).toNat]?.getD default).v = lg tm1 (m + 1) := by unfold lg; rw [show ((tm1.length : Int) - 1).toNat = ((m + 1 : Nat) : Int).toNat by omega]
      have hx1 : lg tm1 (m + 1) ≠ 0 := by
        rcases tp with h | h
        · rw [h] at hm; simp at hm
        · unfold lg; rw [Int.toNat_natCast, show m + 1 = tm1.length - 1 by omega]; exact h
      have hxb : 0 < (tm1[((tm1.length : Int) - 1).toNat]?.getD default).v ∧ (tm1[((tm1.length : Int) - 1).toNat]?.getD default).v < 4294967296 := by rw [ex]; omega
      refine Wc.gl 16 [0] ?_
      refine Wl.call0 rfl T.fn29 rfl (c29 _ _ _ _ _ _ _ (by assumption) (by assumption) (by assumption) (by assumption) (by omega) (by omega) (by omega) (by omega)) ?_
      refine Wl.gl 23 [0, 0] ?_
      refine Wl.q rfl (Qy.at (α := U32) T.sl35 rfl rfl (by assumption) (by omega)) ?_
      refine Wl.q rfl (Qy.loadG T.one63 rfl (Arr.cell (by assumption) (by omega) 0 rfl rfl)) ?_
      refine Wl.call 0 rfl T.fn126 rfl (c126s _ _ (by omega) (by omega)) (tags_of trivial) (fun v2 G2 Ho2 hle2 hp => ?_)
      obtain ⟨sh, rfl, hsh, hs1, hs2, rfl, rfl⟩ := hp
      refine Wl.gl 7 [] ?_
      refine Wl.call 0 rfl T.fn127 rfl (c127z _ _ _ _ sh (by assumption) (by assumption) (by omega) (by omega)) (tags_of trivial) (fun v3 G3 Ho3 hle3 hp => ?_)
      obtain ⟨sr3, rfl, ⟨sa3, sm3, rfl, hsa3, hsl3, hst3, hsv3, hsn3⟩, rfl⟩ := hp
      replace ha := ha.up hle3
      replace hb := hb.up hle3
      replace hta1 := hta1.up hle3
      refine Wl.gl 11 [] ?_
      refine Wl.call 0 rfl T.fn127 rfl (c127z _ _ _ _ sh (by assumption) (by assumption) (by omega) (by omega)) (tags_of trivial) (fun v4 G4 Ho4 hle4 hp => ?_)
      obtain ⟨sr4, rfl, ⟨sa4, sm4, rfl, hsa4, hsl4, hst4, hsv4, hsn4⟩, rfl⟩ := hp
      replace hsa3 := hsa3.up hle4
      replace ha := ha.up hle4
      replace hb := hb.up hle4
      replace hta1 := hta1.up hle4
      refine Wl.gl 10 [] ?_
      refine Wl.lit (α := U32) 0 [⟨0⟩] rfl T.sl35 T.el63 rfl rfl rfl rfl rfl (fun b1 => ?_)
      have hP : 0 < ((2 ^ sh : Nat) : Int) := (pow_split (s := sh) (by omega)).choose_spec.2.2
      obtain ⟨hvl, hvt⟩ := norm_top hP hm dm hsl3 hst3 (by rw [← ex]; exact hs1) (by rw [← ex]; exact hs2) hsv3
      have hge : valB sm3 ≤ valB sm4 := by
        rw [hsv3, hsv4]; exact Int.mul_le_mul_of_nonneg_left (by omega) (Int.le_of_lt hP)
      have huv : sm3.length ≤ sm4.length := by
        rcases Nat.lt_or_ge sm4.length sm3.length with h | h
        · have := ltop_lt_len hsl4 hsl3 hst3 h; omega
        · exact h
      refine Wl.appendArr (α := U32) (xs := sm4) (ys := [(⟨0⟩ : U32)]) 40 rfl T.sl35 T.el63 rfl rfl (Src.arr (by assumption)) (by omega) (Src.row 0 rfl) (by decide) (by simp only [List.length_cons, List.length_nil]; omega) (by simp only [List.length_cons, List.length_nil, maxLen]; omega) (fun b2 c2 j2 ho2 => ?_)
      have hstart := div_start hsl4 hsl3 hst3 (by omega) huv
      have huA : valB (sm4 ++ [(⟨0⟩ : U32)]) = valB sm4 := by rw [valB_append, valB_one]; show _ + _ * 0 = _; omega
      have dU : Lims (sm4 ++ [(⟨0⟩ : U32)]) := hsl4.append (Lims.one (by decide))
      have lU : (sm4 ++ [(⟨0⟩ : U32)]).length = sm4.length + 1 := by rw [List.length_append]; rfl
      change valB ((sm4 ++ [(⟨0⟩ : U32)]).drop _) < _ at hstart
      generalize sm4 ++ [(⟨0⟩ : U32)] = uL at *
      refine Wl.gl 16 [] ?_
      refine Wl.make (α := U32) 41 rfl T.sl35 T.el63 rfl rfl (by omega) (by omega) (fun b3 => ?_)
      refine Wl.gc 15 [] ?_
      obtain ⟨N, hN⟩ : ∃ N, N = uL.length - sm3.length := ⟨_, rfl⟩
      have hM : ((uL.length : Int) - (sm3.length : Int)).toNat = N := by omega
      rw [hM]
      have hNs : sm4.length + 1 - sm3.length = N := by omega
      rw [hNs] at hstart
      have hown : ∀ r : List U32, r.length = N → OwnA (some ⟨b3, 0, none⟩) N r [] := fun r hr => .inr ⟨b3, rfl, by rw [hr]; rfl, by omega, by simp only [maxLen]; omega⟩
      have hc2 : uL.length ≤ c2 := ho2.le
      have hownU : ∀ r : List U32, r.length = uL.length → OwnA (some ⟨b2, 0, none⟩) c2 r j2 := fun r hr => by
        rcases ho2 with ⟨h, _⟩ | ⟨b', e, h5, h6, h7⟩
        · cases h
        · exact .inr ⟨b', e, by rw [hr]; exact h5, by rw [hr]; exact h6, h7⟩
      refine Wc.re 16 rfl (show _ = Value.slice (some ⟨b3, 0, none⟩) (List.replicate N (default : U32)).length N by rw [List.length_replicate]) ?_
      refine Wc.re 17 rfl (show _ = Value.int .i64 ((N : Int) - 1) by congr 1; omega) ?_
      refine Wc.loop (ι := Nat × List U32 × List U32) (fun (k, q, R) => ([(17, .int .i64 ((k : Int) - 1)), (16, .slice (some ⟨b3, 0, none⟩) q.length N), (13, .slice (some ⟨b2, 0, none⟩) R.length c2), (15, Go.Value.int Go.IntKind.i64 (↑(List.length sm3) : Int)), (11, Go.Value.slice sa3 (List.length sm3) (List.length sm3)), (10, Go.Value.int Go.IntKind.i64 (↑sh : Int)), (6, Go.Value.int Go.IntKind.i64 0), (5, Go.Value.slice Option.none 0 0), (4, Go.Value.slice Option.none 0 0)], [(41, some b3, Row 63 q []), (40, some b2, Row 63 R j2), (0, Option.some b1, Go.Sl.Row (α := Go.Sl.U32) 63 ([Go.Sl.U32.mk 0]) ([]))])) (fun (k, q, R) => k ≤ N ∧ q.length = N ∧ Lims q ∧ R.length = uL.length ∧ Lims R ∧ valB sm4 = valB q * valB sm3 + valB R ∧ valB (R.drop k) < valB sm3 ∧ ∀ j, j < k → lg q j = 0) (fun (k, q, R) => k) ((N, List.replicate N (default : U32), uL)) (⟨Nat.le_refl _, List.length_replicate, Lims.zeros N, rfl, dU, by rw [show valB (List.replicate N (default : U32)) = 0 from valB_replicate N, Int.zero_mul, Int.zero_add, huA], hstart, fun j _ => lg_zeros N j⟩) ⟨rfl, rfl, rfl, rfl, rfl, rfl, rfl, rfl, rfl, trivial⟩ ⟨rfl, rfl, rfl, trivial⟩ (fun ⟨k, q, R⟩ => fun (hk : k ≤ N ∧ q.length = N ∧ Lims q ∧ R.length = uL.length ∧ Lims R ∧ valB sm4 = valB q * valB sm3 + valB R ∧ valB (R.drop k) < valB sm3 ∧ ∀ j, j < k → lg q j = 0) => ?_)
      obtain ⟨hk1, hqN, hdq, hRn, hdR, hval, hRlt, hqz⟩ := hk
      have hoq := hown q hqN
      have hoR := hownU R hRn
      rcases Nat.eq_zero_or_pos k with rfl | hkp
      · rw [List.drop_zero] at hRlt
        refine Wc.gl 17 [0] ?_
        refine Wl.freezeRow 41 rfl hoq (fun G8 hle8 hAq => Wl.freezeRow 40 rfl hoR (fun G9 hle9 hAR => ?_))
        replace hAq := hAq.up hle9
        refine Wl.call 42 rfl T.fn129 rfl (c129 _ _ _ _ sh (by assumption) (by assumption) (by omega) (by omega) (by omega)) (tags_of trivial) (fun v5 G5 Ho5 hle5 hp => ?_)
        obtain ⟨sr5, rfl, ⟨sa5, sm5, rfl, hsa5, hsl5, hst5, hsv5, hsn5⟩, rfl⟩ := hp
        replace hAR := hAR.up hle5
        replace hAq := hAq.up hle5
        refine Wl.gl 10 [] ?_
        refine Wl.call 42 rfl T.fn56 rfl (c56 _ _ _ _ (by assumption) (by omega) (by first | assumption | omega)) (tags_of trivial) (fun v6 G6 Ho6 hle6 hp => ?_)
        obtain ⟨ta6, tm6, rfl, hta6, hte6, htr6, htl6, rfl, rfl⟩ := hp
        refine Wl.ga 7 [] ?_
        refine Ar.out3 (.inr rfl) (Ho := Hp.only _ []) rfl (.tmp rfl) (.tmp rfl) (.tmp rfl) (Hp.sub_only _ _) ?_
        have hRn0 := valB_nonneg hdR
        rw [hsv3, hsv4, hV] at hval
        rw [hsv3, hV] at hRlt
        obtain ⟨hd1, hd2, _⟩ := div_end hP hval hRn0 hRlt
        exact ⟨_, _, rfl, Nat32.of hta6 hte6 htr6 hdq hd2 (by omega), Nat32.short ⟨sa5, sm5, rfl, hsa5, hsl5, hst5, by rw [hsv5, hd1], Nat.le_refl _⟩ db (Int.emod_lt_of_pos _ hB), rfl⟩
      · obtain ⟨i, rfl⟩ : ∃ i, k = i + 1 := ⟨k - 1, by omega⟩
        have ei : (((i + 1 : Nat) : Int) - 1).toNat = i := by omega
        refine Wc.gl 21 [1] ?_
        refine Wl.q rfl (Qy.cutLH T.sl35 rfl rfl rfl (by omega) (by omega) (by omega)) ?_
        refine Wl.q rfl (Qy.move rfl) ?_
        have hroom := win_room (n := m + 2) hdR hsl3 (show i < R.length by omega) hvl (by omega) hRlt
        obtain ⟨p, hp⟩ : ∃ p, p = R.take i := ⟨_, rfl⟩
        obtain ⟨ww, hw⟩ : ∃ ww, ww = (R.drop i).take (m + 3) := ⟨_, rfl⟩
        obtain ⟨z, hz⟩ : ∃ z, z = R.drop (i + (m + 3)) := ⟨_, rfl⟩
        have hsplit : R = p ++ (ww ++ z) := by rw [hp, hw, hz]; exact win_open R i (m + 3)
        have lp : p.length = i := by rw [hp, List.length_take]; omega
        have lw : ww.length = m + 3 := by rw [hw, List.length_take, List.length_drop]; omega
        have dw : Lims ww := by rw [hw]; exact (lims_drop hdR i).take _
        obtain ⟨hr1, hr2⟩ := hroom
        rw [show m + 2 + 1 = m + 3 by omega] at hr1 hr2
        rw [← hw] at hr1
        rw [← hz] at hr2
        refine Wl.re 93 rfl (show _ = Value.slice (some ⟨b2, p.length, none⟩) ww.length (c2 - i) by
          rw [ei, lp, lw]
          show Value.slice (if c2 = i then (some ⟨b2, 0, none⟩ : Option Addr) else (some ⟨b2, 0, none⟩ : Option Addr).map (·.add (i * 1))) _ _ = _
          rw [if_neg (by omega), Option.map_some, add_lit, Nat.mul_one, Nat.zero_add]
          congr 1
          omega) ?_
        refine Wl.reH 40 (Row 63 (p ++ (ww ++ z)) j2) rfl (by rw [← hsplit]) ?_
        refine Wl.call 40 rfl T.fn128 rfl (c128 _ b2 p ww z j2 _ _ _ sm3 m (by assumption) dw hsl3 (by omega) lw hvl hvt hr1) (tags_of ⟨rfl, trivial⟩) (fun r9 G9 Ho9 hle9 hp9 => ?_)
        obtain ⟨w9, g9, rfl, rfl, rfl, hg1, hg2, hwl, hwd, hwv, hwlt⟩ := hp9
        refine Wl.q rfl (Qy.indexAddrO (α := U32) T.sl35 rfl rfl (by assumption) (by omega)) ?_
        refine Wl.setO (z := _) 41 T.size63 rfl rfl rfl (by assumption) (by omega) rfl (fun ho1 => ?_)
        refine Wl.ga 8 [] ?_
        have lz : z.length = R.length - (i + (m + 3)) := by rw [hz, List.length_drop]
        have dz : Lims z := by rw [hz]; exact lims_drop hdR _
        have dp : Lims p := by rw [hp]; exact hdR.take _
        have hwin := win_val p ww w9 z (by omega)
        rw [← hsplit, lp, hwv, show valB ww - g9 * valB sm3 - valB ww = -(g9 * valB sm3) by omega] at hwin
        have lR : (p ++ (w9 ++ z)).length = uL.length := by rw [List.length_append, List.length_append]; omega
        refine Ar.re 17 rfl (show _ = Value.int .i64 ((i : Int) - 1) by congr 1; omega) ?_
        refine Ar.reH 41 (Row 63 (q.set i (⟨g9⟩ : U32)) []) rfl (by rw [ei]) ?_
        refine Ar.re 16 rfl (show _ = Value.slice (some ⟨b3, 0, none⟩) (q.set i (⟨g9⟩ : U32)).length N by rw [List.length_set]) ?_
        refine Ar.re 13 rfl (show _ = Value.slice (some ⟨b2, 0, none⟩) (p ++ (w9 ++ z)).length c2 by rw [lR, hRn]) ?_
        refine Ar.again ((i, q.set i (⟨g9⟩ : U32), p ++ (w9 ++ z))) ?_ ?_ rfl ⟨rfl, rfl, rfl, rfl, rfl, rfl, rfl, rfl, rfl, trivial⟩ ⟨rfl, rfl, rfl, trivial⟩
        · refine ⟨by omega, by rw [List.length_set]; exact hqN, lims_set hdq _ ⟨hg1, hg2⟩, lR, dp.append (hwd.append dz), quo_next (q := 0) (by omega) (hqz i (by omega)) hval hwin, ?_, fun j hj => by rw [lg_set_ne (by omega)]; exact hqz j (by omega)⟩
          rw [List.drop_append_of_le_length (by omega), List.drop_eq_nil_of_le (by omega), List.nil_append, valB_append, hr2, Int.mul_zero, Int.add_zero]
          exact hwlt
        · show i < i + 1
          omega
end Go.Proofs.YtelbhbbiejalhaaGreat
set_option maxRecDepth 100000
set_option linter.unusedVariables false
namespace Go.Proofs.YtelbhbbiejalhaaGreat
open Go Go.Sl
set_option maxHeartbeats 4000000
theorem IsBig.make {neg : Bool} {m : List U32} (hd : Lims m) (ht : Top m) : IsBig (neg && decide (0 < m.length)) m (if neg = true then -valB m else valB m) := by
  refine ⟨hd, ht, fun e => by rw [e]; simp, ?_⟩
  by_cases h : 0 < m.length
  · simp [h]
  · have e : m = [] := List.eq_nil_of_length_eq_zero (by omega)
    rw [e]; simp [valB_nil]
theorem Big.make {G : Imm} {b : Option Addr} {c : Nat} {m : List U32} (neg : Bool) (hA : Arr G b m) (hd : Lims m) (ht : Top m) (hc : m.length ≤ c) {z : Int} (hz : z = if neg = true then -valB m else valB m) : Big G ⟨neg && decide (0 < m.length), b, m.length, c⟩ z :=
  ⟨m, rfl, hc, hA, hz ▸ IsBig.make hd ht⟩
theorem Big.len {G : Imm} {x : IV} {z : Int} (h : Big G x z) {m : Nat} (hz : (z.natAbs : Int) < pb m) : x.n ≤ m := by
  obtain ⟨l, h1, _, _, h4⟩ := h
  rw [← h1]; exact h4.len hz
theorem Big.zero_iff {G : Imm} {x : IV} {z : Int} (h : Big G x z) : x.n = 0 ↔ z = 0 := by
  obtain ⟨l, h1, _, _, h4⟩ := h
  rw [← h1]; exact h4.zero_iff
theorem Big.out {G : Imm} {x : IV} {z z' : Int} (h : Big G x z) (e : z = z') : Big G x z' := e ▸ h
/-- the sign -/
def sgZ (z : Int) : Int := if z = 0 then 0 else if z < 0 then -1 else 1
theorem sgZ_lt {z : Int} (h : z < 0) : sgZ z = -1 := by unfold sgZ; rw [if_neg (by omega), if_pos h]
theorem sgZ_gt {z : Int} (h : 0 < z) : sgZ z = 1 := by unfold sgZ; rw [if_neg (by omega), if_neg (by omega)]
theorem sgZ_eq {z : Int} (h : z = 0) : sgZ z = 0 := by unfold sgZ; rw [if_pos h]
attribute [local irreducible] valB pb cmpZ lstWp
theorem c27 (G : Imm) (neg : Bool) (a : Option Addr) (n c : Nat) (hn : n ≤ 1099511627776) :
    Does Tryz.prog 27 [.bool neg, .slice a n c] G [] (fun v G' Ho => v = .agg #[.bool (neg && decide (0 < n)), .slice a n c] ∧ G' = G ∧ Ho = []) := by
  refine Does.enter Tryz.func27 rfl Tryz.ntmps27 rfl (fun w => ?_)
  have e : ((0 : Int) < (n : Int)) = (0 < n) := by rw [eq_iff_iff]; omega
  cases neg
  · refine Wc.gl 2 [] ?_
    refine Wl.alloc 0 rfl T.zero37 (fun b1 => ?_)
    refine Wl.gl 11 [] ?_
    refine Wl.q rfl (Qy.build (cs := [_, _]) T.st37 rfl rfl rfl) ?_
    refine Wl.ga 4 [0] ?_
    refine Ar.out1 (.inr rfl) (Ho := Hp.only _ []) rfl (.agg 0 rfl rfl T.agg37) (Hp.sub_only _ _) ?_
    exact ⟨by simp only [Bool.false_and], rfl, rfl⟩
  · refine Wc.gl 2 [] ?_
    refine Wl.alloc 0 rfl T.zero37 (fun b1 => ?_)
    refine Wl.gl 14 [] ?_
    refine Wl.q rfl (Qy.build (cs := [_, _]) T.st37 rfl rfl rfl) ?_
    refine Wl.ga 4 [0] ?_
    refine Ar.out1 (.inr rfl) (Ho := Hp.only _ []) rfl (.agg 0 rfl rfl T.agg37) (Hp.sub_only _ _) ?_
    exact ⟨by simp only [e, Bool.true_and], rfl, rfl⟩
theorem c26 (G : Imm) (neg : Bool) (a : Option Addr) (c : Nat) (l : List U32) (ha : Arr G a l) (hd : Lims l) (hb : l.length ≤ 1073741824) (hc : l.length ≤ c) :
    Does Tryz.prog 26 [.bool neg, .slice a l.length c] G [] (fun v G' Ho => ∃ r : IV, v = .agg (Cells.enc r).toArray ∧ Big G' r (if neg = true then -valB l else valB l) ∧ Ho = []) := by
  refine Does.enter Tryz.func26 rfl Tryz.ntmps26 rfl (fun w => ?_)
  refine Wc.gl 2 [] ?_
  refine Wl.alloc 0 rfl T.zero37 (fun b1 => ?_)
  refine Wl.gl 6 [] ?_
  refine Wl.call 1 rfl T.fn55 rfl (c55 _ _ _ _ (by assumption) (by first | omega | (simp only [List.length_cons, List.length_nil]; omega)) (by first | omega | (simp only [List.length_cons, List.length_nil]; omega))) (tags_of trivial) (fun v1 G1 Ho1 hle1 hp => ?_)
  obtain ⟨na1, nm1, rfl, hna1, hne1, hnt1, hnl1, rfl⟩ := hp
  replace ha := ha.up hle1
  refine Wl.call0 rfl T.fn27 rfl (c27 _ _ _ _ _ (by omega)) ?_
  refine Wl.ga 4 [0] ?_
  refine Ar.out1 (.inr rfl) (Ho := Hp.only _ []) rfl (.agg 0 rfl rfl T.agg37) (Hp.sub_only _ _) ?_
  refine ⟨⟨neg && decide (0 < nm1.length), na1, nm1.length, nm1.length⟩, rfl, Big.make neg hna1 (trim_lims hne1 hd) (trim_top hne1 hnt1) (Nat.le_refl _) (by rw [trim_val hne1 hnt1]), rfl⟩
theorem c62 (G : Imm) (neg : Bool) (a : Option Addr) (c : Nat) (l : List U32) (z : Int) (h : IsBig neg l z) (h1 : l.length ≤ 1073741824) :
    Does Tryz.prog 62 [.agg #[.bool neg, .slice a l.length c]] G [] (fun v G' Ho => v = .int .i64 (sgZ z) ∧ G' = G ∧ Ho = []) := by
  have hz := h.zero_iff
  have hn := h.neg_iff
  refine Does.enter Tryz.func62 rfl Tryz.ntmps62 rfl (fun w => ?_)
  by_cases h0 : l.length = 0
  · have hz0 := hz.1 h0
    refine Wc.gl 2 [] ?_
    refine Wl.box 0 rfl rfl rfl (fun b1 => ?_)
    refine Wl.ga 23 [0, 1] ?_
    refine Ar.out1 (.inr rfl) (Ho := Hp.only _ []) rfl (.tmp rfl) (Hp.sub_only _ _) ?_
    exact ⟨by rw [hz0]; rfl, rfl, rfl⟩
  · have hz0 : z ≠ 0 := fun e => h0 (hz.2 e)
    by_cases hs : z < 0
    · rw [hn, decide_eq_true hs]
      refine Wc.gl 2 [] ?_
      refine Wl.box 0 rfl rfl rfl (fun b1 => ?_)
      refine Wl.ga 31 [0, 0, 0, 1] ?_
      refine Ar.out1 (.inr rfl) (Ho := Hp.only _ []) rfl (.tmp rfl) (Hp.sub_only _ _) ?_
      exact ⟨by unfold sgZ; rw [if_neg hz0, if_pos hs], rfl, rfl⟩
    · rw [hn, decide_eq_false hs]
      refine Wc.gl 2 [] ?_
      refine Wl.box 0 rfl rfl rfl (fun b1 => ?_)
      refine Wl.ga 32 [0, 0, 0, 0] ?_
      refine Ar.out1 (.inr rfl) (Ho := Hp.only _ []) rfl (.tmp rfl) (Hp.sub_only _ _) ?_
      exact ⟨by unfold sgZ; rw [if_neg hz0, if_neg hs], rfl, rfl⟩
theorem c58 (G : Imm) (x : IV) (z : Int) (hx : Big G x z) (h1 : x.n ≤ 1073741824) :
    Does Tryz.prog 58 [.agg (Cells.enc x).toArray] G [] (fun v G' Ho => ∃ r : IV, v = .agg (Cells.enc r).toArray ∧ Big G' r (-z) ∧ G' = G ∧ Ho = []) := by
  obtain ⟨neg, a, n, c⟩ := x
  obtain ⟨l, hl, hlc, hA, hI⟩ := hx
  simp only at hl hlc hA hI h1
  subst hl
  show Does Tryz.prog 58 [.agg #[.bool neg, .slice a l.length c]] G [] _
  refine Does.enter Tryz.func58 rfl Tryz.ntmps58 rfl (fun w => ?_)
  refine Wc.gl 2 [] ?_
  refine Wl.box 0 rfl rfl rfl (fun b1 => ?_)
  refine Wl.alloc 1 rfl T.zero37 (fun b2 => ?_)
  refine Wl.gl 9 [0, 0] ?_
  refine Wl.call0 rfl T.fn27 rfl (c27 _ _ _ _ _ (by omega)) ?_
  refine Wl.ga 4 [1] ?_
  refine Ar.out1 (.inr rfl) (Ho := Hp.only _ []) rfl (.agg 1 rfl rfl T.agg37) (Hp.sub_only _ _) ?_
  refine ⟨⟨!neg && decide (0 < l.length), a, l.length, c⟩, rfl, Big.make (!neg) hA hI.digs hI.top hlc ?_, rfl, rfl⟩
  rw [hI.val]; cases neg <;> simp
theorem c91 (G : Imm) (x : IV) (z : Int) (hx : Big G x z) (h1 : x.n ≤ 1073741824) :
    Does Tryz.prog 91 [.agg (Cells.enc x).toArray] G [] (fun v G' Ho => ∃ r : IV, v = .agg (Cells.enc r).toArray ∧ Big G' r (z.natAbs : Int) ∧ G' = G ∧ Ho = []) := by
  obtain ⟨neg, a, n, c⟩ := x
  obtain ⟨l, hl, hlc, hA, hI⟩ := hx
  simp only at hl hlc hA hI h1
  subst hl
  show Does Tryz.prog 91 [.agg #[.bool neg, .slice a l.length c]] G [] _
  refine Does.enter Tryz.func91 rfl Tryz.ntmps91 rfl (fun w => ?_)
  refine Wc.gl 2 [] ?_
  refine Wl.box 0 rfl rfl rfl (fun b1 => ?_)
  refine Wl.alloc 1 rfl T.zero37 (fun b2 => ?_)
  refine Wl.gl 6 [0] ?_
  refine Wl.call0 rfl T.fn27 rfl (c27 _ _ _ _ _ (by omega)) ?_
  refine Wl.ga 4 [1] ?_
  refine Ar.out1 (.inr rfl) (Ho := Hp.only _ []) rfl (.agg 1 rfl rfl T.agg37) (Hp.sub_only _ _) ?_
  refine ⟨⟨false && decide (0 < l.length), a, l.length, c⟩, rfl, Big.make false hA hI.digs hI.top hlc ?_, rfl, rfl⟩
  rw [if_neg (by decide), hI.abs]
theorem big_sign (G : Imm) (x : IV) (z : Int) (hx : Big G x z) (h1 : x.n ≤ 1073741824) :
    Does Tryz.prog 62 [.agg (Cells.enc x).toArray] G [] (fun v G' Ho => v = .int .i64 (sgZ z) ∧ G' = G ∧ Ho = []) := by
  obtain ⟨n1, a, k1, ca⟩ := x
  obtain ⟨la, hl, hlc, hA, hI⟩ := hx
  simp only at hl hlc hA hI h1
  subst hl
  exact c62 G n1 a ca la z hI h1
theorem c63 (G : Imm) (x y : IV) (zx zy : Int) (hx : Big G x zx) (hy : Big G y zy) (h1 : x.n ≤ 1073741824) (h2 : y.n ≤ 1073741824) :
    Does Tryz.prog 63 [.agg (Cells.enc x).toArray, .agg (Cells.enc y).toArray] G [] (fun v G' Ho => v = .int .i64 (cmpZ zx zy) ∧ G' = G ∧ Ho = []) := by
  obtain ⟨n1, a, k1, ca⟩ := x
  obtain ⟨n2, b, k2, cb⟩ := y
  obtain ⟨la, hl, hlc, hA, hI⟩ := hx
  obtain ⟨lb, hl', hlc', hA', hI'⟩ := hy
  simp only at hl hlc hA hI hl' hlc' hA' hI' h1 h2
  subst hl hl'
  have da := hI.digs
  have db := hI'.digs
  have ta := hI.top
  have tb := hI'.top
  have va := hI.abs
  have vb := hI'.abs
  have na := hI.neg_iff
  have nb := hI'.neg_iff
  have cs : ∀ u v : Int, u < v → cmpZ u v = -1 := fun u v h => cmpZ_lt h
  have cg : ∀ u v : Int, v < u → cmpZ u v = 1 := fun u v h => cmpZ_gt h
  show Does Tryz.prog 63 [.agg #[.bool n1, .slice a la.length ca], .agg #[.bool n2, .slice b lb.length cb]] G [] _
  refine Does.enter Tryz.func63 rfl Tryz.ntmps63 rfl (fun w => ?_)
  by_cases sx : zx < 0 <;> by_cases sy : zy < 0
  · rw [na, nb, decide_eq_true sx, decide_eq_true sy]
    refine Wc.gl 2 [] ?_
    refine Wl.box 0 rfl rfl rfl (fun b1 => ?_)
    refine Wl.box 1 rfl rfl rfl (fun b2 => ?_)
    refine Wl.gl 25 [0, 1, 1, 1, 0] ?_
    refine Wl.call0 rfl T.fn29 rfl (c29 _ _ _ _ _ _ _ (by assumption) (by assumption) (by assumption) (by assumption) (by omega) (by omega) (by omega) (by omega)) ?_
    refine Wl.ga 6 [] ?_
    refine Ar.out1 (.inr rfl) (Ho := Hp.only _ []) rfl (.tmp rfl) (Hp.sub_only _ _) ?_
    exact ⟨by rw [cmpZ_congr (x := valB lb) (y := valB la) (u := zx) (v := zy) (by omega) (by omega)], rfl, rfl⟩
  · rw [na, nb, decide_eq_true sx, decide_eq_false sy]
    refine Wc.gl 2 [] ?_
    refine Wl.box 0 rfl rfl rfl (fun b1 => ?_)
    refine Wl.box 1 rfl rfl rfl (fun b2 => ?_)
    refine Wl.ga 35 [0, 1, 0, 0, 1] ?_
    refine Ar.out1 (.inr rfl) (Ho := Hp.only _ []) rfl (.tmp rfl) (Hp.sub_only _ _) ?_
    exact ⟨by rw [cs zx zy (by omega)], rfl, rfl⟩
  · rw [na, nb, decide_eq_false sx, decide_eq_true sy]
    refine Wc.gl 2 [] ?_
    refine Wl.box 0 rfl rfl rfl (fun b1 => ?_)
    refine Wl.box 1 rfl rfl rfl (fun b2 => ?_)
    refine Wl.ga 41 [0, 0, 0, 0, 1, 1] ?_
    refine Ar.out1 (.inr rfl) (Ho := Hp.only _ []) rfl (.tmp rfl) (Hp.sub_only _ _) ?_
    exact ⟨by rw [cg zx zy (by omega)], rfl, rfl⟩
  · rw [na, nb, decide_eq_false sx, decide_eq_false sy]
    refine Wc.gl 2 [] ?_
    refine Wl.box 0 rfl rfl rfl (fun b1 => ?_)
    refine Wl.box 1 rfl rfl rfl (fun b2 => ?_)
    refine Wl.gl 42 [0, 0, 0, 0, 1, 0, 0, 1] ?_
    refine Wl.call0 rfl T.fn29 rfl (c29 _ _ _ _ _ _ _ (by assumption) (by assumption) (by assumption) (by assumption) (by omega) (by omega) (by omega) (by omega)) ?_
    refine Wl.ga 4 [] ?_
    refine Ar.out1 (.inr rfl) (Ho := Hp.only _ []) rfl (.tmp rfl) (Hp.sub_only _ _) ?_
    exact ⟨by rw [cmpZ_congr (x := valB la) (y := valB lb) (u := zx) (v := zy) (by omega) (by omega)], rfl, rfl⟩
theorem c13 (G : Imm) (x y : IV) (zx zy : Int) (hx : Big G x zx) (hy : Big G y zy) (h1 : x.n ≤ 536870912) (h2 : y.n ≤ 536870912) :
    Does Tryz.prog 13 [.agg (Cells.enc x).toArray, .agg (Cells.enc y).toArray] G [] (fun v G' Ho => ∃ r : IV, v = .agg (Cells.enc r).toArray ∧ Big G' r (zx * zy) ∧ Ho = []) := by
  obtain ⟨n1, a, k1, ca⟩ := x
  obtain ⟨n2, b, k2, cb⟩ := y
  obtain ⟨la, hl, hlc, hA, hI⟩ := hx
  obtain ⟨lb, hl', hlc', hA', hI'⟩ := hy
  simp only at hl hlc hA hI hl' hlc' hA' hI' h1 h2
  subst hl hl'
  have da := hI.digs
  have db := hI'.digs
  have ta := hI.top
  have tb := hI'.top
  show Does Tryz.prog 13 [.agg #[.bool n1, .slice a la.length ca], .agg #[.bool n2, .slice b lb.length cb]] G [] _
  refine Does.enter Tryz.func13 rfl Tryz.ntmps13 rfl (fun w => ?_)
  refine Wc.gl 2 [] ?_
  refine Wl.box 0 rfl rfl rfl (fun b1 => ?_)
  refine Wl.box 1 rfl rfl rfl (fun b2 => ?_)
  refine Wl.alloc 2 rfl T.zero37 (fun b3 => ?_)
  refine Wl.gc 3 [] ?_
  refine Wc.draw [0, 1, 2] [(2, 11)] T.mixed rfl ?_
  refine Gm.q 0 [] (by kernel_rfl) rfl rfl (Qy.fieldAddr T.fa37_0 rfl) ?_
  refine Gm.q 1 [0] (by kernel_rfl) rfl rfl (Qy.load 0 T.one4 rfl rfl rfl) ?_
  refine Gm.q 2 [] (by kernel_rfl) rfl rfl (Qy.fieldAddr T.fa37_0 rfl) ?_
  refine Gm.q 3 [1] (by kernel_rfl) rfl rfl (Qy.load 1 T.one4 rfl rfl rfl) ?_
  refine Gm.q 4 [] (by kernel_rfl) rfl rfl (Qy.neqB T.u4 rfl rfl) ?_
  refine Gm.q 5 [] (by kernel_rfl) rfl rfl (Qy.fieldAddr T.fa37_1 rfl) ?_
  refine Gm.q 6 [0] (by kernel_rfl) rfl rfl (Qy.load 0 T.one35 rfl rfl rfl) ?_
  refine Gm.q 7 [] (by kernel_rfl) rfl rfl (Qy.fieldAddr T.fa37_1 rfl) ?_
  refine Gm.q 8 [1] (by kernel_rfl) rfl rfl (Qy.load 1 T.one35 rfl rfl rfl) ?_
  refine Gm.one 9 ⟨rfl, rfl, rfl, trivial⟩ (by first | exact Imm.le_refl _ | assumption | (refine Imm.le_trans ?_ (by assumption); first | assumption | (refine Imm.le_trans ?_ (by assumption); assumption))) (by kernel_rfl) rfl ?_
  refine Wl.call 3 rfl T.fn31 rfl (c31 _ _ _ _ _ _ _ (by assumption) (by assumption) (by assumption) (by assumption) (by omega) (by omega)) (tags_of trivial) (fun v1 G1 Ho1 hle1 hp => ?_)
  obtain ⟨⟨ra1, rm1, rfl, hra1, hrl1, hrt1, hrv1, hrn1⟩, rfl⟩ := hp
  replace hA := hA.up hle1
  replace hA' := hA'.up hle1
  refine Wl.on0 ?_
  refine Gm.one 10 ⟨rfl, rfl, rfl, trivial⟩ (by first | exact Imm.le_refl _ | assumption | (refine Imm.le_trans ?_ (by assumption); first | assumption | (refine Imm.le_trans ?_ (by assumption); assumption))) (by kernel_rfl) rfl ?_
  refine Wl.call0 rfl T.fn27 rfl (c27 _ _ _ _ _ (by omega)) ?_
  refine Wl.on0 ?_
  refine Gm.one 11 ⟨rfl, rfl, rfl, trivial⟩ (by first | exact Imm.le_refl _ | assumption | (refine Imm.le_trans ?_ (by assumption); first | assumption | (refine Imm.le_trans ?_ (by assumption); assumption))) (by kernel_rfl) rfl ?_
  refine Wl.storeAll 2 T.size37 rfl rfl rfl rfl rfl rfl ?_
  refine Wl.on0 ?_
  refine Gm.doneA (by kernel_rfl) ⟨rfl, rfl, trivial⟩ (by first | exact Imm.le_refl _ | assumption | (refine Imm.le_trans ?_ (by assumption); first | assumption | (refine Imm.le_trans ?_ (by assumption); assumption))) ?_
  refine Ar.ga 2 [] ?_
  refine Ar.out1 (.inr rfl) (Ho := Hp.only _ []) rfl (.agg 2 rfl rfl T.agg37) (Hp.sub_only _ _) ?_
  refine ⟨⟨decide (n1 ≠ n2) && decide (0 < rm1.length), ra1, rm1.length, rm1.length⟩, rfl, Big.make (decide (n1 ≠ n2)) hra1 hrl1 hrt1 (Nat.le_refl _) ?_, rfl⟩
  rw [hrv1, hI.val, hI'.val]
  cases n1 <;> cases n2 <;> simp [Int.neg_mul, Int.mul_neg]
end Go.Proofs.YtelbhbbiejalhaaGreat
set_option maxRecDepth 100000
set_option linter.unusedVariables false
namespace Go.Proofs.YtelbhbbiejalhaaGreat
open Go Go.Sl
set_option maxHeartbeats 4000000
theorem wrap_neg {n : Int} (h : -9223372036854775808 ≤ n ∧ n < 0) : IntKind.u64.wrap (0 - IntKind.u64.wrap n) = -n := by
  rw [IntKind.wrap_u64, IntKind.wrap_u64]; omega
theorem two_val (u : Int) : valB [(⟨u % 4294967296⟩ : U32), ⟨u / 4294967296⟩] = u := by
  rw [valB_cons, valB_cons, valB_nil]
  show u % 4294967296 + 4294967296 * (u / 4294967296 + 4294967296 * 0) = u
  omega
theorem two_lims {u : Int} (h : 0 ≤ u ∧ u < 18446744073709551616) : Lims [(⟨u % 4294967296⟩ : U32), ⟨u / 4294967296⟩] := by
  intro d hd
  simp only [List.mem_cons, List.mem_nil_iff, or_false] at hd
  rcases hd with rfl | rfl
  · exact mod32 u
  · show 0 ≤ u / 4294967296 ∧ u / 4294967296 < 4294967296
    omega
theorem Big.lt {G : Imm} {x : IV} {z : Int} (h : Big G x z) : (z.natAbs : Int) < pb x.n := by
  obtain ⟨l, h1, _, _, h4⟩ := h
  rw [← h4.abs, ← h1]; exact valB_lt h4.digs
attribute [local irreducible] valB pb cmpZ lstWp
theorem c10 (G : Imm) (n : Int) (hn : -9223372036854775808 ≤ n ∧ n ≤ 9223372036854775807) :
    Does Tryz.prog 10 [.int .i64 n] G [] (fun v G' Ho => ∃ r : IV, v = .agg (Cells.enc r).toArray ∧ Big G' r n ∧ Ho = []) := by
  refine Does.enter Tryz.func10 rfl Tryz.ntmps10 rfl (fun w => ?_)
  refine Wc.gl 2 [] ?_
  refine Wl.alloc 0 rfl T.zero37 (fun b1 => ?_)
  refine Wl.gl 5 [] ?_
  refine Wl.q rfl (Qy.conv rfl T.u61 rfl) ?_
  refine Wl.gc 3 [] ?_
  refine Wc.meet (ι := Int) (fun u => ([(0, .int .i64 n), (2, .pointer (some ⟨b1, 0, none⟩)), (3, .int .u64 u)], [(0, some b1, .cells #[.bool false, .slice none 0 0] 37)])) (fun u => 0 ≤ u ∧ u < 18446744073709551616 ∧ n = if decide (n < 0) = true then -u else u) ?_ (fun u => fun (hk : 0 ≤ u ∧ u < 18446744073709551616 ∧ n = if decide (n < 0) = true then -u else u) => ?_)
  · by_cases hneg : n < 0
    · refine Wc.gl 9 [1] ?_
      refine Wl.q rfl (Qy.negW rfl) ?_
      refine Wl.ga 2 [] ?_
      refine Ar.re 3 rfl (show _ = Value.int .u64 (-n) by rw [wrap_neg ⟨hn.1, hneg⟩]) ?_
      refine Ar.meet (-n) ?_ rfl ⟨rfl, rfl, rfl, trivial⟩ ⟨rfl, trivial⟩
      exact ⟨by omega, by omega, by rw [if_pos (by simpa using hneg)]; omega⟩
    · refine Wc.ga 8 [0] ?_
      refine Ar.re 3 rfl (show _ = Value.int .u64 n by rw [IntWalk.u64_in _ (by omega)]) ?_
      refine Ar.meet (n) ?_ rfl ⟨rfl, rfl, rfl, trivial⟩ ⟨rfl, trivial⟩
      exact ⟨by omega, by omega, by rw [if_neg (by simpa using hneg)]⟩
  obtain ⟨hu0, hu1, hun⟩ := hk
  refine Wc.gl 5 [] ?_
  refine Wl.q rfl (Qy.trunc32 rfl T.u63 rfl) ?_
  refine Wl.q rfl (Qy.move rfl) ?_
  refine Wl.q rfl (Qy.shr32 rfl rfl (by omega)) ?_
  refine Wl.q rfl (Qy.conv32 rfl T.u63 rfl (by omega)) ?_
  refine Wl.lit (α := U32) 1 [⟨u % 4294967296⟩, ⟨u / 4294967296⟩] rfl T.sl35 T.el63 rfl rfl rfl rfl rfl (fun b2 => ?_)
  have hd := two_lims ⟨hu0, hu1⟩
  refine Wl.freezeRow 1 rfl (OwnA.made (xs := [(⟨u % 4294967296⟩ : U32), ⟨u / 4294967296⟩]) (by simp [maxLen])) (fun G9 hle9 hA9 => ?_)
  refine Wl.call 2 rfl T.fn26 rfl (c26 _ _ _ _ _ (by assumption) (by assumption) (by first | omega | (simp only [List.length_cons, List.length_nil]; omega)) (by first | omega | (simp only [List.length_cons, List.length_nil]; omega))) (tags_of trivial) (fun v1 G1 Ho1 hle1 hp => ?_)
  obtain ⟨r1, rfl, hr1, rfl⟩ := hp
  replace hA9 := hA9.up hle1
  refine Wl.ga 4 [0] ?_
  refine Ar.out1 (.inr rfl) (Ho := Hp.only _ []) rfl (.agg 0 rfl rfl T.agg37) (Hp.sub_only _ _) ?_
  exact ⟨_, rfl, Big.out hr1 (by rw [two_val]; exact hun.symm), rfl⟩
theorem c12 (G : Imm) (x y : IV) (zx zy : Int) (hx : Big G x zx) (hy : Big G y zy) (h1 : x.n ≤ 536870912) (h2 : y.n ≤ 536870912) :
    Does Tryz.prog 12 [.agg (Cells.enc x).toArray, .agg (Cells.enc y).toArray] G [] (fun v G' Ho => ∃ r : IV, v = .agg (Cells.enc r).toArray ∧ Big G' r (zx + zy) ∧ Ho = []) := by
  obtain ⟨n1, a, k1, ca⟩ := x
  obtain ⟨n2, b, k2, cb⟩ := y
  obtain ⟨la, hl, hlc, hA, hI⟩ := hx
  obtain ⟨lb, hl', hlc', hA', hI'⟩ := hy
  simp only at hl hlc hA hI hl' hlc' hA' hI' h1 h2
  subst hl hl'
  have da := hI.digs
  have db := hI'.digs
  have ta := hI.top
  have tb := hI'.top
  have len_le : ∀ {l m : List U32}, Lims l → Lims m → Top m → valB m ≤ valB l → m.length ≤ l.length := fun {l m} hl hm tm h => by
    rcases Nat.lt_or_ge l.length m.length with h1 | h1
    · have := ltop_lt_len hl hm tm h1; omega
    · exact h1
  show Does Tryz.prog 12 [.agg #[.bool n1, .slice a la.length ca], .agg #[.bool n2, .slice b lb.length cb]] G [] _
  refine Does.enter Tryz.func12 rfl Tryz.ntmps12 rfl (fun w => ?_)
  by_cases hs : n1 = n2
  · refine Wc.gl 2 [] ?_
    refine Wl.box 0 rfl rfl rfl (fun b1 => ?_)
    refine Wl.box 1 rfl rfl rfl (fun b2 => ?_)
    refine Wl.alloc 2 rfl T.zero37 (fun b3 => ?_)
    refine Wl.gl 9 [0, 1] ?_
    refine Wl.q rfl (Qy.eqlB T.u4 rfl rfl) ?_
    refine Wl.gc 4 [1] ?_
    refine Wc.draw [0, 1, 2] [(2, 8)] T.mixed rfl ?_
    refine Gm.q 0 [] (by kernel_rfl) rfl rfl (Qy.fieldAddr T.fa37_0 rfl) ?_
    refine Gm.q 1 [0] (by kernel_rfl) rfl rfl (Qy.load 0 T.one4 rfl rfl rfl) ?_
    refine Gm.q 2 [] (by kernel_rfl) rfl rfl (Qy.fieldAddr T.fa37_1 rfl) ?_
    refine Gm.q 3 [0] (by kernel_rfl) rfl rfl (Qy.load 0 T.one35 rfl rfl rfl) ?_
    refine Gm.q 4 [] (by kernel_rfl) rfl rfl (Qy.fieldAddr T.fa37_1 rfl) ?_
    refine Gm.q 5 [1] (by kernel_rfl) rfl rfl (Qy.load 1 T.one35 rfl rfl rfl) ?_
    refine Gm.one 6 ⟨rfl, rfl, rfl, trivial⟩ (by first | exact Imm.le_refl _ | assumption | (refine Imm.le_trans ?_ (by assumption); first | assumption | (refine Imm.le_trans ?_ (by assumption); assumption))) (by kernel_rfl) rfl ?_
    refine Wl.call 3 rfl T.fn28 rfl (c28 _ _ _ _ _ _ _ (by assumption) (by assumption) (by assumption) (by assumption) (by omega) (by omega)) (tags_of trivial) (fun v1 G1 Ho1 hle1 hp => ?_)
    obtain ⟨⟨ra1, rm1, rfl, hra1, hrl1, hrt1, hrv1, hrn1⟩, rfl⟩ := hp
    replace hA := hA.up hle1
    replace hA' := hA'.up hle1
    refine Wl.on0 ?_
    refine Gm.one 7 ⟨rfl, rfl, rfl, trivial⟩ (by first | exact Imm.le_refl _ | assumption | (refine Imm.le_trans ?_ (by assumption); first | assumption | (refine Imm.le_trans ?_ (by assumption); assumption))) (by kernel_rfl) rfl ?_
    refine Wl.call0 rfl T.fn27 rfl (c27 _ _ _ _ _ (by omega)) ?_
    refine Wl.on0 ?_
    refine Gm.one 8 ⟨rfl, rfl, rfl, trivial⟩ (by first | exact Imm.le_refl _ | assumption | (refine Imm.le_trans ?_ (by assumption); first | assumption | (refine Imm.le_trans ?_ (by assumption); assumption))) (by kernel_rfl) rfl ?_
    refine Wl.storeAll 2 T.size37 rfl rfl rfl rfl rfl rfl ?_
    refine Wl.on0 ?_
    refine Gm.doneA (by kernel_rfl) ⟨rfl, rfl, trivial⟩ (by first | exact Imm.le_refl _ | assumption | (refine Imm.le_trans ?_ (by assumption); first | assumption | (refine Imm.le_trans ?_ (by assumption); assumption))) ?_
    refine Ar.ga 3 [] ?_
    refine Ar.out1 (.inr rfl) (Ho := Hp.only _ []) rfl (.agg 2 rfl rfl T.agg37) (Hp.sub_only _ _) ?_
    all_goals
      refine ⟨⟨n1 && decide (0 < rm1.length), ra1, rm1.length, rm1.length⟩, rfl, Big.make n1 hra1 hrl1 hrt1 (Nat.le_refl _) ?_, rfl⟩
      rw [hrv1, hI.val, hI'.val]
      revert hs
      cases n1 <;> cases n2 <;> simp <;> omega
  · by_cases hle : valB lb ≤ valB la
    · have hcmp : ¬ cmpZ (valB la) (valB lb) < 0 := fun h => by have := cmpZ_neg h; omega
      have hll := len_le da db tb hle
      refine Wc.gl 2 [] ?_
      refine Wl.box 0 rfl rfl rfl (fun b1 => ?_)
      refine Wl.box 1 rfl rfl rfl (fun b2 => ?_)
      refine Wl.alloc 2 rfl T.zero37 (fun b3 => ?_)
      refine Wl.gl 9 [0, 1] ?_
      refine Wl.q rfl (Qy.eqlB T.u4 rfl rfl) ?_
      refine Wl.gl 12 [0, 0, 1] ?_
      refine Wl.call0 rfl T.fn29 rfl (c29 _ _ _ _ _ _ _ (by assumption) (by assumption) (by assumption) (by assumption) (by omega) (by omega) (by omega) (by omega)) ?_
      refine Wl.gl 12 [0, 0, 1] ?_
      refine Wl.call 3 rfl T.fn30 rfl (c30 _ _ _ _ _ _ _ (by assumption) (by assumption) (by assumption) (by assumption) (by omega) (by omega) (by omega) (by omega) (by omega)) (tags_of trivial) (fun v1 G1 Ho1 hle1 hp => ?_)
      obtain ⟨rq1, rfl, ⟨ra1, rm1, rfl, hra1, hrl1, hrt1, hrv1, hrn1⟩, rfl⟩ := hp
      replace hA := hA.up hle1
      replace hA' := hA'.up hle1
      refine Wl.gl 12 [0] ?_
      refine Wl.call0 rfl T.fn27 rfl (c27 _ _ _ _ _ (by omega)) ?_
      refine Wl.ga 4 [2] ?_
      refine Ar.out1 (.inr rfl) (Ho := Hp.only _ []) rfl (.agg 2 rfl rfl T.agg37) (Hp.sub_only _ _) ?_
      refine ⟨⟨n1 && decide (0 < rm1.length), ra1, rm1.length, rm1.length⟩, rfl, Big.make n1 hra1 hrl1 hrt1 (Nat.le_refl _) ?_, rfl⟩
      rw [hrv1, hI.val, hI'.val]
      revert hs
      cases n1 <;> cases n2 <;> simp <;> omega
    · have hcmp : cmpZ (valB la) (valB lb) = -1 := cmpZ_lt (by omega)
      have hle' : valB la ≤ valB lb := by omega
      have hll := len_le db da ta hle'
      refine Wc.gl 2 [] ?_
      refine Wl.box 0 rfl rfl rfl (fun b1 => ?_)
      refine Wl.box 1 rfl rfl rfl (fun b2 => ?_)
      refine Wl.alloc 2 rfl T.zero37 (fun b3 => ?_)
      refine Wl.gl 9 [0, 1] ?_
      refine Wl.q rfl (Qy.eqlB T.u4 rfl rfl) ?_
      refine Wl.gl 12 [0, 0, 1] ?_
      refine Wl.call0 rfl T.fn29 rfl (c29 _ _ _ _ _ _ _ (by assumption) (by assumption) (by assumption) (by assumption) (by omega) (by omega) (by omega) (by omega)) ?_
      refine Wl.gl 17 [1, 1, 0, 0, 1, 0, 1] ?_
      refine Wl.call 3 rfl T.fn30 rfl (c30 _ _ _ _ _ _ _ (by assumption) (by assumption) (by assumption) (by assumption) (by omega) (by omega) (by omega) (by omega) (by omega)) (tags_of trivial) (fun v1 G1 Ho1 hle1 hp => ?_)
      obtain ⟨rq1, rfl, ⟨ra1, rm1, rfl, hra1, hrl1, hrt1, hrv1, hrn1⟩, rfl⟩ := hp
      replace hA := hA.up hle1
      replace hA' := hA'.up hle1
      refine Wl.gl 12 [0] ?_
      refine Wl.call0 rfl T.fn27 rfl (c27 _ _ _ _ _ (by omega)) ?_
      refine Wl.ga 4 [2] ?_
      refine Ar.out1 (.inr rfl) (Ho := Hp.only _ []) rfl (.agg 2 rfl rfl T.agg37) (Hp.sub_only _ _) ?_
      refine ⟨⟨n2 && decide (0 < rm1.length), ra1, rm1.length, rm1.length⟩, rfl, Big.make n2 hra1 hrl1 hrt1 (Nat.le_refl _) ?_, rfl⟩
      rw [hrv1, hI.val, hI'.val]
      revert hs
      cases n1 <;> cases n2 <;> simp <;> omega
theorem c59 (G : Imm) (x y : IV) (zx zy : Int) (hx : Big G x zx) (hy : Big G y zy) (h1 : x.n ≤ 536870912) (h2 : y.n ≤ 536870912) :
    Does Tryz.prog 59 [.agg (Cells.enc x).toArray, .agg (Cells.enc y).toArray] G [] (fun v G' Ho => ∃ r : IV, v = .agg (Cells.enc r).toArray ∧ Big G' r (zx - zy) ∧ Ho = []) := by
  refine Does.enter Tryz.func59 rfl Tryz.ntmps59 rfl (fun w => ?_)
  refine Wc.gl 2 [] ?_
  refine Wl.box 0 rfl rfl rfl (fun b1 => ?_)
  refine Wl.box 1 rfl rfl rfl (fun b2 => ?_)
  refine Wl.alloc 2 rfl T.zero37 (fun b3 => ?_)
  refine Wl.gc 3 [] ?_
  refine Wc.draw [0, 1, 2] [(2, 4)] T.mixed rfl ?_
  refine Gm.q 0 [0] (by kernel_rfl) rfl rfl (Qy.loadAll 0 T.agg37 rfl rfl rfl) ?_
  refine Gm.q 1 [1] (by kernel_rfl) rfl rfl (Qy.loadAll 1 T.agg37 rfl rfl rfl) ?_
  refine Gm.one 2 ⟨rfl, rfl, rfl, trivial⟩ (by first | exact Imm.le_refl _ | assumption | (refine Imm.le_trans ?_ (by assumption); first | assumption | (refine Imm.le_trans ?_ (by assumption); assumption))) (by kernel_rfl) rfl ?_
  refine Wl.call 3 rfl T.fn58 rfl (c58 _ _ _ hy (by omega)) (tags_of trivial) (fun v1 G1 Ho1 hle1 hp => ?_)
  obtain ⟨nr1, rfl, hnr1, rfl, rfl⟩ := hp
  refine Wl.on0 ?_
  refine Gm.one 3 ⟨rfl, rfl, rfl, trivial⟩ (by first | exact Imm.le_refl _ | assumption | (refine Imm.le_trans ?_ (by assumption); first | assumption | (refine Imm.le_trans ?_ (by assumption); assumption))) (by kernel_rfl) rfl ?_
  have hn1 : nr1.n ≤ y.n := Big.len hnr1 (by rw [Int.natAbs_neg]; exact Big.lt hy)
  refine Wl.call 20 rfl T.fn12 rfl (c12 _ x nr1 zx (-zy) hx hnr1 h1 (by omega)) (tags_of trivial) (fun v2 G2 Ho2 hle2 hp => ?_)
  obtain ⟨r2, rfl, hr2, rfl⟩ := hp
  refine Wl.on0 ?_
  refine Gm.one 4 ⟨rfl, rfl, rfl, trivial⟩ (by first | exact Imm.le_refl _ | assumption | (refine Imm.le_trans ?_ (by assumption); first | assumption | (refine Imm.le_trans ?_ (by assumption); assumption))) (by kernel_rfl) rfl ?_
  refine Wl.storeAll 2 T.size37 rfl rfl rfl rfl rfl rfl ?_
  refine Wl.on0 ?_
  refine Gm.doneA (by kernel_rfl) ⟨rfl, rfl, trivial⟩ (by first | exact Imm.le_refl _ | assumption | (refine Imm.le_trans ?_ (by assumption); first | assumption | (refine Imm.le_trans ?_ (by assumption); assumption))) ?_
  refine Ar.ga 2 [] ?_
  refine Ar.out1 (.inr rfl) (Ho := Hp.only _ []) rfl (.agg 2 rfl rfl T.agg37) (Hp.sub_only _ _) ?_
  exact ⟨r2, rfl, Big.out hr2 (Int.sub_eq_add_neg).symm, rfl⟩
theorem pb_p2 (d s : Nat) : pb d * ((2 ^ s : Nat) : Int) = ((2 ^ (32 * d + s) : Nat) : Int) := by
  unfold pb
  rw [← Int.natCast_mul]
  congr 1
  rw [show (4294967296 : Nat) = 2 ^ 32 by decide, ← Nat.pow_mul, ← Nat.pow_add]
theorem c124 (G : Imm) (x : IV) (zx : Int) (d s : Nat) (hx : Big G x zx) (h1 : x.n ≤ 536870912) (hs : s < 32) (hd : d ≤ 1000) :
    Does Tryz.prog 124 [.agg (Cells.enc x).toArray, .int .i64 ((32 * d + s : Nat) : Int)] G [] (fun v G' Ho => ∃ r : IV, v = .tuple #[.agg (Cells.enc r).toArray, .int .i64 0] ∧ Big G' r (zx * ((2 ^ (32 * d + s) : Nat) : Int)) ∧ Ho = []) := by
  obtain ⟨n1, a, k1, ca⟩ := x
  obtain ⟨la, hl, hlc, hA, hI⟩ := hx
  simp only at hl hlc hA hI h1
  subst hl
  have da := hI.digs
  show Does Tryz.prog 124 [.agg #[.bool n1, .slice a la.length ca], .int .i64 ((32 * d + s : Nat) : Int)] G [] _
  refine Does.enter Tryz.func124 rfl Tryz.ntmps124 rfl (fun w => ?_)
  refine Wc.gl 2 [] ?_
  refine Wl.box 0 rfl rfl rfl (fun b1 => ?_)
  refine Wl.alloc 1 rfl T.zero37 (fun b2 => ?_)
  refine Wl.gl 8 [0] ?_
  refine Wl.call 2 rfl T.fn127 rfl (c127 _ _ _ _ d s (by assumption) (by assumption) (by omega) hs hd) (tags_of trivial) (fun v1 G1 Ho1 hle1 hp => ?_)
  obtain ⟨rq1, rfl, ⟨ra1, rm1, rfl, hra1, hrl1, hrt1, hrv1, hrn1⟩, rfl⟩ := hp
  replace hA := hA.up hle1
  refine Wl.gl 22 [0, 0] ?_
  refine Wl.call0 rfl T.fn27 rfl (c27 _ _ _ _ _ (by omega)) ?_
  refine Wl.ga 5 [1] ?_
  refine Ar.out2 (.inr rfl) (Ho := Hp.only _ []) rfl (.agg 1 rfl rfl T.agg37) (.tmp rfl) (Hp.sub_only _ _) ?_
  refine ⟨⟨n1 && decide (0 < rm1.length), ra1, rm1.length, rm1.length⟩, rfl, Big.make n1 hra1 hrl1 hrt1 (Nat.le_refl _) ?_, rfl⟩
  rw [hrv1, hI.val, pb_p2]
  cases n1
  · rw [if_neg (by decide), if_neg (by decide), Int.mul_comm]
  · rw [if_pos rfl, if_pos rfl, Int.neg_mul, Int.mul_comm]
end Go.Proofs.YtelbhbbiejalhaaGreat
set_option linter.unusedVariables false
namespace Go.Sl
open Go
section
variable {B : Bs} {e : Env} {D : List Deferred} {H : Hp} {G : Imm}
/-- a block under another tag -/
theorem retagH {a : Act} {w : World} (hh : Hold B ⟨e, D, H, G⟩ a w) (t t' : Nat) {k : Option Nat} {o : Obj} (ht : H.get t = some (k, o)) (hn : t ≠ t') (hk : H.get t' = none ∨ True) : Hold B ⟨e, D, (t', k, o) :: (t, none, o) :: H, G⟩ a w := by
  have key : ∀ i b o', Hp.get ((t', k, o) :: (t, none, o) :: H) i = some (some b, o') → (i = t' ∧ H.get t = some (some b, o')) ∨ (i ≠ t' ∧ i ≠ t ∧ H.get i = some (some b, o')) := fun i b o' hx => by
    rw [Hp.get_cons] at hx
    split at hx
    · rename_i hi; left; refine ⟨hi.symm, ?_⟩; rw [ht]; exact hx
    · rename_i hi
      rw [Hp.get_cons] at hx
      split at hx
      · simp at hx
      · rename_i hi2; exact .inr ⟨fun h => hi h.symm, fun h => hi2 h.symm, hx⟩
  refine ⟨hh.size, hh.defers, hh.env, ⟨?_, ?_, hh.mem.imm, ?_⟩, hh.upd, ?_, hh.le, hh.new⟩
  · intro i b o' hx
    rcases key i b o' hx with ⟨_, h⟩ | ⟨_, _, h⟩
    · exact hh.mem.own _ b o' h
    · exact hh.mem.own _ b o' h
  · intro i i' b o1 o2 hx hy
    rcases key i b o1 hx with ⟨h1, h2⟩ | ⟨h1, h1', h2⟩ <;> rcases key i' b o2 hy with ⟨h3, h4⟩ | ⟨h3, h3', h4⟩
    · rw [h1, h3]
    · exact absurd (hh.mem.one _ _ b _ _ h2 h4).symm h3'
    · exact absurd (hh.mem.one _ _ b _ _ h2 h4) h1'
    · exact hh.mem.one _ _ b _ _ h2 h4
  · intro i b o' hx
    rcases key i b o' hx with ⟨_, h⟩ | ⟨_, _, h⟩
    · exact hh.mem.off _ b o' h
    · exact hh.mem.off _ b o' h
  · intro i b o' hx
    rcases key i b o' hx with ⟨_, h⟩ | ⟨_, _, h⟩
    · exact hh.mine _ b o' h
    · exact hh.mine _ b o' h
theorem Ar.retag {x : Exit} {Q : Exit → Act → World → Prop} (t t' : Nat) {k : Option Nat} {o : Obj} (ht : H.get t = some (k, o)) (hn : Nat.beq t t' = false) (h : Ar Q x B ⟨e, D, (t', k, o) :: (t, none, o) :: H, G⟩) : Ar Q x B ⟨e, D, H, G⟩ :=
  fun a w hh => h a w (retagH hh t t' ht (fun e => by subst e; simp at hn) (.inr trivial))
end
end Go.Sl
set_option maxRecDepth 100000
set_option linter.unusedVariables false
namespace Go.Proofs.YtelbhbbiejalhaaGreat
open Go Go.Sl
set_option maxHeartbeats 4000000
theorem sgZ_bd (z : Int) : -1 ≤ sgZ z ∧ sgZ z ≤ 1 := by unfold sgZ; split; exact ⟨by omega, by omega⟩; split <;> exact ⟨by omega, by omega⟩
theorem sgZ_bd9 (z : Int) : -9223372036854775808 ≤ sgZ z ∧ sgZ z ≤ 9223372036854775807 := by have := sgZ_bd z; omega
theorem sgZ_lt1 (z : Int) : ((sgZ z).natAbs : Int) < pb 1 := by have := sgZ_bd z; have : pb 1 = 4294967296 := (by decide); omega
theorem sgZ_mul (z : Int) : sgZ z * z = z.natAbs := by
  unfold sgZ
  split
  · omega
  · split <;> omega
theorem ediv_of {x y q r : Int} (hy : y ≠ 0) (h : x = q * y + r) (h0 : 0 ≤ r) (h1 : r < y.natAbs) : q = x / y ∧ r = x % y := by
  rcases Int.lt_or_gt_of_ne hy with hn | hp
  · have := (Int.ediv_emod_unique' (a := x) (b := y) (r := r) (q := q) hn).2 ⟨by rw [Int.mul_comm y q]; omega, h0, by omega⟩
    exact ⟨this.1.symm, this.2.symm⟩
  · have := (Int.ediv_emod_unique (a := x) (b := y) (r := r) (q := q) hp).2 ⟨by rw [Int.mul_comm y q]; omega, h0, by omega⟩
    exact ⟨this.1.symm, this.2.symm⟩
theorem dm_plain {n1 n2 : Bool} {x y la lb lq lr : Int} (hx : x = if n1 = true then -la else la) (hy : y = if n2 = true then -lb else lb) (hv : la = lq * lb + lr) :
    x = (if decide (n1 ≠ n2) = true then -lq else lq) * y + (if n1 = true then -lr else lr) := by
  subst hx hy hv
  cases n1 <;> cases n2 <;> simp [Int.neg_mul, Int.mul_neg, Int.neg_add]
theorem dm_next {x y q r : Int} (h : x = q * y + r) : x = (q - sgZ y) * y + (r + y.natAbs) := by
  have := sgZ_mul y
  rw [Int.sub_mul, this]; omega
theorem dm_true {n1 : Bool} {m : List U32} {q x y : Int} (hx : x = q * y + (if n1 = true then -valB m else valB m)) (hy : y ≠ 0) (hl : valB m < y.natAbs) (h : (n1 && decide (0 < m.length)) = true) (ht : Top m) (hd : Lims m) :
    q - sgZ y = x / y ∧ (if n1 = true then -valB m else valB m) + (y.natAbs : Int) = x % y := by
  rw [Bool.and_eq_true, decide_eq_true_eq] at h
  have hp := ltop_pos hd ht (fun e => by have := h.2; rw [e] at this; simp at this)
  have e := h.1
  subst e
  rw [if_pos rfl] at hx ⊢
  exact ediv_of hy (dm_next hx) (by omega) (by omega)
theorem dm_false {n1 : Bool} {m : List U32} {q x y : Int} (hx : x = q * y + (if n1 = true then -valB m else valB m)) (hy : y ≠ 0) (hl : valB m < y.natAbs) (h : (n1 && decide (0 < m.length)) = false) (hd : Lims m) :
    q = x / y ∧ (if n1 = true then -valB m else valB m) = x % y := by
  have hn := valB_nonneg hd
  refine ediv_of hy hx ?_ ?_
  · cases n1 with
    | false => rw [if_neg (by decide)]; exact hn
    | true =>
      have h0 : m = [] := by
        rw [Bool.true_and, decide_eq_false_iff_not] at h
        exact List.eq_nil_of_length_eq_zero (by omega)
      rw [if_pos rfl, h0, valB_nil]
      omega
  · split <;> omega
attribute [local irreducible] valB pb cmpZ lstWp
theorem c61 (G : Imm) (x y : IV) (zx zy : Int) (hx : Big G x zx) (hy : Big G y zy) (h1 : x.n ≤ 268435456) (h2 : y.n ≤ 268435456) (hy0 : zy ≠ 0) :
    Does Tryz.prog 61 [.agg (Cells.enc x).toArray, .agg (Cells.enc y).toArray] G [] (fun v G' Ho => ∃ q r : IV, v = .tuple #[.agg (Cells.enc q).toArray, .agg (Cells.enc r).toArray, .int .i64 0] ∧ Big G' q (zx / zy) ∧ Big G' r (zx % zy) ∧ Ho = []) := by
  obtain ⟨n1, a, k1, ca⟩ := x
  obtain ⟨n2, b, k2, cb⟩ := y
  obtain ⟨la, hl, hlc, hA, hI⟩ := hx
  obtain ⟨lb, hl', hlc', hA', hI'⟩ := hy
  simp only at hl hlc hA hI hl' hlc' hA' hI' h1 h2
  subst hl hl'
  have da := hI.digs
  have db := hI'.digs
  have ta := hI.top
  have tb := hI'.top
  have h1' : la.length ≤ 536870912 := by omega
  have h2' : lb.length ≤ 536870912 := by omega
  have va := hI.abs
  have vb := hI'.abs
  have hlt := valB_lt db
  have hB : 0 < valB lb := by omega
  show Does Tryz.prog 61 [.agg #[.bool n1, .slice a la.length ca], .agg #[.bool n2, .slice b lb.length cb]] G [] _
  refine Does.enter Tryz.func61 rfl Tryz.ntmps61 rfl (fun w => ?_)
  refine Wc.gl 2 [] ?_
  refine Wl.box 0 rfl rfl rfl (fun b1 => ?_)
  refine Wl.box 1 rfl rfl rfl (fun b2 => ?_)
  refine Wl.alloc 2 rfl T.zero37 (fun b3 => ?_)
  refine Wl.alloc 3 rfl T.zero37 (fun b4 => ?_)
  refine Wl.gl 9 [0, 1] ?_
  refine Wl.call 4 rfl T.fn90 rfl (c90 _ _ _ _ _ _ _ (by assumption) (by assumption) da ta db h1' h2' hlc hlc' hB) (tags_of trivial) (fun v1 G1 Ho1 hle1 hp => ?_)
  obtain ⟨_, _, rfl, ⟨qa1, qm1, rfl, hqa1, hql1, hqt1, hqv1, hqn1⟩, ⟨ra1, rm1, rfl, hra1, hrl1, hrt1, hrv1, hrn1⟩, rfl⟩ := hp
  replace hA := hA.up hle1
  replace hA' := hA'.up hle1
  refine Wl.gc 19 [0] ?_
  refine Wc.meet (ι := Nat × Nat) (fun (p, q) => ([(10, .pointer (some ⟨p, 0, none⟩)), (11, .pointer (some ⟨q, 0, none⟩)), (6, Go.Value.int Go.IntKind.i64 0), (5, Go.Value.pointer (Option.some (Go.Addr.mk b4 0 Option.none))), (4, Go.Value.pointer (Option.some (Go.Addr.mk b3 0 Option.none))), (3, Go.Value.pointer (Option.some (Go.Addr.mk b2 0 Option.none)))], [(60, some p, .cells #[.bool (decide (n1 ≠ n2) && decide (0 < qm1.length)), .slice qa1 qm1.length qm1.length] 37), (61, some q, .cells #[.bool (n1 && decide (0 < rm1.length)), .slice ra1 rm1.length rm1.length] 37), (3, Option.some b4, Go.Obj.cells #[Go.Value.bool Bool.false, Go.Value.slice Option.none 0 0] 37), (2, Option.some b3, Go.Obj.cells #[Go.Value.bool Bool.false, Go.Value.slice Option.none 0 0] 37), (1, Option.some b2, Go.Obj.cells #[Go.Value.bool n2, Go.Value.slice b (List.length lb) cb] 37), (0, Option.some b1, Go.Obj.cells #[Go.Value.bool n1, Go.Value.slice a (List.length la) ca] 37)])) (fun (p, q) => True) ?_ (fun ⟨p, q⟩ => fun (hk : True) => ?_)
  · refine Wc.draw [0, 1, 2, 3] [] T.mixed rfl ?_
    refine Gm.q 0 [] (by kernel_rfl) rfl rfl (Qy.fieldAddr T.fa37_0 rfl) ?_
    refine Gm.q 1 [0] (by kernel_rfl) rfl rfl (Qy.load 0 T.one4 rfl rfl rfl) ?_
    refine Gm.q 2 [] (by kernel_rfl) rfl rfl (Qy.fieldAddr T.fa37_0 rfl) ?_
    refine Gm.q 3 [1] (by kernel_rfl) rfl rfl (Qy.load 1 T.one4 rfl rfl rfl) ?_
    refine Gm.q 4 [] (by kernel_rfl) rfl rfl (Qy.neqB T.u4 rfl rfl) ?_
    refine Gm.q 5 [] (by kernel_rfl) rfl rfl (Qy.move rfl) ?_
    refine Gm.q 7 [] (by kernel_rfl) rfl rfl (Qy.fieldAddr T.fa37_0 rfl) ?_
    refine Gm.q 8 [0] (by kernel_rfl) rfl rfl (Qy.load 0 T.one4 rfl rfl rfl) ?_
    refine Gm.q 9 [] (by kernel_rfl) rfl rfl (Qy.move rfl) ?_
    refine Gm.three 6 11 12 ⟨rfl, rfl, rfl, rfl, trivial⟩ (by first | exact Imm.le_refl _ | assumption | (refine Imm.le_trans ?_ (by assumption); first | assumption | (refine Imm.le_trans ?_ (by assumption); assumption))) (by kernel_rfl) rfl rfl rfl ?_ ?_ ?_
    refine Wl.call0 rfl T.fn27 rfl (c27 _ _ _ _ _ (by omega)) ?_
    refine Wl.on0 ?_
    refine Gm.three 10 11 12 ⟨rfl, rfl, rfl, rfl, trivial⟩ (by first | exact Imm.le_refl _ | assumption | (refine Imm.le_trans ?_ (by assumption); first | assumption | (refine Imm.le_trans ?_ (by assumption); assumption))) (by kernel_rfl) rfl rfl rfl ?_ ?_ ?_
    refine Wl.call0 rfl T.fn27 rfl (c27 _ _ _ _ _ (by omega)) ?_
    refine Wl.on0 ?_
    refine Gm.two 11 12 ⟨rfl, rfl, rfl, rfl, trivial⟩ (by first | exact Imm.le_refl _ | assumption | (refine Imm.le_trans ?_ (by assumption); first | assumption | (refine Imm.le_trans ?_ (by assumption); assumption))) (by kernel_rfl) rfl rfl ?_ ?_
    refine Wl.alloc 4 rfl T.zero37 (fun b5 => ?_)
    refine Wl.on0 ?_
    refine Gm.one 12 ⟨rfl, rfl, rfl, rfl, trivial⟩ (by first | exact Imm.le_refl _ | assumption | (refine Imm.le_trans ?_ (by assumption); first | assumption | (refine Imm.le_trans ?_ (by assumption); assumption))) (by kernel_rfl) rfl ?_
    refine Wl.alloc 5 rfl T.zero37 (fun b6 => ?_)
    refine Wl.on0 ?_
    refine Gm.one 13 ⟨rfl, rfl, rfl, rfl, trivial⟩ (by first | exact Imm.le_refl _ | assumption | (refine Imm.le_trans ?_ (by assumption); first | assumption | (refine Imm.le_trans ?_ (by assumption); assumption))) (by kernel_rfl) rfl ?_
    refine Wl.storeAll 4 T.size37 rfl rfl rfl rfl rfl rfl ?_
    refine Wl.on0 ?_
    refine Gm.one 14 ⟨rfl, rfl, rfl, rfl, trivial⟩ (by first | exact Imm.le_refl _ | assumption | (refine Imm.le_trans ?_ (by assumption); first | assumption | (refine Imm.le_trans ?_ (by assumption); assumption))) (by kernel_rfl) rfl ?_
    refine Wl.storeAll 5 T.size37 rfl rfl rfl rfl rfl rfl ?_
    refine Wl.on0 ?_
    refine Gm.doneA (by kernel_rfl) ⟨rfl, rfl, rfl, rfl, trivial⟩ (by first | exact Imm.le_refl _ | assumption | (refine Imm.le_trans ?_ (by assumption); first | assumption | (refine Imm.le_trans ?_ (by assumption); assumption))) ?_
    rotate_left
    refine Wl.alloc 4 rfl T.zero37 (fun b5 => ?_)
    refine Wl.on0 ?_
    refine Gm.one 11 ⟨rfl, rfl, rfl, rfl, trivial⟩ (by first | exact Imm.le_refl _ | assumption | (refine Imm.le_trans ?_ (by assumption); first | assumption | (refine Imm.le_trans ?_ (by assumption); assumption))) (by kernel_rfl) rfl ?_
    refine Wl.alloc 5 rfl T.zero37 (fun b6 => ?_)
    refine Wl.on0 ?_
    refine Gm.one 13 ⟨rfl, rfl, rfl, rfl, trivial⟩ (by first | exact Imm.le_refl _ | assumption | (refine Imm.le_trans ?_ (by assumption); first | assumption | (refine Imm.le_trans ?_ (by assumption); assumption))) (by kernel_rfl) rfl ?_
    refine Wl.storeAll 5 T.size37 rfl rfl rfl rfl rfl rfl ?_
    refine Wl.on0 ?_
    refine Gm.one 14 ⟨rfl, rfl, rfl, rfl, trivial⟩ (by first | exact Imm.le_refl _ | assumption | (refine Imm.le_trans ?_ (by assumption); first | assumption | (refine Imm.le_trans ?_ (by assumption); assumption))) (by kernel_rfl) rfl ?_
    refine Wl.storeAll 4 T.size37 rfl rfl rfl rfl rfl rfl ?_
    refine Wl.on0 ?_
    refine Gm.doneA (by kernel_rfl) ⟨rfl, rfl, rfl, rfl, trivial⟩ (by first | exact Imm.le_refl _ | assumption | (refine Imm.le_trans ?_ (by assumption); first | assumption | (refine Imm.le_trans ?_ (by assumption); assumption))) ?_
    rotate_left
    refine Wl.alloc 4 rfl T.zero37 (fun b5 => ?_)
    refine Wl.on0 ?_
    refine Gm.two 10 12 ⟨rfl, rfl, rfl, rfl, trivial⟩ (by first | exact Imm.le_refl _ | assumption | (refine Imm.le_trans ?_ (by assumption); first | assumption | (refine Imm.le_trans ?_ (by assumption); assumption))) (by kernel_rfl) rfl rfl ?_ ?_
    refine Wl.call0 rfl T.fn27 rfl (c27 _ _ _ _ _ (by omega)) ?_
    refine Wl.on0 ?_
    refine Gm.one 12 ⟨rfl, rfl, rfl, rfl, trivial⟩ (by first | exact Imm.le_refl _ | assumption | (refine Imm.le_trans ?_ (by assumption); first | assumption | (refine Imm.le_trans ?_ (by assumption); assumption))) (by kernel_rfl) rfl ?_
    refine Wl.alloc 5 rfl T.zero37 (fun b6 => ?_)
    refine Wl.on0 ?_
    refine Gm.one 13 ⟨rfl, rfl, rfl, rfl, trivial⟩ (by first | exact Imm.le_refl _ | assumption | (refine Imm.le_trans ?_ (by assumption); first | assumption | (refine Imm.le_trans ?_ (by assumption); assumption))) (by kernel_rfl) rfl ?_
    refine Wl.storeAll 4 T.size37 rfl rfl rfl rfl rfl rfl ?_
    refine Wl.on0 ?_
    refine Gm.one 14 ⟨rfl, rfl, rfl, rfl, trivial⟩ (by first | exact Imm.le_refl _ | assumption | (refine Imm.le_trans ?_ (by assumption); first | assumption | (refine Imm.le_trans ?_ (by assumption); assumption))) (by kernel_rfl) rfl ?_
    refine Wl.storeAll 5 T.size37 rfl rfl rfl rfl rfl rfl ?_
    refine Wl.on0 ?_
    refine Gm.doneA (by kernel_rfl) ⟨rfl, rfl, rfl, rfl, trivial⟩ (by first | exact Imm.le_refl _ | assumption | (refine Imm.le_trans ?_ (by assumption); first | assumption | (refine Imm.le_trans ?_ (by assumption); assumption))) ?_
    rotate_left
    refine Wl.alloc 5 rfl T.zero37 (fun b6 => ?_)
    refine Wl.on0 ?_
    refine Gm.one 10 ⟨rfl, rfl, rfl, rfl, trivial⟩ (by first | exact Imm.le_refl _ | assumption | (refine Imm.le_trans ?_ (by assumption); first | assumption | (refine Imm.le_trans ?_ (by assumption); assumption))) (by kernel_rfl) rfl ?_
    refine Wl.call0 rfl T.fn27 rfl (c27 _ _ _ _ _ (by omega)) ?_
    refine Wl.on0 ?_
    refine Gm.one 13 ⟨rfl, rfl, rfl, rfl, trivial⟩ (by first | exact Imm.le_refl _ | assumption | (refine Imm.le_trans ?_ (by assumption); first | assumption | (refine Imm.le_trans ?_ (by assumption); assumption))) (by kernel_rfl) rfl ?_
    refine Wl.storeAll 4 T.size37 rfl rfl rfl rfl rfl rfl ?_
    refine Wl.on0 ?_
    refine Gm.one 14 ⟨rfl, rfl, rfl, rfl, trivial⟩ (by first | exact Imm.le_refl _ | assumption | (refine Imm.le_trans ?_ (by assumption); first | assumption | (refine Imm.le_trans ?_ (by assumption); assumption))) (by kernel_rfl) rfl ?_
    refine Wl.storeAll 5 T.size37 rfl rfl rfl rfl rfl rfl ?_
    refine Wl.on0 ?_
    refine Gm.doneA (by kernel_rfl) ⟨rfl, rfl, rfl, rfl, trivial⟩ (by first | exact Imm.le_refl _ | assumption | (refine Imm.le_trans ?_ (by assumption); first | assumption | (refine Imm.le_trans ?_ (by assumption); assumption))) ?_
    rotate_left
    refine Wl.alloc 4 rfl T.zero37 (fun b5 => ?_)
    refine Wl.on0 ?_
    refine Gm.two 10 11 ⟨rfl, rfl, rfl, rfl, trivial⟩ (by first | exact Imm.le_refl _ | assumption | (refine Imm.le_trans ?_ (by assumption); first | assumption | (refine Imm.le_trans ?_ (by assumption); assumption))) (by kernel_rfl) rfl rfl ?_ ?_
    refine Wl.call0 rfl T.fn27 rfl (c27 _ _ _ _ _ (by omega)) ?_
    refine Wl.on0 ?_
    refine Gm.one 11 ⟨rfl, rfl, rfl, rfl, trivial⟩ (by first | exact Imm.le_refl _ | assumption | (refine Imm.le_trans ?_ (by assumption); first | assumption | (refine Imm.le_trans ?_ (by assumption); assumption))) (by kernel_rfl) rfl ?_
    refine Wl.alloc 5 rfl T.zero37 (fun b6 => ?_)
    refine Wl.on0 ?_
    refine Gm.one 13 ⟨rfl, rfl, rfl, rfl, trivial⟩ (by first | exact Imm.le_refl _ | assumption | (refine Imm.le_trans ?_ (by assumption); first | assumption | (refine Imm.le_trans ?_ (by assumption); assumption))) (by kernel_rfl) rfl ?_
    refine Wl.storeAll 5 T.size37 rfl rfl rfl rfl rfl rfl ?_
    refine Wl.on0 ?_
    refine Gm.one 14 ⟨rfl, rfl, rfl, rfl, trivial⟩ (by first | exact Imm.le_refl _ | assumption | (refine Imm.le_trans ?_ (by assumption); first | assumption | (refine Imm.le_trans ?_ (by assumption); assumption))) (by kernel_rfl) rfl ?_
    refine Wl.storeAll 4 T.size37 rfl rfl rfl rfl rfl rfl ?_
    refine Wl.on0 ?_
    refine Gm.doneA (by kernel_rfl) ⟨rfl, rfl, rfl, rfl, trivial⟩ (by first | exact Imm.le_refl _ | assumption | (refine Imm.le_trans ?_ (by assumption); first | assumption | (refine Imm.le_trans ?_ (by assumption); assumption))) ?_
    rotate_left
    refine Wl.alloc 5 rfl T.zero37 (fun b6 => ?_)
    refine Wl.on0 ?_
    refine Gm.one 10 ⟨rfl, rfl, rfl, rfl, trivial⟩ (by first | exact Imm.le_refl _ | assumption | (refine Imm.le_trans ?_ (by assumption); first | assumption | (refine Imm.le_trans ?_ (by assumption); assumption))) (by kernel_rfl) rfl ?_
    refine Wl.call0 rfl T.fn27 rfl (c27 _ _ _ _ _ (by omega)) ?_
    refine Wl.on0 ?_
    refine Gm.one 13 ⟨rfl, rfl, rfl, rfl, trivial⟩ (by first | exact Imm.le_refl _ | assumption | (refine Imm.le_trans ?_ (by assumption); first | assumption | (refine Imm.le_trans ?_ (by assumption); assumption))) (by kernel_rfl) rfl ?_
    refine Wl.storeAll 5 T.size37 rfl rfl rfl rfl rfl rfl ?_
    refine Wl.on0 ?_
    refine Gm.one 14 ⟨rfl, rfl, rfl, rfl, trivial⟩ (by first | exact Imm.le_refl _ | assumption | (refine Imm.le_trans ?_ (by assumption); first | assumption | (refine Imm.le_trans ?_ (by assumption); assumption))) (by kernel_rfl) rfl ?_
    refine Wl.storeAll 4 T.size37 rfl rfl rfl rfl rfl rfl ?_
    refine Wl.on0 ?_
    refine Gm.doneA (by kernel_rfl) ⟨rfl, rfl, rfl, rfl, trivial⟩ (by first | exact Imm.le_refl _ | assumption | (refine Imm.le_trans ?_ (by assumption); first | assumption | (refine Imm.le_trans ?_ (by assumption); assumption))) ?_
    rotate_left
    refine Wl.alloc 4 rfl T.zero37 (fun b5 => ?_)
    refine Wl.on0 ?_
    refine Gm.two 6 12 ⟨rfl, rfl, rfl, rfl, trivial⟩ (by first | exact Imm.le_refl _ | assumption | (refine Imm.le_trans ?_ (by assumption); first | assumption | (refine Imm.le_trans ?_ (by assumption); assumption))) (by kernel_rfl) rfl rfl ?_ ?_
    refine Wl.call0 rfl T.fn27 rfl (c27 _ _ _ _ _ (by omega)) ?_
    refine Wl.on0 ?_
    refine Gm.two 10 12 ⟨rfl, rfl, rfl, rfl, trivial⟩ (by first | exact Imm.le_refl _ | assumption | (refine Imm.le_trans ?_ (by assumption); first | assumption | (refine Imm.le_trans ?_ (by assumption); assumption))) (by kernel_rfl) rfl rfl ?_ ?_
    refine Wl.call0 rfl T.fn27 rfl (c27 _ _ _ _ _ (by omega)) ?_
    refine Wl.on0 ?_
    refine Gm.one 12 ⟨rfl, rfl, rfl, rfl, trivial⟩ (by first | exact Imm.le_refl _ | assumption | (refine Imm.le_trans ?_ (by assumption); first | assumption | (refine Imm.le_trans ?_ (by assumption); assumption))) (by kernel_rfl) rfl ?_
    refine Wl.alloc 5 rfl T.zero37 (fun b6 => ?_)
    refine Wl.on0 ?_
    refine Gm.one 13 ⟨rfl, rfl, rfl, rfl, trivial⟩ (by first | exact Imm.le_refl _ | assumption | (refine Imm.le_trans ?_ (by assumption); first | assumption | (refine Imm.le_trans ?_ (by assumption); assumption))) (by kernel_rfl) rfl ?_
    refine Wl.storeAll 4 T.size37 rfl rfl rfl rfl rfl rfl ?_
    refine Wl.on0 ?_
    refine Gm.one 14 ⟨rfl, rfl, rfl, rfl, trivial⟩ (by first | exact Imm.le_refl _ | assumption | (refine Imm.le_trans ?_ (by assumption); first | assumption | (refine Imm.le_trans ?_ (by assumption); assumption))) (by kernel_rfl) rfl ?_
    refine Wl.storeAll 5 T.size37 rfl rfl rfl rfl rfl rfl ?_
    refine Wl.on0 ?_
    refine Gm.doneA (by kernel_rfl) ⟨rfl, rfl, rfl, rfl, trivial⟩ (by first | exact Imm.le_refl _ | assumption | (refine Imm.le_trans ?_ (by assumption); first | assumption | (refine Imm.le_trans ?_ (by assumption); assumption))) ?_
    rotate_left
    refine Wl.alloc 5 rfl T.zero37 (fun b6 => ?_)
    refine Wl.on0 ?_
    refine Gm.one 10 ⟨rfl, rfl, rfl, rfl, trivial⟩ (by first | exact Imm.le_refl _ | assumption | (refine Imm.le_trans ?_ (by assumption); first | assumption | (refine Imm.le_trans ?_ (by assumption); assumption))) (by kernel_rfl) rfl ?_
    refine Wl.call0 rfl T.fn27 rfl (c27 _ _ _ _ _ (by omega)) ?_
    refine Wl.on0 ?_
    refine Gm.one 13 ⟨rfl, rfl, rfl, rfl, trivial⟩ (by first | exact Imm.le_refl _ | assumption | (refine Imm.le_trans ?_ (by assumption); first | assumption | (refine Imm.le_trans ?_ (by assumption); assumption))) (by kernel_rfl) rfl ?_
    refine Wl.storeAll 4 T.size37 rfl rfl rfl rfl rfl rfl ?_
    refine Wl.on0 ?_
    refine Gm.one 14 ⟨rfl, rfl, rfl, rfl, trivial⟩ (by first | exact Imm.le_refl _ | assumption | (refine Imm.le_trans ?_ (by assumption); first | assumption | (refine Imm.le_trans ?_ (by assumption); assumption))) (by kernel_rfl) rfl ?_
    refine Wl.storeAll 5 T.size37 rfl rfl rfl rfl rfl rfl ?_
    refine Wl.on0 ?_
    refine Gm.doneA (by kernel_rfl) ⟨rfl, rfl, rfl, rfl, trivial⟩ (by first | exact Imm.le_refl _ | assumption | (refine Imm.le_trans ?_ (by assumption); first | assumption | (refine Imm.le_trans ?_ (by assumption); assumption))) ?_
    rotate_left
    refine Wl.alloc 5 rfl T.zero37 (fun b6 => ?_)
    refine Wl.on0 ?_
    refine Gm.one 6 ⟨rfl, rfl, rfl, rfl, trivial⟩ (by first | exact Imm.le_refl _ | assumption | (refine Imm.le_trans ?_ (by assumption); first | assumption | (refine Imm.le_trans ?_ (by assumption); assumption))) (by kernel_rfl) rfl ?_
    refine Wl.call0 rfl T.fn27 rfl (c27 _ _ _ _ _ (by omega)) ?_
    refine Wl.on0 ?_
    refine Gm.one 10 ⟨rfl, rfl, rfl, rfl, trivial⟩ (by first | exact Imm.le_refl _ | assumption | (refine Imm.le_trans ?_ (by assumption); first | assumption | (refine Imm.le_trans ?_ (by assumption); assumption))) (by kernel_rfl) rfl ?_
    refine Wl.call0 rfl T.fn27 rfl (c27 _ _ _ _ _ (by omega)) ?_
    refine Wl.on0 ?_
    refine Gm.one 13 ⟨rfl, rfl, rfl, rfl, trivial⟩ (by first | exact Imm.le_refl _ | assumption | (refine Imm.le_trans ?_ (by assumption); first | assumption | (refine Imm.le_trans ?_ (by assumption); assumption))) (by kernel_rfl) rfl ?_
    refine Wl.storeAll 4 T.size37 rfl rfl rfl rfl rfl rfl ?_
    refine Wl.on0 ?_
    refine Gm.one 14 ⟨rfl, rfl, rfl, rfl, trivial⟩ (by first | exact Imm.le_refl _ | assumption | (refine Imm.le_trans ?_ (by assumption); first | assumption | (refine Imm.le_trans ?_ (by assumption); assumption))) (by kernel_rfl) rfl ?_
    refine Wl.storeAll 5 T.size37 rfl rfl rfl rfl rfl rfl ?_
    refine Wl.on0 ?_
    refine Gm.doneA (by kernel_rfl) ⟨rfl, rfl, rfl, rfl, trivial⟩ (by first | exact Imm.le_refl _ | assumption | (refine Imm.le_trans ?_ (by assumption); first | assumption | (refine Imm.le_trans ?_ (by assumption); assumption))) ?_
    rotate_left
    refine Wl.alloc 4 rfl T.zero37 (fun b5 => ?_)
    refine Wl.on0 ?_
    refine Gm.two 6 11 ⟨rfl, rfl, rfl, rfl, trivial⟩ (by first | exact Imm.le_refl _ | assumption | (refine Imm.le_trans ?_ (by assumption); first | assumption | (refine Imm.le_trans ?_ (by assumption); assumption))) (by kernel_rfl) rfl rfl ?_ ?_
    refine Wl.call0 rfl T.fn27 rfl (c27 _ _ _ _ _ (by omega)) ?_
    refine Wl.on0 ?_
    refine Gm.two 10 11 ⟨rfl, rfl, rfl, rfl, trivial⟩ (by first | exact Imm.le_refl _ | assumption | (refine Imm.le_trans ?_ (by assumption); first | assumption | (refine Imm.le_trans ?_ (by assumption); assumption))) (by kernel_rfl) rfl rfl ?_ ?_
    refine Wl.call0 rfl T.fn27 rfl (c27 _ _ _ _ _ (by omega)) ?_
    refine Wl.on0 ?_
    refine Gm.one 11 ⟨rfl, rfl, rfl, rfl, trivial⟩ (by first | exact Imm.le_refl _ | assumption | (refine Imm.le_trans ?_ (by assumption); first | assumption | (refine Imm.le_trans ?_ (by assumption); assumption))) (by kernel_rfl) rfl ?_
    refine Wl.alloc 5 rfl T.zero37 (fun b6 => ?_)
    refine Wl.on0 ?_
    refine Gm.one 13 ⟨rfl, rfl, rfl, rfl, trivial⟩ (by first | exact Imm.le_refl _ | assumption | (refine Imm.le_trans ?_ (by assumption); first | assumption | (refine Imm.le_trans ?_ (by assumption); assumption))) (by kernel_rfl) rfl ?_
    refine Wl.storeAll 5 T.size37 rfl rfl rfl rfl rfl rfl ?_
    refine Wl.on0 ?_
    refine Gm.one 14 ⟨rfl, rfl, rfl, rfl, trivial⟩ (by first | exact Imm.le_refl _ | assumption | (refine Imm.le_trans ?_ (by assumption); first | assumption | (refine Imm.le_trans ?_ (by assumption); assumption))) (by kernel_rfl) rfl ?_
    refine Wl.storeAll 4 T.size37 rfl rfl rfl rfl rfl rfl ?_
    refine Wl.on0 ?_
    refine Gm.doneA (by kernel_rfl) ⟨rfl, rfl, rfl, rfl, trivial⟩ (by first | exact Imm.le_refl _ | assumption | (refine Imm.le_trans ?_ (by assumption); first | assumption | (refine Imm.le_trans ?_ (by assumption); assumption))) ?_
    rotate_left
    refine Wl.alloc 5 rfl T.zero37 (fun b6 => ?_)
    refine Wl.on0 ?_
    refine Gm.one 10 ⟨rfl, rfl, rfl, rfl, trivial⟩ (by first | exact Imm.le_refl _ | assumption | (refine Imm.le_trans ?_ (by assumption); first | assumption | (refine Imm.le_trans ?_ (by assumption); assumption))) (by kernel_rfl) rfl ?_
    refine Wl.call0 rfl T.fn27 rfl (c27 _ _ _ _ _ (by omega)) ?_
    refine Wl.on0 ?_
    refine Gm.one 13 ⟨rfl, rfl, rfl, rfl, trivial⟩ (by first | exact Imm.le_refl _ | assumption | (refine Imm.le_trans ?_ (by assumption); first | assumption | (refine Imm.le_trans ?_ (by assumption); assumption))) (by kernel_rfl) rfl ?_
    refine Wl.storeAll 5 T.size37 rfl rfl rfl rfl rfl rfl ?_
    refine Wl.on0 ?_
    refine Gm.one 14 ⟨rfl, rfl, rfl, rfl, trivial⟩ (by first | exact Imm.le_refl _ | assumption | (refine Imm.le_trans ?_ (by assumption); first | assumption | (refine Imm.le_trans ?_ (by assumption); assumption))) (by kernel_rfl) rfl ?_
    refine Wl.storeAll 4 T.size37 rfl rfl rfl rfl rfl rfl ?_
    refine Wl.on0 ?_
    refine Gm.doneA (by kernel_rfl) ⟨rfl, rfl, rfl, rfl, trivial⟩ (by first | exact Imm.le_refl _ | assumption | (refine Imm.le_trans ?_ (by assumption); first | assumption | (refine Imm.le_trans ?_ (by assumption); assumption))) ?_
    rotate_left
    refine Wl.alloc 5 rfl T.zero37 (fun b6 => ?_)
    refine Wl.on0 ?_
    refine Gm.one 6 ⟨rfl, rfl, rfl, rfl, trivial⟩ (by first | exact Imm.le_refl _ | assumption | (refine Imm.le_trans ?_ (by assumption); first | assumption | (refine Imm.le_trans ?_ (by assumption); assumption))) (by kernel_rfl) rfl ?_
    refine Wl.call0 rfl T.fn27 rfl (c27 _ _ _ _ _ (by omega)) ?_
    refine Wl.on0 ?_
    refine Gm.one 10 ⟨rfl, rfl, rfl, rfl, trivial⟩ (by first | exact Imm.le_refl _ | assumption | (refine Imm.le_trans ?_ (by assumption); first | assumption | (refine Imm.le_trans ?_ (by assumption); assumption))) (by kernel_rfl) rfl ?_
    refine Wl.call0 rfl T.fn27 rfl (c27 _ _ _ _ _ (by omega)) ?_
    refine Wl.on0 ?_
    refine Gm.one 13 ⟨rfl, rfl, rfl, rfl, trivial⟩ (by first | exact Imm.le_refl _ | assumption | (refine Imm.le_trans ?_ (by assumption); first | assumption | (refine Imm.le_trans ?_ (by assumption); assumption))) (by kernel_rfl) rfl ?_
    refine Wl.storeAll 5 T.size37 rfl rfl rfl rfl rfl rfl ?_
    refine Wl.on0 ?_
    refine Gm.one 14 ⟨rfl, rfl, rfl, rfl, trivial⟩ (by first | exact Imm.le_refl _ | assumption | (refine Imm.le_trans ?_ (by assumption); first | assumption | (refine Imm.le_trans ?_ (by assumption); assumption))) (by kernel_rfl) rfl ?_
    refine Wl.storeAll 4 T.size37 rfl rfl rfl rfl rfl rfl ?_
    refine Wl.on0 ?_
    refine Gm.doneA (by kernel_rfl) ⟨rfl, rfl, rfl, rfl, trivial⟩ (by first | exact Imm.le_refl _ | assumption | (refine Imm.le_trans ?_ (by assumption); first | assumption | (refine Imm.le_trans ?_ (by assumption); assumption))) ?_
    rotate_left
    all_goals first | (refine Ar.retag 4 60 rfl rfl (Ar.retag 5 61 rfl rfl (Ar.meet (b5, b6) trivial rfl ?_ ?_)) <;> (repeat (first | exact trivial | refine ⟨rfl, ?_⟩)); done) | (refine Ar.retag 5 60 rfl rfl (Ar.retag 4 61 rfl rfl (Ar.meet (b6, b5) trivial rfl ?_ ?_)) <;> (repeat (first | exact trivial | refine ⟨rfl, ?_⟩)); done)
  · have hxy := dm_plain hI.val hI'.val (show valB la = valB qm1 * valB lb + valB rm1 by rw [hqv1, hrv1, Int.mul_comm]; exact (Int.mul_ediv_add_emod (valB la) (valB lb)).symm)
    have hrlt : valB rm1 < valB lb := by rw [hrv1]; exact Int.emod_lt_of_pos _ hB
    have hQ0 := Big.make (decide (n1 ≠ n2)) hqa1 hql1 hqt1 (Nat.le_refl _) rfl
    have hy2 : Big G1 ⟨n2, b, lb.length, cb⟩ zy := ⟨lb, rfl, hlc', hA', hI'⟩
    have hR0 := Big.make n1 hra1 hrl1 hrt1 (Nat.le_refl _) rfl
    refine Wc.gc 7 [61] ?_
    refine Wc.ite rfl (fun hc1 => ?_) (fun hc1 => ?_)
    refine Wc.seq ?_
    refine Wc.draw [0, 1, 2, 3, 61, 60] [(61, 4)] T.mixed rfl ?_
    refine Gm.q 0 [61] (by kernel_rfl) rfl rfl (Qy.loadAll 61 T.agg37 rfl rfl rfl) ?_
    refine Gm.q 1 [1] (by kernel_rfl) rfl rfl (Qy.loadAll 1 T.agg37 rfl rfl rfl) ?_
    refine Gm.one 2 ⟨rfl, rfl, rfl, rfl, rfl, rfl, trivial⟩ (by first | exact Imm.le_refl _ | assumption | (refine Imm.le_trans ?_ (by assumption); first | assumption | (refine Imm.le_trans ?_ (by assumption); assumption))) (by kernel_rfl) rfl ?_
    refine Wl.call 62 rfl T.fn91 rfl (c91 _ ⟨n2, b, lb.length, cb⟩ zy hy2 (Nat.le_trans h2' (by decide))) (tags_of trivial) (fun v2 G2 Ho2 hle2 hp => ?_)
    obtain ⟨nr2, rfl, hnr2, rfl, rfl⟩ := hp
    refine Wl.on0 ?_
    refine Gm.one 3 ⟨rfl, rfl, rfl, rfl, rfl, rfl, trivial⟩ (by first | exact Imm.le_refl _ | assumption | (refine Imm.le_trans ?_ (by assumption); first | assumption | (refine Imm.le_trans ?_ (by assumption); assumption))) (by kernel_rfl) rfl ?_
    refine Wl.call 62 rfl T.fn12 rfl (c12 _ ⟨(n1 && decide (0 < rm1.length)), ra1, rm1.length, rm1.length⟩ nr2 _ _ hR0 hnr2 (Nat.le_trans hrn1 h2') (Nat.le_trans (Big.len hnr2 (m := lb.length) (by omega)) h2')) (tags_of trivial) (fun v3 G3 Ho3 hle3 hp => ?_)
    obtain ⟨rs3, rfl, hrs3, rfl⟩ := hp
    replace hnr2 := hnr2.up hle3
    replace hqa1 := hqa1.up hle3
    replace hra1 := hra1.up hle3
    replace hA := hA.up hle3
    replace hA' := hA'.up hle3
    replace hQ0 := hQ0.up hle3
    replace hy2 := hy2.up hle3
    replace hR0 := hR0.up hle3
    refine Wl.on0 ?_
    refine Gm.one 4 ⟨rfl, rfl, rfl, rfl, rfl, rfl, trivial⟩ (by first | exact Imm.le_refl _ | assumption | (refine Imm.le_trans ?_ (by assumption); first | assumption | (refine Imm.le_trans ?_ (by assumption); assumption))) (by kernel_rfl) rfl ?_
    refine Wl.storeAll 61 T.size37 rfl rfl rfl rfl rfl rfl ?_
    refine Wl.on0 ?_
    refine Gm.doneA (by kernel_rfl) ⟨rfl, rfl, rfl, rfl, rfl, trivial⟩ (by first | exact Imm.le_refl _ | assumption | (refine Imm.le_trans ?_ (by assumption); first | assumption | (refine Imm.le_trans ?_ (by assumption); assumption))) ?_
    refine Ar.next ?_
    refine Wc.draw [0, 1, 2, 3, 60, 61] [(60, 5)] T.mixed rfl ?_
    refine Gm.q 0 [60] (by kernel_rfl) rfl rfl (Qy.loadAll 60 T.agg37 rfl rfl rfl) ?_
    refine Gm.q 1 [1] (by kernel_rfl) rfl rfl (Qy.loadAll 1 T.agg37 rfl rfl rfl) ?_
    refine Gm.one 2 ⟨rfl, rfl, rfl, rfl, rfl, rfl, trivial⟩ (by first | exact Imm.le_refl _ | assumption | (refine Imm.le_trans ?_ (by assumption); first | assumption | (refine Imm.le_trans ?_ (by assumption); assumption))) (by kernel_rfl) rfl ?_
    refine Wl.call0 rfl T.fn62 rfl (c62 _ _ _ _ _ zy hI' (by omega)) ?_
    refine Wl.on0 ?_
    refine Gm.one 3 ⟨rfl, rfl, rfl, rfl, rfl, rfl, trivial⟩ (by first | exact Imm.le_refl _ | assumption | (refine Imm.le_trans ?_ (by assumption); first | assumption | (refine Imm.le_trans ?_ (by assumption); assumption))) (by kernel_rfl) rfl ?_
    refine Wl.call 62 rfl T.fn10 rfl (c10 _ _ (sgZ_bd9 zy)) (tags_of trivial) (fun v4 G4 Ho4 hle4 hp => ?_)
    obtain ⟨ro4, rfl, hro4, rfl⟩ := hp
    replace hrs3 := hrs3.up hle4
    replace hnr2 := hnr2.up hle4
    replace hqa1 := hqa1.up hle4
    replace hra1 := hra1.up hle4
    replace hA := hA.up hle4
    replace hA' := hA'.up hle4
    replace hQ0 := hQ0.up hle4
    replace hy2 := hy2.up hle4
    replace hR0 := hR0.up hle4
    refine Wl.on0 ?_
    refine Gm.one 4 ⟨rfl, rfl, rfl, rfl, rfl, rfl, trivial⟩ (by first | exact Imm.le_refl _ | assumption | (refine Imm.le_trans ?_ (by assumption); first | assumption | (refine Imm.le_trans ?_ (by assumption); assumption))) (by kernel_rfl) rfl ?_
    refine Wl.call 62 rfl T.fn59 rfl (c59 _ ⟨(decide (n1 ≠ n2) && decide (0 < qm1.length)), qa1, qm1.length, qm1.length⟩ ro4 _ _ hQ0 hro4 (Nat.le_trans hqn1 h1') (Nat.le_trans (Big.len hro4 (m := 1) (sgZ_lt1 zy)) (by decide))) (tags_of trivial) (fun v5 G5 Ho5 hle5 hp => ?_)
    obtain ⟨rd5, rfl, hrd5, rfl⟩ := hp
    replace hro4 := hro4.up hle5
    replace hrs3 := hrs3.up hle5
    replace hnr2 := hnr2.up hle5
    replace hqa1 := hqa1.up hle5
    replace hra1 := hra1.up hle5
    replace hA := hA.up hle5
    replace hA' := hA'.up hle5
    replace hQ0 := hQ0.up hle5
    replace hy2 := hy2.up hle5
    replace hR0 := hR0.up hle5
    refine Wl.on0 ?_
    refine Gm.one 5 ⟨rfl, rfl, rfl, rfl, rfl, rfl, trivial⟩ (by first | exact Imm.le_refl _ | assumption | (refine Imm.le_trans ?_ (by assumption); first | assumption | (refine Imm.le_trans ?_ (by assumption); assumption))) (by kernel_rfl) rfl ?_
    refine Wl.storeAll 60 T.size37 rfl rfl rfl rfl rfl rfl ?_
    refine Wl.on0 ?_
    refine Gm.doneA (by kernel_rfl) ⟨rfl, rfl, rfl, rfl, rfl, trivial⟩ (by first | exact Imm.le_refl _ | assumption | (refine Imm.le_trans ?_ (by assumption); first | assumption | (refine Imm.le_trans ?_ (by assumption); assumption))) ?_
    refine Ar.gc 2 [] ?_
    refine Wc.draw [0, 1, 2, 3, 61, 60] [(3, 3), (2, 2)] T.mixed rfl ?_
    refine Gm.q 0 [60] (by kernel_rfl) rfl rfl (Qy.loadAll 60 T.agg37 rfl rfl rfl) ?_
    refine Gm.q 1 [61] (by kernel_rfl) rfl rfl (Qy.loadAll 61 T.agg37 rfl rfl rfl) ?_
    refine Gm.one 2 ⟨rfl, rfl, rfl, rfl, rfl, rfl, trivial⟩ (by first | exact Imm.le_refl _ | assumption | (refine Imm.le_trans ?_ (by assumption); first | assumption | (refine Imm.le_trans ?_ (by assumption); assumption))) (by kernel_rfl) rfl ?_
    refine Wl.storeAll 2 T.size37 rfl rfl rfl rfl rfl rfl ?_
    refine Wl.on0 ?_
    refine Gm.one 3 ⟨rfl, rfl, rfl, rfl, rfl, trivial⟩ (by first | exact Imm.le_refl _ | assumption | (refine Imm.le_trans ?_ (by assumption); first | assumption | (refine Imm.le_trans ?_ (by assumption); assumption))) (by kernel_rfl) rfl ?_
    refine Wl.storeAll 3 T.size37 rfl rfl rfl rfl rfl rfl ?_
    refine Wl.on0 ?_
    refine Gm.q 4 [] (by kernel_rfl) rfl rfl (Qy.assign rfl) ?_
    refine Gm.doneA (by kernel_rfl) ⟨rfl, rfl, rfl, rfl, trivial⟩ (by first | exact Imm.le_refl _ | assumption | (refine Imm.le_trans ?_ (by assumption); first | assumption | (refine Imm.le_trans ?_ (by assumption); assumption))) ?_
    refine Ar.ga 2 [] ?_
    refine Ar.out3 (.inr rfl) (Ho := Hp.only _ []) rfl (.agg 2 rfl rfl T.agg37) (.agg 3 rfl rfl T.agg37) (.tmp rfl) (Hp.sub_only _ _) ?_
    rotate_left
    refine Wc.gc 3 [] ?_
    refine Wc.draw [0, 1, 2, 3, 61, 60] [(3, 3), (2, 2)] T.mixed rfl ?_
    refine Gm.q 0 [60] (by kernel_rfl) rfl rfl (Qy.loadAll 60 T.agg37 rfl rfl rfl) ?_
    refine Gm.q 1 [61] (by kernel_rfl) rfl rfl (Qy.loadAll 61 T.agg37 rfl rfl rfl) ?_
    refine Gm.one 2 ⟨rfl, rfl, rfl, rfl, rfl, rfl, trivial⟩ (by first | exact Imm.le_refl _ | assumption | (refine Imm.le_trans ?_ (by assumption); first | assumption | (refine Imm.le_trans ?_ (by assumption); assumption))) (by kernel_rfl) rfl ?_
    refine Wl.storeAll 2 T.size37 rfl rfl rfl rfl rfl rfl ?_
    refine Wl.on0 ?_
    refine Gm.one 3 ⟨rfl, rfl, rfl, rfl, rfl, trivial⟩ (by first | exact Imm.le_refl _ | assumption | (refine Imm.le_trans ?_ (by assumption); first | assumption | (refine Imm.le_trans ?_ (by assumption); assumption))) (by kernel_rfl) rfl ?_
    refine Wl.storeAll 3 T.size37 rfl rfl rfl rfl rfl rfl ?_
    refine Wl.on0 ?_
    refine Gm.q 4 [] (by kernel_rfl) rfl rfl (Qy.assign rfl) ?_
    refine Gm.doneA (by kernel_rfl) ⟨rfl, rfl, rfl, rfl, trivial⟩ (by first | exact Imm.le_refl _ | assumption | (refine Imm.le_trans ?_ (by assumption); first | assumption | (refine Imm.le_trans ?_ (by assumption); assumption))) ?_
    refine Ar.ga 2 [] ?_
    refine Ar.out3 (.inr rfl) (Ho := Hp.only _ []) rfl (.agg 2 rfl rfl T.agg37) (.agg 3 rfl rfl T.agg37) (.tmp rfl) (Hp.sub_only _ _) ?_
    rotate_left
    · have he := dm_true hxy hy0 (by omega) hc1 hrt1 hrl1
      refine ⟨rd5, rs3, rfl, ?_, ?_, rfl⟩
      · rw [← he.1]; exact hrd5
      · rw [← he.2]; exact hrs3
    · have he := dm_false hxy hy0 (by omega) hc1 hrl1
      refine ⟨⟨(decide (n1 ≠ n2) && decide (0 < qm1.length)), qa1, qm1.length, qm1.length⟩, ⟨(n1 && decide (0 < rm1.length)), ra1, rm1.length, rm1.length⟩, rfl, ?_, ?_, rfl⟩
      · rw [← he.1]; exact hQ0
      · rw [← he.2]; exact hR0
end Go.Proofs.YtelbhbbiejalhaaGreat
set_option linter.unusedVariables false
namespace Go.Proofs.YtelbhbbiejalhaaGreat
open Go Go.Sl
def p2 (n : Nat) : Int := ((2 ^ n : Nat) : Int)
theorem p2_zero : p2 0 = 1 := rfl
theorem p2_succ (n : Nat) : p2 (n + 1) = 2 * p2 n := by unfold p2; rw [Nat.pow_succ, Nat.mul_comm, Int.natCast_mul]; rfl
theorem p2_pos (n : Nat) : 0 < p2 n := by unfold p2; exact Int.ofNat_lt.2 (Nat.pow_pos (by decide))
theorem p2_add (m n : Nat) : p2 (m + n) = p2 m * p2 n := by unfold p2; rw [Nat.pow_add, Int.natCast_mul]
theorem p2_le {m n : Nat} (h : m ≤ n) : p2 m ≤ p2 n := by unfold p2; exact Int.ofNat_le.2 (Nat.pow_le_pow_right (by decide) h)
theorem p2_lt_iff {a b : Nat} (h : p2 a < p2 b) : a < b := by
  rcases Nat.lt_or_ge a b with h1 | h1
  · exact h1
  · have := p2_le h1; omega
/-- what an instruction multiplies or divides by -/
def cst (i : Sl.Instr) : Int := if i.op = 5 ∨ i.op = 6 then i.c else p2 i.c.toNat
theorem cst_c {i : Sl.Instr} (h : i.op = 5 ∨ i.op = 6) : cst i = i.c := if_pos h
theorem cst_p {i : Sl.Instr} (h : ¬ (i.op = 5 ∨ i.op = 6)) : cst i = p2 i.c.toNat := if_neg h
end Go.Proofs.YtelbhbbiejalhaaGreat
set_option maxRecDepth 100000
set_option linter.unusedVariables false
namespace Go.Proofs.YtelbhbbiejalhaaGreat
open Go Go.Sl
set_option maxHeartbeats 4000000
/-- handles that stand for numbers -/
def Bigs (G : Imm) (l : List IV) (zs : List Int) : Prop := l.length = zs.length ∧ ∀ i : Nat, i < l.length → Big G (l[i]?.getD default) (zs[i]?.getD 0)
theorem Bigs.up {G G' : Imm} {l : List IV} {zs : List Int} (h : Bigs G l zs) (hl : G.le G') : Bigs G' l zs := ⟨h.1, fun i hi => (h.2 i hi).up hl⟩
theorem Bigs.at {G : Imm} {l : List IV} {zs : List Int} (h : Bigs G l zs) {k : Int} (hk : 0 ≤ k ∧ k < l.length) : Big G (l[k.toNat]?.getD default) (zs[k.toNat]?.getD 0) := h.2 _ (by omega)
theorem Bigs.nil (G : Imm) : Bigs G [] [] := ⟨rfl, fun i hi => by simp at hi⟩
theorem Bigs.set {G : Imm} {l : List IV} {zs : List Int} (h : Bigs G l zs) (k : Nat) {x : IV} {z : Int} (hx : Big G x z) : Bigs G (l.set k x) (zs.set k z) := by
  refine ⟨by rw [List.length_set, List.length_set]; exact h.1, fun i hi => ?_⟩
  rw [List.length_set] at hi
  rw [List.getElem?_set, List.getElem?_set]
  have h1 := h.1
  by_cases hk : k = i
  · subst hk
    rw [if_pos rfl, if_pos rfl, if_pos hi, if_pos (by omega)]; exact hx
  · rw [if_neg hk, if_neg hk]; exact h.2 i hi
theorem Bigs.snoc {G : Imm} {l : List IV} {zs : List Int} (h : Bigs G l zs) {x : IV} {z : Int} (hx : Big G x z) : Bigs G (l ++ [x]) (zs ++ [z]) := by
  refine ⟨by rw [List.length_append, List.length_append, h.1]; rfl, fun i hi => ?_⟩
  rw [List.length_append, List.length_singleton] at hi
  have h1 := h.1
  rcases Nat.lt_or_ge i l.length with h2 | h2
  · rw [List.getElem?_append_left h2, List.getElem?_append_left (by omega)]; exact h.2 i h2
  · have e : i = l.length := by omega
    subst e
    rw [List.getElem?_append_right (Nat.le_refl _), Nat.sub_self, h1, List.getElem?_append_right (Nat.le_refl _), Nat.sub_self]; exact hx
theorem Bigs.zeros (G : Imm) (n : Nat) : Bigs G (List.replicate n (default : IV)) (List.replicate n 0) := by
  refine ⟨by rw [List.length_replicate, List.length_replicate], fun i hi => ?_⟩
  rw [List.length_replicate] at hi
  rw [List.getElem?_replicate, List.getElem?_replicate, if_pos hi, if_pos hi]
  exact Big.zero G
/-- none too large -/
def Below (m : Nat) (zs : List Int) : Prop := ∀ z ∈ zs, (z.natAbs : Int) < pb m
theorem Below.at {m : Nat} {zs : List Int} (h : Below m zs) (k : Nat) : ((zs[k]?.getD 0).natAbs : Int) < pb m := by
  rcases Nat.lt_or_ge k zs.length with h1 | h1
  · rw [List.getElem?_eq_getElem h1]; exact h _ (List.getElem_mem h1)
  · rw [List.getElem?_eq_none h1]; exact pb_pos m
theorem one_lt : ((1 : Int).natAbs : Int) < pb 1 := by unfold pb; decide
theorem p2_def (n : Nat) : p2 n = ((2 ^ n : Nat) : Int) := rfl
theorem sgZ_zero {z : Int} : sgZ z = 0 ↔ z = 0 := by
  unfold sgZ
  split
  · simp [*]
  · split <;> omega
theorem emod_small {x y : Int} (hy : y ≠ 0) : ((x % y).natAbs : Int) < y.natAbs := by
  have e1 := Int.emod_nonneg x hy
  rcases Int.lt_or_gt_of_ne hy with h | h
  · have e2 := Int.emod_lt_of_pos x (show 0 < -y by omega)
    rw [Int.emod_neg] at e2
    omega
  · have e2 := Int.emod_lt_of_pos x h
    omega
attribute [local irreducible] valB pb cmpZ lstWp p2
theorem c89 (G : Imm) (n : Nat) (hn : n ≤ 64) :
    Does Tryz.prog 89 [.int .i64 (n : Int)] G [] (fun v G' Ho => ∃ r : IV, v = .agg (Cells.enc r).toArray ∧ Big G' r (p2 n) ∧ Ho = []) := by
  refine Does.enter Tryz.func89 rfl Tryz.ntmps89 rfl (fun w => ?_)
  refine Wc.gl 2 [] ?_
  refine Wl.alloc 0 rfl T.zero37 (fun b1 => ?_)
  refine Wl.gl 4 [] ?_
  refine Wl.call 1 rfl T.fn10 rfl (c10 _ _ (by omega)) (tags_of trivial) (fun v1 G1 Ho1 hle1 hp => ?_)
  obtain ⟨ro1, rfl, hro1, rfl⟩ := hp
  refine Wl.q rfl (Qy.move rfl) ?_
  refine Wl.re 7 rfl (show _ = Value.int .i64 ((32 * (n / 32) + n % 32 : Nat) : Int) by rw [Nat.div_add_mod]) ?_
  refine Wl.call 20 rfl T.fn124 rfl (c124 _ ro1 1 (n / 32) (n % 32) hro1 (Nat.le_trans (Big.len hro1 one_lt) (by decide)) (Nat.mod_lt _ (by decide)) (by omega)) (tags_of trivial) (fun v9 G9 Ho9 hle9 hp => ?_)
  obtain ⟨r9, rfl, hr9, rfl⟩ := hp
  refine Wl.ll0 3 [] ?_
  refine Wl.alloc 1 rfl T.zero37 (fun b2 => ?_)
  refine Wl.ga 11 [1, 1, 0] ?_
  refine Ar.out1 (.inr rfl) (Ho := Hp.only _ []) rfl (.agg 0 rfl rfl T.agg37) (Hp.sub_only _ _) ?_
  exact ⟨r9, rfl, Big.out hr9 (by rw [Nat.div_add_mod, Int.one_mul, p2_def]), rfl⟩
end Go.Proofs.YtelbhbbiejalhaaGreat
set_option maxRecDepth 100000
set_option linter.unusedVariables false
namespace Go.Proofs.YtelbhbbiejalhaaGreat
open Go Go.Sl
set_option maxHeartbeats 4000000
theorem c89i (G : Imm) (c : Int) (h : 0 ≤ c ∧ c ≤ 64) :
    Does Tryz.prog 89 [.int .i64 c] G [] (fun v G' Ho => ∃ r : IV, v = .agg (Cells.enc r).toArray ∧ Big G' r (p2 c.toNat) ∧ Ho = []) := by
  obtain ⟨n, rfl⟩ := Int.eq_ofNat_of_zero_le h.1
  rw [Int.toNat_natCast]
  exact c89 G n (by omega)
attribute [local irreducible] valB pb cmpZ lstWp p2 cst
end Go.Proofs.YtelbhbbiejalhaaGreat
set_option maxRecDepth 100000
set_option linter.unusedVariables false
namespace Go.Proofs.YtelbhbbiejalhaaGreat
open Go Go.Sl
set_option maxHeartbeats 4000000
attribute [local irreducible] valB pb cmpZ lstWp
theorem bigs_snoc {G : Imm} {l : List IV} {zs : List Int} {r : IV} {z : Int} (h : Bigs G l zs) (hr : Big G r z) : Bigs G (l ++ [r]) (zs ++ [z]) := by
  have e1 := h.1
  refine ⟨by rw [List.length_append, List.length_append, e1]; rfl, fun i hi => ?_⟩
  rw [List.length_append, List.length_singleton] at hi
  rcases Nat.lt_or_ge i l.length with h3 | h3
  · rw [List.getElem?_append_left h3, List.getElem?_append_left (by omega)]; exact h.2 i h3
  · have h4 : i = l.length := by omega
    subst h4
    rw [List.getElem?_append_right (Nat.le_refl _), List.getElem?_append_right (by omega), e1, Nat.sub_self]; exact hr
/-- the first n numbers that a rule gives -/
def upP (P : Nat → Int) (n : Nat) : List Int := (List.range n).map P
theorem upP_succ (P : Nat → Int) (n : Nat) : upP P (n + 1) = upP P n ++ [P n] := by unfold upP; rw [List.range_succ, List.map_append]; rfl
/-- each, of a function that holds no state -/
theorem c130P (G : Imm) (a : Option Addr) (c : Nat) (xs : List IV) (g : Nat) (fst : List Value) (P : Nat → Int) (hg : isFn Tryz.prog g) (ha : Arr G a xs) (hl : xs.length ≤ 1048576)
    (hf : ∀ k : Nat, k < xs.length → ∀ G', G.le G' → Does Tryz.prog g (fst ++ [.agg (Cells.enc (xs[((k : Nat) : Int).toNat]?.getD default)).toArray] ++ []) G' [] (fun v G'' Ho => ∃ r : IV, v = .agg (Cells.enc r).toArray ∧ Big G'' r (P k) ∧ Ho = [])) :
    Does Tryz.prog 130 [.slice a xs.length c, .func (.func g) fst.toArray #[]] G [] (fun v G' Ho => ∃ (s : Option Addr) (r : List IV) (d : Nat), v = .slice s r.length d ∧ Arr G' s r ∧ r.length ≤ d ∧ Bigs G' r (upP P xs.length) ∧ Ho = []) := by
  refine Does.enter Tryz.func130 rfl Tryz.ntmps130 rfl (fun w => ?_)
  refine Wc.nilRow 9 (Row 37 ([] : List IV) []) ?_
  refine Wc.gc 19 [] ?_
  refine Wc.loopG (ι := Nat × Imm × List IV × (Option Addr × Nat × List Value)) (fun (k, Gx, r, (o, d, j)) => ([(10, .int .i64 (k : Int)), (5, .slice o r.length d), (9, Go.Value.int Go.IntKind.i64 (↑(List.length xs) : Int)), (8, Go.Value.slice a (List.length xs) c), (4, Go.Value.slice Option.none 0 0), (1, Go.Value.func (Go.Fn.func g) (List.toArray fst) #[])], [(9, o.map (·.block), Row 37 r j)])) (fun (k, Gx, r, (o, d, j)) => Gx) (fun (k, Gx, r, (o, d, j)) => k ≤ xs.length ∧ G.le Gx ∧ r.length = k ∧ Bigs Gx r (upP P k) ∧ OwnA o d r j) (fun (k, Gx, r, (o, d, j)) => xs.length - k) ((0, G, [], (none, 0, []))) (⟨Nat.zero_le _, Imm.le_refl _, rfl, ⟨rfl, fun i h => absurd h (by simp)⟩, OwnA.nil⟩) rfl ⟨rfl, rfl, rfl, rfl, rfl, rfl, trivial⟩ ⟨rfl, trivial⟩ (fun ⟨k, Gx, r, (o, d, j)⟩ => fun (hk : k ≤ xs.length ∧ G.le Gx ∧ r.length = k ∧ Bigs Gx r (upP P k) ∧ OwnA o d r j) => ?_)
  obtain ⟨hk1, hk2, hk3, hk4, hk5⟩ := hk
  replace ha := ha.up hk2
  rcases Nat.lt_or_ge k xs.length with hkl | hkl
  · refine Wc.gl 13 [1] ?_
    refine Wl.q rfl (Qy.at (α := IV) T.sl42 rfl rfl (by assumption) (by omega)) ?_
    refine Wl.q rfl (Qy.loadsG T.agg37 rfl (Arr.elem (by assumption) (by omega)) rfl) ?_
    refine Wl.alloc 10 rfl T.zero37 (fun b1 => ?_)
    refine Wl.gl 7 [10, 10] ?_
    refine Wl.callV (fst := fst) (cap := []) 20 rfl hg rfl rfl (hf k hkl _ hk2) (tags_of trivial) (fun v1 G1 Ho1 hle1 hp => ?_)
    obtain ⟨r1, rfl, hr1, rfl⟩ := hp
    refine Wl.lit (α := IV) 11 [(r1)] rfl T.sl42 T.el37 rfl rfl rfl rfl rfl (fun b2 => ?_)
    refine Wl.append (α := IV) 9 rfl T.sl42 T.el37 rfl rfl rfl (by first | assumption | exact OwnA.nil | exact OwnA.made (by simp)) (Src.row 11 rfl) (by first | omega | (simp only [List.length_append, List.length_cons, List.length_nil, maxLen]; omega)) (by first | omega | (simp only [List.length_append, List.length_cons, List.length_nil, maxLen]; omega)) (fun a1 c1 junk1 ho1 => ?_)
    refine Wl.ga 8 [] ?_
    refine Ar.re 10 rfl (show _ = Value.int .i64 ((k + 1 : Nat) : Int) from rfl) ?_
    refine Ar.again ((k + 1, G1, r ++ [r1], (a1, c1, junk1))) ?_ ?_ rfl ⟨rfl, rfl, rfl, rfl, rfl, rfl, trivial⟩ ⟨rfl, trivial⟩
    · refine ⟨hkl, Imm.le_trans hk2 hle1, by rw [List.length_append, hk3]; rfl, ?_, ho1⟩
      rw [upP_succ]; exact bigs_snoc (hk4.up hle1) hr1
    · show xs.length - (k + 1) < xs.length - k
      omega
  · have hkl : k = xs.length := by omega
    subst hkl
    refine Wc.ga 19 [0] ?_
    refine Ar.freezeRow 9 rfl hk5 (fun G8 hle8 hA8 => ?_)
    refine Ar.out1 (.inr rfl) (Ho := []) rfl (.tmp rfl) trivial ?_
    exact ⟨o, r, d, rfl, hA8, hk5.le, hk4.up hle8, rfl⟩
/-- each, of a function that turns one cell from round to round -/
theorem c130S (G : Imm) (a : Option Addr) (c : Nat) (xs : List IV) (g bk : Nat) (cap : List Value) (P : Nat → Int) (hg : isFn Tryz.prog g) (ha : Arr G a xs) (hl : xs.length ≤ 1048576)
    (hf : ∀ k : Nat, k < xs.length → ∀ G', G.le G' → Does Tryz.prog g ([] ++ [.agg (Cells.enc (xs[((k : Nat) : Int).toNat]?.getD default)).toArray] ++ cap) G' [(0, some bk, .cells #[.int .i64 ((k : Int) - 1)] 3)] (fun v G'' Ho => ∃ r : IV, v = .agg (Cells.enc r).toArray ∧ Big G'' r (P k) ∧ Ho = [(0, some bk, .cells #[.int .i64 (((k + 1 : Nat) : Int) - 1)] 3)])) :
    Does Tryz.prog 130 [.slice a xs.length c, .func (.func g) #[] cap.toArray] G [(0, some bk, .cells #[.int .i64 (-1)] 3)] (fun v G' Ho => ∃ (s : Option Addr) (r : List IV) (d : Nat), v = .slice s r.length d ∧ Arr G' s r ∧ r.length ≤ d ∧ Bigs G' r (upP P xs.length) ∧ Ho = [(0, some bk, .cells #[.int .i64 ((xs.length : Int) - 1)] 3)]) := by
  refine Does.enter Tryz.func130 rfl Tryz.ntmps130 rfl (fun w => ?_)
  refine Wc.nilRow 9 (Row 37 ([] : List IV) []) ?_
  refine Wc.gc 19 [] ?_
  refine Wc.reH 0 (.cells #[.int .i64 (((0 : Nat) : Int) - 1)] 3) rfl rfl ?_
  refine Wc.loopG (ι := Nat × Imm × List IV × (Option Addr × Nat × List Value)) (fun (k, Gx, r, (o, d, j)) => ([(10, .int .i64 (k : Int)), (5, .slice o r.length d), (9, Go.Value.int Go.IntKind.i64 (↑(List.length xs) : Int)), (8, Go.Value.slice a (List.length xs) c), (4, Go.Value.slice Option.none 0 0), (1, Go.Value.func (Go.Fn.func g) #[] (List.toArray cap))], [(0, some bk, .cells #[.int .i64 ((k : Int) - 1)] 3), (9, o.map (·.block), Row 37 r j)])) (fun (k, Gx, r, (o, d, j)) => Gx) (fun (k, Gx, r, (o, d, j)) => k ≤ xs.length ∧ G.le Gx ∧ r.length = k ∧ Bigs Gx r (upP P k) ∧ OwnA o d r j) (fun (k, Gx, r, (o, d, j)) => xs.length - k) ((0, G, [], (none, 0, []))) (⟨Nat.zero_le _, Imm.le_refl _, rfl, ⟨rfl, fun i h => absurd h (by simp)⟩, OwnA.nil⟩) rfl ⟨rfl, rfl, rfl, rfl, rfl, rfl, trivial⟩ ⟨rfl, rfl, trivial⟩ (fun ⟨k, Gx, r, (o, d, j)⟩ => fun (hk : k ≤ xs.length ∧ G.le Gx ∧ r.length = k ∧ Bigs Gx r (upP P k) ∧ OwnA o d r j) => ?_)
  obtain ⟨hk1, hk2, hk3, hk4, hk5⟩ := hk
  replace ha := ha.up hk2
  rcases Nat.lt_or_ge k xs.length with hkl | hkl
  · refine Wc.gl 13 [1] ?_
    refine Wl.q rfl (Qy.at (α := IV) T.sl42 rfl rfl (by assumption) (by omega)) ?_
    refine Wl.q rfl (Qy.loadsG T.agg37 rfl (Arr.elem (by assumption) (by omega)) rfl) ?_
    refine Wl.alloc 10 rfl T.zero37 (fun b1 => ?_)
    refine Wl.gl 7 [10, 10] ?_
    refine Wl.callV (fst := []) (cap := cap) 0 rfl hg rfl rfl (hf k hkl _ hk2) (tags_of ⟨rfl, trivial⟩) (fun v1 G1 Ho1 hle1 hp => ?_)
    obtain ⟨r1, rfl, hr1, rfl⟩ := hp
    refine Wl.lit (α := IV) 11 [(r1)] rfl T.sl42 T.el37 rfl rfl rfl rfl rfl (fun b2 => ?_)
    refine Wl.append (α := IV) 9 rfl T.sl42 T.el37 rfl rfl rfl (by first | assumption | exact OwnA.nil | exact OwnA.made (by simp)) (Src.row 11 rfl) (by first | omega | (simp only [List.length_append, List.length_cons, List.length_nil, maxLen]; omega)) (by first | omega | (simp only [List.length_append, List.length_cons, List.length_nil, maxLen]; omega)) (fun a1 c1 junk1 ho1 => ?_)
    refine Wl.ga 8 [] ?_
    refine Ar.re 10 rfl (show _ = Value.int .i64 ((k + 1 : Nat) : Int) from rfl) ?_
    refine Ar.again ((k + 1, G1, r ++ [r1], (a1, c1, junk1))) ?_ ?_ rfl ⟨rfl, rfl, rfl, rfl, rfl, rfl, trivial⟩ ⟨rfl, rfl, trivial⟩
    · refine ⟨hkl, Imm.le_trans hk2 hle1, by rw [List.length_append, hk3]; rfl, ?_, ho1⟩
      rw [upP_succ]; exact bigs_snoc (hk4.up hle1) hr1
    · show xs.length - (k + 1) < xs.length - k
      omega
  · have hkl : k = xs.length := by omega
    subst hkl
    refine Wc.ga 19 [0] ?_
    refine Ar.freezeRow 9 rfl hk5 (fun G8 hle8 hA8 => ?_)
    refine Ar.out1 (.inr rfl) (Ho := [(0, some bk, .cells #[.int .i64 ((xs.length : Int) - 1)] 3)]) rfl (.tmp rfl) ⟨rfl, trivial⟩ ?_
    exact ⟨o, r, d, rfl, hA8, hk5.le, hk4.up hle8, rfl⟩
end Go.Proofs.YtelbhbbiejalhaaGreat
set_option maxRecDepth 100000
set_option linter.unusedVariables false
namespace Go.Proofs.YtelbhbbiejalhaaGreat
open Go Go.Sl
set_option maxHeartbeats 4000000
attribute [local irreducible] valB pb cmpZ lstWp
theorem cell_oneZ {G : Imm} {b : Nat} {cs : List Value} {T : TypeId} {fz : Nat × Nat} (h : G b = some (.cells cs.toArray T fz)) (k : Nat) {v : Value} (hv : cs[k]? = some v) : G.cell b k = some v := by
  simp only [Imm.cell, h]; simpa using hv
theorem upP_map (xs : List Int) (f : Int → Int) : upP (fun k => f (xs[k]?.getD 0)) xs.length = xs.map f := by
  unfold upP
  apply List.ext_getElem
  · rw [List.length_map, List.length_map, List.length_range]
  · intro i h1 h2
    rw [List.length_map] at h2
    rw [List.getElem_map, List.getElem_range, List.getElem_map, List.getElem?_eq_getElem h2]; rfl
theorem upP_zip (xs ys : List Int) (f : Int → Int → Int) (h : xs.length = ys.length) : upP (fun k => f (xs[k]?.getD 0) (ys[k]?.getD 0)) xs.length = List.zipWith f xs ys := by
  unfold upP
  apply List.ext_getElem
  · rw [List.length_map, List.length_range, List.length_zipWith, h, Nat.min_self]
  · intro i h1 h2
    rw [List.length_zipWith] at h2
    rw [List.getElem_map, List.getElem_range, List.getElem_zipWith, List.getElem?_eq_getElem (show i < xs.length by omega), List.getElem?_eq_getElem (show i < ys.length by omega)]; rfl
/-- a row that a function answers -/
def RowPost (G' : Imm) (v : Value) (zs : List Int) : Prop := ∃ (s : Option Addr) (r : List IV) (d : Nat), v = .slice s r.length d ∧ Arr G' s r ∧ r.length ≤ d ∧ Bigs G' r zs
theorem bigs_n {G : Imm} {l : List IV} {xs : List Int} {m : Nat} (h : Bigs G l xs) (hm : Below m xs) {k : Nat} (hk : k < l.length) : (l[k]?.getD default).n ≤ m := Big.len (h.2 k hk) (hm.at k)
theorem c96 (G : Imm) (a : Option Addr) (c : Nat) (l : List IV) (xs : List Int) (m : Nat) (ha : Arr G a l) (hb : Bigs G l xs) (hm : Below m xs) (hmm : m ≤ 268435456) (hl : l.length ≤ 1048576) :
    Does Tryz.prog 96 [.slice a l.length c] G [] (fun v G' Ho => RowPost G' v (xs.map fun x => -x) ∧ Ho = []) := by
  have hf : ∀ k : Nat, k < l.length → ∀ G', G.le G' → Does Tryz.prog 58 ([] ++ [.agg (Cells.enc (l[((k : Nat) : Int).toNat]?.getD default)).toArray] ++ []) G' [] (fun v G'' Ho => ∃ r : IV, v = .agg (Cells.enc r).toArray ∧ Big G'' r (-(xs[k]?.getD 0)) ∧ Ho = []) := fun k hk G' hG => by
    have h1 := bigs_n hb hm hk
    exact (c58 G' _ _ ((hb.2 k hk).up hG) (by omega)).mono fun v G'' Ho _ ⟨r, e1, e2, e3, e4⟩ => ⟨r, e1, e2, e4⟩
  have h180 := c130P G a c l 58 [] (fun k => -(xs[k]?.getD 0)) T.fn58 ha hl hf
  rw [hb.1, upP_map xs (fun x => -x), ← hb.1] at h180
  refine Does.enter Tryz.func96 rfl Tryz.ntmps96 rfl (fun w => ?_)
  refine Wc.gl 8 [] ?_
  refine Wl.call 0 rfl T.fn130 rfl (h180) (tags_of trivial) (fun v1 G1 Ho1 hle1 hp => ?_)
  obtain ⟨s1, r1, d1, rfl, hA1, hl81, hB1, rfl⟩ := hp
  replace ha := ha.up hle1
  replace hb := hb.up hle1
  refine Wl.ga 4 [] ?_
  refine Ar.out1 (.inr rfl) (Ho := []) rfl (.tmp rfl) trivial ?_
  exact ⟨⟨_, _, _, rfl, hA1, hl81, hB1⟩, rfl⟩
theorem c148 (G : Imm) (bk bf bb h : Nat) (x : IV) (k : Nat) (a' : Option Addr) (c' : Nat) (ys : List IV) (R : Int) (hgh : isFn Tryz.prog h) (hy : Arr G a' ys) (hk : k < ys.length) (hkl : k ≤ 1048576) (hf : G bf = some (.cells [.func (.func h) #[] #[]].toArray 71)) (hb : G bb = some (.cells [.slice a' ys.length c'].toArray 42))
    (hh : Does Tryz.prog h ([] ++ [.agg (Cells.enc x).toArray, .agg (Cells.enc (ys[((k : Nat) : Int).toNat]?.getD default)).toArray] ++ []) G [] (fun v G'' Ho => ∃ r : IV, v = .agg (Cells.enc r).toArray ∧ Big G'' r R ∧ Ho = [])) :
    Does Tryz.prog 148 [.agg (Cells.enc x).toArray, .pointer (some ⟨bk, 0, none⟩), .pointer (some ⟨bf, 0, none⟩), .pointer (some ⟨bb, 0, none⟩)] G [(0, some bk, .cells #[.int .i64 ((k : Int) - 1)] 3)]
      (fun v G' Ho => ∃ r : IV, v = .agg (Cells.enc r).toArray ∧ Big G' r R ∧ Ho = [(0, some bk, .cells #[.int .i64 (((k + 1 : Nat) : Int) - 1)] 3)]) := by
  have hfc := cell_oneZ hf 0 rfl
  have hbc := cell_oneZ hb 0 rfl
  have e : ((k : Nat) : Int).toNat = (((k : Int) - 1) + 1).toNat := by omega
  rw [e] at hh
  refine Does.enter Tryz.func148 rfl Tryz.ntmps148 rfl (fun w => ?_)
  refine Wc.gl 2 [] ?_
  refine Wl.box 1 rfl rfl rfl (fun b1 => ?_)
  refine Wl.alloc 2 rfl T.zero37 (fun b2 => ?_)
  refine Wl.gc 10 [0, 0] ?_
  refine Wc.draw [1, 2, 0] [(2, 7), (0, 6), (2, 6), (1, 6)] T.mixed rfl ?_
  refine Gm.q 0 [] (by kernel_rfl) rfl rfl (Qy.loadG T.one71 rfl (by assumption)) ?_
  refine Gm.q 1 [1] (by kernel_rfl) rfl rfl (Qy.loadAll 1 T.agg37 rfl rfl rfl) ?_
  refine Gm.q 2 [] (by kernel_rfl) rfl rfl (Qy.loadG T.one42 rfl (by assumption)) ?_
  refine Gm.one 3 ⟨rfl, rfl, rfl, trivial⟩ (by first | exact Imm.le_refl _ | repeat (first | assumption | refine Imm.le_trans ?_ (by assumption))) (by kernel_rfl) rfl ?_
  refine Wl.q rfl (Qy.load 0 T.one3 rfl rfl rfl) ?_
  refine Wl.on0 ?_
  refine Gm.q 4 [] (by kernel_rfl) rfl rfl (Qy.at (α := IV) T.sl42 rfl rfl (by assumption) (by omega)) ?_
  refine Gm.q 5 [] (by kernel_rfl) rfl rfl (Qy.loadsG T.agg37 rfl (Arr.elem (by assumption) (by omega)) rfl) ?_
  refine Gm.one 6 ⟨rfl, rfl, rfl, trivial⟩ (by first | exact Imm.le_refl _ | repeat (first | assumption | refine Imm.le_trans ?_ (by assumption))) (by kernel_rfl) rfl ?_
  refine Wl.callV (fst := []) (cap := []) 20 rfl hgh rfl rfl hh (tags_of trivial) (fun v1 G1 Ho1 hle1 hp => ?_)
  obtain ⟨r1, rfl, hr1, rfl⟩ := hp
  refine Wl.on0 ?_
  refine Gm.one 7 trivial (by first | exact Imm.le_refl _ | repeat (first | assumption | refine Imm.le_trans ?_ (by assumption))) (by kernel_rfl) rfl ?_
  refine Wl.storeAll 2 T.size37 rfl rfl rfl rfl rfl rfl ?_
  refine Wl.on0 ?_
  refine Gm.doneA (by kernel_rfl) trivial (by first | exact Imm.le_refl _ | repeat (first | assumption | refine Imm.le_trans ?_ (by assumption))) ?_
  refine Ar.ga 2 [] ?_
  refine Ar.reH 0 (.cells #[.int .i64 (((k + 1 : Nat) : Int) - 1)] 3) rfl (by rw [show (((k + 1 : Nat) : Int) - 1) = (k : Int) - 1 + 1 by omega]; rfl) ?_
  refine Ar.out1 (.inr rfl) (Ho := [(0, some bk, .cells #[.int .i64 (((k + 1 : Nat) : Int) - 1)] 3)]) rfl (.agg 2 rfl rfl T.agg37) ⟨rfl, trivial⟩ ?_
  exact ⟨r1, rfl, hr1, rfl⟩
theorem c131 (G : Imm) (h : Nat) (a a' : Option Addr) (c c' : Nat) (l l' : List IV) (F : Nat → Int) (hgh : isFn Tryz.prog h) (ha : Arr G a l) (ha' : Arr G a' l') (hlen : l.length = l'.length) (hl : l.length ≤ 1048576)
    (hh : ∀ k : Nat, k < l.length → ∀ G', G.le G' → Does Tryz.prog h ([] ++ [.agg (Cells.enc (l[((k : Nat) : Int).toNat]?.getD default)).toArray, .agg (Cells.enc (l'[((k : Nat) : Int).toNat]?.getD default)).toArray] ++ []) G' [] (fun v G'' Ho => ∃ r : IV, v = .agg (Cells.enc r).toArray ∧ Big G'' r (F k) ∧ Ho = [])) :
    Does Tryz.prog 131 [.slice a l.length c, .slice a' l'.length c', .func (.func h) #[] #[]] G [] (fun v G' Ho => ∃ (s : Option Addr) (r : List IV) (d : Nat), v = .tuple #[.slice s r.length d, .int .i64 0] ∧ Arr G' s r ∧ r.length ≤ d ∧ Bigs G' r (upP F l.length) ∧ Ho = []) := by
  refine Does.enter Tryz.func131 rfl Tryz.ntmps131 rfl (fun w => ?_)
  refine Wc.gl 2 [] ?_
  refine Wl.box 0 rfl rfl rfl (fun b1 => ?_)
  refine Wl.box 1 rfl rfl rfl (fun b2 => ?_)
  refine Wl.gl 19 [0, 0] ?_
  refine Wl.alloc 2 rfl T.zero3 (fun b3 => ?_)
  refine Wl.gl 6 [2] ?_
  refine Wl.q rfl (Qy.makeFunc rfl rfl) ?_
  refine Wl.freeze 1 rfl (fun G1 hg1 hb1 => ?_)
  refine Wl.freeze 0 rfl (fun G2 hg2 hb2 => ?_)
  replace hb1 := hg2 _ _ hb1
  have hG := Imm.le_trans hg1 hg2
  replace ha := ha.up hG
  replace ha' := ha'.up hG
  refine Wl.reH 2 (.cells #[.int .i64 (-1)] 3) rfl rfl ?_
  refine Wl.call 2 rfl T.fn130 rfl (c130S _ a c l 148 b3 [.pointer (some ⟨b3, 0, none⟩), .pointer (some ⟨b2, 0, none⟩), .pointer (some ⟨b1, 0, none⟩)] F T.fn148 ha hl
    (fun k hk G' hG' => c148 G' b3 b2 b1 h _ k a' c' l' (F k) hgh (ha'.up hG') (by omega) (by omega) (hG' _ _ hb1) (hG' _ _ hb2) (hh k hk G' (Imm.le_trans hG hG')))) (tags_of ⟨rfl, trivial⟩) (fun v1 G3 Ho1 hle1 hp => ?_)
  obtain ⟨s, r, d, rfl, hA, hd, hB, rfl⟩ := hp
  refine Wl.ga 5 [] ?_
  refine Ar.out2 (.inr rfl) (Ho := []) rfl (.tmp rfl) (.tmp rfl) trivial ?_
  exact ⟨s, r, d, rfl, hA, hd, hB, rfl⟩
theorem c98 (G : Imm) (a a' : Option Addr) (c c' : Nat) (l l' : List IV) (xs ys : List Int) (m : Nat) (ha : Arr G a l) (ha' : Arr G a' l') (hb : Bigs G l xs) (hb' : Bigs G l' ys) (hm : Below m xs) (hm' : Below m ys) (hmm : m ≤ 268435456) (hlen : l.length = l'.length) (hl : l.length ≤ 1048576) :
    Does Tryz.prog 98 [.slice a l.length c, .slice a' l'.length c'] G [] (fun v G' Ho => ∃ (s : Option Addr) (r : List IV) (d : Nat), v = .tuple #[.slice s r.length d, .int .i64 0] ∧ Arr G' s r ∧ r.length ≤ d ∧ Bigs G' r (List.zipWith (· + ·) xs ys) ∧ Ho = []) := by
  have h181 := c131 G 12 a a' c c' l l' (fun k => xs[k]?.getD 0 + ys[k]?.getD 0) T.fn12 ha ha' hlen hl (fun k hk G' hG => by
    have h1 := bigs_n hb hm hk
    have h2 := bigs_n hb' hm' (show k < l'.length by omega)
    exact c12 G' _ _ _ _ ((hb.2 k hk).up hG) ((hb'.2 k (by omega)).up hG) (by rw [Int.toNat_natCast]; omega) (by rw [Int.toNat_natCast]; omega))
  rw [hb.1, upP_zip xs ys (· + ·) (by rw [← hb.1, ← hb'.1, hlen]), ← hb.1] at h181
  refine Does.enter Tryz.func98 rfl Tryz.ntmps98 rfl (fun w => ?_)
  refine Wc.gl 10 [] ?_
  refine Wl.call 0 rfl T.fn131 rfl (h181) (tags_of trivial) (fun v1 G1 Ho1 hle1 hp => ?_)
  obtain ⟨s1, r1, d1, rfl, hA1, hl81, hB1, rfl⟩ := hp
  replace ha := ha.up hle1
  replace ha' := ha'.up hle1
  replace hb := hb.up hle1
  replace hb' := hb'.up hle1
  refine Wl.ga 7 [] ?_
  refine Ar.out2 (.inr rfl) (Ho := []) rfl (.tmp rfl) (.tmp rfl) trivial ?_
  exact ⟨_, _, _, rfl, hA1, hl81, hB1, rfl⟩
theorem c100 (G : Imm) (a a' : Option Addr) (c c' : Nat) (l l' : List IV) (xs ys : List Int) (m : Nat) (ha : Arr G a l) (ha' : Arr G a' l') (hb : Bigs G l xs) (hb' : Bigs G l' ys) (hm : Below m xs) (hm' : Below m ys) (hmm : m ≤ 268435456) (hlen : l.length = l'.length) (hl : l.length ≤ 1048576) :
    Does Tryz.prog 100 [.slice a l.length c, .slice a' l'.length c'] G [] (fun v G' Ho => ∃ (s : Option Addr) (r : List IV) (d : Nat), v = .tuple #[.slice s r.length d, .int .i64 0] ∧ Arr G' s r ∧ r.length ≤ d ∧ Bigs G' r (List.zipWith (· - ·) xs ys) ∧ Ho = []) := by
  have h181 := c131 G 59 a a' c c' l l' (fun k => xs[k]?.getD 0 - ys[k]?.getD 0) T.fn59 ha ha' hlen hl (fun k hk G' hG => by
    have h1 := bigs_n hb hm hk
    have h2 := bigs_n hb' hm' (show k < l'.length by omega)
    exact c59 G' _ _ _ _ ((hb.2 k hk).up hG) ((hb'.2 k (by omega)).up hG) (by rw [Int.toNat_natCast]; omega) (by rw [Int.toNat_natCast]; omega))
  rw [hb.1, upP_zip xs ys (· - ·) (by rw [← hb.1, ← hb'.1, hlen]), ← hb.1] at h181
  refine Does.enter Tryz.func100 rfl Tryz.ntmps100 rfl (fun w => ?_)
  refine Wc.gl 10 [] ?_
  refine Wl.call 0 rfl T.fn131 rfl (h181) (tags_of trivial) (fun v1 G1 Ho1 hle1 hp => ?_)
  obtain ⟨s1, r1, d1, rfl, hA1, hl81, hB1, rfl⟩ := hp
  replace ha := ha.up hle1
  replace ha' := ha'.up hle1
  replace hb := hb.up hle1
  replace hb' := hb'.up hle1
  refine Wl.ga 7 [] ?_
  refine Ar.out2 (.inr rfl) (Ho := []) rfl (.tmp rfl) (.tmp rfl) trivial ?_
  exact ⟨_, _, _, rfl, hA1, hl81, hB1, rfl⟩
theorem c101 (G : Imm) (a : Option Addr) (c : Nat) (l : List IV) (xs : List Int) (y : IV) (z : Int) (m : Nat) (ha : Arr G a l) (hb : Bigs G l xs) (hm : Below m xs) (hmm : m ≤ 268435456) (hl : l.length ≤ 1048576) (hy : Big G y z) (hyn : y.n ≤ 268435456) :
    Does Tryz.prog 101 [.slice a l.length c, .agg (Cells.enc y).toArray] G [] (fun v G' Ho => RowPost G' v (xs.map fun x => z * x) ∧ Ho = []) := by
  have hf : ∀ k : Nat, k < l.length → ∀ G', G.le G' → Does Tryz.prog 13 ([.agg (Cells.enc y).toArray] ++ [.agg (Cells.enc (l[((k : Nat) : Int).toNat]?.getD default)).toArray] ++ []) G' [] (fun v G'' Ho => ∃ r : IV, v = .agg (Cells.enc r).toArray ∧ Big G'' r (z * xs[k]?.getD 0) ∧ Ho = []) := fun k hk G' hG => by
    have h1 := bigs_n hb hm hk
    exact c13 G' _ _ _ _ (hy.up hG) ((hb.2 k hk).up hG) (by omega) (by rw [Int.toNat_natCast]; omega)
  have h180 := c130P G a c l 13 [.agg (Cells.enc y).toArray] (fun k => z * xs[k]?.getD 0) T.fn13 ha hl hf
  rw [hb.1, upP_map xs (fun x => z * x), ← hb.1] at h180
  refine Does.enter Tryz.func101 rfl Tryz.ntmps101 rfl (fun w => ?_)
  refine Wc.gl 2 [] ?_
  refine Wl.box 0 rfl rfl rfl (fun b1 => ?_)
  refine Wl.gl 7 [0] ?_
  refine Wl.q rfl (Qy.makeFunc rfl rfl) ?_
  refine Wl.call 1 rfl T.fn130 rfl (h180) (tags_of trivial) (fun v1 G1 Ho1 hle1 hp => ?_)
  obtain ⟨s1, r1, d1, rfl, hA1, hl81, hB1, rfl⟩ := hp
  replace ha := ha.up hle1
  replace hb := hb.up hle1
  replace hy := hy.up hle1
  refine Wl.ga 4 [] ?_
  refine Ar.out1 (.inr rfl) (Ho := []) rfl (.tmp rfl) trivial ?_
  exact ⟨⟨_, _, _, rfl, hA1, hl81, hB1⟩, rfl⟩
theorem upP_div (xs : List Int) (z : Int) : upP (fun k => xs[k]?.getD 0 / z) xs.length = xs.map (· / z) := upP_map xs (· / z)
theorem c103 (G : Imm) (a : Option Addr) (c : Nat) (l : List IV) (xs : List Int) (y : IV) (z : Int) (m : Nat) (ha : Arr G a l) (hb : Bigs G l xs) (hm : Below m xs) (hmm : m ≤ 268435456) (hl : l.length ≤ 1048576) (hy : Big G y z) (hyn : y.n ≤ 268435456) (hy0 : z ≠ 0) :
    Does Tryz.prog 103 [.slice a l.length c, .agg (Cells.enc y).toArray] G [] (fun v G' Ho => ((∀ i : Nat, i < xs.length → xs[i]?.getD 0 % z = 0) → ∃ (s : Option Addr) (r : List IV) (d : Nat), v = .tuple #[.slice s r.length d, .int .i64 0] ∧ Arr G' s r ∧ r.length ≤ d ∧ Bigs G' r (xs.map (· / z))) ∧
      (¬ (∀ i : Nat, i < xs.length → xs[i]?.getD 0 % z = 0) → v = .tuple #[.slice none 0 0, .int .i64 20]) ∧ Ho = []) := by
  have hxl := hb.1
  refine Does.enter Tryz.func103 rfl Tryz.ntmps103 rfl (fun w => ?_)
  refine Wc.nilRow 9 (Row 37 ([] : List IV) []) ?_
  have hz0 : ¬ sgZ z = 0 := fun h => hy0 (sgZ_zero.1 h)
  refine Wc.gl 2 [] ?_
  refine Wl.box 10 rfl rfl rfl (fun b1 => ?_)
  refine Wl.gl 8 [10] ?_
  refine Wl.call0 rfl T.fn62 rfl (big_sign _ y z hy (Nat.le_trans hyn (by decide))) ?_
  refine Wl.gc 20 [0] ?_
  refine Wc.loopG (ι := Nat × Imm × List IV × (Option Addr × Nat × List Value)) (fun (k, Gx, r, (o, d, j)) => ([(17, .int .i64 (k : Int)), (6, .slice o r.length d), (16, Go.Value.int Go.IntKind.i64 (↑(List.length l) : Int)), (15, Go.Value.slice a (List.length l) c), (3, Go.Value.pointer (Option.some (Go.Addr.mk b1 0 Option.none)))], [(9, o.map (·.block), Row 37 r j), (10, Option.some b1, Go.Obj.cells (List.toArray (Go.Sl.Cells.enc y)) 37)])) (fun (k, Gx, r, (o, d, j)) => Gx) (fun (k, Gx, r, (o, d, j)) => k ≤ l.length ∧ G.le Gx ∧ r.length = k ∧ Bigs Gx r (upP (fun k => xs[k]?.getD 0 / z) k) ∧ OwnA o d r j ∧ (∀ i : Nat, i < k → xs[i]?.getD 0 % z = 0)) (fun (k, Gx, r, (o, d, j)) => l.length - k) ((0, G, [], (none, 0, []))) (⟨Nat.zero_le _, Imm.le_refl _, rfl, ⟨rfl, fun i h => absurd h (by simp)⟩, OwnA.nil, fun i h => absurd h (by omega)⟩) rfl ⟨rfl, rfl, rfl, rfl, rfl, trivial⟩ ⟨rfl, rfl, trivial⟩ (fun ⟨k, Gx, r, (o, d, j)⟩ => fun (hk : k ≤ l.length ∧ G.le Gx ∧ r.length = k ∧ Bigs Gx r (upP (fun k => xs[k]?.getD 0 / z) k) ∧ OwnA o d r j ∧ (∀ i : Nat, i < k → xs[i]?.getD 0 % z = 0)) => ?_)
  obtain ⟨hk1, hk2, hk3, hk4, hk5, hk6⟩ := hk
  replace ha := ha.up hk2
  replace hb := hb.up hk2
  replace hy := hy.up hk2
  rcases Nat.lt_or_ge k l.length with hkl | hkl
  · have hx := hb.2 k hkl
    have hxn : (l[((k : Nat) : Int).toNat]?.getD default).n ≤ 268435456 := by rw [Int.toNat_natCast]; exact Nat.le_trans (bigs_n hb hm hkl) hmm
    have hx : Big Gx (l[((k : Nat) : Int).toNat]?.getD default) (xs[k]?.getD 0) := by rw [Int.toNat_natCast]; exact hx
    have hlt : ((xs[k]?.getD 0 % z).natAbs : Int) < pb y.n := by
      have e2 := emod_small (x := xs[k]?.getD 0) hy0
      have e3 := Big.lt hy
      omega
    refine Wc.gl 13 [1] ?_
    refine Wl.q rfl (Qy.at (α := IV) T.sl42 rfl rfl (by assumption) (by omega)) ?_
    refine Wl.q rfl (Qy.loadsG T.agg37 rfl (Arr.elem (by assumption) (by omega)) rfl) ?_
    refine Wl.alloc 11 rfl T.zero37 (fun b2 => ?_)
    refine Wl.gl 7 [11, 11, 10] ?_
    refine Wl.call 12 rfl T.fn61 rfl (c61 _ _ _ _ _ hx hy hxn hyn hy0) (tags_of trivial) (fun v1 G1 Ho1 hle1 hp => ?_)
    obtain ⟨q1, r1, rfl, hq1, hr1, rfl⟩ := hp
    replace hk4 := hk4.up hle1
    replace ha := ha.up hle1
    replace hb := hb.up hle1
    replace hy := hy.up hle1
    replace hx := hx.up hle1
    refine Wl.ll0 4 [] ?_
    refine Wl.alloc 12 rfl T.zero37 (fun b3 => ?_)
    refine Wl.alloc 13 rfl T.zero37 (fun b4 => ?_)
    refine Wl.gl 9 [12, 13, 13] ?_
    refine Wl.call0 rfl T.fn62 rfl (big_sign _ r1 (xs[k]?.getD 0 % z) hr1 (Nat.le_trans (Big.len hr1 hlt) (Nat.le_trans hyn (by decide)))) ?_
    refine Wl.gc 3 [] ?_
    refine Wc.cond rfl (fun hc1 => ?_) (fun hc1 => ?_)
    refine Wc.ga 13 [] ?_
    rotate_left
    refine Wc.gl 5 [12] ?_
    refine Wl.lit (α := IV) 14 [(q1)] rfl T.sl42 T.el37 rfl rfl rfl rfl rfl (fun b5 => ?_)
    refine Wl.append (α := IV) 9 rfl T.sl42 T.el37 rfl rfl rfl (by first | assumption | exact OwnA.nil | exact OwnA.made (by simp)) (Src.row 14 rfl) (by first | omega | (simp only [List.length_append, List.length_cons, List.length_nil, maxLen]; omega)) (by first | omega | (simp only [List.length_append, List.length_cons, List.length_nil, maxLen]; omega)) (fun a1 c1 junk1 ho1 => ?_)
    refine Wl.ga 8 [] ?_
    rotate_left
    · refine Ar.out2 (.inr rfl) (Ho := []) rfl (.tmp rfl) (.tmp rfl) trivial ?_
      have hno : ¬ (∀ i : Nat, i < xs.length → xs[i]?.getD 0 % z = 0) := fun h => hc1 (sgZ_zero.2 (h k (by omega)))
      exact ⟨fun h => absurd h hno, fun _ => rfl, rfl⟩
    · have hdz : xs[k]?.getD 0 % z = 0 := sgZ_zero.1 (Classical.byContradiction fun h => hc1 h)
      refine Ar.re 17 rfl (show _ = Value.int .i64 ((k + 1 : Nat) : Int) from rfl) ?_
      refine Ar.again ((k + 1, _, r ++ [q1], (a1, c1, junk1))) ?_ ?_ rfl ⟨rfl, rfl, rfl, rfl, rfl, trivial⟩ ⟨rfl, rfl, trivial⟩
      · refine ⟨hkl, Imm.le_trans hk2 hle1, by rw [List.length_append, hk3]; rfl, ?_, ho1, fun i hi => ?_⟩
        · rw [upP_succ]; exact bigs_snoc hk4 hq1
        · rcases Nat.lt_or_ge i k with h | h
          · exact hk6 i h
          · have e : i = k := by omega
            rw [e]; exact hdz
      · show l.length - (k + 1) < l.length - k
        omega
  · have hkl : k = l.length := by omega
    subst hkl
    refine Wc.ga 20 [0] ?_
    refine Ar.freezeRow 9 rfl hk5 (fun G8 hle8 hA8 => ?_)
    refine Ar.out2 (.inr rfl) (Ho := []) rfl (.tmp rfl) (.tmp rfl) trivial ?_
    rw [hxl] at hk6
    refine ⟨fun _ => ⟨o, r, d, rfl, hA8, hk5.le, ?_⟩, fun h => absurd hk6 h, rfl⟩
    rw [← upP_div, ← hxl]; exact hk4.up hle8
theorem c97 (G : Imm) (a a' : Option Addr) (c c' : Nat) (l l' : List IV) (xs ys : List Int) (m : Nat) (ha : Arr G a l) (ha' : Arr G a' l') (hb : Bigs G l xs) (hb' : Bigs G l' ys) (hm : Below m xs) (hm' : Below m ys) (hmm : m ≤ 268435456) (hlen : l.length = l'.length) (hl : l.length ≤ 1048576) :
    Does Tryz.prog 97 [.slice a l.length c, .slice a' l'.length c'] G [] (fun v G' Ho => RowPost G' v (List.zipWith (· + ·) xs ys) ∧ Ho = []) := by
  refine Does.enter Tryz.func97 rfl Tryz.ntmps97 rfl (fun w => ?_)
  refine Wc.gl 9 [] ?_
  refine Wl.call 0 rfl T.fn98 rfl (c98 _ a a' c c' l l' xs ys m ha ha' hb hb' hm hm' hmm hlen hl) (tags_of trivial) (fun v1 G1 Ho1 hle1 hp => ?_)
  obtain ⟨s1, r1, d1, rfl, hA1, hl81, hB1, rfl⟩ := hp
  replace ha := ha.up hle1
  replace ha' := ha'.up hle1
  replace hb := hb.up hle1
  replace hb' := hb'.up hle1
  refine Wl.ga 14 [] ?_
  refine Ar.out1 (.inr rfl) (Ho := []) rfl (.tmp rfl) trivial ?_
  exact ⟨⟨_, _, _, rfl, hA1, hl81, hB1⟩, rfl⟩
theorem c99 (G : Imm) (a a' : Option Addr) (c c' : Nat) (l l' : List IV) (xs ys : List Int) (m : Nat) (ha : Arr G a l) (ha' : Arr G a' l') (hb : Bigs G l xs) (hb' : Bigs G l' ys) (hm : Below m xs) (hm' : Below m ys) (hmm : m ≤ 268435456) (hlen : l.length = l'.length) (hl : l.length ≤ 1048576) :
    Does Tryz.prog 99 [.slice a l.length c, .slice a' l'.length c'] G [] (fun v G' Ho => RowPost G' v (List.zipWith (· - ·) xs ys) ∧ Ho = []) := by
  refine Does.enter Tryz.func99 rfl Tryz.ntmps99 rfl (fun w => ?_)
  refine Wc.gl 9 [] ?_
  refine Wl.call 0 rfl T.fn100 rfl (c100 _ a a' c c' l l' xs ys m ha ha' hb hb' hm hm' hmm hlen hl) (tags_of trivial) (fun v1 G1 Ho1 hle1 hp => ?_)
  obtain ⟨s1, r1, d1, rfl, hA1, hl81, hB1, rfl⟩ := hp
  replace ha := ha.up hle1
  replace ha' := ha'.up hle1
  replace hb := hb.up hle1
  replace hb' := hb'.up hle1
  refine Wl.ga 14 [] ?_
  refine Ar.out1 (.inr rfl) (Ho := []) rfl (.tmp rfl) trivial ?_
  exact ⟨⟨_, _, _, rfl, hA1, hl81, hB1⟩, rfl⟩
/-- rows divided: a row, and whether it is one -/
theorem c102 (G : Imm) (a : Option Addr) (c : Nat) (l : List IV) (xs : List Int) (y : IV) (z : Int) (m : Nat) (ha : Arr G a l) (hb : Bigs G l xs) (hm : Below m xs) (hmm : m ≤ 268435456) (hl : l.length ≤ 1048576) (hy : Big G y z) (hyn : y.n ≤ 268435456) (hy0 : z ≠ 0) :
    Does Tryz.prog 102 [.slice a l.length c, .agg (Cells.enc y).toArray] G [] (fun v G' Ho => ((∀ i : Nat, i < xs.length → xs[i]?.getD 0 % z = 0) → ∃ (s : Option Addr) (r : List IV) (d : Nat), v = .tuple #[.slice s r.length d, .bool true] ∧ Arr G' s r ∧ r.length ≤ d ∧ Bigs G' r (xs.map (· / z))) ∧
      (¬ (∀ i : Nat, i < xs.length → xs[i]?.getD 0 % z = 0) → v = .tuple #[.slice none 0 0, .bool false]) ∧ Ho = []) := by
  have h := c103 G a c l xs y z m ha hb hm hmm hl hy hyn hy0
  by_cases hd : ∀ i : Nat, i < xs.length → xs[i]?.getD 0 % z = 0
  · have h1 := h.mono fun v G' Ho _ ⟨p1, p2, p3⟩ => (⟨p1 hd, p3⟩ : (∃ (s : Option Addr) (r : List IV) (d : Nat), v = Value.tuple #[.slice s r.length d, .int .i64 0] ∧ Arr G' s r ∧ r.length ≤ d ∧ Bigs G' r (xs.map (· / z))) ∧ Ho = [])
    refine Does.enter Tryz.func102 rfl Tryz.ntmps102 rfl (fun w => ?_)
    refine Wc.gl 2 [] ?_
    refine Wl.box 0 rfl rfl rfl (fun b1 => ?_)
    refine Wl.gl 8 [0] ?_
    refine Wl.call 1 rfl T.fn103 rfl (h1) (tags_of trivial) (fun v1 G1 Ho1 hle1 hp => ?_)
    obtain ⟨⟨s1, r1, d1, rfl, hA1, hl81, hB1⟩, rfl⟩ := hp
    replace ha := ha.up hle1
    replace hb := hb.up hle1
    replace hy := hy.up hle1
    refine Wl.ga 17 [] ?_
    refine Ar.out2 (.inr rfl) (Ho := []) rfl (.tmp rfl) (.tmp rfl) trivial ?_
    exact ⟨fun _ => ⟨_, _, _, rfl, hA1, hl81, hB1⟩, fun h => absurd hd h, rfl⟩
  · have h1 := h.mono fun v G' Ho _ ⟨p1, p2, p3⟩ => (⟨p2 hd, p3⟩ : v = Value.tuple #[.slice none 0 0, .int .i64 20] ∧ Ho = [])
    refine Does.enter Tryz.func102 rfl Tryz.ntmps102 rfl (fun w => ?_)
    refine Wc.gl 2 [] ?_
    refine Wl.box 0 rfl rfl rfl (fun b1 => ?_)
    refine Wl.gl 8 [0] ?_
    refine Wl.call 1 rfl T.fn103 rfl (h1) (tags_of trivial) (fun v1 G1 Ho1 hle1 hp => ?_)
    obtain ⟨rfl, rfl⟩ := hp
    replace ha := ha.up hle1
    replace hb := hb.up hle1
    replace hy := hy.up hle1
    refine Wl.ga 17 [] ?_
    refine Ar.out2 (.inr rfl) (Ho := []) rfl (.tmp rfl) (.tmp rfl) trivial ?_
    exact ⟨fun h => absurd h hd, fun _ => rfl, rfl⟩
def waysR : Value := .agg #[.func (.func 96) #[] #[], .func (.func 97) #[] #[], .func (.func 99) #[] #[], .func (.func 101) #[] #[], .func (.func 102) #[] #[]]
theorem c68 (G : Imm) : Does Tryz.prog 68 [] G [] (fun v G' Ho => v = waysR ∧ G' = G ∧ Ho = []) := by
  refine Does.enter Tryz.func68 rfl Tryz.ntmps68 rfl (fun w => ?_)
  refine Wc.gl 2 [] ?_
  refine Wl.alloc 0 rfl T.zero124 (fun b1 => ?_)
  refine Wl.gl 4 [] ?_
  refine Wl.q rfl (Qy.build (cs := [_, _, _, _, _]) T.st124 rfl rfl rfl) ?_
  refine Wl.ga 4 [0] ?_
  refine Ar.out1 (.inr rfl) (Ho := []) rfl (.agg 0 rfl rfl T.agg124) trivial ?_
  exact ⟨rfl, rfl, rfl⟩
end Go.Proofs.YtelbhbbiejalhaaGreat
namespace Go.Proofs.YtelbhbbiejalhaaGreat
open Go Go.Sl
set_option maxRecDepth 100000
instance : DecidableEq PV := fun a b => by
  cases a; cases b; simp only [PV.mk.injEq]; infer_instance
/-- the table: what registers hold, what is known, who was first, the next value -/
structure Tab where
  held : List Int
  known : List (K4 × Int)
  first : List (K4 × Int)
  next : Int
end Go.Proofs.YtelbhbbiejalhaaGreat
namespace Go.Proofs.YtelbhbbiejalhaaGreat
open Go Go.Sl
set_option maxRecDepth 100000
set_option maxHeartbeats 2000000
theorem right_facts {p : PV} (h : rightP p = true) : 1 ≤ p.ins ∧ p.ins ≤ p.regs ∧ p.regs ≤ 128 ∧ p.code.length ≤ 16384 ∧ 1 ≤ p.outs.length ∧ p.outs.length ≤ 128 ∧ (∀ r ∈ p.outs, 0 ≤ r ∧ r < p.regs) ∧ (∀ i ∈ p.code, mayOk i p.regs = true) := by
  unfold rightP checkP at h
  by_cases hh : headOk p = false
  · rw [if_pos hh] at h; cases h
  · rw [if_neg hh] at h
    have hb : badAt p = none := by
      cases hb : badAt p with
      | none => rfl
      | some k => rw [hb] at h; cases h
    have hh' : headOk p = true := by simpa using hh
    unfold headOk at hh'
    rw [Bool.and_eq_true, decide_eq_true_eq, List.all_eq_true] at hh'
    unfold badAt at hb
    rw [List.findIdx?_eq_none_iff] at hb
    obtain ⟨⟨g1, g2, g3, g4, g5, g6⟩, g7⟩ := hh'
    refine ⟨g1, g2, g3, g4, g5, g6, fun r hr => ?_, fun i hi => ?_⟩
    · have := g7 r hr; rw [decide_eq_true_eq] at this; exact this
    · simpa using hb i hi
section
variable {t : Tab} {out : List Sl.Instr} {n : Int} {i : Sl.Instr}
end
end Go.Proofs.YtelbhbbiejalhaaGreat
namespace Go.Proofs.YtelbhbbiejalhaaGreat
open Go Go.Sl
set_option linter.unusedVariables false
theorem get_mem {l : List Int} {r : Int} (h : 0 ≤ r ∧ r < l.length) : l[r.toNat]?.getD default ∈ l := by
  have hlt : r.toNat < l.length := by omega
  rw [List.getElem?_eq_getElem hlt]; exact List.getElem_mem hlt
end Go.Proofs.YtelbhbbiejalhaaGreat
set_option linter.unusedVariables false
namespace Go.Proofs.YtelbhbbiejalhaaGreat
open Go Go.Sl
theorem pw_p2 (n : Nat) : pw n = p2 (16 * n) := by unfold pw p2; rw [Nat.pow_mul]
theorem p2_16 : p2 16 = 65536 := by unfold p2; decide
def AllDiv (y : Int) (xs : List Int) : Prop := ∀ i : Nat, i < xs.length → xs[i]?.getD 0 % y = 0
instance (y : Int) (xs : List Int) : Decidable (AllDiv y xs) := by unfold AllDiv; infer_instance
/-- one instruction over all columns -/
def doI (i : Sl.Instr) (rs : List (List Int)) : Option (List Int) :=
  let a := rs[i.a.toNat]?.getD []
  if i.op = 2 then some (a.map (fun x => -1 * x))
  else if i.op = 3 then some (List.zipWith (fun x y => x + 1 * y) a (rs[i.b.toNat]?.getD []))
  else if i.op = 4 then some (List.zipWith (fun x y => x + (-1) * y) a (rs[i.b.toNat]?.getD []))
  else if i.op = 5 ∨ i.op = 7 then some (a.map (fun x => cst i * x))
  else if i.op = 6 ∨ i.op = 8 then (if AllDiv (cst i) a then some (a.map (· / cst i)) else none)
  else some a
/-- the registers at first -/
def regs0 (p : PV) (gs : List (List Int)) : List (List Int) := (List.range p.regs.toNat).map fun k => if k < gs.length then gs[k]?.getD [] else List.replicate (gs[0]?.getD []).length 0
/-- the registers after k instructions -/
def runTo (p : PV) (gs : List (List Int)) : Nat → Option (List (List Int))
  | 0 => some (regs0 p gs)
  | k + 1 => (runTo p gs k).bind fun rs => (doI (p.code[((k : Nat) : Int).toNat]?.getD default) rs).map fun x => rs.set (p.code[((k : Nat) : Int).toNat]?.getD default).to.toNat x
/-- the answers' rows -/
def outsOf (p : PV) (rs : List (List Int)) : List (List Int) := p.outs.map fun r => rs[r.toNat]?.getD []
def followP (p : PV) (gs : List (List Int)) : Option (List (List Int)) := (runTo p gs p.code.length).map (outsOf p)
theorem runTo_succ {p : PV} {gs : List (List Int)} {k : Nat} {rs x : List (List Int)} {y : List Int} (h : runTo p gs k = some rs) (hd : doI (p.code[((k : Nat) : Int).toNat]?.getD default) rs = some y) :
    runTo p gs (k + 1) = some (rs.set (p.code[((k : Nat) : Int).toNat]?.getD default).to.toNat y) := by
  unfold runTo; rw [h]; simp only [Option.bind_some, hd, Option.map_some]
theorem runTo_none {p : PV} {gs : List (List Int)} {k : Nat} (h : runTo p gs k = none) (j : Nat) : runTo p gs (k + j) = none := by
  induction j with
  | zero => exact h
  | succ j ih => rw [← Nat.add_assoc]; unfold runTo; rw [ih]; rfl
theorem runTo_stop {p : PV} {gs : List (List Int)} {k : Nat} {rs : List (List Int)} (h : runTo p gs k = some rs) (hd : doI (p.code[((k : Nat) : Int).toNat]?.getD default) rs = none) (hk : k < p.code.length) : followP p gs = none := by
  have h1 : runTo p gs (k + 1) = none := by unfold runTo; rw [h]; simp only [Option.bind_some, hd, Option.map_none]
  have h2 := runTo_none h1 (p.code.length - (k + 1))
  rw [show k + 1 + (p.code.length - (k + 1)) = p.code.length by omega] at h2
  unfold followP; rw [h2]; rfl
theorem p2_64_lt : ∀ c : Nat, c ≤ 64 → ((p2 c).natAbs : Int) < pw 5 := fun c hc => by
  have h1 := p2_le hc
  have h2 := p2_pos c
  have h3 : p2 64 < pw 5 := by unfold p2 pw; decide
  omega
theorem may_facts {i : Sl.Instr} {regs : Int} (h : mayOk i regs = true) : (1 ≤ i.op ∧ i.op ≤ 8) ∧ (0 ≤ i.to ∧ i.to < regs) ∧ (0 ≤ i.a ∧ i.a < regs) ∧ (i.op = 3 ∨ i.op = 4 → 0 ≤ i.b ∧ i.b < regs) ∧ constOk i.op i.c = true ∧
    (i.op ≠ 1 → i.op ≠ 2 → i.op ≠ 3 → i.op ≠ 4 → cst i ≠ 0 ∧ ((cst i).natAbs : Int) < pw 5) ∧ (i.op = 5 ∨ i.op = 6 → -9223372036854775808 ≤ i.c ∧ i.c ≤ 9223372036854775807) ∧ (¬ (i.op = 5 ∨ i.op = 6) → 0 ≤ i.c ∧ i.c ≤ 64) := by
  unfold mayOk at h
  rw [Bool.and_eq_true, Bool.and_eq_true, decide_eq_true_eq, List.all_eq_true] at h
  obtain ⟨⟨⟨g1, g2, g3, g4, g5⟩, g6⟩, g7⟩ := h
  have hA : ∀ r ∈ asks i, 0 ≤ r ∧ r < regs := fun r hr => by have := g7 r hr; rwa [decide_eq_true_eq] at this
  have ha : i.a ∈ asks i := by
    unfold asks
    split
    · exact List.mem_cons_self
    · rw [if_pos ⟨g1, g2⟩]; exact List.mem_cons_self
  have hc := g6
  unfold constOk at g6
  have k1 : i.op = 5 ∨ i.op = 6 → i.c ≠ 0 ∧ -512 ≤ i.c ∧ i.c ≤ 512 := fun h => by rw [if_pos h, decide_eq_true_eq] at g6; exact g6
  have k2 : ¬ (i.op = 5 ∨ i.op = 6) → (i.op = 7 ∨ i.op = 8 → 1 ≤ i.c ∧ i.c ≤ 64) ∧ (¬ (i.op = 7 ∨ i.op = 8) → i.c = 0) := fun h => by
    rw [if_neg h] at g6
    refine ⟨fun h2 => ?_, fun h2 => ?_⟩
    · rw [if_pos h2, decide_eq_true_eq] at g6; exact g6
    · rw [if_neg h2, decide_eq_true_eq] at g6; exact g6
  refine ⟨⟨g1, g2⟩, ⟨g3, g4⟩, hA _ ha, fun h34 => hA _ (by unfold asks; rw [if_pos h34]; exact List.mem_cons_of_mem _ List.mem_cons_self), hc, fun n1 n2 n3 n4 => ?_, fun h56 => by have := k1 h56; omega, fun h56 => ?_⟩
  · by_cases h56 : i.op = 5 ∨ i.op = 6
    · rw [cst_c h56]
      have := k1 h56
      have h3 : (65536 : Int) < pw 5 := by unfold pw; decide
      exact ⟨this.1, by omega⟩
    · rw [cst_p h56]
      have h2 := (k2 h56).1 (by omega)
      have := p2_pos i.c.toNat
      exact ⟨by omega, p2_64_lt _ (by omega)⟩
  · by_cases h78 : i.op = 7 ∨ i.op = 8
    · have := (k2 h56).1 h78; omega
    · have := (k2 h56).2 h78; omega
theorem regs0_len (p : PV) (gs : List (List Int)) : (regs0 p gs).length = p.regs.toNat := by unfold regs0; rw [List.length_map, List.length_range]
theorem regs0_at {p : PV} {gs : List (List Int)} {k : Nat} (hk : k < p.regs.toNat) : (regs0 p gs)[k]?.getD [] = if k < gs.length then gs[k]?.getD [] else List.replicate (gs[0]?.getD []).length 0 := by
  unfold regs0
  rw [List.getElem?_map, List.getElem?_range hk]; rfl
end Go.Proofs.YtelbhbbiejalhaaGreat
