/- Parts of the proof (part 4): what the rows' text needs of the texts that lead to it. -/
import Derived.Test.YtbppmiimeccclaaGreatMKc
set_option maxRecDepth 100000
set_option linter.unusedVariables false
namespace Go.Proofs.YtbppmiimeccclaaGreat
open Go Go.Sl
set_option maxHeartbeats 4000000
attribute [local irreducible] valL pw cmpZ
theorem c230 (G : Imm) (neg : Bool) (a : Option Addr) (c : Nat) (l : List U32) (z : Int) (ha : Arr G a l) (h : IsInt neg l z) (h1 : l.length ≤ 1073741824) (hc : l.length ≤ c) :
    Does Tryz.prog 230 [.agg #[.bool neg, .slice a l.length c]] G [] (fun v G' Ho => ∃ r : IV, v = .agg #[.bool r.neg, .slice r.a r.n r.c] ∧ Num G r (-z) ∧ G' = G ∧ Ho = []) := by
  refine Does.enter Tryz.func230 rfl Tryz.ntmps230 rfl (fun w => ?_)
  refine Wc.gl 2 [] ?_
  refine Wl.box 0 rfl rfl rfl (fun b1 => ?_)
  refine Wl.alloc 1 rfl T.zero78 (fun b2 => ?_)
  refine Wl.gl 9 [0, 0] ?_
  refine Wl.call 2 rfl T.fn82 rfl (c82 _ _ _ _ _ (by assumption) (by omega) (by assumption)) (tags_of trivial) (fun v1 G1 Ho1 hle1 hp => ?_)
  obtain ⟨tn1, rfl, htr1, rfl, rfl⟩ := hp
  refine Wl.ga 4 [1] ?_
  refine Ar.out1 (.inr rfl) (Ho := Hp.only _ []) rfl (.agg 1 rfl rfl T.agg78) (Hp.sub_only _ _) ?_
  refine ⟨⟨!neg && decide (0 < tn1), subA a c 0 1, tn1, c⟩, rfl, ?_, rfl, rfl⟩
  have e := htr1.num h.digs ha hc (!neg)
  have e2 : (if (!neg) = true then -valL l else valL l) = -z := by
    rw [h.val]; cases neg <;> simp
  rw [e2] at e; exact e
theorem c220 (G : Imm) (neg : Bool) (a : Option Addr) (c : Nat) (l : List U32) (z : Int) (ha : Arr G a l) (h : IsInt neg l z) (h1 : l.length ≤ 1073741824) (hc : l.length ≤ c) :
    Does Tryz.prog 220 [.agg #[.bool neg, .slice a l.length c]] G [] (fun v G' Ho => ∃ r : IV, v = .agg #[.bool r.neg, .slice r.a r.n r.c] ∧ Num G r (z.natAbs : Int) ∧ G' = G ∧ Ho = []) := by
  refine Does.enter Tryz.func220 rfl Tryz.ntmps220 rfl (fun w => ?_)
  refine Wc.gl 2 [] ?_
  refine Wl.box 0 rfl rfl rfl (fun b1 => ?_)
  refine Wl.alloc 1 rfl T.zero78 (fun b2 => ?_)
  refine Wl.gl 6 [0] ?_
  refine Wl.call 2 rfl T.fn82 rfl (c82 _ _ _ _ _ (by assumption) (by omega) (by assumption)) (tags_of trivial) (fun v1 G1 Ho1 hle1 hp => ?_)
  obtain ⟨tn1, rfl, htr1, rfl, rfl⟩ := hp
  refine Wl.ga 4 [1] ?_
  refine Ar.out1 (.inr rfl) (Ho := Hp.only _ []) rfl (.agg 1 rfl rfl T.agg78) (Hp.sub_only _ _) ?_
  refine ⟨⟨false && decide (0 < tn1), subA a c 0 1, tn1, c⟩, rfl, ?_, rfl, rfl⟩
  have e := htr1.num h.digs ha hc false
  rw [if_neg (by decide), h.abs] at e
  exact e
theorem pw_lt_iff {a b : Nat} (h : pw a < pw b) : a < b := by
  rcases Nat.lt_or_ge a b with h1 | h1
  · exact h1
  · have := pw_le h1; omega
theorem of_next {r : List U32} {u m : Int} (h : valL r + pw r.length * u = m) : valL (r ++ [(⟨u % 65536⟩ : U32)]) + pw (r ++ [(⟨u % 65536⟩ : U32)]).length * (u / 65536) = m := by
  rw [valL_snoc, List.length_append, List.length_singleton, pw_succ]
  have := carry (pw r.length) u
  show valL r + pw r.length * (u % 65536) + 65536 * pw r.length * (u / 65536) = m
  omega
theorem of_len {r : List U32} {u m : Int} (h : valL r + pw r.length * u = m) (hd : Digs r) (hu : 0 < u) (hm : m ≤ 9223372036854775808) : r.length < 4 := by
  have h1 := valL_nonneg hd
  have h2 := Int.mul_le_mul_of_nonneg_left (show (1 : Int) ≤ u by omega) (Int.le_of_lt (pw_pos r.length))
  refine pw_lt_iff ?_
  have h3 : pw 4 = 18446744073709551616 := by unfold pw; decide
  omega
theorem c37 (G : Imm) (n : Int) (hn : -9223372036854775808 ≤ n ∧ n ≤ 9223372036854775807) :
    Does Tryz.prog 37 [.int .i64 n] G [] (fun v G' Ho => ∃ r : IV, v = .agg #[.bool r.neg, .slice r.a r.n r.c] ∧ Num G' r n ∧ Ho = []) := by
  refine Does.enter Tryz.func37 rfl Tryz.ntmps37 rfl (fun w => ?_)
  refine Wc.nilRow 0 (Row 142 ([] : List U32) []) ?_
  by_cases hneg : n < 0
  · refine Wc.gl 2 [] ?_
    refine Wl.alloc 1 rfl T.zero78 (fun b1 => ?_)
    refine Wl.gl 5 [] ?_
    refine Wl.q rfl (Qy.conv rfl T.u141 rfl) ?_
    refine Wl.gl 13 [1] ?_
    refine Wl.q rfl (Qy.negW rfl) ?_
    refine Wl.gc 10 [] ?_
    refine Wc.re 3 rfl (show _ = Value.int .u64 (-n) by rw [wrap_neg ⟨hn.1, hneg⟩]) ?_
    refine Wc.loop (ι := Int × List U32 × (Option Addr × Nat × List Value)) (fun (u, r, (o, d, j)) => ([(3, .int .u64 u), (4, .slice o r.length d), (2, Go.Value.pointer (Option.some (Go.Addr.mk b1 0 Option.none))), (0, Go.Value.int Go.IntKind.i64 n)], [(0, o.map (·.block), Row 142 r j), (1, Option.some b1, Go.Obj.cells #[Go.Value.bool Bool.false, Go.Value.slice Option.none 0 0] 78)])) (fun (u, r, (o, d, j)) => 0 ≤ u ∧ u ≤ 9223372036854775808 ∧ Digs r ∧ valL r + pw r.length * u = n.natAbs ∧ r.length ≤ 4 ∧ OwnA o d r j) (fun (u, r, (o, d, j)) => u.toNat) ((-n, [], (none, 0, []))) (⟨by omega, by omega, Digs.nil, by rw [valL_nil, List.length_nil, pw_zero]; omega, by decide, OwnA.nil⟩) ⟨rfl, rfl, rfl, rfl, trivial⟩ ⟨rfl, rfl, trivial⟩ (fun ⟨u, r, (o, d, j)⟩ => fun (hk : 0 ≤ u ∧ u ≤ 9223372036854775808 ∧ Digs r ∧ valL r + pw r.length * u = n.natAbs ∧ r.length ≤ 4 ∧ OwnA o d r j) => ?_)
    obtain ⟨hu0, hu1, hdr, hv, hrl, hob⟩ := hk
    by_cases hu : 0 < u
    · have hl4 := of_len hv hdr hu (by omega)
      refine Wc.gl 15 [1] ?_
      refine Wl.q rfl (Qy.urem rfl rfl (by omega)) ?_
      refine Wl.q rfl (Qy.conv32 rfl T.u142 rfl (by omega)) ?_
      refine Wl.lit (α := U32) 2 [⟨u % 65536⟩] rfl T.sl76 T.el142 rfl rfl rfl rfl rfl (fun b2 => ?_)
      refine Wl.append (α := U32) 0 rfl T.sl76 T.el142 rfl rfl rfl (by first | assumption | exact OwnA.nil | exact OwnA.made (by simp)) (Src.row 2 rfl) (by first | omega | (simp only [List.length_append, List.length_cons, List.length_nil, maxLen]; omega)) (by first | omega | (simp only [List.length_append, List.length_cons, List.length_nil, maxLen]; omega)) (fun a1 c1 junk1 ho1 => ?_)
      refine Wl.gl 5 [] ?_
      refine Wl.q rfl (Qy.uquo64 rfl rfl (by omega)) ?_
      refine Wl.ga 3 [] ?_
      refine Ar.again ((u / 65536, _, (a1, c1, junk1))) ?_ ?_ rfl ⟨rfl, rfl, rfl, rfl, trivial⟩ ⟨rfl, rfl, trivial⟩
      · exact ⟨by omega, by omega, digs_snoc hdr _, of_next hv, by rw [List.length_append]; show r.length + 1 ≤ 4; omega, ho1⟩
      · show (u / 65536).toNat < u.toNat
        omega
    · have hu : u = 0 := by omega
      subst hu
      rw [Int.mul_zero, Int.add_zero] at hv
      refine Wc.gl 18 [0] ?_
      have hcap := hob.le
      refine Wl.freezeRow 0 rfl hob (fun G1 hle1 hA => ?_)
      refine Wl.call 2 rfl T.fn82 rfl (c82 _ _ _ _ _ (by assumption) (by omega) (by assumption)) (tags_of trivial) (fun v2 G2 Ho2 hle2 hp => ?_)
      obtain ⟨tn2, rfl, htr2, rfl, rfl⟩ := hp
      refine Wl.ga 4 [1] ?_
      refine Ar.out1 (.inr rfl) (Ho := Hp.only _ []) rfl (.agg 1 rfl rfl T.agg78) (Hp.sub_only _ _) ?_
      refine ⟨⟨decide (n < 0) && decide (0 < tn2), subA o d 0 1, tn2, d⟩, rfl, ?_, rfl⟩
      have e := htr2.num hdr hA hcap (decide (n < 0))
      have e2 : (if decide (n < 0) = true then -valL r else valL r) = n := by
        rw [hv]; by_cases h : n < 0
        · rw [if_pos (by simpa using h)]; omega
        · rw [if_neg (by simpa using h)]; omega
      rw [e2] at e; exact e
  · refine Wc.gl 2 [] ?_
    refine Wl.alloc 1 rfl T.zero78 (fun b1 => ?_)
    refine Wl.gl 5 [] ?_
    refine Wl.q rfl (Qy.conv64 rfl T.u141 rfl (by omega)) ?_
    refine Wl.gc 20 [0] ?_
    refine Wc.loop (ι := Int × List U32 × (Option Addr × Nat × List Value)) (fun (u, r, (o, d, j)) => ([(3, .int .u64 u), (4, .slice o r.length d), (2, Go.Value.pointer (Option.some (Go.Addr.mk b1 0 Option.none))), (0, Go.Value.int Go.IntKind.i64 n)], [(0, o.map (·.block), Row 142 r j), (1, Option.some b1, Go.Obj.cells #[Go.Value.bool Bool.false, Go.Value.slice Option.none 0 0] 78)])) (fun (u, r, (o, d, j)) => 0 ≤ u ∧ u ≤ 9223372036854775808 ∧ Digs r ∧ valL r + pw r.length * u = n.natAbs ∧ r.length ≤ 4 ∧ OwnA o d r j) (fun (u, r, (o, d, j)) => u.toNat) ((n, [], (none, 0, []))) (⟨by omega, by omega, Digs.nil, by rw [valL_nil, List.length_nil, pw_zero]; omega, by decide, OwnA.nil⟩) ⟨rfl, rfl, rfl, rfl, trivial⟩ ⟨rfl, rfl, trivial⟩ (fun ⟨u, r, (o, d, j)⟩ => fun (hk : 0 ≤ u ∧ u ≤ 9223372036854775808 ∧ Digs r ∧ valL r + pw r.length * u = n.natAbs ∧ r.length ≤ 4 ∧ OwnA o d r j) => ?_)
    obtain ⟨hu0, hu1, hdr, hv, hrl, hob⟩ := hk
    by_cases hu : 0 < u
    · have hl4 := of_len hv hdr hu (by omega)
      refine Wc.gl 15 [1] ?_
      refine Wl.q rfl (Qy.urem rfl rfl (by omega)) ?_
      refine Wl.q rfl (Qy.conv32 rfl T.u142 rfl (by omega)) ?_
      refine Wl.lit (α := U32) 2 [⟨u % 65536⟩] rfl T.sl76 T.el142 rfl rfl rfl rfl rfl (fun b2 => ?_)
      refine Wl.append (α := U32) 0 rfl T.sl76 T.el142 rfl rfl rfl (by first | assumption | exact OwnA.nil | exact OwnA.made (by simp)) (Src.row 2 rfl) (by first | omega | (simp only [List.length_append, List.length_cons, List.length_nil, maxLen]; omega)) (by first | omega | (simp only [List.length_append, List.length_cons, List.length_nil, maxLen]; omega)) (fun a1 c1 junk1 ho1 => ?_)
      refine Wl.gl 5 [] ?_
      refine Wl.q rfl (Qy.uquo64 rfl rfl (by omega)) ?_
      refine Wl.ga 3 [] ?_
      refine Ar.again ((u / 65536, _, (a1, c1, junk1))) ?_ ?_ rfl ⟨rfl, rfl, rfl, rfl, trivial⟩ ⟨rfl, rfl, trivial⟩
      · exact ⟨by omega, by omega, digs_snoc hdr _, of_next hv, by rw [List.length_append]; show r.length + 1 ≤ 4; omega, ho1⟩
      · show (u / 65536).toNat < u.toNat
        omega
    · have hu : u = 0 := by omega
      subst hu
      rw [Int.mul_zero, Int.add_zero] at hv
      refine Wc.gl 18 [0] ?_
      have hcap := hob.le
      refine Wl.freezeRow 0 rfl hob (fun G1 hle1 hA => ?_)
      refine Wl.call 2 rfl T.fn82 rfl (c82 _ _ _ _ _ (by assumption) (by omega) (by assumption)) (tags_of trivial) (fun v2 G2 Ho2 hle2 hp => ?_)
      obtain ⟨tn2, rfl, htr2, rfl, rfl⟩ := hp
      refine Wl.ga 4 [1] ?_
      refine Ar.out1 (.inr rfl) (Ho := Hp.only _ []) rfl (.agg 1 rfl rfl T.agg78) (Hp.sub_only _ _) ?_
      refine ⟨⟨decide (n < 0) && decide (0 < tn2), subA o d 0 1, tn2, d⟩, rfl, ?_, rfl⟩
      have e := htr2.num hdr hA hcap (decide (n < 0))
      have e2 : (if decide (n < 0) = true then -valL r else valL r) = n := by
        rw [hv]; by_cases h : n < 0
        · rw [if_pos (by simpa using h)]; omega
        · rw [if_neg (by simpa using h)]; omega
      rw [e2] at e; exact e
theorem c201 (G : Imm) (n1 n2 : Bool) (a b : Option Addr) (ca cb : Nat) (la lb : List U32) (x y : Int) (ha : Arr G a la) (hb : Arr G b lb) (hx : IsInt n1 la x) (hy : IsInt n2 lb y) (h1 : la.length ≤ 1073741824) (h2 : lb.length ≤ 1073741824) :
    Does Tryz.prog 201 [.agg #[.bool n1, .slice a la.length ca], .agg #[.bool n2, .slice b lb.length cb]] G [] (fun v G' Ho => ∃ r : IV, v = .agg #[.bool r.neg, .slice r.a r.n r.c] ∧ Num G' r (x + y) ∧ Ho = []) := by
  have da := hx.digs
  have db := hy.digs
  have ta := hx.top
  have tb := hy.top
  refine Does.enter Tryz.func201 rfl Tryz.ntmps201 rfl (fun w => ?_)
  by_cases hs : n1 = n2
  · refine Wc.gl 2 [] ?_
    refine Wl.box 0 rfl rfl rfl (fun b1 => ?_)
    refine Wl.box 1 rfl rfl rfl (fun b2 => ?_)
    refine Wl.alloc 2 rfl T.zero78 (fun b3 => ?_)
    refine Wl.gl 9 [0, 1] ?_
    refine Wl.q rfl (Qy.eqlB T.u4 rfl rfl) ?_
    refine Wl.gc 4 [1] ?_
    refine Wc.draw [0, 1, 2] [(2, 8)] T.mixed rfl ?_
    refine Gm.q 0 [] (by kernel_rfl) rfl rfl (Qy.fieldAddr T.fa78_0 rfl) ?_
    refine Gm.q 1 [0] (by kernel_rfl) rfl rfl (Qy.load 0 T.one4 rfl rfl rfl) ?_
    refine Gm.q 2 [] (by kernel_rfl) rfl rfl (Qy.fieldAddr T.fa78_1 rfl) ?_
    refine Gm.q 3 [0] (by kernel_rfl) rfl rfl (Qy.load 0 T.one76 rfl rfl rfl) ?_
    refine Gm.q 4 [] (by kernel_rfl) rfl rfl (Qy.fieldAddr T.fa78_1 rfl) ?_
    refine Gm.q 5 [1] (by kernel_rfl) rfl rfl (Qy.load 1 T.one76 rfl rfl rfl) ?_
    refine Gm.one 6 ⟨rfl, rfl, rfl, trivial⟩ (by first | exact Imm.le_refl _ | assumption) (by kernel_rfl) rfl ?_
    refine Wl.call 3 rfl T.fn217 rfl (c217 _ _ _ _ _ _ _ (by assumption) (by assumption) (by assumption) (by assumption) (by assumption) (by assumption)) (tags_of trivial) (fun v1 G1 Ho1 hle1 hp => ?_)
    obtain ⟨po1, pc1, pr1, pj1, rfl, hpo1, rfl, rfl, hpd1, hpv1, hpl1⟩ := hp
    refine Wl.on0 ?_
    refine Gm.one 7 ⟨rfl, rfl, rfl, trivial⟩ (by first | exact Imm.le_refl _ | assumption) (by kernel_rfl) rfl ?_
    have hcap := hpo1.le
    refine Wl.freezeRow 3 rfl hpo1 (fun G9 hle9 hA => ?_)
    refine Wl.call 4 rfl T.fn82 rfl (c82 _ _ _ _ _ (by assumption) (by omega) (by assumption)) (tags_of trivial) (fun v2 G2 Ho2 hle2 hp => ?_)
    obtain ⟨tn2, rfl, htr2, rfl, rfl⟩ := hp
    refine Wl.on0 ?_
    refine Gm.one 8 ⟨rfl, rfl, rfl, trivial⟩ (by first | exact Imm.le_refl _ | assumption) (by kernel_rfl) rfl ?_
    refine Wl.storeAll 2 T.size78 rfl rfl rfl rfl rfl rfl ?_
    refine Wl.on0 ?_
    refine Gm.doneA (by kernel_rfl) ⟨rfl, rfl, trivial⟩ (by first | exact Imm.le_refl _ | assumption) ?_
    refine Ar.ga 3 [] ?_
    refine Ar.out1 (.inr rfl) (Ho := Hp.only _ []) rfl (.agg 2 rfl rfl T.agg78) (Hp.sub_only _ _) ?_
    refine ⟨⟨n1 && decide (0 < tn2), subA po1 pc1 0 1, tn2, pc1⟩, rfl, ?_, rfl⟩
    have e := htr2.num hpd1 hA hcap n1
    have e2 : (if n1 = true then -valL pr1 else valL pr1) = x + y := by
      rw [hpv1, hx.val, hy.val]
      revert hs
      cases n1 <;> cases n2 <;> simp <;> omega
    rw [e2] at e; exact e
  · by_cases hle : valL lb ≤ valL la
    · have hcmp : 0 ≤ cmpZ (valL la) (valL lb) := by
        rcases Int.lt_or_eq_of_le hle with h | h
        · rw [cmpZ_gt h]; decide
        · rw [cmpZ_eq h.symm]; decide
      have hll : lb.length ≤ la.length := by
        rcases Nat.lt_or_ge la.length lb.length with h | h
        · have := top_lt_len da db tb h; omega
        · exact h
      refine Wc.gl 2 [] ?_
      refine Wl.box 0 rfl rfl rfl (fun b1 => ?_)
      refine Wl.box 1 rfl rfl rfl (fun b2 => ?_)
      refine Wl.alloc 2 rfl T.zero78 (fun b3 => ?_)
      refine Wl.gl 9 [0, 1] ?_
      refine Wl.q rfl (Qy.eqlB T.u4 rfl rfl) ?_
      refine Wl.gl 12 [0, 0, 1] ?_
      refine Wl.call0 rfl T.fn138 rfl (c138 _ _ _ _ _ _ _ (by assumption) (by assumption) (by assumption) (by assumption) (by assumption) (by assumption) (by assumption) (by assumption)) ?_
      refine Wl.gc 5 [1] ?_
      refine Wc.draw [0, 1, 2] [(2, 8)] T.mixed rfl ?_
      refine Gm.q 0 [] (by kernel_rfl) rfl rfl (Qy.fieldAddr T.fa78_0 rfl) ?_
      refine Gm.q 1 [0] (by kernel_rfl) rfl rfl (Qy.load 0 T.one4 rfl rfl rfl) ?_
      refine Gm.q 2 [] (by kernel_rfl) rfl rfl (Qy.fieldAddr T.fa78_1 rfl) ?_
      refine Gm.q 3 [0] (by kernel_rfl) rfl rfl (Qy.load 0 T.one76 rfl rfl rfl) ?_
      refine Gm.q 4 [] (by kernel_rfl) rfl rfl (Qy.fieldAddr T.fa78_1 rfl) ?_
      refine Gm.q 5 [1] (by kernel_rfl) rfl rfl (Qy.load 1 T.one76 rfl rfl rfl) ?_
      refine Gm.one 6 ⟨rfl, rfl, rfl, trivial⟩ (by first | exact Imm.le_refl _ | assumption) (by kernel_rfl) rfl ?_
      refine Wl.call 3 rfl T.fn218 rfl (c218 _ _ _ _ _ _ _ (by assumption) (by assumption) (by assumption) (by assumption) (by assumption) (by assumption) (by assumption)) (tags_of trivial) (fun v1 G1 Ho1 hle1 hp => ?_)
      obtain ⟨po1, pc1, pr1, pj1, rfl, hpo1, rfl, rfl, hpd1, hpv1, hpl1⟩ := hp
      refine Wl.on0 ?_
      refine Gm.one 7 ⟨rfl, rfl, rfl, trivial⟩ (by first | exact Imm.le_refl _ | assumption) (by kernel_rfl) rfl ?_
      have hcap := hpo1.le
      refine Wl.freezeRow 3 rfl hpo1 (fun G9 hle9 hA => ?_)
      refine Wl.call 4 rfl T.fn82 rfl (c82 _ _ _ _ _ (by assumption) (by omega) (by assumption)) (tags_of trivial) (fun v2 G2 Ho2 hle2 hp => ?_)
      obtain ⟨tn2, rfl, htr2, rfl, rfl⟩ := hp
      refine Wl.on0 ?_
      refine Gm.one 8 ⟨rfl, rfl, rfl, trivial⟩ (by first | exact Imm.le_refl _ | assumption) (by kernel_rfl) rfl ?_
      refine Wl.storeAll 2 T.size78 rfl rfl rfl rfl rfl rfl ?_
      refine Wl.on0 ?_
      refine Gm.doneA (by kernel_rfl) ⟨rfl, rfl, trivial⟩ (by first | exact Imm.le_refl _ | assumption) ?_
      refine Ar.ga 3 [] ?_
      refine Ar.out1 (.inr rfl) (Ho := Hp.only _ []) rfl (.agg 2 rfl rfl T.agg78) (Hp.sub_only _ _) ?_
      refine ⟨⟨n1 && decide (0 < tn2), subA po1 pc1 0 1, tn2, pc1⟩, rfl, ?_, rfl⟩
      have e := htr2.num hpd1 hA hcap n1
      have e2 : (if n1 = true then -valL pr1 else valL pr1) = x + y := by
        rw [hpv1, hx.val, hy.val]
        revert hs
        cases n1 <;> cases n2 <;> simp <;> omega
      rw [e2] at e; exact e
    · have hcmp : ¬ 0 ≤ cmpZ (valL la) (valL lb) := by rw [cmpZ_lt (by omega)]; decide
      have hge9 : valL la ≤ valL lb := by omega
      have hll : la.length ≤ lb.length := by
        rcases Nat.lt_or_ge lb.length la.length with h | h
        · have := top_lt_len db da ta h; omega
        · exact h
      refine Wc.gl 2 [] ?_
      refine Wl.box 0 rfl rfl rfl (fun b1 => ?_)
      refine Wl.box 1 rfl rfl rfl (fun b2 => ?_)
      refine Wl.alloc 2 rfl T.zero78 (fun b3 => ?_)
      refine Wl.gl 9 [0, 1] ?_
      refine Wl.q rfl (Qy.eqlB T.u4 rfl rfl) ?_
      refine Wl.gl 12 [0, 0, 1] ?_
      refine Wl.call0 rfl T.fn138 rfl (c138 _ _ _ _ _ _ _ (by assumption) (by assumption) (by assumption) (by assumption) (by assumption) (by assumption) (by assumption) (by assumption)) ?_
      refine Wl.gc 7 [0] ?_
      refine Wc.draw [0, 1, 2] [(2, 8)] T.mixed rfl ?_
      refine Gm.q 0 [] (by kernel_rfl) rfl rfl (Qy.fieldAddr T.fa78_0 rfl) ?_
      refine Gm.q 1 [1] (by kernel_rfl) rfl rfl (Qy.load 1 T.one4 rfl rfl rfl) ?_
      refine Gm.q 2 [] (by kernel_rfl) rfl rfl (Qy.fieldAddr T.fa78_1 rfl) ?_
      refine Gm.q 3 [1] (by kernel_rfl) rfl rfl (Qy.load 1 T.one76 rfl rfl rfl) ?_
      refine Gm.q 4 [] (by kernel_rfl) rfl rfl (Qy.fieldAddr T.fa78_1 rfl) ?_
      refine Gm.q 5 [0] (by kernel_rfl) rfl rfl (Qy.load 0 T.one76 rfl rfl rfl) ?_
      refine Gm.one 6 ⟨rfl, rfl, rfl, trivial⟩ (by first | exact Imm.le_refl _ | assumption) (by kernel_rfl) rfl ?_
      refine Wl.call 3 rfl T.fn218 rfl (c218 _ _ _ _ _ _ _ (by assumption) (by assumption) (by assumption) (by assumption) (by assumption) (by assumption) (by assumption)) (tags_of trivial) (fun v1 G1 Ho1 hle1 hp => ?_)
      obtain ⟨po1, pc1, pr1, pj1, rfl, hpo1, rfl, rfl, hpd1, hpv1, hpl1⟩ := hp
      refine Wl.on0 ?_
      refine Gm.one 7 ⟨rfl, rfl, rfl, trivial⟩ (by first | exact Imm.le_refl _ | assumption) (by kernel_rfl) rfl ?_
      have hcap := hpo1.le
      refine Wl.freezeRow 3 rfl hpo1 (fun G9 hle9 hA => ?_)
      refine Wl.call 4 rfl T.fn82 rfl (c82 _ _ _ _ _ (by assumption) (by omega) (by assumption)) (tags_of trivial) (fun v2 G2 Ho2 hle2 hp => ?_)
      obtain ⟨tn2, rfl, htr2, rfl, rfl⟩ := hp
      refine Wl.on0 ?_
      refine Gm.one 8 ⟨rfl, rfl, rfl, trivial⟩ (by first | exact Imm.le_refl _ | assumption) (by kernel_rfl) rfl ?_
      refine Wl.storeAll 2 T.size78 rfl rfl rfl rfl rfl rfl ?_
      refine Wl.on0 ?_
      refine Gm.doneA (by kernel_rfl) ⟨rfl, rfl, trivial⟩ (by first | exact Imm.le_refl _ | assumption) ?_
      refine Ar.ga 2 [] ?_
      refine Ar.out1 (.inr rfl) (Ho := Hp.only _ []) rfl (.agg 2 rfl rfl T.agg78) (Hp.sub_only _ _) ?_
      refine ⟨⟨n2 && decide (0 < tn2), subA po1 pc1 0 1, tn2, pc1⟩, rfl, ?_, rfl⟩
      have e := htr2.num hpd1 hA hcap n2
      have e2 : (if n2 = true then -valL pr1 else valL pr1) = x + y := by
        rw [hpv1, hx.val, hy.val]
        revert hs
        cases n1 <;> cases n2 <;> simp <;> omega
      rw [e2] at e; exact e
theorem c221 (G : Imm) (n1 n2 : Bool) (a b : Option Addr) (ca cb : Nat) (la lb : List U32) (x y : Int) (ha : Arr G a la) (hb : Arr G b lb) (hx : IsInt n1 la x) (hy : IsInt n2 lb y) (h1 : la.length ≤ 1073741824) (h2 : lb.length ≤ 1073741824) (hcb : lb.length ≤ cb) :
    Does Tryz.prog 221 [.agg #[.bool n1, .slice a la.length ca], .agg #[.bool n2, .slice b lb.length cb]] G [] (fun v G' Ho => ∃ r : IV, v = .agg #[.bool r.neg, .slice r.a r.n r.c] ∧ Num G' r (x - y) ∧ Ho = []) := by
  refine Does.enter Tryz.func221 rfl Tryz.ntmps221 rfl (fun w => ?_)
  refine Wc.gl 2 [] ?_
  refine Wl.box 0 rfl rfl rfl (fun b1 => ?_)
  refine Wl.box 1 rfl rfl rfl (fun b2 => ?_)
  refine Wl.alloc 2 rfl T.zero78 (fun b3 => ?_)
  refine Wl.gc 3 [] ?_
  refine Wc.draw [0, 1, 2] [(2, 4)] T.mixed rfl ?_
  refine Gm.q 0 [0] (by kernel_rfl) rfl rfl (Qy.loadAll 0 T.agg78 rfl rfl rfl) ?_
  refine Gm.q 1 [1] (by kernel_rfl) rfl rfl (Qy.loadAll 1 T.agg78 rfl rfl rfl) ?_
  refine Gm.one 2 ⟨rfl, rfl, rfl, trivial⟩ (by first | exact Imm.le_refl _ | assumption) (by kernel_rfl) rfl ?_
  refine Wl.call 3 rfl T.fn230 rfl (c230 _ _ _ _ _ _ (by assumption) (by assumption) (by assumption) (by assumption)) (tags_of trivial) (fun v1 G1 Ho1 hle1 hp => ?_)
  obtain ⟨nr1, rfl, hnr1, rfl, rfl⟩ := hp
  refine Wl.on0 ?_
  refine Gm.one 3 ⟨rfl, rfl, rfl, trivial⟩ (by first | exact Imm.le_refl _ | assumption) (by kernel_rfl) rfl ?_
  obtain ⟨rn, ra, rk, rc⟩ := nr1
  obtain ⟨l, hl, hlc, hA, hI⟩ := hnr1
  simp only at hl hlc hA hI
  subst hl
  have hll : l.length ≤ lb.length := hI.len (by
    have := valL_lt hy.digs
    rw [hy.abs] at this
    omega)
  refine Wl.call 20 rfl T.fn201 rfl (c201 _ _ _ _ _ _ _ _ _ _ _ ha hA hx hI h1 (by omega)) (tags_of trivial) (fun v2 G2 Ho2 hle2 hp => ?_)
  obtain ⟨r2, rfl, hr2, rfl⟩ := hp
  refine Wl.on0 ?_
  refine Gm.one 4 ⟨rfl, rfl, rfl, trivial⟩ (by first | exact Imm.le_refl _ | assumption) (by kernel_rfl) rfl ?_
  refine Wl.storeAll 2 T.size78 rfl rfl rfl rfl rfl rfl ?_
  refine Wl.on0 ?_
  refine Gm.doneA (by kernel_rfl) ⟨rfl, rfl, trivial⟩ (by first | exact Imm.le_refl _ | assumption) ?_
  refine Ar.ga 2 [] ?_
  refine Ar.out1 (.inr rfl) (Ho := Hp.only _ []) rfl (.agg 2 rfl rfl T.agg78) (Hp.sub_only _ _) ?_
  refine ⟨r2, rfl, ?_, rfl⟩
  rw [Int.sub_eq_add_neg]; exact hr2
theorem num_add (G : Imm) (x y : IV) (zx zy : Int) (hx : Num G x zx) (hy : Num G y zy) (h1 : x.n ≤ 1073741824) (h2 : y.n ≤ 1073741824) :
    Does Tryz.prog 201 [.agg (Cells.enc x).toArray, .agg (Cells.enc y).toArray] G [] (fun v G' Ho => ∃ r : IV, v = .agg (Cells.enc r).toArray ∧ Num G' r (zx + zy) ∧ Ho = []) := by
  obtain ⟨n1, a, k1, ca⟩ := x
  obtain ⟨n2, b, k2, cb⟩ := y
  obtain ⟨la, hl, hlc, hA, hI⟩ := hx
  obtain ⟨lb, hl', hlc', hA', hI'⟩ := hy
  simp only at hl hlc hA hI hl' hlc' hA' hI' h1 h2
  subst hl hl'
  exact c201 G n1 n2 a b ca cb la lb zx zy hA hA' hI hI' h1 h2
theorem num_cmp (G : Imm) (x y : IV) (zx zy : Int) (hx : Num G x zx) (hy : Num G y zy) (h1 : x.n ≤ 1073741824) (h2 : y.n ≤ 1073741824) :
    Does Tryz.prog 83 [.agg (Cells.enc x).toArray, .agg (Cells.enc y).toArray] G [] (fun v G' Ho => v = .int .i64 (cmpZ zx zy) ∧ G' = G ∧ Ho = []) := by
  obtain ⟨n1, a, k1, ca⟩ := x
  obtain ⟨n2, b, k2, cb⟩ := y
  obtain ⟨la, hl, hlc, hA, hI⟩ := hx
  obtain ⟨lb, hl', hlc', hA', hI'⟩ := hy
  simp only at hl hlc hA hI hl' hlc' hA' hI' h1 h2
  subst hl hl'
  exact c83 G n1 n2 a b ca cb la lb zx zy hA hA' hI hI' h1 h2
end Go.Proofs.YtbppmiimeccclaaGreat
set_option maxRecDepth 100000
set_option linter.unusedVariables false
namespace Go.Proofs.YtbppmiimeccclaaGreat
open Go Go.Sl
set_option maxHeartbeats 4000000
theorem valL_set : ∀ (l : List U32) (k : Nat) (d : U32), k < l.length → valL (l.set k d) = valL l + pw k * (d.v - dg l k)
  | [], k, d, h => by simp at h
  | x :: l, 0, d, _ => by
    rw [List.set_cons_zero, valL_cons, valL_cons, pw_zero]
    show _ = _ + 1 * (d.v - x.v)
    omega
  | x :: l, k + 1, d, h => by
    have ih := valL_set l k d (by simpa using h)
    have e : dg (x :: l) (k + 1) = dg l k := by unfold dg; rw [Int.toNat_natCast, Int.toNat_natCast, List.getElem?_cons_succ]
    rw [List.set_cons_succ, valL_cons, valL_cons, ih, pw_succ, e, Int.mul_add, ← Int.mul_assoc]
    omega
theorem digs_set {l : List U32} (h : Digs l) (k : Nat) {s : Int} (hs : 0 ≤ s ∧ s < 65536) : Digs (l.set k ⟨s⟩) := fun d hd => by
  rcases List.mem_or_eq_of_mem_set hd with h1 | h1
  · exact h d h1
  · subst h1; exact hs
theorem mul_next {r lb : List U32} {i j : Nat} {c s x A : Int} (hk : i + j < r.length) (hv : valL r + pw (i + j) * c = A + pw i * (x * valL (lb.take j))) (hs : s = c + dg r (i + j) + x * dg lb j) :
    valL (r.set (i + j) ⟨s % 65536⟩) + pw (i + (j + 1)) * (s / 65536) = A + pw i * (x * valL (lb.take (j + 1))) := by
  rw [valL_set r (i + j) ⟨s % 65536⟩ hk, val_step, ← Nat.add_assoc, pw_succ]
  have h1 := carry (pw (i + j)) s
  have h2 : pw (i + j) * s = pw (i + j) * c + pw (i + j) * dg r (i + j) + pw (i + j) * (x * dg lb j) := by rw [hs, Int.mul_add, Int.mul_add]
  have h3 : pw i * (x * (valL (lb.take j) + pw j * dg lb j)) = pw i * (x * valL (lb.take j)) + pw (i + j) * (x * dg lb j) := by
    rw [Int.mul_add, Int.mul_add, pw_add]
    congr 1
    rw [Int.mul_assoc, ← Int.mul_assoc x, Int.mul_comm x (pw j), Int.mul_assoc]
  have h4 : pw (i + j) * (s % 65536 - dg r (i + j)) = pw (i + j) * (s % 65536) - pw (i + j) * dg r (i + j) := Int.mul_sub _ _ _
  show valL r + pw (i + j) * (s % 65536 - dg r (i + j)) + 65536 * pw (i + j) * (s / 65536) = _
  rw [h3, h4]
  omega
theorem mul_end {la lb : List U32} {i j : Nat} {v : Int} (hj : lb.length ≤ j) (h : v = valL (la.take i) * valL lb + pw i * (dg la i * valL (lb.take j))) : v = valL (la.take (i + 1)) * valL lb := by
  rw [h, take_all hj, val_step, Int.add_mul, Int.mul_assoc]
theorem mul_lt {a b c d : Int} (ha : 0 ≤ a) (hb : 0 ≤ b) (h1 : a < c) (h2 : b < d) : a * b < c * d := by
  have e1 : a * b ≤ a * d := Int.mul_le_mul_of_nonneg_left (Int.le_of_lt h2) ha
  have e2 : a * d < c * d := Int.mul_lt_mul_of_pos_right h1 (by omega)
  omega
/-- the carry is 0 where the row ends -/
theorem mul_bound {la lb r : List U32} {i j : Nat} {c : Int} (da : Digs la) (db : Digs lb) (hi : i < la.length) (hj : lb.length ≤ j) (hdr : Digs r) (hc : 0 < c) (hv : valL r + pw (i + j) * c = valL (la.take i) * valL lb + pw i * (dg la i * valL (lb.take j))) : j ≤ lb.length := by
  have h1 := mul_end hj hv
  have h2 := valL_lt (da.take (i + 1))
  rw [List.length_take, Nat.min_eq_left (by omega)] at h2
  have h3 := mul_lt (valL_nonneg (da.take (i + 1))) (valL_nonneg db) h2 (valL_lt db)
  rw [← pw_add] at h3
  have h4 := valL_nonneg hdr
  have h5 := Int.mul_le_mul_of_nonneg_left (show (1 : Int) ≤ c by omega) (Int.le_of_lt (pw_pos (i + j)))
  have h6 : pw (i + j) < pw (i + 1 + lb.length) := by omega
  have := pw_lt_iff h6
  omega
theorem mul_small16 {x y : Int} (hx : 0 ≤ x ∧ x < 65536) (hy : 0 ≤ y ∧ y < 65536) : 0 ≤ x * y ∧ x * y ≤ 4294836225 := by
  refine ⟨Int.mul_nonneg hx.1 hy.1, ?_⟩
  have h1 : x * y ≤ 65535 * y := Int.mul_le_mul_of_nonneg_right (by omega) hy.1
  omega
attribute [local irreducible] valL pw cmpZ
theorem c135 (G : Imm) (n1 n2 : Bool) (a b : Option Addr) (ca cb : Nat) (la lb : List U32) (x y : Int) (ha : Arr G a la) (hb : Arr G b lb) (hx : IsInt n1 la x) (hy : IsInt n2 lb y) (h1 : la.length ≤ 536870912) (h2 : lb.length ≤ 536870912) :
    Does Tryz.prog 135 [.agg #[.bool n1, .slice a la.length ca], .agg #[.bool n2, .slice b lb.length cb]] G [] (fun v G' Ho => ∃ r : IV, v = .agg #[.bool r.neg, .slice r.a r.n r.c] ∧ Num G' r (x * y) ∧ Ho = []) := by
  have da := hx.digs
  have db := hy.digs
  refine Does.enter Tryz.func135 rfl Tryz.ntmps135 rfl (fun w => ?_)
  refine Wc.gl 2 [] ?_
  refine Wl.box 0 rfl rfl rfl (fun b1 => ?_)
  refine Wl.box 1 rfl rfl rfl (fun b2 => ?_)
  refine Wl.alloc 2 rfl T.zero78 (fun b3 => ?_)
  refine Wl.gl 12 [0, 1] ?_
  refine Wl.make (α := U32) 3 rfl T.sl76 T.el142 rfl rfl (by omega) (by omega) (fun b4 => ?_)
  refine Wl.gc 10 [] ?_
  obtain ⟨N, hN⟩ : ∃ N, N = la.length + lb.length + 1 := ⟨_, rfl⟩
  have hM : ((la.length : Int) + (lb.length : Int) + 1).toNat = N := by omega
  rw [hM]
  have hown : ∀ r : List U32, r.length = N → OwnA (some ⟨b4, 0, none⟩) N r [] := fun r hr => .inr ⟨b4, rfl, by rw [hr]; rfl, by omega, by simp only [maxLen]; omega⟩
  refine Wc.re 5 rfl (show _ = Value.slice (some ⟨b4, 0, none⟩) (List.replicate N (default : U32)).length N by rw [List.length_replicate]) ?_
  refine Wc.loop (ι := Nat × List U32) (fun (i, r) => ([(6, .int .i64 (i : Int)), (5, .slice (some ⟨b4, 0, none⟩) r.length N), (4, Go.Value.pointer (Option.some (Go.Addr.mk b3 0 Option.none))), (3, Go.Value.pointer (Option.some (Go.Addr.mk b2 0 Option.none))), (2, Go.Value.pointer (Option.some (Go.Addr.mk b1 0 Option.none)))], [(3, some b4, Row 142 r []), (2, Option.some b3, Go.Obj.cells #[Go.Value.bool Bool.false, Go.Value.slice Option.none 0 0] 78), (1, Option.some b2, Go.Obj.cells #[Go.Value.bool n2, Go.Value.slice b (List.length lb) cb] 78), (0, Option.some b1, Go.Obj.cells #[Go.Value.bool n1, Go.Value.slice a (List.length la) ca] 78)])) (fun (i, r) => i ≤ la.length ∧ r.length = N ∧ Digs r ∧ valL r = valL (la.take i) * valL lb) (fun (i, r) => la.length - i) ((0, List.replicate N (default : U32))) (⟨Nat.zero_le _, List.length_replicate, Digs.zeros N, by rw [List.take_zero, valL_nil, Int.zero_mul]; exact valL_replicate N⟩) ⟨rfl, rfl, rfl, rfl, rfl, trivial⟩ ⟨rfl, rfl, rfl, rfl, trivial⟩ (fun ⟨i, r⟩ => fun (hk : i ≤ la.length ∧ r.length = N ∧ Digs r ∧ valL r = valL (la.take i) * valL lb) => ?_)
  obtain ⟨hi, hrN, hdr, hv⟩ := hk
  rcases Nat.lt_or_ge i la.length with hia | hia
  · have hxi : 0 ≤ (la[((i : Nat) : Int).toNat]?.getD default).v ∧ (la[((i : Nat) : Int).toNat]?.getD default).v < 65536 := dg_lt da hia
    refine Wc.gc 26 [0, 1] ?_
    refine Wc.loop (ι := Nat × Int × List U32) (fun (j, c, s) => ([(8, .int .i64 (j : Int)), (7, .int .u64 c), (5, .slice (some ⟨b4, 0, none⟩) s.length N), (2, .pointer (some ⟨b1, 0, none⟩)), (6, Go.Value.int Go.IntKind.i64 (↑i : Int)), (4, Go.Value.pointer (Option.some (Go.Addr.mk b3 0 Option.none))), (3, Go.Value.pointer (Option.some (Go.Addr.mk b2 0 Option.none)))], [(3, some b4, Row 142 s []), (2, Option.some b3, Go.Obj.cells #[Go.Value.bool Bool.false, Go.Value.slice Option.none 0 0] 78), (1, Option.some b2, Go.Obj.cells #[Go.Value.bool n2, Go.Value.slice b (List.length lb) cb] 78), (0, Option.some b1, Go.Obj.cells #[Go.Value.bool n1, Go.Value.slice a (List.length la) ca] 78)])) (fun (j, c, s) => 0 ≤ c ∧ c ≤ 65535 ∧ s.length = N ∧ Digs s ∧ valL s + pw (i + j) * c = valL (la.take i) * valL lb + pw i * (dg la i * valL (lb.take j)) ∧ j ≤ lb.length + 1) (fun (j, c, s) => lb.length + 1 - j) ((0, 0, r)) (⟨by decide, by decide, hrN, hdr, by rw [Int.mul_zero, List.take_zero, valL_nil, Int.mul_zero, Int.mul_zero, Int.add_zero, Int.add_zero]; exact hv, Nat.zero_le _⟩) ⟨rfl, rfl, rfl, rfl, rfl, rfl, rfl, trivial⟩ ⟨rfl, rfl, rfl, rfl, trivial⟩ (fun ⟨j, c, s⟩ => fun (hk : 0 ≤ c ∧ c ≤ 65535 ∧ s.length = N ∧ Digs s ∧ valL s + pw (i + j) * c = valL (la.take i) * valL lb + pw i * (dg la i * valL (lb.take j)) ∧ j ≤ lb.length + 1) => ?_)
    obtain ⟨hc0, hc1, hsN, hds, hvs, hjl⟩ := hk
    have hos := hown s hsN
    have hbnd : lb.length ≤ j → 0 < c → j ≤ lb.length := fun h1 h2 => mul_bound da db hia h1 hds h2 hvs
    have ekk : ((i : Int) + (j : Int)).toNat = i + j := by omega
    rcases Nat.lt_or_ge j lb.length with hjb | hjb
    · have hyj : 0 ≤ (lb[((j : Nat) : Int).toNat]?.getD default).v ∧ (lb[((j : Nat) : Int).toNat]?.getD default).v < 65536 := dg_lt db hjb
      have hxy := mul_small16 hxi hyj
      have hsk : 0 ≤ (s[((i : Int) + (j : Int)).toNat]?.getD default).v ∧ (s[((i : Int) + (j : Int)).toNat]?.getD default).v < 65536 := hds.at (by omega)
      refine Wc.gl 9 [1] ?_
      refine Wl.yes 30 rfl (by first | assumption | omega) ?_
      refine Wl.gl 17 [1] ?_
      refine Wl.q rfl (Qy.indexAddrO (α := U32) T.sl76 rfl rfl (by assumption) (by omega)) ?_
      refine Wl.q rfl (Qy.loadO 3 0 T.one142 rfl rfl (by assumption) (by omega) rfl rfl) ?_
      refine Wl.q rfl (Qy.conv64 rfl T.u141 rfl (by omega)) ?_
      refine Wl.q rfl (Qy.uadd64 rfl rfl (by omega)) ?_
      refine Wl.gc 14 [1, 1] ?_
      refine Wc.draw [0, 1, 2, 3] [] T.mixed rfl ?_
      refine Gm.q 0 [] (by kernel_rfl) rfl rfl (Qy.move rfl) ?_
      refine Gm.q 1 [] (by kernel_rfl) rfl rfl (Qy.fieldAddr T.fa78_1 rfl) ?_
      refine Gm.q 2 [0] (by kernel_rfl) rfl rfl (Qy.load 0 T.one76 rfl rfl rfl) ?_
      refine Gm.q 3 [] (by kernel_rfl) rfl rfl (Qy.move rfl) ?_
      refine Gm.q 4 [] (by kernel_rfl) rfl rfl (Qy.at (α := U32) T.sl76 rfl rfl (by assumption) (by omega)) ?_
      refine Gm.q 5 [0] (by kernel_rfl) rfl rfl (Qy.loadG T.one142 rfl (Arr.cell (by assumption) (by omega) 0 rfl rfl)) ?_
      refine Gm.q 6 [] (by kernel_rfl) rfl rfl (Qy.conv64 rfl T.u141 rfl (by omega)) ?_
      refine Gm.q 7 [] (by kernel_rfl) rfl rfl (Qy.fieldAddr T.fa78_1 rfl) ?_
      refine Gm.q 8 [1] (by kernel_rfl) rfl rfl (Qy.load 1 T.one76 rfl rfl rfl) ?_
      refine Gm.q 9 [] (by kernel_rfl) rfl rfl (Qy.move rfl) ?_
      refine Gm.q 10 [] (by kernel_rfl) rfl rfl (Qy.at (α := U32) T.sl76 rfl rfl (by assumption) (by omega)) ?_
      refine Gm.q 11 [0] (by kernel_rfl) rfl rfl (Qy.loadG T.one142 rfl (Arr.cell (by assumption) (by omega) 0 rfl rfl)) ?_
      refine Gm.q 12 [] (by kernel_rfl) rfl rfl (Qy.conv64 rfl T.u141 rfl (by omega)) ?_
      refine Gm.q 13 [] (by kernel_rfl) rfl rfl (Qy.umul64 rfl rfl (by first | assumption | omega)) ?_
      refine Gm.q 14 [] (by kernel_rfl) rfl rfl (Qy.uadd64 rfl rfl (by omega)) ?_
      refine Gm.q 15 [] (by kernel_rfl) rfl rfl (Qy.assign rfl) ?_
      refine Gm.doneA (by kernel_rfl) ⟨rfl, rfl, rfl, rfl, trivial⟩ (by first | exact Imm.le_refl _ | assumption) ?_
      refine Ar.gl 8 [] ?_
      refine Wl.q rfl (Qy.urem rfl rfl (by omega)) ?_
      refine Wl.q rfl (Qy.conv32 rfl T.u142 rfl (by omega)) ?_
      refine Wl.q rfl (Qy.indexAddrO (α := U32) T.sl76 rfl rfl (by assumption) (by omega)) ?_
      refine Wl.setO (z := _) 3 T.size142 rfl rfl rfl (by assumption) (by omega) rfl (fun ho1 => ?_)
      refine Wl.gl 4 [] ?_
      refine Wl.q rfl (Qy.uquo64 rfl rfl (by omega)) ?_
      refine Wl.ga 9 [] ?_
      rw [ekk] at ⊢ hsk
      refine Ar.re 5 rfl (show _ = Value.slice (some ⟨b4, 0, none⟩) (s.set (i + j) (⟨(c + (s[i + j]?.getD default).v + (la[((i : Nat) : Int).toNat]?.getD default).v * (lb[((j : Nat) : Int).toNat]?.getD default).v) % 65536⟩ : U32)).length N by rw [List.length_set]) ?_
      refine Ar.again ((j + 1, (c + (s[i + j]?.getD default).v + (la[((i : Nat) : Int).toNat]?.getD default).v * (lb[((j : Nat) : Int).toNat]?.getD default).v) / 65536, s.set (i + j) (⟨(c + (s[i + j]?.getD default).v + (la[((i : Nat) : Int).toNat]?.getD default).v * (lb[((j : Nat) : Int).toNat]?.getD default).v) % 65536⟩ : U32))) ?_ ?_ rfl ⟨rfl, rfl, rfl, rfl, rfl, rfl, rfl, trivial⟩ ⟨rfl, rfl, rfl, rfl, trivial⟩
      · exact ⟨by omega, by omega, by rw [List.length_set]; exact hsN, digs_set hds _ (by omega), mul_next (by omega) hvs (by simp only [dg, Int.toNat_natCast]), by omega⟩
      · show lb.length + 1 - (j + 1) < lb.length + 1 - j
        omega
    · by_cases hcy : 0 < c
      · have hjle := hbnd hjb hcy
        have hsk : 0 ≤ (s[((i : Int) + (j : Int)).toNat]?.getD default).v ∧ (s[((i : Int) + (j : Int)).toNat]?.getD default).v < 65536 := hds.at (by omega)
        refine Wc.gl 9 [1] ?_
        refine Wl.no 30 rfl (by first | assumption | omega) ?_
        refine Wl.gl 19 [1] ?_
        refine Wl.q rfl (Qy.indexAddrO (α := U32) T.sl76 rfl rfl (by assumption) (by omega)) ?_
        refine Wl.q rfl (Qy.loadO 3 0 T.one142 rfl rfl (by assumption) (by omega) rfl rfl) ?_
        refine Wl.q rfl (Qy.conv64 rfl T.u141 rfl (by omega)) ?_
        refine Wl.q rfl (Qy.uadd64 rfl rfl (by omega)) ?_
        refine Wl.gl 23 [1, 0] ?_
        refine Wl.q rfl (Qy.urem rfl rfl (by omega)) ?_
        refine Wl.q rfl (Qy.conv32 rfl T.u142 rfl (by omega)) ?_
        refine Wl.q rfl (Qy.indexAddrO (α := U32) T.sl76 rfl rfl (by assumption) (by omega)) ?_
        refine Wl.setO (z := _) 3 T.size142 rfl rfl rfl (by assumption) (by omega) rfl (fun ho1 => ?_)
        refine Wl.gl 4 [] ?_
        refine Wl.q rfl (Qy.uquo64 rfl rfl (by omega)) ?_
        refine Wl.ga 9 [] ?_
        rw [ekk] at ⊢ hsk
        refine Ar.re 5 rfl (show _ = Value.slice (some ⟨b4, 0, none⟩) (s.set (i + j) (⟨(c + (s[i + j]?.getD default).v) % 65536⟩ : U32)).length N by rw [List.length_set]) ?_
        refine Ar.again ((j + 1, (c + (s[i + j]?.getD default).v) / 65536, s.set (i + j) (⟨(c + (s[i + j]?.getD default).v) % 65536⟩ : U32))) ?_ ?_ rfl ⟨rfl, rfl, rfl, rfl, rfl, rfl, rfl, trivial⟩ ⟨rfl, rfl, rfl, rfl, trivial⟩
        · exact ⟨by omega, by omega, by rw [List.length_set]; exact hsN, digs_set hds _ (by omega), mul_next (by omega) hvs (by rw [dg_end hjb, Int.mul_zero, Int.add_zero]; simp only [dg, Int.toNat_natCast]), by omega⟩
        · show lb.length + 1 - (j + 1) < lb.length + 1 - j
          omega
      · have hc : c = 0 := by omega
        subst hc
        rw [Int.mul_zero, Int.add_zero] at hvs
        refine Wc.gl 9 [1] ?_
        refine Wl.no 30 rfl (by first | assumption | omega) ?_
        refine Wl.ga 19 [0] ?_
        refine Ar.again ((i + 1, s)) ?_ ?_ rfl ⟨rfl, rfl, rfl, rfl, rfl, trivial⟩ ⟨rfl, rfl, rfl, rfl, trivial⟩
        · exact ⟨by omega, hsN, hds, mul_end hjb hvs⟩
        · show la.length - (i + 1) < la.length - i
          omega
  · have hor := hown r hrN
    rw [take_all hia] at hv
    refine Wc.gl 22 [0, 0, 0, 1] ?_
    refine Wl.q rfl (Qy.neqB T.u4 rfl rfl) ?_
    refine Wl.q rfl (Qy.move rfl) ?_
    have hcap := hor.le
    refine Wl.freezeRow 3 rfl hor (fun G9 hle9 hA => ?_)
    refine Wl.call 4 rfl T.fn82 rfl (c82 _ _ _ _ _ (by assumption) (by omega) (by assumption)) (tags_of trivial) (fun v1 G1 Ho1 hle1 hp => ?_)
    obtain ⟨tn1, rfl, htr1, rfl, rfl⟩ := hp
    refine Wl.ga 4 [2] ?_
    refine Ar.out1 (.inr rfl) (Ho := Hp.only _ []) rfl (.agg 2 rfl rfl T.agg78) (Hp.sub_only _ _) ?_
    refine ⟨⟨decide (n1 ≠ n2) && decide (0 < tn1), subA (some ⟨b4, 0, none⟩) N 0 1, tn1, N⟩, rfl, ?_, rfl⟩
    have e := htr1.num hdr hA hcap (decide (n1 ≠ n2))
    have e2 : (if decide (n1 ≠ n2) = true then -valL r else valL r) = x * y := by
      rw [hv, hx.val, hy.val]
      cases n1 <;> cases n2 <;> simp [Int.neg_mul, Int.mul_neg]
    rw [e2] at e; exact e
theorem num_mul (G : Imm) (x y : IV) (zx zy : Int) (hx : Num G x zx) (hy : Num G y zy) (h1 : x.n ≤ 536870912) (h2 : y.n ≤ 536870912) :
    Does Tryz.prog 135 [.agg (Cells.enc x).toArray, .agg (Cells.enc y).toArray] G [] (fun v G' Ho => ∃ r : IV, v = .agg (Cells.enc r).toArray ∧ Num G' r (zx * zy) ∧ Ho = []) := by
  obtain ⟨n1, a, k1, ca⟩ := x
  obtain ⟨n2, b, k2, cb⟩ := y
  obtain ⟨la, hl, hlc, hA, hI⟩ := hx
  obtain ⟨lb, hl', hlc', hA', hI'⟩ := hy
  simp only at hl hlc hA hI hl' hlc' hA' hI' h1 h2
  subst hl hl'
  exact c135 G n1 n2 a b ca cb la lb zx zy hA hA' hI hI' h1 h2
end Go.Proofs.YtbppmiimeccclaaGreat
namespace Go.Proofs.YtbppmiimeccclaaGreat
open Go Go.Sl
set_option maxRecDepth 100000
instance : DecidableEq PV := fun a b => by
  cases a; cases b; simp only [PV.mk.injEq]; infer_instance
/-- the table: what registers hold, what is known, who was first, the next value -/
structure Tab where
  held : List Int
  known : List (K4 × Int)
  first : List (K4 × Int)
  next : Int
end Go.Proofs.YtbppmiimeccclaaGreat
namespace Go.Proofs.YtbppmiimeccclaaGreat
open Go Go.Sl
set_option maxRecDepth 100000
set_option maxHeartbeats 2000000
theorem right_facts {p : PV} (h : rightP p = true) : 1 ≤ p.ins ∧ p.ins ≤ p.regs ∧ p.regs ≤ 128 ∧ p.code.length ≤ 16384 ∧ 1 ≤ p.outs.length ∧ p.outs.length ≤ 128 ∧ (∀ r ∈ p.outs, 0 ≤ r ∧ r < p.regs) ∧ (∀ i ∈ p.code, mayOk i p.regs = true) := by
  unfold rightP checkP at h
  by_cases hh : headOk p = false
  · rw [if_pos hh] at h; cases h
  · rw [if_neg hh] at h
    have hb : badAt p = none := by
      cases hb : badAt p with
      | none => rfl
      | some k => rw [hb] at h; cases h
    have hh' : headOk p = true := by simpa using hh
    unfold headOk at hh'
    rw [Bool.and_eq_true, decide_eq_true_eq, List.all_eq_true] at hh'
    unfold badAt at hb
    rw [List.findIdx?_eq_none_iff] at hb
    obtain ⟨⟨g1, g2, g3, g4, g5, g6⟩, g7⟩ := hh'
    refine ⟨g1, g2, g3, g4, g5, g6, fun r hr => ?_, fun i hi => ?_⟩
    · have := g7 r hr; rw [decide_eq_true_eq] at this; exact this
    · simpa using hb i hi
section
variable {t : Tab} {out : List Sl.Instr} {n : Int} {i : Sl.Instr}
end
end Go.Proofs.YtbppmiimeccclaaGreat
namespace Go.Proofs.YtbppmiimeccclaaGreat
open Go Go.Sl
set_option linter.unusedVariables false
theorem get_mem {l : List Int} {r : Int} (h : 0 ≤ r ∧ r < l.length) : l[r.toNat]?.getD default ∈ l := by
  have hlt : r.toNat < l.length := by omega
  rw [List.getElem?_eq_getElem hlt]; exact List.getElem_mem hlt
end Go.Proofs.YtbppmiimeccclaaGreat
set_option linter.unusedVariables false
namespace Go.Proofs.YtbppmiimeccclaaGreat
open Go Go.Sl
def p2 (n : Nat) : Int := ((2 ^ n : Nat) : Int)
theorem p2_zero : p2 0 = 1 := rfl
theorem p2_succ (n : Nat) : p2 (n + 1) = 2 * p2 n := by unfold p2; rw [Nat.pow_succ, Nat.mul_comm, Int.natCast_mul]; rfl
theorem p2_pos (n : Nat) : 0 < p2 n := by unfold p2; exact Int.ofNat_lt.2 (Nat.pow_pos (by decide))
theorem p2_add (m n : Nat) : p2 (m + n) = p2 m * p2 n := by unfold p2; rw [Nat.pow_add, Int.natCast_mul]
theorem p2_le {m n : Nat} (h : m ≤ n) : p2 m ≤ p2 n := by unfold p2; exact Int.ofNat_le.2 (Nat.pow_le_pow_right (by decide) h)
theorem p2_lt_iff {a b : Nat} (h : p2 a < p2 b) : a < b := by
  rcases Nat.lt_or_ge a b with h1 | h1
  · exact h1
  · have := p2_le h1; omega
/-- what an instruction multiplies or divides by -/
def cst (i : Sl.Instr) : Int := if i.op = 5 ∨ i.op = 6 then i.c else p2 i.c.toNat
theorem cst_c {i : Sl.Instr} (h : i.op = 5 ∨ i.op = 6) : cst i = i.c := if_pos h
theorem cst_p {i : Sl.Instr} (h : ¬ (i.op = 5 ∨ i.op = 6)) : cst i = p2 i.c.toNat := if_neg h
end Go.Proofs.YtbppmiimeccclaaGreat
set_option linter.unusedVariables false
namespace Go.Proofs.YtbppmiimeccclaaGreat
open Go Go.Sl
theorem pw_p2 (n : Nat) : pw n = p2 (16 * n) := by unfold pw p2; rw [Nat.pow_mul]
theorem p2_16 : p2 16 = 65536 := by unfold p2; decide
def AllDiv (y : Int) (xs : List Int) : Prop := ∀ i : Nat, i < xs.length → xs[i]?.getD 0 % y = 0
instance (y : Int) (xs : List Int) : Decidable (AllDiv y xs) := by unfold AllDiv; infer_instance
/-- one instruction over all columns -/
def doI (i : Sl.Instr) (rs : List (List Int)) : Option (List Int) :=
  let a := rs[i.a.toNat]?.getD []
  if i.op = 2 then some (a.map (fun x => -1 * x))
  else if i.op = 3 then some (List.zipWith (fun x y => x + 1 * y) a (rs[i.b.toNat]?.getD []))
  else if i.op = 4 then some (List.zipWith (fun x y => x + (-1) * y) a (rs[i.b.toNat]?.getD []))
  else if i.op = 5 ∨ i.op = 7 then some (a.map (fun x => cst i * x))
  else if i.op = 6 ∨ i.op = 8 then (if AllDiv (cst i) a then some (a.map (· / cst i)) else none)
  else some a
/-- the registers at first -/
def regs0 (p : PV) (gs : List (List Int)) : List (List Int) := (List.range p.regs.toNat).map fun k => if k < gs.length then gs[k]?.getD [] else List.replicate (gs[0]?.getD []).length 0
/-- the registers after k instructions -/
def runTo (p : PV) (gs : List (List Int)) : Nat → Option (List (List Int))
  | 0 => some (regs0 p gs)
  | k + 1 => (runTo p gs k).bind fun rs => (doI (p.code[((k : Nat) : Int).toNat]?.getD default) rs).map fun x => rs.set (p.code[((k : Nat) : Int).toNat]?.getD default).to.toNat x
/-- the answers' rows -/
def outsOf (p : PV) (rs : List (List Int)) : List (List Int) := p.outs.map fun r => rs[r.toNat]?.getD []
def followP (p : PV) (gs : List (List Int)) : Option (List (List Int)) := (runTo p gs p.code.length).map (outsOf p)
theorem runTo_succ {p : PV} {gs : List (List Int)} {k : Nat} {rs x : List (List Int)} {y : List Int} (h : runTo p gs k = some rs) (hd : doI (p.code[((k : Nat) : Int).toNat]?.getD default) rs = some y) :
    runTo p gs (k + 1) = some (rs.set (p.code[((k : Nat) : Int).toNat]?.getD default).to.toNat y) := by
  unfold runTo; rw [h]; simp only [Option.bind_some, hd, Option.map_some]
theorem runTo_none {p : PV} {gs : List (List Int)} {k : Nat} (h : runTo p gs k = none) (j : Nat) : runTo p gs (k + j) = none := by
  induction j with
  | zero => exact h
  | succ j ih => rw [← Nat.add_assoc]; unfold runTo; rw [ih]; rfl
theorem runTo_stop {p : PV} {gs : List (List Int)} {k : Nat} {rs : List (List Int)} (h : runTo p gs k = some rs) (hd : doI (p.code[((k : Nat) : Int).toNat]?.getD default) rs = none) (hk : k < p.code.length) : followP p gs = none := by
  have h1 : runTo p gs (k + 1) = none := by unfold runTo; rw [h]; simp only [Option.bind_some, hd, Option.map_none]
  have h2 := runTo_none h1 (p.code.length - (k + 1))
  rw [show k + 1 + (p.code.length - (k + 1)) = p.code.length by omega] at h2
  unfold followP; rw [h2]; rfl
theorem p2_64_lt : ∀ c : Nat, c ≤ 64 → ((p2 c).natAbs : Int) < pw 5 := fun c hc => by
  have h1 := p2_le hc
  have h2 := p2_pos c
  have h3 : p2 64 < pw 5 := by unfold p2 pw; decide
  omega
theorem may_facts {i : Sl.Instr} {regs : Int} (h : mayOk i regs = true) : (1 ≤ i.op ∧ i.op ≤ 8) ∧ (0 ≤ i.to ∧ i.to < regs) ∧ (0 ≤ i.a ∧ i.a < regs) ∧ (i.op = 3 ∨ i.op = 4 → 0 ≤ i.b ∧ i.b < regs) ∧ constOk i.op i.c = true ∧
    (i.op ≠ 1 → i.op ≠ 2 → i.op ≠ 3 → i.op ≠ 4 → cst i ≠ 0 ∧ ((cst i).natAbs : Int) < pw 5) ∧ (i.op = 5 ∨ i.op = 6 → -9223372036854775808 ≤ i.c ∧ i.c ≤ 9223372036854775807) ∧ (¬ (i.op = 5 ∨ i.op = 6) → 0 ≤ i.c ∧ i.c ≤ 64) := by
  unfold mayOk at h
  rw [Bool.and_eq_true, Bool.and_eq_true, decide_eq_true_eq, List.all_eq_true] at h
  obtain ⟨⟨⟨g1, g2, g3, g4, g5⟩, g6⟩, g7⟩ := h
  have hA : ∀ r ∈ asks i, 0 ≤ r ∧ r < regs := fun r hr => by have := g7 r hr; rwa [decide_eq_true_eq] at this
  have ha : i.a ∈ asks i := by
    unfold asks
    split
    · exact List.mem_cons_self
    · rw [if_pos ⟨g1, g2⟩]; exact List.mem_cons_self
  have hc := g6
  unfold constOk at g6
  have k1 : i.op = 5 ∨ i.op = 6 → i.c ≠ 0 ∧ -512 ≤ i.c ∧ i.c ≤ 512 := fun h => by rw [if_pos h, decide_eq_true_eq] at g6; exact g6
  have k2 : ¬ (i.op = 5 ∨ i.op = 6) → (i.op = 7 ∨ i.op = 8 → 1 ≤ i.c ∧ i.c ≤ 64) ∧ (¬ (i.op = 7 ∨ i.op = 8) → i.c = 0) := fun h => by
    rw [if_neg h] at g6
    refine ⟨fun h2 => ?_, fun h2 => ?_⟩
    · rw [if_pos h2, decide_eq_true_eq] at g6; exact g6
    · rw [if_neg h2, decide_eq_true_eq] at g6; exact g6
  refine ⟨⟨g1, g2⟩, ⟨g3, g4⟩, hA _ ha, fun h34 => hA _ (by unfold asks; rw [if_pos h34]; exact List.mem_cons_of_mem _ List.mem_cons_self), hc, fun n1 n2 n3 n4 => ?_, fun h56 => by have := k1 h56; omega, fun h56 => ?_⟩
  · by_cases h56 : i.op = 5 ∨ i.op = 6
    · rw [cst_c h56]
      have := k1 h56
      have h3 : (65536 : Int) < pw 5 := by unfold pw; decide
      exact ⟨this.1, by omega⟩
    · rw [cst_p h56]
      have h2 := (k2 h56).1 (by omega)
      have := p2_pos i.c.toNat
      exact ⟨by omega, p2_64_lt _ (by omega)⟩
  · by_cases h78 : i.op = 7 ∨ i.op = 8
    · have := (k2 h56).1 h78; omega
    · have := (k2 h56).2 h78; omega
theorem regs0_len (p : PV) (gs : List (List Int)) : (regs0 p gs).length = p.regs.toNat := by unfold regs0; rw [List.length_map, List.length_range]
theorem regs0_at {p : PV} {gs : List (List Int)} {k : Nat} (hk : k < p.regs.toNat) : (regs0 p gs)[k]?.getD [] = if k < gs.length then gs[k]?.getD [] else List.replicate (gs[0]?.getD []).length 0 := by
  unfold regs0
  rw [List.getElem?_map, List.getElem?_range hk]; rfl
end Go.Proofs.YtbppmiimeccclaaGreat
set_option linter.unusedVariables false
namespace Go.Proofs.YtbppmiimeccclaaGreat
open Go Go.Sl
/-- code run over registers -/
def runL : List Sl.Instr → List (List Int) → Option (List (List Int))
  | [], rs => some rs
  | i :: l, rs => (doI i rs).bind fun x => runL l (rs.set i.to.toNat x)
theorem runL_append (l m : List Sl.Instr) (rs : List (List Int)) : runL (l ++ m) rs = (runL l rs).bind (runL m) := by
  induction l generalizing rs with
  | nil => rfl
  | cons i l ih =>
    show (doI i rs).bind (fun x => runL (l ++ m) (rs.set i.to.toNat x)) = _
    show _ = ((doI i rs).bind fun x => runL l (rs.set i.to.toNat x)).bind (runL m)
    cases doI i rs with
    | none => rfl
    | some x => exact ih _
theorem runL_snoc {l : List Sl.Instr} {i : Sl.Instr} {rs : List (List Int)} : runL (l ++ [i]) rs = (runL l rs).bind fun r => (doI i r).map fun x => r.set i.to.toNat x := by
  rw [runL_append]
  congr 1
  funext r
  show (doI i r).bind (fun x => runL [] (r.set i.to.toNat x)) = _
  cases doI i r <;> rfl
theorem runTo_runL (p : PV) (gs : List (List Int)) : ∀ k, k ≤ p.code.length → runTo p gs k = runL (p.code.take k) (regs0 p gs)
  | 0, _ => by rw [List.take_zero]; rfl
  | k + 1, h => by
    have hk : k < p.code.length := by omega
    have e : p.code.take (k + 1) = p.code.take k ++ [p.code[((k : Nat) : Int).toNat]?.getD default] := by
      rw [List.take_succ_eq_append_getElem hk, Int.toNat_natCast, List.getElem?_eq_getElem hk]; rfl
    rw [e, runL_snoc, ← runTo_runL p gs k (by omega)]
    rfl
end Go.Proofs.YtbppmiimeccclaaGreat
set_option maxRecDepth 100000
set_option linter.unusedVariables false
namespace Go.Proofs.YtbppmiimeccclaaGreat
open Go Go.Sl
set_option maxHeartbeats 4000000
theorem bits_end {l : List U32} {m : Nat} (h0 : 0 < l.length) (hd : Digs l) (hm : dg l (l.length - 1) < p2 m) : valL l < p2 (16 * (l.length - 1) + m) := by
  have e := val_step l (l.length - 1)
  rw [Nat.sub_add_cancel h0, take_all (Nat.le_refl _)] at e
  have h1 := valL_lt (hd.take (l.length - 1))
  rw [List.length_take, Nat.min_eq_left (by omega)] at h1
  have h2 := Int.mul_le_mul_of_nonneg_left (show dg l (l.length - 1) + 1 ≤ p2 m by omega) (Int.le_of_lt (pw_pos (l.length - 1)))
  rw [Int.mul_add, Int.mul_one] at h2
  rw [p2_add, ← pw_p2]
  omega
theorem half_lo (t : Int) (m : Nat) : t / 2 * p2 (m + 1) ≤ t * p2 m := by
  rw [p2_succ, ← Int.mul_assoc]
  exact Int.mul_le_mul_of_nonneg_right (by omega) (Int.le_of_lt (p2_pos m))
theorem half_hi (t : Int) (m : Nat) : (t + 1) * p2 m ≤ (t / 2 + 1) * p2 (m + 1) := by
  rw [p2_succ, ← Int.mul_assoc]
  exact Int.mul_le_mul_of_nonneg_right (by omega) (Int.le_of_lt (p2_pos m))
attribute [local irreducible] valL pw cmpZ p2
theorem c228 (G : Imm) (a : Option Addr) (c : Nat) (l : List U32) (ha : Arr G a l) (hd : Digs l) (h1 : l.length ≤ 536870912) :
    Does Tryz.prog 228 [.slice a l.length c] G [] (fun v G' Ho => ∃ n : Nat, v = .int .i64 (n : Int) ∧ valL l < p2 n ∧ n ≤ 16 * l.length ∧ G' = G ∧ Ho = []) := by
  refine Does.enter Tryz.func228 rfl Tryz.ntmps228 rfl (fun w => ?_)
  by_cases h0 : l.length = 0
  · refine Wc.ga 21 [1] ?_
    refine Ar.out1 (.inr rfl) (Ho := Hp.only _ []) rfl (.tmp rfl) (Hp.sub_only _ _) ?_
    refine ⟨0, rfl, ?_, Nat.zero_le _, rfl, rfl⟩
    rw [List.eq_nil_of_length_eq_zero h0, valL_nil, p2_zero]; decide
  · have hlast : (l[((l.length : Int) - 1).toNat]?.getD default).v = dg l (l.length - 1) := by
      unfold dg; rw [show ((l.length : Int) - 1).toNat = ((l.length - 1 : Nat) : Int).toNat by omega]
    have hdl := dg_lt hd (i := l.length - 1) (by omega)
    refine Wc.gl 21 [0] ?_
    refine Wl.q rfl (Qy.mul rfl rfl (by omega)) ?_
    refine Wl.gl 9 [] ?_
    refine Wl.q rfl (Qy.at (α := U32) T.sl76 rfl rfl (by assumption) (by omega)) ?_
    refine Wl.q rfl (Qy.loadG T.one142 rfl (Arr.cell (by assumption) (by omega) 0 rfl rfl)) ?_
    refine Wl.gc 5 [] ?_
    refine Wc.re 4 rfl (show _ = Value.int .u32 (dg l (l.length - 1)) by rw [hlast]) (Wc.re 3 rfl (show _ = Value.int .i64 (16 * ((l.length : Int) - 1) + ((0 : Nat) : Int)) by rw [Int.natCast_zero, Int.add_zero]) ?_)
    refine Wc.loop (ι := Nat × Int) (fun (m, t) => ([(3, .int .i64 (16 * ((l.length : Int) - 1) + (m : Int))), (4, .int .u32 t), (2, Go.Value.int Go.IntKind.i64 0)], [])) (fun (m, t) => 0 ≤ t ∧ t ≤ 65535 ∧ t * p2 m ≤ dg l (l.length - 1) ∧ dg l (l.length - 1) < (t + 1) * p2 m ∧ m ≤ 16) (fun (m, t) => t.toNat) ((0, dg l (l.length - 1))) (⟨hdl.1, by omega, by rw [p2_zero]; omega, by rw [p2_zero]; omega, by decide⟩) ⟨rfl, rfl, rfl, trivial⟩ trivial (fun ⟨m, t⟩ => fun (hk : 0 ≤ t ∧ t ≤ 65535 ∧ t * p2 m ≤ dg l (l.length - 1) ∧ dg l (l.length - 1) < (t + 1) * p2 m ∧ m ≤ 16) => ?_)
    obtain ⟨ht0, ht1, hlo, hhi, hm⟩ := hk
    by_cases ht : 0 < t
    · have hm15 : m < 16 := by
        refine p2_lt_iff ?_
        have h2 := Int.mul_le_mul_of_nonneg_right (show (1 : Int) ≤ t by omega) (Int.le_of_lt (p2_pos m))
        rw [p2_16]; omega
      refine Wc.gl 20 [1] ?_
      refine Wl.q rfl (Qy.uquo32 rfl rfl (by omega)) ?_
      refine Wl.ga 3 [] ?_
      refine Ar.re 3 rfl (show _ = Value.int .i64 (16 * ((l.length : Int) - 1) + ((m + 1 : Nat) : Int)) by congr 1; omega) ?_
      refine Ar.again ((m + 1, t / 2)) ?_ ?_ rfl ⟨rfl, rfl, rfl, trivial⟩ trivial
      · exact ⟨by omega, by omega, Int.le_trans (half_lo t m) hlo, Int.lt_of_lt_of_le hhi (half_hi t m), by omega⟩
      · show (t / 2).toNat < t.toNat
        omega
    · have htz : t = 0 := by omega
      subst htz
      rw [Int.zero_add, Int.one_mul] at hhi
      refine Wc.ga 20 [0] ?_
      refine Ar.out1 (.inr rfl) (Ho := Hp.only _ []) rfl (.tmp rfl) (Hp.sub_only _ _) ?_
      refine ⟨16 * (l.length - 1) + m, ?_, bits_end (by omega) hd hhi, by omega, rfl, rfl⟩
      congr 1; omega
/-- a bit of a digit -/
theorem dig_bit {l : List U32} (hd : Digs l) {k : Nat} (hk : k < 16 * l.length) : valL l / p2 k % 2 = dg l (k / 16) / p2 (k % 16) % 2 := by
  have hq : k / 16 < l.length := by omega
  have e := val_split l (m := k / 16 + 1) (by omega)
  rw [val_step] at e
  have h1 := valL_lt (hd.take (k / 16))
  have h0 := valL_nonneg (hd.take (k / 16))
  rw [List.length_take, Nat.min_eq_left (by omega)] at h1
  have ek : p2 k = pw (k / 16) * p2 (k % 16) := by rw [pw_p2, ← p2_add, Nat.div_add_mod]
  have e2 : valL l = valL (l.take (k / 16)) + (dg l (k / 16) + 65536 * valL (l.drop (k / 16 + 1))) * pw (k / 16) := by
    rw [e, pw_succ, Int.add_mul, Int.mul_comm (dg l (k / 16)), Int.mul_assoc 65536 (pw (k / 16)), Int.mul_assoc 65536 (valL _), Int.mul_comm (valL (l.drop _)) (pw _)]
    omega
  have e3 : valL l / pw (k / 16) = dg l (k / 16) + 65536 * valL (l.drop (k / 16 + 1)) := by
    rw [e2, Int.add_mul_ediv_right _ _ (Int.ne_of_gt (pw_pos _)), Int.ediv_eq_zero_of_lt h0 h1, Int.zero_add]
  rw [ek, ← Int.ediv_ediv_of_nonneg (Int.le_of_lt (pw_pos _)), e3]
  obtain ⟨r, hr⟩ : ∃ r, 16 = k % 16 + (r + 1) := ⟨15 - k % 16, by omega⟩
  have e4 : p2 16 = p2 (k % 16) * (2 * p2 r) := (congrArg p2 hr).trans (by rw [p2_add, p2_succ])
  rw [p2_16] at e4
  have e5 : 65536 * valL (l.drop (k / 16 + 1)) = p2 (k % 16) * (2 * (p2 r * valL (l.drop (k / 16 + 1)))) := by rw [e4, Int.mul_assoc, Int.mul_assoc]
  rw [e5, Int.add_mul_ediv_left _ _ (Int.ne_of_gt (p2_pos _))]
  omega
theorem fdiv_pos {x y : Int} (hy : 0 ≤ y) : x.fdiv y = x / y := Int.fdiv_eq_ediv_of_nonneg x hy
theorem c229 (G : Imm) (a : Option Addr) (c : Nat) (l : List U32) (k : Nat) (ha : Arr G a l) (hd : Digs l) (h1 : l.length ≤ 536870912) (hk : k < 16 * l.length) :
    Does Tryz.prog 229 [.slice a l.length c, .int .i64 (k : Int)] G [] (fun v G' Ho => v = .int .u32 (valL l / p2 k % 2) ∧ G' = G ∧ Ho = []) := by
  have hq : k / 16 < l.length := by omega
  have hdg := dg_lt hd hq
  refine Does.enter Tryz.func229 rfl Tryz.ntmps229 rfl (fun w => ?_)
  refine Wc.gl 9 [] ?_
  refine Wl.q rfl (Qy.quoP rfl rfl (by omega)) ?_
  refine Wl.q rfl (Qy.at (α := U32) T.sl76 rfl rfl (by assumption) (by omega)) ?_
  refine Wl.q rfl (Qy.loadG T.one142 rfl (Arr.cell (by assumption) (by omega) 0 rfl rfl)) ?_
  refine Wl.q rfl (Qy.move rfl) ?_
  refine Wl.q rfl (Qy.urem rfl rfl (by omega)) ?_
  refine Wl.q rfl (Qy.shr rfl rfl (by omega)) ?_
  refine Wl.q rfl (Qy.andW rfl rfl) ?_
  refine Wl.ga 4 [] ?_
  refine Ar.out1 (.inr rfl) (Ho := Hp.only _ []) rfl (.tmp rfl) (Hp.sub_only _ _) ?_
  refine ⟨?_, rfl, rfl⟩
  have e1 : (l[((k : Int) / 16).toNat]?.getD default).v = dg l (k / 16) := by
    unfold dg; rw [show ((k : Int) / 16).toNat = ((k / 16 : Nat) : Int).toNat by omega]
  have e2 : (2 : Int) ^ min ((k : Int) % 16).toNat IntKind.u32.bits = p2 (k % 16) := by
    have e : min ((k : Int) % 16).toNat IntKind.u32.bits = k % 16 := by
      rw [show IntKind.u32.bits = 32 from rfl]; omega
    rw [e, show p2 (k % 16) = ((2 ^ (k % 16) : Nat) : Int) from by unfold p2; rfl, Int.natCast_pow]; rfl
  have h2 := div_le (n := p2 (k % 16)) hdg.1 (p2_pos _)
  rw [e1, e2, fdiv_pos (Int.le_of_lt (p2_pos _)), and_one_u32 _ (by omega), dig_bit hd hk]
end Go.Proofs.YtbppmiimeccclaaGreat
set_option maxRecDepth 100000
set_option linter.unusedVariables false
namespace Go.Proofs.YtbppmiimeccclaaGreat.T
open Go Go.Sl
theorem fld78_1 : ∀ (w : World) (v0 v1 : Value), (Instr.field 78 (.agg #[v0, v1]) 1).run Tryz.prog w = .ok (#[v0, v1][1]?.getD undef) w := fun _ _ _ => by kernel_rfl
end Go.Proofs.YtbppmiimeccclaaGreat.T
namespace Go.Proofs.YtbppmiimeccclaaGreat
open Go Go.Sl
set_option maxHeartbeats 4000000
theorem drop_step {l : List U32} {i : Nat} (h : i < l.length) : valL (l.drop i) = dg l i + 65536 * valL (l.drop (i + 1)) := by
  rw [List.drop_eq_getElem_cons h, valL_cons]
  unfold dg
  rw [Int.toNat_natCast, List.getElem?_eq_getElem h]; rfl
theorem dg_set {l : List U32} {i : Nat} (h : i < l.length) (d : Int) : dg (l.set i ⟨d⟩) i = d := by
  unfold dg
  rw [Int.toNat_natCast, List.getElem?_eq_getElem (by rw [List.length_set]; exact h), List.getElem_set_self]; rfl
theorem short_next {la q : List U32} {i : Nat} {r B : Int} (hi : i < la.length) (hq : i < q.length) (hv : valL (la.drop (i + 1)) = valL (q.drop (i + 1)) * B + r) :
    valL (la.drop i) = valL ((q.set i ⟨(r * 65536 + dg la i) / B⟩).drop i) * B + (r * 65536 + dg la i) % B := by
  rw [drop_step hi, drop_step (l := q.set i _) (by rw [List.length_set]; exact hq), dg_set hq, List.drop_set_of_lt (by omega), hv]
  have h := Int.emod_add_mul_ediv (r * 65536 + dg la i) B
  rw [Int.add_mul, Int.mul_comm ((r * 65536 + dg la i) / B) B, Int.mul_assoc 65536, Int.mul_add]
  omega
theorem short_lt {r a B : Int} (hr : 0 ≤ r ∧ r < B) (ha : 0 ≤ a ∧ a < 65536) : 0 ≤ (r * 65536 + a) / B ∧ (r * 65536 + a) / B < 65536 := by
  refine ⟨Int.ediv_nonneg (by omega) (by omega), Int.ediv_lt_of_lt_mul (by omega) ?_⟩
  have h1 := Int.mul_le_mul_of_nonneg_right (show r + 1 ≤ B by omega) (show (0 : Int) ≤ 65536 by decide)
  rw [Int.mul_comm 65536 B]
  omega
theorem one_val {lb : List U32} (h : lb.length = 1) : valL lb = dg lb 0 := by
  match lb, h with
  | [d], _ => rw [valL_one]; rfl
/-- quotient and remainder of digits -/
def DivOk (G : Imm) (la lb : List U32) (v : Value) : Prop := ∃ (qa ra : Option Addr) (qc rc : Nat) (lq lr : List U32), v = .tuple #[.slice qa lq.length qc, .slice ra lr.length rc] ∧ Arr G qa lq ∧ Arr G ra lr ∧ Digs lq ∧ Top lq ∧ Digs lr ∧ Top lr ∧
  valL la = valL lq * valL lb + valL lr ∧ valL lr < valL lb ∧ lq.length ≤ qc ∧ lr.length ≤ rc ∧ lq.length ≤ la.length
attribute [local irreducible] valL pw cmpZ p2
theorem c219S (G : Imm) (a b : Option Addr) (ca cb : Nat) (la lb : List U32) (ha : Arr G a la) (hb : Arr G b lb) (da : Digs la) (db : Digs lb) (tb : Top lb) (h1 : la.length ≤ 536870912) (hl1 : lb.length = 1) :
    Does Tryz.prog 219 [.slice a la.length ca, .slice b lb.length cb] G [] (fun v G' Ho => DivOk G' la lb v ∧ Ho = []) := by
  have hB : 0 < dg lb 0 := by
    rw [← one_val hl1]; exact top_pos db tb (fun e => by rw [e] at hl1; simp at hl1)
  have hB2 := dg_lt db (show 0 < lb.length by omega)
  have hb0 : (lb[((0 : Nat) : Int).toNat]?.getD default).v = dg lb 0 := rfl
  refine Does.enter Tryz.func219 rfl Tryz.ntmps219 rfl (fun w => ?_)
  refine Wc.gl 19 [1] ?_
  refine Wl.make (α := U32) 0 rfl T.sl76 T.el142 rfl rfl (by omega) (by omega) (fun b1 => ?_)
  refine Wl.gc 18 [] ?_
  obtain ⟨N, hN⟩ : ∃ N, N = la.length := ⟨_, rfl⟩
  have hM : (la.length : Int).toNat = N := by omega
  rw [hM]
  have hown : ∀ r : List U32, r.length = N → OwnA (some ⟨b1, 0, none⟩) N r [] := fun r hr => .inr ⟨b1, rfl, by rw [hr]; rfl, by omega, by simp only [maxLen]; omega⟩
  refine Wc.re 6 rfl (show _ = Value.slice (some ⟨b1, 0, none⟩) (List.replicate N (default : U32)).length N by rw [List.length_replicate]) ?_
  refine Wc.loop (ι := Nat × Int × List U32) (fun (k, r, q) => ([(8, .int .i64 ((k : Int) - 1)), (7, .int .u64 r), (6, .slice (some ⟨b1, 0, none⟩) q.length N), (5, Go.Value.slice Option.none 0 0), (4, Go.Value.slice Option.none 0 0), (0, Go.Value.slice a (List.length la) ca), (1, Go.Value.slice b (List.length lb) cb)], [(0, some b1, Row 142 q [])])) (fun (k, r, q) => k ≤ la.length ∧ q.length = N ∧ Digs q ∧ 0 ≤ r ∧ r < dg lb 0 ∧ valL (la.drop k) = valL (q.drop k) * dg lb 0 + r) (fun (k, r, q) => k) ((la.length, 0, List.replicate N (default : U32))) (⟨Nat.le_refl _, List.length_replicate, Digs.zeros N, by decide, hB, by rw [List.drop_eq_nil_of_le (Nat.le_refl _), List.drop_eq_nil_of_le (by rw [List.length_replicate]; omega), valL_nil, Int.zero_mul]; rfl⟩) ⟨rfl, rfl, rfl, rfl, rfl, rfl, rfl, trivial⟩ ⟨rfl, trivial⟩ (fun ⟨k, r, q⟩ => fun (hk : k ≤ la.length ∧ q.length = N ∧ Digs q ∧ 0 ≤ r ∧ r < dg lb 0 ∧ valL (la.drop k) = valL (q.drop k) * dg lb 0 + r) => ?_)
  obtain ⟨hk1, hqN, hdq, hr0, hr1, hv⟩ := hk
  have hoq := hown q hqN
  rcases Nat.eq_zero_or_pos k with rfl | hpos
  · rw [List.drop_zero, List.drop_zero] at hv
    have hcap := hoq.le
    refine Wc.gl 16 [0] ?_
    refine Wl.freezeRow 0 rfl hoq (fun G8 hle8 hA => ?_)
    refine Wl.call 1 rfl T.fn82 rfl (c82 _ _ _ _ _ (by assumption) (by first | omega | (simp only [List.length_cons, List.length_nil]; omega)) (by first | assumption | exact Nat.le_refl _)) (tags_of trivial) (fun v1 G1 Ho1 hle1 hp => ?_)
    obtain ⟨tn1, rfl, htr1, rfl, rfl⟩ := hp
    refine Wl.q rfl (Qy.fieldR T.fld78_1 rfl rfl) ?_
    refine Wl.q rfl (Qy.move rfl) ?_
    refine Wl.q rfl (Qy.conv32 rfl T.u142 rfl (by omega)) ?_
    refine Wl.lit (α := U32) 1 [⟨r⟩] rfl T.sl76 T.el142 rfl rfl rfl rfl rfl (fun b2 => ?_)
    have hdr : Digs [(⟨r⟩ : U32)] := Digs.one (by omega)
    refine Wl.freezeRow 1 rfl (OwnA.made (xs := [(⟨r⟩ : U32)]) (by simp [maxLen])) (fun G9 hle9 hA2 => ?_)
    replace hA := hA.up hle9
    refine Wl.call 2 rfl T.fn82 rfl (c82 _ _ _ _ _ (by assumption) (by first | omega | (simp only [List.length_cons, List.length_nil]; omega)) (by first | assumption | exact Nat.le_refl _)) (tags_of trivial) (fun v2 G2 Ho2 hle2 hp => ?_)
    obtain ⟨tn2, rfl, htr2, rfl, rfl⟩ := hp
    refine Wl.q rfl (Qy.fieldR T.fld78_1 rfl rfl) ?_
    refine Wl.ga 6 [] ?_
    refine Ar.out2 (.inr rfl) (Ho := []) rfl (.tmp rfl) (.tmp rfl) trivial ?_
    refine ⟨⟨subA (some ⟨b1, 0, none⟩) N 0 1, subA (some ⟨b2, 0, none⟩) 1 0 1, N, 1, q.take tn1, [(⟨r⟩ : U32)].take tn2, ?_, arr_sub hA _, arr_sub hA2 _, hdq.take _, htr1.top, hdr.take _, htr2.top, ?_, ?_, ?_, ?_, ?_⟩, rfl⟩
    · rw [htr1.len, htr2.len]; rfl
    · rw [htr1.val, htr2.val, valL_one, one_val hl1]; exact hv
    · rw [htr2.val, valL_one, one_val hl1]; exact hr1
    · rw [htr1.len]; exact Nat.le_trans htr1.1 hcap
    · rw [htr2.len]; exact htr2.1
    · rw [htr1.len, ← hN, ← hqN]; exact htr1.1
  · obtain ⟨i, rfl⟩ : ∃ i, k = i + 1 := ⟨k - 1, by omega⟩
    have hai := dg_lt da (show i < la.length by omega)
    have ei : (((i + 1 : Nat) : Int) - 1).toNat = i := by omega
    have eA : (la[(((i + 1 : Nat) : Int) - 1).toNat]?.getD default).v = dg la i := by unfold dg; rw [ei, Int.toNat_natCast]
    have hsl := short_lt ⟨hr0, hr1⟩ hai
    have hb1 : 0 < (lb[(0 : Int).toNat]?.getD default).v := hB
    have hb2 : (lb[(0 : Int).toNat]?.getD default).v < 65536 := hB2.2
    have hsl' : 0 ≤ (r * 65536 + (la[(((i + 1 : Nat) : Int) - 1).toNat]?.getD default).v) / (lb[(0 : Int).toNat]?.getD default).v ∧ (r * 65536 + (la[(((i + 1 : Nat) : Int) - 1).toNat]?.getD default).v) / (lb[(0 : Int).toNat]?.getD default).v ≤ 65535 := by
      rw [eA]
      exact ⟨hsl.1, by have := hsl.2; show _ / dg lb 0 ≤ _; omega⟩
    have hrm : 0 ≤ (r * 65536 + dg la i) % dg lb 0 ∧ (r * 65536 + dg la i) % dg lb 0 < dg lb 0 := ⟨Int.emod_nonneg _ (by omega), Int.emod_lt_of_pos _ hB⟩
    refine Wc.gl 15 [1] ?_
    refine Wl.q rfl (Qy.umul64 rfl rfl (by first | assumption | omega)) ?_
    refine Wl.ll0 2 [] ?_
    refine Wl.q rfl (Qy.at (α := U32) T.sl76 rfl rfl (by assumption) (by omega)) ?_
    refine Wl.q rfl (Qy.loadG T.one142 rfl (Arr.cell (by assumption) (by omega) 0 rfl rfl)) ?_
    refine Wl.q rfl (Qy.conv64 rfl T.u141 rfl (by omega)) ?_
    refine Wl.q rfl (Qy.uadd64 rfl rfl (by omega)) ?_
    refine Wl.gl 9 [] ?_
    refine Wl.q rfl (Qy.at (α := U32) T.sl76 rfl rfl (by assumption) (by omega)) ?_
    refine Wl.q rfl (Qy.loadG T.one142 rfl (Arr.cell (by assumption) (by omega) 0 rfl rfl)) ?_
    refine Wl.q rfl (Qy.conv64 rfl T.u141 rfl (by omega)) ?_
    refine Wl.q rfl (Qy.uquo64 rfl rfl (by omega)) ?_
    refine Wl.q rfl (Qy.conv32 rfl T.u142 rfl (by omega)) ?_
    refine Wl.q rfl (Qy.indexAddrO (α := U32) T.sl76 rfl rfl (by assumption) (by omega)) ?_
    refine Wl.setO (z := _) 0 T.size142 rfl rfl rfl (by assumption) (by omega) rfl (fun ho1 => ?_)
    refine Wl.gl 5 [] ?_
    refine Wl.q rfl (Qy.at (α := U32) T.sl76 rfl rfl (by assumption) (by omega)) ?_
    refine Wl.q rfl (Qy.loadG T.one142 rfl (Arr.cell (by assumption) (by omega) 0 rfl rfl)) ?_
    refine Wl.q rfl (Qy.conv64 rfl T.u141 rfl (by omega)) ?_
    refine Wl.q rfl (Qy.urem rfl rfl (by omega)) ?_
    refine Wl.ga 9 [] ?_
    rw [eA]
    refine Ar.re 8 rfl (show _ = Value.int .i64 ((i : Int) - 1) by congr 1; omega) ?_
    refine Ar.reH 0 (Row 142 (q.set i ⟨(r * 65536 + dg la i) / dg lb 0⟩) []) rfl (by rw [ei]; rfl) ?_
    refine Ar.re 6 rfl (show _ = Value.slice (some ⟨b1, 0, none⟩) (q.set i ⟨(r * 65536 + dg la i) / dg lb 0⟩).length N by rw [List.length_set]) ?_
    refine Ar.again ((i, (r * 65536 + dg la i) % dg lb 0, q.set i ⟨(r * 65536 + dg la i) / dg lb 0⟩)) ?_ ?_ rfl ⟨rfl, rfl, rfl, rfl, rfl, rfl, rfl, trivial⟩ ⟨rfl, trivial⟩
    · exact ⟨by omega, by rw [List.length_set]; exact hqN, digs_set hdq _ hsl, hrm.1, hrm.2, short_next (by omega) (by omega) hv⟩
    · show i < i + 1
      omega
end Go.Proofs.YtbppmiimeccclaaGreat
set_option maxRecDepth 100000
set_option linter.unusedVariables false
namespace Go.Proofs.YtbppmiimeccclaaGreat
open Go Go.Sl
set_option maxHeartbeats 4000000
theorem row_take {α : Type} [Cells α] (E : TypeId) (xs : List α) (j : List Value) (n : Nat) : Row E xs j = Row E (xs.take n) (flat (xs.drop n) ++ j) := by
  unfold Row
  rw [← List.append_assoc, ← flat_append, List.take_append_drop]
theorem own_take {α : Type} [Cells α] {a : Option Addr} {c : Nat} {xs : List α} {j : List Value} (h : OwnA a c xs j) (n : Nat) : OwnA a c (xs.take n) (flat (xs.drop n) ++ j) := by
  rcases h with ⟨h1, rfl, rfl, h4⟩ | ⟨b, h1, h2, h3, h4⟩
  · exact .inl ⟨h1, by simp, by simp [flat], h4⟩
  · refine .inr ⟨b, h1, ?_, ?_, h4⟩
    · rw [List.length_append, flat_length, ← Nat.add_assoc, ← Nat.add_mul, ← List.length_append, List.take_append_drop]; exact h2
    · rw [List.length_take]; omega
theorem top_of_ge {l : List U32} (hd : Digs l) (h0 : l ≠ []) (h : pw (l.length - 1) ≤ valL l) : Top l := by
  refine .inr fun hz => ?_
  have hl : 0 < l.length := List.length_pos_iff.2 h0
  have e := val_step l (l.length - 1)
  have hz' : dg l (l.length - 1) = 0 := by unfold dg; rw [Int.toNat_natCast]; exact hz
  rw [Nat.sub_add_cancel hl, take_all (Nat.le_refl _), hz', Int.mul_zero, Int.add_zero] at e
  have h1 := valL_lt (hd.take (l.length - 1))
  rw [List.length_take, Nat.min_eq_left (by omega)] at h1
  omega
theorem len_le_of_val {l m : List U32} (hl : Digs l) (hm : Digs m) (tm : Top m) (h : valL m ≤ valL l) : m.length ≤ l.length := by
  rcases Nat.lt_or_ge l.length m.length with h1 | h1
  · have := top_lt_len hl hm tm h1; omega
  · exact h1
theorem take_set {l : List U32} {i : Nat} (h : i < l.length) (d : U32) : (l.set i d).take (i + 1) = l.take i ++ [d] := by
  rw [List.take_add_one, List.take_set_of_le (Nat.le_refl _), List.getElem?_set_self h]; rfl
theorem dg_drop {r s : List U32} {i : Nat} (h : s.drop i = r.drop i) : dg s i = dg r i := by
  have e : s[i]? = r[i]? := by
    have := congrArg (·[0]?) h
    simpa [List.getElem?_drop] using this
  unfold dg; rw [Int.toNat_natCast, e]
theorem drop_set_next {r s : List U32} {i : Nat} (h : s.drop i = r.drop i) (d : U32) : (s.set i d).drop (i + 1) = r.drop (i + 1) := by
  rw [List.drop_set_of_lt (by omega), ← List.drop_drop, ← List.drop_drop, h]
theorem twice_next {r s : List U32} {i : Nat} {c c0 : Int} (hi : i < s.length) (hd : s.drop i = r.drop i) (hv : valL (s.take i) + pw i * c = 2 * valL (r.take i) + c0) :
    valL ((s.set i ⟨(c + 2 * dg s i) % 65536⟩).take (i + 1)) + pw (i + 1) * ((c + 2 * dg s i) / 65536) = 2 * valL (r.take (i + 1)) + c0 := by
  rw [take_set hi, valL_snoc, List.length_take, Nat.min_eq_left (Nat.le_of_lt hi), val_step, pw_succ, ← dg_drop hd]
  have h := carry (pw i) (c + 2 * dg s i)
  rw [Int.mul_add, Int.mul_left_comm] at h
  show valL (s.take i) + pw i * ((c + 2 * dg s i) % 65536) + 65536 * pw i * ((c + 2 * dg s i) / 65536) = _
  omega
theorem half_bit (x : Int) (e : Nat) : x / p2 e = 2 * (x / p2 (e + 1)) + x / p2 e % 2 := by
  rw [p2_succ, Int.mul_comm 2 (p2 e), ← Int.ediv_ediv_of_nonneg (Int.le_of_lt (p2_pos e))]
  omega
/-- where a power of two divides, a digit's low bits are noughts -/
theorem dig_zero {q : List U32} (hd : Digs q) {e : Nat} {Q : Int} (he : e / 16 < q.length) (h : valL q = p2 (e + 1) * Q) : dg q (e / 16) % p2 (e % 16 + 1) = 0 := by
  have e0 := val_split q (m := e / 16 + 1) (by omega)
  rw [val_step, pw_succ] at e0
  have h1 := valL_lt (hd.take (e / 16))
  have h0 := valL_nonneg (hd.take (e / 16))
  rw [List.length_take, Nat.min_eq_left (by omega)] at h1
  have ek : p2 (e + 1) = pw (e / 16) * p2 (e % 16 + 1) := by rw [pw_p2, ← p2_add, ← Nat.add_assoc, Nat.div_add_mod]
  obtain ⟨r, hr⟩ : ∃ r, 16 = e % 16 + 1 + r := ⟨15 - e % 16, by omega⟩
  have e4 : p2 16 = p2 (e % 16 + 1) * p2 r := (congrArg p2 hr).trans (by rw [p2_add])
  rw [p2_16] at e4
  have e2 : valL (q.take (e / 16)) + pw (e / 16) * (dg q (e / 16) + p2 (e % 16 + 1) * (p2 r * valL (q.drop (e / 16 + 1)))) = pw (e / 16) * (p2 (e % 16 + 1) * Q) := by
    rw [← Int.mul_assoc (pw (e / 16)) (p2 (e % 16 + 1)) Q, ← ek, ← h, e0, Int.mul_add, ← Int.mul_assoc (p2 (e % 16 + 1)) (p2 r), ← e4, ← Int.mul_assoc (pw (e / 16)) 65536, Int.mul_comm (pw (e / 16)) 65536]
    omega
  have e3 : dg q (e / 16) + p2 (e % 16 + 1) * (p2 r * valL (q.drop (e / 16 + 1))) = p2 (e % 16 + 1) * Q := by
    have h2 := congrArg (fun z => z / pw (e / 16)) e2
    rw [Int.add_mul_ediv_left _ _ (Int.ne_of_gt (pw_pos _)), Int.ediv_eq_zero_of_lt h0 h1, Int.zero_add, Int.mul_ediv_cancel_left _ (Int.ne_of_gt (pw_pos _))] at h2
    exact h2
  have e5 : dg q (e / 16) = p2 (e % 16 + 1) * (Q - p2 r * valL (q.drop (e / 16 + 1))) := by rw [Int.mul_sub]; omega
  rw [e5]; exact Int.mul_emod_right _ _
theorem long_yes {q : List U32} {e : Nat} {Q : Int} (he : e / 16 < q.length) (h : valL q = p2 (e + 1) * Q) : valL (q.set (e / 16) ⟨dg q (e / 16) + p2 (e % 16)⟩) = p2 e * (2 * Q + 1) := by
  have ek : p2 e = pw (e / 16) * p2 (e % 16) := by rw [pw_p2, ← p2_add, Nat.div_add_mod]
  rw [valL_set q (e / 16) _ he, h, p2_succ, Int.mul_add, Int.mul_one]
  show 2 * p2 e * Q + pw (e / 16) * (dg q (e / 16) + p2 (e % 16) - dg q (e / 16)) = _
  rw [show dg q (e / 16) + p2 (e % 16) - dg q (e / 16) = p2 (e % 16) by omega, ← ek, Int.mul_left_comm (p2 e) 2 Q, Int.mul_assoc 2 (p2 e) Q]
theorem dig_room {q : List U32} (hd : Digs q) {e : Nat} (he : e / 16 < q.length) (hz : dg q (e / 16) % p2 (e % 16 + 1) = 0) : 0 ≤ dg q (e / 16) + p2 (e % 16) ∧ dg q (e / 16) + p2 (e % 16) < 65536 := by
  have h1 := dg_lt hd he
  have h2 := p2_pos (e % 16)
  obtain ⟨r, hr⟩ : ∃ r, 16 = e % 16 + 1 + r := ⟨15 - e % 16, by omega⟩
  have e4 : p2 16 = p2 (e % 16 + 1) * p2 r := (congrArg p2 hr).trans (by rw [p2_add])
  rw [p2_16] at e4
  obtain ⟨y, hy⟩ : ∃ y, dg q (e / 16) = p2 (e % 16 + 1) * y := ⟨_, (Int.mul_ediv_cancel' (Int.dvd_of_emod_eq_zero hz)).symm⟩
  have hlt : y < p2 r := by
    rw [hy, e4] at h1
    exact Int.lt_of_mul_lt_mul_left h1.2 (Int.le_of_lt (p2_pos _))
  have h3 := Int.mul_le_mul_of_nonneg_left (show y + 1 ≤ p2 r by omega) (Int.le_of_lt (p2_pos (e % 16 + 1)))
  rw [Int.mul_add, Int.mul_one, ← e4, ← hy, p2_succ] at h3
  omega
theorem p2_defN (n : Nat) : p2 n = ((2 ^ n : Nat) : Int) := rfl
theorem shl_one {e : Nat} : IntKind.u32.wrap (1 * 2 ^ min ((e : Int) % 16).toNat IntKind.u32.bits) = p2 (e % 16) := by
  have e1 : min ((e : Int) % 16).toNat IntKind.u32.bits = e % 16 := by
    rw [show IntKind.u32.bits = 32 from rfl]; omega
  have e2 : (2 : Int) ^ (e % 16) = p2 (e % 16) := by rw [p2_defN, Int.natCast_pow]; rfl
  have h1 : p2 (e % 16) ≤ p2 16 := p2_le (by omega)
  rw [p2_16] at h1
  have h2 := p2_pos (e % 16)
  rw [e1, e2, Int.one_mul, IntWalk.u32_in _ (by omega)]
theorem or_dig {q : List U32} {e : Nat} (h : 0 ≤ dg q (e / 16) ∧ dg q (e / 16) < 65536) (hz : dg q (e / 16) % p2 (e % 16 + 1) = 0) :
    bits BinOp.or IntKind.u32 (q[((e : Int) / 16).toNat]?.getD default).v (IntKind.u32.wrap (1 * 2 ^ min ((e : Int) % 16).toNat IntKind.u32.bits)) = dg q (e / 16) + p2 (e % 16) := by
  have e1 : (q[((e : Int) / 16).toNat]?.getD default).v = dg q (e / 16) := by
    unfold dg; rw [show ((e : Int) / 16).toNat = ((e / 16 : Nat) : Int).toNat by omega]
  rw [shl_one, e1, p2_defN (e % 16)]
  exact or_bit_u32 _ _ h (by omega) hz
attribute [local irreducible] valL pw cmpZ p2
theorem c219L (G : Imm) (a b : Option Addr) (ca cb : Nat) (la lb : List U32) (ha : Arr G a la) (hb : Arr G b lb) (da : Digs la) (db : Digs lb) (tb : Top lb) (h1 : la.length ≤ 536870912) (h2 : lb.length ≤ 536870912) (hl1 : lb.length ≠ 1) (hB : 0 < valL lb) :
    Does Tryz.prog 219 [.slice a la.length ca, .slice b lb.length cb] G [] (fun v G' Ho => DivOk G' la lb v ∧ Ho = []) := by
  refine Does.enter Tryz.func219 rfl Tryz.ntmps219 rfl (fun w => ?_)
  refine Wc.nilRow 50 (Row 142 ([] : List U32) []) ?_
  refine Wc.gl 21 [0] ?_
  refine Wl.make (α := U32) 51 rfl T.sl76 T.el142 rfl rfl (by omega) (by omega) (fun b1 => ?_)
  refine Wl.gl 12 [] ?_
  refine Wl.call 52 rfl T.fn228 rfl (c228 _ _ _ _ (by assumption) (by assumption) (by assumption)) (tags_of trivial) (fun v1 G1 Ho1 hle1 hp => ?_)
  obtain ⟨nb1, rfl, hnv1, hnl1, rfl, rfl⟩ := hp
  refine Wl.gc 5 [] ?_
  obtain ⟨N, hN⟩ : ∃ N, N = la.length := ⟨_, rfl⟩
  have hM : (la.length : Int).toNat = N := by omega
  rw [hM]
  have hown : ∀ r : List U32, r.length = N → OwnA (some ⟨b1, 0, none⟩) N r [] := fun r hr => .inr ⟨b1, rfl, by rw [hr]; rfl, by omega, by simp only [maxLen]; omega⟩
  refine Wc.re 9 rfl (show _ = Value.slice (some ⟨b1, 0, none⟩) (List.replicate N (default : U32)).length N by rw [List.length_replicate]) ?_
  have hstart : valL la / p2 nb1 = 0 := Int.ediv_eq_zero_of_lt (valL_nonneg da) hnv1
  refine Wc.loop (ι := Nat × Int × List U32 × List U32 × (Option Addr × Nat × List Value)) (fun (k, Q, q, r, (o, d, j)) => ([(11, .int .i64 ((k : Int) - 1)), (9, .slice (some ⟨b1, 0, none⟩) q.length N), (10, .slice o r.length d), (5, Go.Value.slice Option.none 0 0), (4, Go.Value.slice Option.none 0 0), (0, Go.Value.slice a (List.length la) ca), (1, Go.Value.slice b (List.length lb) cb)], [(51, some b1, Row 142 q []), (50, o.map (·.block), Row 142 r j)])) (fun (k, Q, q, r, (o, d, j)) => k ≤ nb1 ∧ q.length = N ∧ Digs q ∧ Digs r ∧ Top r ∧ valL q = p2 k * Q ∧ valL la / p2 k = Q * valL lb + valL r ∧ valL r < valL lb ∧ r.length ≤ lb.length ∧ OwnA o d r j) (fun (k, Q, q, r, (o, d, j)) => k) ((nb1, 0, List.replicate N (default : U32), [], (none, 0, []))) (⟨Nat.le_refl _, List.length_replicate, Digs.zeros N, Digs.nil, Top.nil, by rw [Int.mul_zero]; exact valL_replicate N, by rw [hstart, Int.zero_mul, valL_nil]; rfl, by rw [valL_nil]; exact hB, Nat.zero_le _, OwnA.nil⟩) ⟨rfl, rfl, rfl, rfl, rfl, rfl, rfl, trivial⟩ ⟨rfl, rfl, trivial⟩ (fun ⟨k, Q, q, r, (o, d, j)⟩ => fun (hk : k ≤ nb1 ∧ q.length = N ∧ Digs q ∧ Digs r ∧ Top r ∧ valL q = p2 k * Q ∧ valL la / p2 k = Q * valL lb + valL r ∧ valL r < valL lb ∧ r.length ≤ lb.length ∧ OwnA o d r j) => ?_)
  obtain ⟨hk1, hqN, hdq, hdr, htr, hvq, hva, hrB, hrl, hob⟩ := hk
  have hoq := hown q hqN
  rcases Nat.eq_zero_or_pos k with rfl | hpos
  · rw [p2_zero, Int.ediv_one] at hva
    rw [p2_zero, Int.one_mul] at hvq
    have hcap := hoq.le
    have hcap2 := hob.le
    refine Wc.gl 16 [0] ?_
    refine Wl.freezeRow 51 rfl hoq (fun G8 hle8 hA => Wl.freezeRow 50 rfl hob (fun G9 hle9 hA2 => ?_))
    replace hA := hA.up hle9
    refine Wl.call 52 rfl T.fn82 rfl (c82 _ _ _ _ _ (by assumption) (by first | omega | (simp only [List.length_cons, List.length_nil]; omega)) (by first | assumption | exact Nat.le_refl _)) (tags_of trivial) (fun v2 G2 Ho2 hle2 hp => ?_)
    obtain ⟨tn2, rfl, htr2, rfl, rfl⟩ := hp
    refine Wl.q rfl (Qy.fieldR T.fld78_1 rfl rfl) ?_
    refine Wl.ga 6 [] ?_
    refine Ar.out2 (.inr rfl) (Ho := []) rfl (.tmp rfl) (.tmp rfl) trivial ?_
    refine ⟨⟨subA (some ⟨b1, 0, none⟩) N 0 1, o, N, d, q.take tn2, r, ?_, arr_sub hA _, hA2, hdq.take _, htr2.top, hdr, htr, ?_, hrB, ?_, hcap2, ?_⟩, rfl⟩
    · rw [htr2.len]; rfl
    · rw [htr2.val, hvq]; exact hva
    · rw [htr2.len]; exact Nat.le_trans htr2.1 hcap
    · rw [htr2.len, ← hN, ← hqN]; exact htr2.1
  · obtain ⟨e, rfl⟩ : ∃ e, k = e + 1 := ⟨k - 1, by omega⟩
    have he16 : e < 16 * la.length := by omega
    refine Wc.re 11 rfl (show _ = Value.int .i64 (e : Int) by congr 1; omega) ?_
    have hbit : 0 ≤ valL la / p2 e % 2 ∧ valL la / p2 e % 2 ≤ 1 := by omega
    have hhb := half_bit (valL la) e
    generalize hc : valL la / p2 e % 2 = c0 at *
    refine Wc.gl 16 [1] ?_
    refine Wl.call0 rfl T.fn229 rfl (c229 _ _ _ _ _ (by assumption) (by assumption) (by assumption) (by assumption)) ?_
    refine Wl.gc 10 [] ?_
    refine Wc.re 12 rfl (show _ = Value.int .u32 c0 by rw [hc]) ?_
    refine Wc.loop (ι := Nat × Int × List U32) (fun (i, c, s) => ([(13, .int .i64 (i : Int)), (12, .int .u32 c), (10, .slice o s.length d), (0, .slice a la.length ca), (1, .slice b lb.length cb), (11, Go.Value.int Go.IntKind.i64 (↑e : Int)), (9, Go.Value.slice (Option.some (Go.Addr.mk b1 0 Option.none)) (List.length q) N), (5, Go.Value.slice Option.none 0 0), (4, Go.Value.slice Option.none 0 0)], [(50, o.map (·.block), Row 142 s j), (51, Option.some b1, Go.Sl.Row (α := Go.Sl.U32) 142 (q) ([]))])) (fun (i, c, s) => i ≤ r.length ∧ s.length = r.length ∧ Digs s ∧ 0 ≤ c ∧ c ≤ 1 ∧ valL (s.take i) + pw i * c = 2 * valL (r.take i) + c0 ∧ s.drop i = r.drop i ∧ OwnA o d s j) (fun (i, c, s) => r.length - i) ((0, c0, r)) (⟨Nat.zero_le _, rfl, hdr, hbit.1, hbit.2, by rw [List.take_zero, valL_nil, pw_zero, Int.one_mul]; omega, rfl, hob⟩) ⟨rfl, rfl, rfl, rfl, rfl, rfl, rfl, rfl, rfl, trivial⟩ ⟨rfl, rfl, trivial⟩ (fun ⟨i, c, s⟩ => fun (hk : i ≤ r.length ∧ s.length = r.length ∧ Digs s ∧ 0 ≤ c ∧ c ≤ 1 ∧ valL (s.take i) + pw i * c = 2 * valL (r.take i) + c0 ∧ s.drop i = r.drop i ∧ OwnA o d s j) => ?_)
    obtain ⟨hi1, hsl, hds, hcc0, hcc1, hvs, hdrop, hos⟩ := hk
    rcases Nat.lt_or_ge i r.length with hil | hil
    · have hsi : 0 ≤ (s[((i : Nat) : Int).toNat]?.getD default).v ∧ (s[((i : Nat) : Int).toNat]?.getD default).v < 65536 := dg_lt hds (by omega)
      refine Wc.gl 19 [1] ?_
      refine Wl.q rfl (Qy.indexAddrO (α := U32) T.sl76 rfl rfl (by assumption) (by omega)) ?_
      refine Wl.q rfl (Qy.loadO 50 0 T.one142 rfl rfl (by assumption) (by omega) rfl rfl) ?_
      refine Wl.q rfl (Qy.umul32 rfl rfl (by first | assumption | omega)) ?_
      refine Wl.q rfl (Qy.uadd32 rfl rfl (by omega)) ?_
      refine Wl.gl 8 [] ?_
      refine Wl.q rfl (Qy.urem rfl rfl (by omega)) ?_
      refine Wl.q rfl (Qy.indexAddrO (α := U32) T.sl76 rfl rfl (by assumption) (by omega)) ?_
      refine Wl.setO (z := _) 50 T.size142 rfl rfl rfl (by assumption) (by omega) rfl (fun ho1 => ?_)
      refine Wl.gl 4 [] ?_
      refine Wl.q rfl (Qy.uquo32 rfl rfl (by omega)) ?_
      refine Wl.ga 9 [] ?_
      refine Ar.reH 50 (Row 142 (s.set i ⟨(c + 2 * (s[((i : Nat) : Int).toNat]?.getD default).v) % 65536⟩) j) rfl (by rw [Int.toNat_natCast]) ?_
      refine Ar.re 10 rfl (show _ = Value.slice o (s.set i ⟨(c + 2 * (s[((i : Nat) : Int).toNat]?.getD default).v) % 65536⟩).length d by rw [List.length_set]) ?_
      refine Ar.again ((i + 1, (c + 2 * (s[((i : Nat) : Int).toNat]?.getD default).v) / 65536, s.set i ⟨(c + 2 * (s[((i : Nat) : Int).toNat]?.getD default).v) % 65536⟩)) ?_ ?_ rfl ⟨rfl, rfl, rfl, rfl, rfl, rfl, rfl, rfl, rfl, trivial⟩ ⟨rfl, rfl, trivial⟩
      · refine ⟨by omega, by rw [List.length_set]; exact hsl, digs_set hds _ (by omega), by omega, by omega, twice_next (by omega) hdrop hvs, drop_set_next hdrop _, ?_⟩
        rw [Int.toNat_natCast] at ho1; exact ho1
      · show r.length - (i + 1) < r.length - i
        omega
    · have hii : i = r.length := by omega
      subst hii
      rw [take_all (by omega), take_all (Nat.le_refl _)] at hvs
      refine Wc.gc 15 [0] ?_
      refine Wc.meet (ι := List U32 × (Option Addr × Nat × List Value)) (fun (s1, (o1, d1, j1)) => ([(10, .slice o1 s1.length d1), (0, .slice a la.length ca), (1, .slice b lb.length cb), (11, Go.Value.int Go.IntKind.i64 (↑e : Int)), (9, Go.Value.slice (Option.some (Go.Addr.mk b1 0 Option.none)) (List.length q) N), (5, Go.Value.slice Option.none 0 0), (4, Go.Value.slice Option.none 0 0)], [(50, o1.map (·.block), Row 142 s1 j1), (51, Option.some b1, Go.Sl.Row (α := Go.Sl.U32) 142 (q) ([]))])) (fun (s1, (o1, d1, j1)) => Digs s1 ∧ Top s1 ∧ valL s1 = 2 * valL r + c0 ∧ s1.length ≤ r.length + 1 ∧ OwnA o1 d1 s1 j1) ?_ (fun ⟨s1, (o1, d1, j1)⟩ => fun (hk : Digs s1 ∧ Top s1 ∧ valL s1 = 2 * valL r + c0 ∧ s1.length ≤ r.length + 1 ∧ OwnA o1 d1 s1 j1) => ?_)
      · by_cases hcy : 0 < c
        · have hcE : c = 1 := by omega
          subst hcE
          rw [Int.mul_one, ← hsl] at hvs
          refine Wc.gl 10 [1] ?_
          refine Wl.lit (α := U32) 52 [⟨1⟩] rfl T.sl76 T.el142 rfl rfl rfl rfl rfl (fun b2 => ?_)
          refine Wl.append (α := U32) 50 rfl T.sl76 T.el142 rfl rfl rfl (by first | assumption | exact OwnA.nil | exact OwnA.made (by simp)) (Src.row 52 rfl) (by first | omega | (simp only [List.length_append, List.length_cons, List.length_nil, maxLen]; omega)) (by first | omega | (simp only [List.length_append, List.length_cons, List.length_nil, maxLen]; omega)) (fun a1 c1 junk1 ho1 => ?_)
          refine Wl.ga 2 [] ?_
          refine Ar.meet ((s ++ [⟨1⟩], (a1, c1, junk1))) ?_ rfl ⟨rfl, rfl, rfl, rfl, rfl, rfl, rfl, trivial⟩ ⟨rfl, rfl, trivial⟩
          refine ⟨hds.append (Digs.one (by decide)), ?_, by rw [valL_snoc, Int.mul_one]; exact hvs, by rw [List.length_append, hsl]; exact Nat.le_refl _, ho1⟩
          refine .inr ?_
          rw [List.length_append, List.length_singleton, Nat.add_sub_cancel, List.getElem?_append_right (Nat.le_refl _), Nat.sub_self]
          decide
        · have hcE : c = 0 := by omega
          subst hcE
          rw [Int.mul_zero, Int.add_zero] at hvs
          refine Wc.ga 8 [0] ?_
          refine Ar.meet ((s, (o, d, j))) ?_ rfl ⟨rfl, rfl, rfl, rfl, rfl, rfl, rfl, trivial⟩ ⟨rfl, rfl, trivial⟩
          refine ⟨hds, ?_, hvs, by omega, hos⟩
          by_cases hr0 : r = []
          · left
            rw [hr0] at hsl
            exact List.eq_nil_of_length_eq_zero hsl
          · refine top_of_ge hds (fun e0 => hr0 (List.eq_nil_of_length_eq_zero (by rw [← hsl, e0]; rfl))) ?_
            have := top_ge hdr htr hr0
            have h0 := valL_nonneg hdr
            rw [hsl, hvs]; omega
      clear hvs hos hds hsl hdrop hcc0 hcc1
      obtain ⟨hd1, ht1, hv1, hsl1, ho1⟩ := hk
      have heq : e / 16 < q.length := by omega
      have hdz := dig_zero hdq heq hvq
      have hroom := dig_room hdq heq hdz
      have hdgq := dg_lt hdq heq
      refine Wc.gl 4 [] ?_
      refine Wl.callB 60 rfl T.fn138 rfl (fun Gx hGx hgx => c138 Gx _ _ _ _ s1 lb (Arr.own hgx 50 rfl ho1) (hb.up hGx) hd1 db ht1 tb (by omega) (by omega)) (fun v5 Gx5 G5 Ho5 hlx5 hp => ?_)
      obtain ⟨rfl, rfl, rfl⟩ := hp
      by_cases hge : valL lb ≤ valL s1
      · have hcmp : 0 ≤ cmpZ (valL s1) (valL lb) := by
          rcases Int.lt_or_eq_of_le hge with h | h
          · rw [cmpZ_gt h]; decide
          · rw [cmpZ_eq h.symm]; decide
        have hll := len_le_of_val hd1 db tb hge
        refine Wl.gl 8 [1] ?_
        refine Wl.callB 50 rfl T.fn218 rfl (fun Gx hGx hgx => c218 Gx _ _ _ _ s1 lb (Arr.own hgx 50 rfl ho1) (hb.up hGx) hd1 db (by omega) hll hge) (fun v7 Gx7 G7 Ho7 hlx7 hp => ?_)
        obtain ⟨mo, mc, mr, mj, rfl, hmo, rfl, rfl, hmd, hmv, hml⟩ := hp
        have hmc := hmo.le
        skip
        refine Wl.callB 70 rfl T.fn82 rfl (fun Gx hGx hgx => c82 Gx _ _ _ mr (Arr.own hgx 50 rfl hmo) (by omega) hmc) (fun v8 Gx8 G8 Ho8 hlx8 hp => ?_)
        obtain ⟨tn, rfl, htm, rfl, rfl⟩ := hp
        refine Wl.q rfl (Qy.fieldR T.fld78_1 rfl rfl) ?_
        refine Wl.gc 3 [] ?_
        refine Wc.draw [51, 50] [(50, 13), (51, 13)] T.mixed rfl ?_
        refine Gm.q 0 [] (by kernel_rfl) rfl rfl (Qy.move rfl) ?_
        refine Gm.q 1 [] (by kernel_rfl) rfl rfl (Qy.move rfl) ?_
        refine Gm.q 2 [] (by kernel_rfl) rfl rfl (Qy.quoP rfl rfl (by omega)) ?_
        refine Gm.q 3 [] (by kernel_rfl) rfl rfl (Qy.move rfl) ?_
        refine Gm.q 4 [] (by kernel_rfl) rfl rfl (Qy.move rfl) ?_
        refine Gm.q 5 [] (by kernel_rfl) rfl rfl (Qy.quoP rfl rfl (by omega)) ?_
        refine Gm.q 6 [] (by kernel_rfl) rfl rfl (Qy.indexAddrO (α := U32) T.sl76 rfl rfl (by assumption) (by omega)) ?_
        refine Gm.q 7 [51] (by kernel_rfl) rfl rfl (Qy.loadO 51 0 T.one142 rfl rfl (by assumption) (by omega) rfl rfl) ?_
        refine Gm.q 8 [] (by kernel_rfl) rfl rfl (Qy.move rfl) ?_
        refine Gm.q 9 [] (by kernel_rfl) rfl rfl (Qy.urem rfl rfl (by omega)) ?_
        refine Gm.q 10 [] (by kernel_rfl) rfl rfl (Qy.shl rfl rfl (by omega)) ?_
        refine Gm.q 11 [] (by kernel_rfl) rfl rfl (Qy.orW rfl rfl) ?_
        refine Gm.q 12 [] (by kernel_rfl) rfl rfl (Qy.indexAddrO (α := U32) T.sl76 rfl rfl (by assumption) (by omega)) ?_
        refine Gm.one 13 ⟨rfl, rfl, trivial⟩ (by first | exact Imm.le_refl _ | assumption) (by kernel_rfl) rfl ?_
        refine Wl.setO (z := _) 51 T.size142 rfl rfl rfl (by assumption) (by omega) rfl (fun ho2 => ?_)
        refine Wl.on0 ?_
        refine Gm.doneA (by kernel_rfl) trivial (by first | exact Imm.le_refl _ | assumption) ?_
        refine Ar.ga 7 [] ?_
        refine Ar.reH 51 (Row 142 (q.set (e / 16) ⟨dg q (e / 16) + p2 (e % 16)⟩) []) rfl ?_ ?_
        · show Row 142 (q.set ((e : Int) / 16).toNat ⟨bits BinOp.or IntKind.u32 (q[((e : Int) / 16).toNat]?.getD default).v (IntKind.u32.wrap (1 * 2 ^ min ((e : Int) % 16).toNat IntKind.u32.bits))⟩) [] = _
          rw [or_dig hdgq hdz, show ((e : Int) / 16).toNat = e / 16 by omega]
        refine Ar.reH 50 (Row 142 (mr.take tn) (flat (mr.drop tn) ++ mj)) rfl (row_take 142 mr mj tn) ?_
        refine Ar.re 10 rfl (show _ = Value.slice mo (mr.take tn).length mc by rw [subA_zero_own hmo, htm.len]; rfl) ?_
        refine Ar.re 9 rfl (show _ = Value.slice (some ⟨b1, 0, none⟩) (q.set (e / 16) ⟨dg q (e / 16) + p2 (e % 16)⟩).length N by rw [List.length_set]) ?_
        refine Ar.again ((e, 2 * Q + 1, q.set (e / 16) ⟨dg q (e / 16) + p2 (e % 16)⟩, mr.take tn, (mo, mc, flat (mr.drop tn) ++ mj))) ?_ ?_ rfl ⟨rfl, rfl, rfl, rfl, rfl, rfl, rfl, trivial⟩ ⟨rfl, rfl, trivial⟩
        · have hvm := htm.val
          have hlt : valL (mr.take tn) < valL lb := by rw [hvm, hmv]; omega
          refine ⟨by omega, by rw [List.length_set]; exact hqN, digs_set hdq _ hroom, hmd.take _, htm.top, long_yes heq hvq, ?_, hlt, len_le_of_val db (hmd.take _) htm.top (Int.le_of_lt hlt), own_take hmo tn⟩
          rw [hhb, hva, hvm, hmv, hv1, Int.add_mul, Int.one_mul, Int.mul_add, ← Int.mul_assoc]; omega
        · show e < e + 1
          omega
      · have hcmp : ¬ 0 ≤ cmpZ (valL s1) (valL lb) := by rw [cmpZ_lt (by omega)]; decide
        have hll : s1.length ≤ lb.length := len_le_of_val db hd1 ht1 (by omega)
        refine Wl.ga 12 [0] ?_
        refine Ar.again ((e, 2 * Q, q, s1, (o1, d1, j1))) ?_ ?_ rfl ⟨rfl, rfl, rfl, rfl, rfl, rfl, rfl, trivial⟩ ⟨rfl, rfl, trivial⟩
        · refine ⟨by omega, hqN, hdq, hd1, ht1, ?_, ?_, by omega, hll, ho1⟩
          · rw [hvq, p2_succ, Int.mul_left_comm (p2 e) 2 Q, Int.mul_assoc]
          · rw [hhb, hva, Int.mul_add, ← Int.mul_assoc, hv1]; omega
        · show e < e + 1
          omega
end Go.Proofs.YtbppmiimeccclaaGreat
set_option maxRecDepth 100000
set_option linter.unusedVariables false
namespace Go.Proofs.YtbppmiimeccclaaGreat
open Go Go.Sl
set_option maxHeartbeats 4000000
section
variable {B : Bs} {e : Env} {D : List Deferred} {H : Hp} {G : Imm}
/-- a block under another tag -/
theorem retagH {a : Act} {w : World} (hh : Hold B ⟨e, D, H, G⟩ a w) (t t' : Nat) {k : Option Nat} {o : Obj} (ht : H.get t = some (k, o)) (hn : t ≠ t') (hk : H.get t' = none ∨ True) : Hold B ⟨e, D, (t', k, o) :: (t, none, o) :: H, G⟩ a w := by
  have key : ∀ i b o', Hp.get ((t', k, o) :: (t, none, o) :: H) i = some (some b, o') → (i = t' ∧ H.get t = some (some b, o')) ∨ (i ≠ t' ∧ i ≠ t ∧ H.get i = some (some b, o')) := fun i b o' hx => by
    rw [Hp.get_cons] at hx
    split at hx
    · rename_i hi; left; refine ⟨hi.symm, ?_⟩; rw [ht]; exact hx
    · rename_i hi
      rw [Hp.get_cons] at hx
      split at hx
      · simp at hx
      · rename_i hi2; exact .inr ⟨fun h => hi h.symm, fun h => hi2 h.symm, hx⟩
  refine ⟨hh.size, hh.defers, hh.env, ⟨?_, ?_, hh.mem.imm, ?_⟩, hh.upd, ?_, hh.le, hh.new⟩
  · intro i b o' hx
    rcases key i b o' hx with ⟨_, h⟩ | ⟨_, _, h⟩
    · exact hh.mem.own _ b o' h
    · exact hh.mem.own _ b o' h
  · intro i i' b o1 o2 hx hy
    rcases key i b o1 hx with ⟨h1, h2⟩ | ⟨h1, h1', h2⟩ <;> rcases key i' b o2 hy with ⟨h3, h4⟩ | ⟨h3, h3', h4⟩
    · rw [h1, h3]
    · exact absurd (hh.mem.one _ _ b _ _ h2 h4).symm h3'
    · exact absurd (hh.mem.one _ _ b _ _ h2 h4) h1'
    · exact hh.mem.one _ _ b _ _ h2 h4
  · intro i b o' hx
    rcases key i b o' hx with ⟨_, h⟩ | ⟨_, _, h⟩
    · exact hh.mem.off _ b o' h
    · exact hh.mem.off _ b o' h
  · intro i b o' hx
    rcases key i b o' hx with ⟨_, h⟩ | ⟨_, _, h⟩
    · exact hh.mine _ b o' h
    · exact hh.mine _ b o' h
theorem Ar.retag {x : Exit} {Q : Exit → Act → World → Prop} (t t' : Nat) {k : Option Nat} {o : Obj} (ht : H.get t = some (k, o)) (hn : Nat.beq t t' = false) (h : Ar Q x B ⟨e, D, (t', k, o) :: (t, none, o) :: H, G⟩) : Ar Q x B ⟨e, D, H, G⟩ :=
  fun a w hh => h a w (retagH hh t t' ht (fun e => by subst e; simp at hn) (.inr trivial))
end
/-- quotient and remainder of digits, the remainder no longer than what divides -/
def DivOkL (G : Imm) (la lb : List U32) (v : Value) : Prop := ∃ (qa ra : Option Addr) (qc rc : Nat) (lq lr : List U32), v = .tuple #[.slice qa lq.length qc, .slice ra lr.length rc] ∧ Arr G qa lq ∧ Arr G ra lr ∧ Digs lq ∧ Digs lr ∧
  valL la = valL lq * valL lb + valL lr ∧ valL lr < valL lb ∧ lq.length ≤ qc ∧ lr.length ≤ rc ∧ lq.length ≤ la.length ∧ lr.length ≤ lb.length
theorem c219 (G : Imm) (a b : Option Addr) (ca cb : Nat) (la lb : List U32) (ha : Arr G a la) (hb : Arr G b lb) (da : Digs la) (db : Digs lb) (tb : Top lb) (h1 : la.length ≤ 536870912) (h2 : lb.length ≤ 536870912) (hB : 0 < valL lb) :
    Does Tryz.prog 219 [.slice a la.length ca, .slice b lb.length cb] G [] (fun v G' Ho => DivOkL G' la lb v ∧ Ho = []) := by
  have key : Does Tryz.prog 219 [.slice a la.length ca, .slice b lb.length cb] G [] (fun v G' Ho => DivOk G' la lb v ∧ Ho = []) := by
    by_cases h : lb.length = 1
    · exact c219S G a b ca cb la lb ha hb da db tb h1 h
    · exact c219L G a b ca cb la lb ha hb da db tb h1 h2 h hB
  refine key.mono fun v G' Ho _ ⟨⟨qa, ra, qc, rc, lq, lr, q1, q2, q3, q4, q5, q6, q7, q8, q9, q10, q11, q12⟩, q13⟩ => ?_
  exact ⟨⟨qa, ra, qc, rc, lq, lr, q1, q2, q3, q4, q6, q8, q9, q10, q11, q12, len_le_of_val db q6 q7 (Int.le_of_lt q9)⟩, q13⟩
theorem Num.len {G : Imm} {x : IV} {z : Int} (h : Num G x z) {m : Nat} (hz : (z.natAbs : Int) < pw m) : x.n ≤ m := by
  obtain ⟨l, h1, _, _, h4⟩ := h
  rw [← h1]; exact h4.len hz
theorem num_sub (G : Imm) (x y : IV) (zx zy : Int) (hx : Num G x zx) (hy : Num G y zy) (h1 : x.n ≤ 1073741824) (h2 : y.n ≤ 1073741824) :
    Does Tryz.prog 221 [.agg (Cells.enc x).toArray, .agg (Cells.enc y).toArray] G [] (fun v G' Ho => ∃ r : IV, v = .agg (Cells.enc r).toArray ∧ Num G' r (zx - zy) ∧ Ho = []) := by
  obtain ⟨n1, a, k1, ca⟩ := x
  obtain ⟨n2, b, k2, cb⟩ := y
  obtain ⟨la, hl, hlc, hA, hI⟩ := hx
  obtain ⟨lb, hl', hlc', hA', hI'⟩ := hy
  simp only at hl hlc hA hI hl' hlc' hA' hI' h1 h2
  subst hl hl'
  exact c221 G n1 n2 a b ca cb la lb zx zy hA hA' hI hI' h1 h2 hlc'
theorem sgZ_lt1N (z : Int) : ((sgZ z).natAbs : Int) < pw 1 := by have := sgZ_bd z; have : pw 1 = 65536 := (by decide); omega
theorem trim_pos {l : List U32} {n : Nat} (h : TrimTo l n) (hd : Digs l) (hn : 0 < n) : 0 < valL l := by
  have h1 := h.len
  have := top_pos (hd.take n) h.top (fun e => by rw [e] at h1; simp at h1; omega)
  rwa [h.val] at this
theorem trim_zero {l : List U32} (h : TrimTo l 0) : valL l = 0 := by
  have := h.val
  rw [List.take_zero, valL_nil] at this
  exact this.symm
theorem dm_trueN {n1 : Bool} {lr1 : List U32} {tm : Nat} {q x y : Int} (hx : x = q * y + (if n1 = true then -valL lr1 else valL lr1)) (hy : y ≠ 0) (hl : valL lr1 < y.natAbs) (h : (n1 && decide (0 < tm)) = true) (ht : TrimTo lr1 tm) (hd : Digs lr1) :
    q - sgZ y = x / y ∧ (if n1 = true then -valL lr1 else valL lr1) + (y.natAbs : Int) = x % y := by
  rw [Bool.and_eq_true, decide_eq_true_eq] at h
  have hp := trim_pos ht hd h.2
  have e := h.1
  subst e
  rw [if_pos rfl] at hx ⊢
  exact ediv_of hy (dm_next hx) (by omega) (by omega)
theorem dm_falseN {n1 : Bool} {lr1 : List U32} {tm : Nat} {q x y : Int} (hx : x = q * y + (if n1 = true then -valL lr1 else valL lr1)) (hy : y ≠ 0) (hl : valL lr1 < y.natAbs) (h : (n1 && decide (0 < tm)) = false) (ht : TrimTo lr1 tm) (hd : Digs lr1) :
    q = x / y ∧ (if n1 = true then -valL lr1 else valL lr1) = x % y := by
  have hn := valL_nonneg hd
  refine ediv_of hy hx ?_ ?_
  · cases n1 with
    | false => rw [if_neg (by decide)]; exact hn
    | true =>
      have h0 : tm = 0 := by
        rw [Bool.true_and, decide_eq_false_iff_not] at h
        omega
      subst h0
      rw [if_pos rfl, trim_zero ht]
      omega
  · split <;> omega
attribute [local irreducible] valL pw cmpZ p2
theorem c202 (G : Imm) (n1 n2 : Bool) (a b : Option Addr) (ca cb : Nat) (la lb : List U32) (x y : Int) (ha : Arr G a la) (hb : Arr G b lb) (hx : IsInt n1 la x) (hy : IsInt n2 lb y) (h1 : la.length ≤ 536870912) (h2 : lb.length ≤ 536870912) (hcb : lb.length ≤ cb) (hy0 : y ≠ 0) :
    Does Tryz.prog 202 [.agg #[.bool n1, .slice a la.length ca], .agg #[.bool n2, .slice b lb.length cb]] G [] (fun v G' Ho => ∃ q r : IV, v = .tuple #[.agg (Cells.enc q).toArray, .agg (Cells.enc r).toArray] ∧ Num G' q (x / y) ∧ Num G' r (x % y) ∧ Ho = []) := by
  have da := hx.digs
  have db := hy.digs
  have tb := hy.top
  have va := hx.abs
  have vb := hy.abs
  have hB : 0 < valL lb := by omega
  refine Does.enter Tryz.func202 rfl Tryz.ntmps202 rfl (fun w => ?_)
  refine Wc.gl 2 [] ?_
  refine Wl.box 0 rfl rfl rfl (fun b1 => ?_)
  refine Wl.box 1 rfl rfl rfl (fun b2 => ?_)
  refine Wl.alloc 2 rfl T.zero78 (fun b3 => ?_)
  refine Wl.alloc 3 rfl T.zero78 (fun b4 => ?_)
  refine Wl.gl 8 [0, 1] ?_
  refine Wl.call 4 rfl T.fn219 rfl (c219 _ _ _ _ _ _ _ (by assumption) (by assumption) (by assumption) (by assumption) (by assumption) (by assumption) (by assumption) (by assumption)) (tags_of trivial) (fun v1 G1 Ho1 hle1 hp => ?_)
  obtain ⟨⟨qa1, ra1, qc1, rc1, lq1, lr1, rfl, hqa1, hra1, dq1, dr1, hvq1, hlt1, hqc1, hrc1, hql1, hrl1⟩, rfl⟩ := hp
  replace ha := ha.up hle1
  replace hb := hb.up hle1
  refine Wl.gc 7 [] ?_
  refine Wc.meet (ι := Nat × Nat × Nat × Nat) (fun (tn, tm, p, q) => ([(8, .pointer (some ⟨p, 0, none⟩)), (9, .pointer (some ⟨q, 0, none⟩)), (5, Go.Value.pointer (Option.some (Go.Addr.mk b4 0 Option.none))), (4, Go.Value.pointer (Option.some (Go.Addr.mk b3 0 Option.none))), (3, Go.Value.pointer (Option.some (Go.Addr.mk b2 0 Option.none)))], [(60, some p, .cells #[.bool (decide (n1 ≠ n2) && decide (0 < tn)), .slice (subA qa1 qc1 0 1) tn qc1] 78), (61, some q, .cells #[.bool (n1 && decide (0 < tm)), .slice (subA ra1 rc1 0 1) tm rc1] 78), (3, Option.some b4, Go.Obj.cells #[Go.Value.bool Bool.false, Go.Value.slice Option.none 0 0] 78), (2, Option.some b3, Go.Obj.cells #[Go.Value.bool Bool.false, Go.Value.slice Option.none 0 0] 78), (1, Option.some b2, Go.Obj.cells #[Go.Value.bool n2, Go.Value.slice b (List.length lb) cb] 78), (0, Option.some b1, Go.Obj.cells #[Go.Value.bool n1, Go.Value.slice a (List.length la) ca] 78)])) (fun (tn, tm, p, q) => TrimTo lq1 tn ∧ TrimTo lr1 tm) ?_ (fun ⟨tn, tm, p, q⟩ => fun (hk : TrimTo lq1 tn ∧ TrimTo lr1 tm) => ?_)
  · refine Wc.draw [0, 1, 2, 3] [] T.mixed rfl ?_
    refine Gm.q 0 [] (by kernel_rfl) rfl rfl (Qy.fieldAddr T.fa78_0 rfl) ?_
    refine Gm.q 1 [0] (by kernel_rfl) rfl rfl (Qy.load 0 T.one4 rfl rfl rfl) ?_
    refine Gm.q 2 [] (by kernel_rfl) rfl rfl (Qy.fieldAddr T.fa78_0 rfl) ?_
    refine Gm.q 3 [1] (by kernel_rfl) rfl rfl (Qy.load 1 T.one4 rfl rfl rfl) ?_
    refine Gm.q 4 [] (by kernel_rfl) rfl rfl (Qy.neqB T.u4 rfl rfl) ?_
    refine Gm.q 5 [] (by kernel_rfl) rfl rfl (Qy.move rfl) ?_
    refine Gm.q 7 [] (by kernel_rfl) rfl rfl (Qy.fieldAddr T.fa78_0 rfl) ?_
    refine Gm.q 8 [0] (by kernel_rfl) rfl rfl (Qy.load 0 T.one4 rfl rfl rfl) ?_
    refine Gm.q 9 [] (by kernel_rfl) rfl rfl (Qy.move rfl) ?_
    refine Gm.three 6 11 12 ⟨rfl, rfl, rfl, rfl, trivial⟩ (by first | exact Imm.le_refl _ | assumption | (refine Imm.le_trans ?_ (by assumption); first | assumption | (refine Imm.le_trans ?_ (by assumption); assumption))) (by kernel_rfl) rfl rfl rfl ?_ ?_ ?_
    refine Wl.call 4 rfl T.fn82 rfl (c82 _ _ _ _ _ (by assumption) (by omega) (by assumption)) (tags_of trivial) (fun v2 G2 Ho2 hle2 hp => ?_)
    obtain ⟨tn2, rfl, htr2, rfl, rfl⟩ := hp
    refine Wl.on0 ?_
    refine Gm.three 10 11 12 ⟨rfl, rfl, rfl, rfl, trivial⟩ (by first | exact Imm.le_refl _ | assumption | (refine Imm.le_trans ?_ (by assumption); first | assumption | (refine Imm.le_trans ?_ (by assumption); assumption))) (by kernel_rfl) rfl rfl rfl ?_ ?_ ?_
    refine Wl.call 4 rfl T.fn82 rfl (c82 _ _ _ _ _ (by assumption) (by omega) (by assumption)) (tags_of trivial) (fun v3 G3 Ho3 hle3 hp => ?_)
    obtain ⟨tn3, rfl, htr3, rfl, rfl⟩ := hp
    refine Wl.on0 ?_
    refine Gm.two 11 12 ⟨rfl, rfl, rfl, rfl, trivial⟩ (by first | exact Imm.le_refl _ | assumption | (refine Imm.le_trans ?_ (by assumption); first | assumption | (refine Imm.le_trans ?_ (by assumption); assumption))) (by kernel_rfl) rfl rfl ?_ ?_
    refine Wl.alloc 4 rfl T.zero78 (fun b5 => ?_)
    refine Wl.on0 ?_
    refine Gm.one 12 ⟨rfl, rfl, rfl, rfl, trivial⟩ (by first | exact Imm.le_refl _ | assumption | (refine Imm.le_trans ?_ (by assumption); first | assumption | (refine Imm.le_trans ?_ (by assumption); assumption))) (by kernel_rfl) rfl ?_
    refine Wl.alloc 5 rfl T.zero78 (fun b6 => ?_)
    refine Wl.on0 ?_
    refine Gm.one 13 ⟨rfl, rfl, rfl, rfl, trivial⟩ (by first | exact Imm.le_refl _ | assumption | (refine Imm.le_trans ?_ (by assumption); first | assumption | (refine Imm.le_trans ?_ (by assumption); assumption))) (by kernel_rfl) rfl ?_
    refine Wl.storeAll 4 T.size78 rfl rfl rfl rfl rfl rfl ?_
    refine Wl.on0 ?_
    refine Gm.one 14 ⟨rfl, rfl, rfl, rfl, trivial⟩ (by first | exact Imm.le_refl _ | assumption | (refine Imm.le_trans ?_ (by assumption); first | assumption | (refine Imm.le_trans ?_ (by assumption); assumption))) (by kernel_rfl) rfl ?_
    refine Wl.storeAll 5 T.size78 rfl rfl rfl rfl rfl rfl ?_
    refine Wl.on0 ?_
    refine Gm.doneA (by kernel_rfl) ⟨rfl, rfl, rfl, rfl, trivial⟩ (by first | exact Imm.le_refl _ | assumption | (refine Imm.le_trans ?_ (by assumption); first | assumption | (refine Imm.le_trans ?_ (by assumption); assumption))) ?_
    rotate_left
    refine Wl.alloc 4 rfl T.zero78 (fun b5 => ?_)
    refine Wl.on0 ?_
    refine Gm.one 11 ⟨rfl, rfl, rfl, rfl, trivial⟩ (by first | exact Imm.le_refl _ | assumption | (refine Imm.le_trans ?_ (by assumption); first | assumption | (refine Imm.le_trans ?_ (by assumption); assumption))) (by kernel_rfl) rfl ?_
    refine Wl.alloc 5 rfl T.zero78 (fun b6 => ?_)
    refine Wl.on0 ?_
    refine Gm.one 13 ⟨rfl, rfl, rfl, rfl, trivial⟩ (by first | exact Imm.le_refl _ | assumption | (refine Imm.le_trans ?_ (by assumption); first | assumption | (refine Imm.le_trans ?_ (by assumption); assumption))) (by kernel_rfl) rfl ?_
    refine Wl.storeAll 5 T.size78 rfl rfl rfl rfl rfl rfl ?_
    refine Wl.on0 ?_
    refine Gm.one 14 ⟨rfl, rfl, rfl, rfl, trivial⟩ (by first | exact Imm.le_refl _ | assumption | (refine Imm.le_trans ?_ (by assumption); first | assumption | (refine Imm.le_trans ?_ (by assumption); assumption))) (by kernel_rfl) rfl ?_
    refine Wl.storeAll 4 T.size78 rfl rfl rfl rfl rfl rfl ?_
    refine Wl.on0 ?_
    refine Gm.doneA (by kernel_rfl) ⟨rfl, rfl, rfl, rfl, trivial⟩ (by first | exact Imm.le_refl _ | assumption | (refine Imm.le_trans ?_ (by assumption); first | assumption | (refine Imm.le_trans ?_ (by assumption); assumption))) ?_
    rotate_left
    refine Wl.alloc 4 rfl T.zero78 (fun b5 => ?_)
    refine Wl.on0 ?_
    refine Gm.two 10 12 ⟨rfl, rfl, rfl, rfl, trivial⟩ (by first | exact Imm.le_refl _ | assumption | (refine Imm.le_trans ?_ (by assumption); first | assumption | (refine Imm.le_trans ?_ (by assumption); assumption))) (by kernel_rfl) rfl rfl ?_ ?_
    refine Wl.call 5 rfl T.fn82 rfl (c82 _ _ _ _ _ (by assumption) (by omega) (by assumption)) (tags_of trivial) (fun v3 G3 Ho3 hle3 hp => ?_)
    obtain ⟨tn3, rfl, htr3, rfl, rfl⟩ := hp
    refine Wl.on0 ?_
    refine Gm.one 12 ⟨rfl, rfl, rfl, rfl, trivial⟩ (by first | exact Imm.le_refl _ | assumption | (refine Imm.le_trans ?_ (by assumption); first | assumption | (refine Imm.le_trans ?_ (by assumption); assumption))) (by kernel_rfl) rfl ?_
    refine Wl.alloc 5 rfl T.zero78 (fun b6 => ?_)
    refine Wl.on0 ?_
    refine Gm.one 13 ⟨rfl, rfl, rfl, rfl, trivial⟩ (by first | exact Imm.le_refl _ | assumption | (refine Imm.le_trans ?_ (by assumption); first | assumption | (refine Imm.le_trans ?_ (by assumption); assumption))) (by kernel_rfl) rfl ?_
    refine Wl.storeAll 4 T.size78 rfl rfl rfl rfl rfl rfl ?_
    refine Wl.on0 ?_
    refine Gm.one 14 ⟨rfl, rfl, rfl, rfl, trivial⟩ (by first | exact Imm.le_refl _ | assumption | (refine Imm.le_trans ?_ (by assumption); first | assumption | (refine Imm.le_trans ?_ (by assumption); assumption))) (by kernel_rfl) rfl ?_
    refine Wl.storeAll 5 T.size78 rfl rfl rfl rfl rfl rfl ?_
    refine Wl.on0 ?_
    refine Gm.doneA (by kernel_rfl) ⟨rfl, rfl, rfl, rfl, trivial⟩ (by first | exact Imm.le_refl _ | assumption | (refine Imm.le_trans ?_ (by assumption); first | assumption | (refine Imm.le_trans ?_ (by assumption); assumption))) ?_
    rotate_left
    refine Wl.alloc 5 rfl T.zero78 (fun b6 => ?_)
    refine Wl.on0 ?_
    refine Gm.one 10 ⟨rfl, rfl, rfl, rfl, trivial⟩ (by first | exact Imm.le_refl _ | assumption | (refine Imm.le_trans ?_ (by assumption); first | assumption | (refine Imm.le_trans ?_ (by assumption); assumption))) (by kernel_rfl) rfl ?_
    refine Wl.call 6 rfl T.fn82 rfl (c82 _ _ _ _ _ (by assumption) (by omega) (by assumption)) (tags_of trivial) (fun v3 G3 Ho3 hle3 hp => ?_)
    obtain ⟨tn3, rfl, htr3, rfl, rfl⟩ := hp
    refine Wl.on0 ?_
    refine Gm.one 13 ⟨rfl, rfl, rfl, rfl, trivial⟩ (by first | exact Imm.le_refl _ | assumption | (refine Imm.le_trans ?_ (by assumption); first | assumption | (refine Imm.le_trans ?_ (by assumption); assumption))) (by kernel_rfl) rfl ?_
    refine Wl.storeAll 4 T.size78 rfl rfl rfl rfl rfl rfl ?_
    refine Wl.on0 ?_
    refine Gm.one 14 ⟨rfl, rfl, rfl, rfl, trivial⟩ (by first | exact Imm.le_refl _ | assumption | (refine Imm.le_trans ?_ (by assumption); first | assumption | (refine Imm.le_trans ?_ (by assumption); assumption))) (by kernel_rfl) rfl ?_
    refine Wl.storeAll 5 T.size78 rfl rfl rfl rfl rfl rfl ?_
    refine Wl.on0 ?_
    refine Gm.doneA (by kernel_rfl) ⟨rfl, rfl, rfl, rfl, trivial⟩ (by first | exact Imm.le_refl _ | assumption | (refine Imm.le_trans ?_ (by assumption); first | assumption | (refine Imm.le_trans ?_ (by assumption); assumption))) ?_
    rotate_left
    refine Wl.alloc 4 rfl T.zero78 (fun b5 => ?_)
    refine Wl.on0 ?_
    refine Gm.two 10 11 ⟨rfl, rfl, rfl, rfl, trivial⟩ (by first | exact Imm.le_refl _ | assumption | (refine Imm.le_trans ?_ (by assumption); first | assumption | (refine Imm.le_trans ?_ (by assumption); assumption))) (by kernel_rfl) rfl rfl ?_ ?_
    refine Wl.call 5 rfl T.fn82 rfl (c82 _ _ _ _ _ (by assumption) (by omega) (by assumption)) (tags_of trivial) (fun v3 G3 Ho3 hle3 hp => ?_)
    obtain ⟨tn3, rfl, htr3, rfl, rfl⟩ := hp
    refine Wl.on0 ?_
    refine Gm.one 11 ⟨rfl, rfl, rfl, rfl, trivial⟩ (by first | exact Imm.le_refl _ | assumption | (refine Imm.le_trans ?_ (by assumption); first | assumption | (refine Imm.le_trans ?_ (by assumption); assumption))) (by kernel_rfl) rfl ?_
    refine Wl.alloc 5 rfl T.zero78 (fun b6 => ?_)
    refine Wl.on0 ?_
    refine Gm.one 13 ⟨rfl, rfl, rfl, rfl, trivial⟩ (by first | exact Imm.le_refl _ | assumption | (refine Imm.le_trans ?_ (by assumption); first | assumption | (refine Imm.le_trans ?_ (by assumption); assumption))) (by kernel_rfl) rfl ?_
    refine Wl.storeAll 5 T.size78 rfl rfl rfl rfl rfl rfl ?_
    refine Wl.on0 ?_
    refine Gm.one 14 ⟨rfl, rfl, rfl, rfl, trivial⟩ (by first | exact Imm.le_refl _ | assumption | (refine Imm.le_trans ?_ (by assumption); first | assumption | (refine Imm.le_trans ?_ (by assumption); assumption))) (by kernel_rfl) rfl ?_
    refine Wl.storeAll 4 T.size78 rfl rfl rfl rfl rfl rfl ?_
    refine Wl.on0 ?_
    refine Gm.doneA (by kernel_rfl) ⟨rfl, rfl, rfl, rfl, trivial⟩ (by first | exact Imm.le_refl _ | assumption | (refine Imm.le_trans ?_ (by assumption); first | assumption | (refine Imm.le_trans ?_ (by assumption); assumption))) ?_
    rotate_left
    refine Wl.alloc 5 rfl T.zero78 (fun b6 => ?_)
    refine Wl.on0 ?_
    refine Gm.one 10 ⟨rfl, rfl, rfl, rfl, trivial⟩ (by first | exact Imm.le_refl _ | assumption | (refine Imm.le_trans ?_ (by assumption); first | assumption | (refine Imm.le_trans ?_ (by assumption); assumption))) (by kernel_rfl) rfl ?_
    refine Wl.call 6 rfl T.fn82 rfl (c82 _ _ _ _ _ (by assumption) (by omega) (by assumption)) (tags_of trivial) (fun v3 G3 Ho3 hle3 hp => ?_)
    obtain ⟨tn3, rfl, htr3, rfl, rfl⟩ := hp
    refine Wl.on0 ?_
    refine Gm.one 13 ⟨rfl, rfl, rfl, rfl, trivial⟩ (by first | exact Imm.le_refl _ | assumption | (refine Imm.le_trans ?_ (by assumption); first | assumption | (refine Imm.le_trans ?_ (by assumption); assumption))) (by kernel_rfl) rfl ?_
    refine Wl.storeAll 5 T.size78 rfl rfl rfl rfl rfl rfl ?_
    refine Wl.on0 ?_
    refine Gm.one 14 ⟨rfl, rfl, rfl, rfl, trivial⟩ (by first | exact Imm.le_refl _ | assumption | (refine Imm.le_trans ?_ (by assumption); first | assumption | (refine Imm.le_trans ?_ (by assumption); assumption))) (by kernel_rfl) rfl ?_
    refine Wl.storeAll 4 T.size78 rfl rfl rfl rfl rfl rfl ?_
    refine Wl.on0 ?_
    refine Gm.doneA (by kernel_rfl) ⟨rfl, rfl, rfl, rfl, trivial⟩ (by first | exact Imm.le_refl _ | assumption | (refine Imm.le_trans ?_ (by assumption); first | assumption | (refine Imm.le_trans ?_ (by assumption); assumption))) ?_
    rotate_left
    refine Wl.alloc 4 rfl T.zero78 (fun b5 => ?_)
    refine Wl.on0 ?_
    refine Gm.two 6 12 ⟨rfl, rfl, rfl, rfl, trivial⟩ (by first | exact Imm.le_refl _ | assumption | (refine Imm.le_trans ?_ (by assumption); first | assumption | (refine Imm.le_trans ?_ (by assumption); assumption))) (by kernel_rfl) rfl rfl ?_ ?_
    refine Wl.call 5 rfl T.fn82 rfl (c82 _ _ _ _ _ (by assumption) (by omega) (by assumption)) (tags_of trivial) (fun v2 G2 Ho2 hle2 hp => ?_)
    obtain ⟨tn2, rfl, htr2, rfl, rfl⟩ := hp
    refine Wl.on0 ?_
    refine Gm.two 10 12 ⟨rfl, rfl, rfl, rfl, trivial⟩ (by first | exact Imm.le_refl _ | assumption | (refine Imm.le_trans ?_ (by assumption); first | assumption | (refine Imm.le_trans ?_ (by assumption); assumption))) (by kernel_rfl) rfl rfl ?_ ?_
    refine Wl.call 5 rfl T.fn82 rfl (c82 _ _ _ _ _ (by assumption) (by omega) (by assumption)) (tags_of trivial) (fun v3 G3 Ho3 hle3 hp => ?_)
    obtain ⟨tn3, rfl, htr3, rfl, rfl⟩ := hp
    refine Wl.on0 ?_
    refine Gm.one 12 ⟨rfl, rfl, rfl, rfl, trivial⟩ (by first | exact Imm.le_refl _ | assumption | (refine Imm.le_trans ?_ (by assumption); first | assumption | (refine Imm.le_trans ?_ (by assumption); assumption))) (by kernel_rfl) rfl ?_
    refine Wl.alloc 5 rfl T.zero78 (fun b6 => ?_)
    refine Wl.on0 ?_
    refine Gm.one 13 ⟨rfl, rfl, rfl, rfl, trivial⟩ (by first | exact Imm.le_refl _ | assumption | (refine Imm.le_trans ?_ (by assumption); first | assumption | (refine Imm.le_trans ?_ (by assumption); assumption))) (by kernel_rfl) rfl ?_
    refine Wl.storeAll 4 T.size78 rfl rfl rfl rfl rfl rfl ?_
    refine Wl.on0 ?_
    refine Gm.one 14 ⟨rfl, rfl, rfl, rfl, trivial⟩ (by first | exact Imm.le_refl _ | assumption | (refine Imm.le_trans ?_ (by assumption); first | assumption | (refine Imm.le_trans ?_ (by assumption); assumption))) (by kernel_rfl) rfl ?_
    refine Wl.storeAll 5 T.size78 rfl rfl rfl rfl rfl rfl ?_
    refine Wl.on0 ?_
    refine Gm.doneA (by kernel_rfl) ⟨rfl, rfl, rfl, rfl, trivial⟩ (by first | exact Imm.le_refl _ | assumption | (refine Imm.le_trans ?_ (by assumption); first | assumption | (refine Imm.le_trans ?_ (by assumption); assumption))) ?_
    rotate_left
    refine Wl.alloc 5 rfl T.zero78 (fun b6 => ?_)
    refine Wl.on0 ?_
    refine Gm.one 10 ⟨rfl, rfl, rfl, rfl, trivial⟩ (by first | exact Imm.le_refl _ | assumption | (refine Imm.le_trans ?_ (by assumption); first | assumption | (refine Imm.le_trans ?_ (by assumption); assumption))) (by kernel_rfl) rfl ?_
    refine Wl.call 6 rfl T.fn82 rfl (c82 _ _ _ _ _ (by assumption) (by omega) (by assumption)) (tags_of trivial) (fun v3 G3 Ho3 hle3 hp => ?_)
    obtain ⟨tn3, rfl, htr3, rfl, rfl⟩ := hp
    refine Wl.on0 ?_
    refine Gm.one 13 ⟨rfl, rfl, rfl, rfl, trivial⟩ (by first | exact Imm.le_refl _ | assumption | (refine Imm.le_trans ?_ (by assumption); first | assumption | (refine Imm.le_trans ?_ (by assumption); assumption))) (by kernel_rfl) rfl ?_
    refine Wl.storeAll 4 T.size78 rfl rfl rfl rfl rfl rfl ?_
    refine Wl.on0 ?_
    refine Gm.one 14 ⟨rfl, rfl, rfl, rfl, trivial⟩ (by first | exact Imm.le_refl _ | assumption | (refine Imm.le_trans ?_ (by assumption); first | assumption | (refine Imm.le_trans ?_ (by assumption); assumption))) (by kernel_rfl) rfl ?_
    refine Wl.storeAll 5 T.size78 rfl rfl rfl rfl rfl rfl ?_
    refine Wl.on0 ?_
    refine Gm.doneA (by kernel_rfl) ⟨rfl, rfl, rfl, rfl, trivial⟩ (by first | exact Imm.le_refl _ | assumption | (refine Imm.le_trans ?_ (by assumption); first | assumption | (refine Imm.le_trans ?_ (by assumption); assumption))) ?_
    rotate_left
    refine Wl.alloc 5 rfl T.zero78 (fun b6 => ?_)
    refine Wl.on0 ?_
    refine Gm.one 6 ⟨rfl, rfl, rfl, rfl, trivial⟩ (by first | exact Imm.le_refl _ | assumption | (refine Imm.le_trans ?_ (by assumption); first | assumption | (refine Imm.le_trans ?_ (by assumption); assumption))) (by kernel_rfl) rfl ?_
    refine Wl.call 6 rfl T.fn82 rfl (c82 _ _ _ _ _ (by assumption) (by omega) (by assumption)) (tags_of trivial) (fun v2 G2 Ho2 hle2 hp => ?_)
    obtain ⟨tn2, rfl, htr2, rfl, rfl⟩ := hp
    refine Wl.on0 ?_
    refine Gm.one 10 ⟨rfl, rfl, rfl, rfl, trivial⟩ (by first | exact Imm.le_refl _ | assumption | (refine Imm.le_trans ?_ (by assumption); first | assumption | (refine Imm.le_trans ?_ (by assumption); assumption))) (by kernel_rfl) rfl ?_
    refine Wl.call 6 rfl T.fn82 rfl (c82 _ _ _ _ _ (by assumption) (by omega) (by assumption)) (tags_of trivial) (fun v3 G3 Ho3 hle3 hp => ?_)
    obtain ⟨tn3, rfl, htr3, rfl, rfl⟩ := hp
    refine Wl.on0 ?_
    refine Gm.one 13 ⟨rfl, rfl, rfl, rfl, trivial⟩ (by first | exact Imm.le_refl _ | assumption | (refine Imm.le_trans ?_ (by assumption); first | assumption | (refine Imm.le_trans ?_ (by assumption); assumption))) (by kernel_rfl) rfl ?_
    refine Wl.storeAll 4 T.size78 rfl rfl rfl rfl rfl rfl ?_
    refine Wl.on0 ?_
    refine Gm.one 14 ⟨rfl, rfl, rfl, rfl, trivial⟩ (by first | exact Imm.le_refl _ | assumption | (refine Imm.le_trans ?_ (by assumption); first | assumption | (refine Imm.le_trans ?_ (by assumption); assumption))) (by kernel_rfl) rfl ?_
    refine Wl.storeAll 5 T.size78 rfl rfl rfl rfl rfl rfl ?_
    refine Wl.on0 ?_
    refine Gm.doneA (by kernel_rfl) ⟨rfl, rfl, rfl, rfl, trivial⟩ (by first | exact Imm.le_refl _ | assumption | (refine Imm.le_trans ?_ (by assumption); first | assumption | (refine Imm.le_trans ?_ (by assumption); assumption))) ?_
    rotate_left
    refine Wl.alloc 4 rfl T.zero78 (fun b5 => ?_)
    refine Wl.on0 ?_
    refine Gm.two 6 11 ⟨rfl, rfl, rfl, rfl, trivial⟩ (by first | exact Imm.le_refl _ | assumption | (refine Imm.le_trans ?_ (by assumption); first | assumption | (refine Imm.le_trans ?_ (by assumption); assumption))) (by kernel_rfl) rfl rfl ?_ ?_
    refine Wl.call 5 rfl T.fn82 rfl (c82 _ _ _ _ _ (by assumption) (by omega) (by assumption)) (tags_of trivial) (fun v2 G2 Ho2 hle2 hp => ?_)
    obtain ⟨tn2, rfl, htr2, rfl, rfl⟩ := hp
    refine Wl.on0 ?_
    refine Gm.two 10 11 ⟨rfl, rfl, rfl, rfl, trivial⟩ (by first | exact Imm.le_refl _ | assumption | (refine Imm.le_trans ?_ (by assumption); first | assumption | (refine Imm.le_trans ?_ (by assumption); assumption))) (by kernel_rfl) rfl rfl ?_ ?_
    refine Wl.call 5 rfl T.fn82 rfl (c82 _ _ _ _ _ (by assumption) (by omega) (by assumption)) (tags_of trivial) (fun v3 G3 Ho3 hle3 hp => ?_)
    obtain ⟨tn3, rfl, htr3, rfl, rfl⟩ := hp
    refine Wl.on0 ?_
    refine Gm.one 11 ⟨rfl, rfl, rfl, rfl, trivial⟩ (by first | exact Imm.le_refl _ | assumption | (refine Imm.le_trans ?_ (by assumption); first | assumption | (refine Imm.le_trans ?_ (by assumption); assumption))) (by kernel_rfl) rfl ?_
    refine Wl.alloc 5 rfl T.zero78 (fun b6 => ?_)
    refine Wl.on0 ?_
    refine Gm.one 13 ⟨rfl, rfl, rfl, rfl, trivial⟩ (by first | exact Imm.le_refl _ | assumption | (refine Imm.le_trans ?_ (by assumption); first | assumption | (refine Imm.le_trans ?_ (by assumption); assumption))) (by kernel_rfl) rfl ?_
    refine Wl.storeAll 5 T.size78 rfl rfl rfl rfl rfl rfl ?_
    refine Wl.on0 ?_
    refine Gm.one 14 ⟨rfl, rfl, rfl, rfl, trivial⟩ (by first | exact Imm.le_refl _ | assumption | (refine Imm.le_trans ?_ (by assumption); first | assumption | (refine Imm.le_trans ?_ (by assumption); assumption))) (by kernel_rfl) rfl ?_
    refine Wl.storeAll 4 T.size78 rfl rfl rfl rfl rfl rfl ?_
    refine Wl.on0 ?_
    refine Gm.doneA (by kernel_rfl) ⟨rfl, rfl, rfl, rfl, trivial⟩ (by first | exact Imm.le_refl _ | assumption | (refine Imm.le_trans ?_ (by assumption); first | assumption | (refine Imm.le_trans ?_ (by assumption); assumption))) ?_
    rotate_left
    refine Wl.alloc 5 rfl T.zero78 (fun b6 => ?_)
    refine Wl.on0 ?_
    refine Gm.one 10 ⟨rfl, rfl, rfl, rfl, trivial⟩ (by first | exact Imm.le_refl _ | assumption | (refine Imm.le_trans ?_ (by assumption); first | assumption | (refine Imm.le_trans ?_ (by assumption); assumption))) (by kernel_rfl) rfl ?_
    refine Wl.call 6 rfl T.fn82 rfl (c82 _ _ _ _ _ (by assumption) (by omega) (by assumption)) (tags_of trivial) (fun v3 G3 Ho3 hle3 hp => ?_)
    obtain ⟨tn3, rfl, htr3, rfl, rfl⟩ := hp
    refine Wl.on0 ?_
    refine Gm.one 13 ⟨rfl, rfl, rfl, rfl, trivial⟩ (by first | exact Imm.le_refl _ | assumption | (refine Imm.le_trans ?_ (by assumption); first | assumption | (refine Imm.le_trans ?_ (by assumption); assumption))) (by kernel_rfl) rfl ?_
    refine Wl.storeAll 5 T.size78 rfl rfl rfl rfl rfl rfl ?_
    refine Wl.on0 ?_
    refine Gm.one 14 ⟨rfl, rfl, rfl, rfl, trivial⟩ (by first | exact Imm.le_refl _ | assumption | (refine Imm.le_trans ?_ (by assumption); first | assumption | (refine Imm.le_trans ?_ (by assumption); assumption))) (by kernel_rfl) rfl ?_
    refine Wl.storeAll 4 T.size78 rfl rfl rfl rfl rfl rfl ?_
    refine Wl.on0 ?_
    refine Gm.doneA (by kernel_rfl) ⟨rfl, rfl, rfl, rfl, trivial⟩ (by first | exact Imm.le_refl _ | assumption | (refine Imm.le_trans ?_ (by assumption); first | assumption | (refine Imm.le_trans ?_ (by assumption); assumption))) ?_
    rotate_left
    refine Wl.alloc 5 rfl T.zero78 (fun b6 => ?_)
    refine Wl.on0 ?_
    refine Gm.one 6 ⟨rfl, rfl, rfl, rfl, trivial⟩ (by first | exact Imm.le_refl _ | assumption | (refine Imm.le_trans ?_ (by assumption); first | assumption | (refine Imm.le_trans ?_ (by assumption); assumption))) (by kernel_rfl) rfl ?_
    refine Wl.call 6 rfl T.fn82 rfl (c82 _ _ _ _ _ (by assumption) (by omega) (by assumption)) (tags_of trivial) (fun v2 G2 Ho2 hle2 hp => ?_)
    obtain ⟨tn2, rfl, htr2, rfl, rfl⟩ := hp
    refine Wl.on0 ?_
    refine Gm.one 10 ⟨rfl, rfl, rfl, rfl, trivial⟩ (by first | exact Imm.le_refl _ | assumption | (refine Imm.le_trans ?_ (by assumption); first | assumption | (refine Imm.le_trans ?_ (by assumption); assumption))) (by kernel_rfl) rfl ?_
    refine Wl.call 6 rfl T.fn82 rfl (c82 _ _ _ _ _ (by assumption) (by omega) (by assumption)) (tags_of trivial) (fun v3 G3 Ho3 hle3 hp => ?_)
    obtain ⟨tn3, rfl, htr3, rfl, rfl⟩ := hp
    refine Wl.on0 ?_
    refine Gm.one 13 ⟨rfl, rfl, rfl, rfl, trivial⟩ (by first | exact Imm.le_refl _ | assumption | (refine Imm.le_trans ?_ (by assumption); first | assumption | (refine Imm.le_trans ?_ (by assumption); assumption))) (by kernel_rfl) rfl ?_
    refine Wl.storeAll 5 T.size78 rfl rfl rfl rfl rfl rfl ?_
    refine Wl.on0 ?_
    refine Gm.one 14 ⟨rfl, rfl, rfl, rfl, trivial⟩ (by first | exact Imm.le_refl _ | assumption | (refine Imm.le_trans ?_ (by assumption); first | assumption | (refine Imm.le_trans ?_ (by assumption); assumption))) (by kernel_rfl) rfl ?_
    refine Wl.storeAll 4 T.size78 rfl rfl rfl rfl rfl rfl ?_
    refine Wl.on0 ?_
    refine Gm.doneA (by kernel_rfl) ⟨rfl, rfl, rfl, rfl, trivial⟩ (by first | exact Imm.le_refl _ | assumption | (refine Imm.le_trans ?_ (by assumption); first | assumption | (refine Imm.le_trans ?_ (by assumption); assumption))) ?_
    rotate_left
    all_goals first | (refine Ar.retag 4 60 rfl rfl (Ar.retag 5 61 rfl rfl (Ar.meet (tn2, tn3, b5, b6) ⟨htr2, htr3⟩ rfl ?_ ?_)) <;> (repeat (first | exact trivial | refine ⟨rfl, ?_⟩)); done) | (refine Ar.retag 5 60 rfl rfl (Ar.retag 4 61 rfl rfl (Ar.meet (tn2, tn3, b6, b5) ⟨htr2, htr3⟩ rfl ?_ ?_)) <;> (repeat (first | exact trivial | refine ⟨rfl, ?_⟩)); done)
  · obtain ⟨htq, htm⟩ := hk
    have hlt := valL_lt db
    have hxy := dm_plain hx.val hy.val hvq1
    have hQ0 := htq.num dq1 hqa1 hqc1 (decide (n1 ≠ n2))
    have hR0 := htm.num dr1 hra1 hrc1 n1
    refine Wc.gc 7 [61] ?_
    refine Wc.ite rfl (fun hc1 => ?_) (fun hc1 => ?_)
    refine Wc.seq ?_
    refine Wc.draw [0, 1, 2, 3, 61, 60] [(61, 4)] T.mixed rfl ?_
    refine Gm.q 0 [61] (by kernel_rfl) rfl rfl (Qy.loadAll 61 T.agg78 rfl rfl rfl) ?_
    refine Gm.q 1 [1] (by kernel_rfl) rfl rfl (Qy.loadAll 1 T.agg78 rfl rfl rfl) ?_
    refine Gm.one 2 ⟨rfl, rfl, rfl, rfl, rfl, rfl, trivial⟩ (by first | exact Imm.le_refl _ | assumption | (refine Imm.le_trans ?_ (by assumption); first | assumption | (refine Imm.le_trans ?_ (by assumption); assumption))) (by kernel_rfl) rfl ?_
    refine Wl.call 62 rfl T.fn220 rfl (c220 _ _ _ _ _ _ (by assumption) (by assumption) (by omega) (by assumption)) (tags_of trivial) (fun v2 G2 Ho2 hle2 hp => ?_)
    obtain ⟨nr2, rfl, hnr2, rfl, rfl⟩ := hp
    refine Wl.on0 ?_
    refine Gm.one 3 ⟨rfl, rfl, rfl, rfl, rfl, rfl, trivial⟩ (by first | exact Imm.le_refl _ | assumption | (refine Imm.le_trans ?_ (by assumption); first | assumption | (refine Imm.le_trans ?_ (by assumption); assumption))) (by kernel_rfl) rfl ?_
    refine Wl.call 62 rfl T.fn201 rfl (num_add _ ⟨(n1 && decide (0 < tm)), subA ra1 rc1 0 1, tm, rc1⟩ nr2 _ _ hR0 hnr2 (Nat.le_trans htm.1 (by omega)) (Nat.le_trans (Num.len hnr2 (m := lb.length) (by omega)) (by omega))) (tags_of trivial) (fun v3 G3 Ho3 hle3 hp => ?_)
    obtain ⟨rs3, rfl, hrs3, rfl⟩ := hp
    replace hqa1 := hqa1.up hle3
    replace hra1 := hra1.up hle3
    replace ha := ha.up hle3
    replace hb := hb.up hle3
    replace hQ0 := hQ0.up hle3
    replace hR0 := hR0.up hle3
    replace hnr2 := hnr2.up hle3
    refine Wl.on0 ?_
    refine Gm.one 4 ⟨rfl, rfl, rfl, rfl, rfl, rfl, trivial⟩ (by first | exact Imm.le_refl _ | assumption | (refine Imm.le_trans ?_ (by assumption); first | assumption | (refine Imm.le_trans ?_ (by assumption); assumption))) (by kernel_rfl) rfl ?_
    refine Wl.storeAll 61 T.size78 rfl rfl rfl rfl rfl rfl ?_
    refine Wl.on0 ?_
    refine Gm.doneA (by kernel_rfl) ⟨rfl, rfl, rfl, rfl, rfl, trivial⟩ (by first | exact Imm.le_refl _ | assumption | (refine Imm.le_trans ?_ (by assumption); first | assumption | (refine Imm.le_trans ?_ (by assumption); assumption))) ?_
    refine Ar.next ?_
    refine Wc.draw [0, 1, 2, 3, 60, 61] [(60, 5)] T.mixed rfl ?_
    refine Gm.q 0 [60] (by kernel_rfl) rfl rfl (Qy.loadAll 60 T.agg78 rfl rfl rfl) ?_
    refine Gm.q 1 [1] (by kernel_rfl) rfl rfl (Qy.loadAll 1 T.agg78 rfl rfl rfl) ?_
    refine Gm.one 2 ⟨rfl, rfl, rfl, rfl, rfl, rfl, trivial⟩ (by first | exact Imm.le_refl _ | assumption | (refine Imm.le_trans ?_ (by assumption); first | assumption | (refine Imm.le_trans ?_ (by assumption); assumption))) (by kernel_rfl) rfl ?_
    refine Wl.call0 rfl T.fn137 rfl (c137 _ _ _ _ _ y (by assumption) (by omega)) ?_
    refine Wl.on0 ?_
    refine Gm.one 3 ⟨rfl, rfl, rfl, rfl, rfl, rfl, trivial⟩ (by first | exact Imm.le_refl _ | assumption | (refine Imm.le_trans ?_ (by assumption); first | assumption | (refine Imm.le_trans ?_ (by assumption); assumption))) (by kernel_rfl) rfl ?_
    refine Wl.call 62 rfl T.fn37 rfl (c37 _ _ (sgZ_bd9 y)) (tags_of trivial) (fun v4 G4 Ho4 hle4 hp => ?_)
    obtain ⟨ro4, rfl, hro4, rfl⟩ := hp
    replace hrs3 := hrs3.up hle4
    replace hqa1 := hqa1.up hle4
    replace hra1 := hra1.up hle4
    replace ha := ha.up hle4
    replace hb := hb.up hle4
    replace hQ0 := hQ0.up hle4
    replace hR0 := hR0.up hle4
    replace hnr2 := hnr2.up hle4
    refine Wl.on0 ?_
    refine Gm.one 4 ⟨rfl, rfl, rfl, rfl, rfl, rfl, trivial⟩ (by first | exact Imm.le_refl _ | assumption | (refine Imm.le_trans ?_ (by assumption); first | assumption | (refine Imm.le_trans ?_ (by assumption); assumption))) (by kernel_rfl) rfl ?_
    refine Wl.call 62 rfl T.fn221 rfl (num_sub _ ⟨(decide (n1 ≠ n2) && decide (0 < tn)), subA qa1 qc1 0 1, tn, qc1⟩ ro4 _ _ hQ0 hro4 (Nat.le_trans htq.1 (by omega)) (Nat.le_trans (Num.len hro4 (m := 1) (sgZ_lt1N y)) (by omega))) (tags_of trivial) (fun v5 G5 Ho5 hle5 hp => ?_)
    obtain ⟨rd5, rfl, hrd5, rfl⟩ := hp
    replace hro4 := hro4.up hle5
    replace hrs3 := hrs3.up hle5
    replace hqa1 := hqa1.up hle5
    replace hra1 := hra1.up hle5
    replace ha := ha.up hle5
    replace hb := hb.up hle5
    replace hQ0 := hQ0.up hle5
    replace hR0 := hR0.up hle5
    replace hnr2 := hnr2.up hle5
    refine Wl.on0 ?_
    refine Gm.one 5 ⟨rfl, rfl, rfl, rfl, rfl, rfl, trivial⟩ (by first | exact Imm.le_refl _ | assumption | (refine Imm.le_trans ?_ (by assumption); first | assumption | (refine Imm.le_trans ?_ (by assumption); assumption))) (by kernel_rfl) rfl ?_
    refine Wl.storeAll 60 T.size78 rfl rfl rfl rfl rfl rfl ?_
    refine Wl.on0 ?_
    refine Gm.doneA (by kernel_rfl) ⟨rfl, rfl, rfl, rfl, rfl, trivial⟩ (by first | exact Imm.le_refl _ | assumption | (refine Imm.le_trans ?_ (by assumption); first | assumption | (refine Imm.le_trans ?_ (by assumption); assumption))) ?_
    refine Ar.gc 2 [] ?_
    refine Wc.draw [0, 1, 2, 3, 61, 60] [(3, 3), (2, 2)] T.mixed rfl ?_
    refine Gm.q 0 [60] (by kernel_rfl) rfl rfl (Qy.loadAll 60 T.agg78 rfl rfl rfl) ?_
    refine Gm.q 1 [61] (by kernel_rfl) rfl rfl (Qy.loadAll 61 T.agg78 rfl rfl rfl) ?_
    refine Gm.one 2 ⟨rfl, rfl, rfl, rfl, rfl, rfl, trivial⟩ (by first | exact Imm.le_refl _ | assumption | (refine Imm.le_trans ?_ (by assumption); first | assumption | (refine Imm.le_trans ?_ (by assumption); assumption))) (by kernel_rfl) rfl ?_
    refine Wl.storeAll 2 T.size78 rfl rfl rfl rfl rfl rfl ?_
    refine Wl.on0 ?_
    refine Gm.one 3 ⟨rfl, rfl, rfl, rfl, rfl, trivial⟩ (by first | exact Imm.le_refl _ | assumption | (refine Imm.le_trans ?_ (by assumption); first | assumption | (refine Imm.le_trans ?_ (by assumption); assumption))) (by kernel_rfl) rfl ?_
    refine Wl.storeAll 3 T.size78 rfl rfl rfl rfl rfl rfl ?_
    refine Wl.on0 ?_
    refine Gm.doneA (by kernel_rfl) ⟨rfl, rfl, rfl, rfl, trivial⟩ (by first | exact Imm.le_refl _ | assumption | (refine Imm.le_trans ?_ (by assumption); first | assumption | (refine Imm.le_trans ?_ (by assumption); assumption))) ?_
    refine Ar.ga 2 [] ?_
    rotate_left
    refine Wc.gc 3 [] ?_
    refine Wc.draw [0, 1, 2, 3, 61, 60] [(3, 3), (2, 2)] T.mixed rfl ?_
    refine Gm.q 0 [60] (by kernel_rfl) rfl rfl (Qy.loadAll 60 T.agg78 rfl rfl rfl) ?_
    refine Gm.q 1 [61] (by kernel_rfl) rfl rfl (Qy.loadAll 61 T.agg78 rfl rfl rfl) ?_
    refine Gm.one 2 ⟨rfl, rfl, rfl, rfl, rfl, rfl, trivial⟩ (by first | exact Imm.le_refl _ | assumption | (refine Imm.le_trans ?_ (by assumption); first | assumption | (refine Imm.le_trans ?_ (by assumption); assumption))) (by kernel_rfl) rfl ?_
    refine Wl.storeAll 2 T.size78 rfl rfl rfl rfl rfl rfl ?_
    refine Wl.on0 ?_
    refine Gm.one 3 ⟨rfl, rfl, rfl, rfl, rfl, trivial⟩ (by first | exact Imm.le_refl _ | assumption | (refine Imm.le_trans ?_ (by assumption); first | assumption | (refine Imm.le_trans ?_ (by assumption); assumption))) (by kernel_rfl) rfl ?_
    refine Wl.storeAll 3 T.size78 rfl rfl rfl rfl rfl rfl ?_
    refine Wl.on0 ?_
    refine Gm.doneA (by kernel_rfl) ⟨rfl, rfl, rfl, rfl, trivial⟩ (by first | exact Imm.le_refl _ | assumption | (refine Imm.le_trans ?_ (by assumption); first | assumption | (refine Imm.le_trans ?_ (by assumption); assumption))) ?_
    refine Ar.ga 2 [] ?_
    rotate_left
    · refine Ar.out2 (.inr rfl) (Ho := []) rfl (.agg 2 rfl rfl T.agg78) (.agg 3 rfl rfl T.agg78) trivial ?_
      have he := dm_trueN hxy hy0 (by omega) hc1 htm dr1
      refine ⟨rd5, rs3, rfl, ?_, ?_, rfl⟩
      · rw [← he.1]; exact hrd5
      · rw [← he.2]; exact hrs3
    · refine Ar.out2 (.inr rfl) (Ho := []) rfl (.agg 2 rfl rfl T.agg78) (.agg 3 rfl rfl T.agg78) trivial ?_
      have he := dm_falseN hxy hy0 (by omega) hc1 htm dr1
      refine ⟨⟨(decide (n1 ≠ n2) && decide (0 < tn)), subA qa1 qc1 0 1, tn, qc1⟩, ⟨(n1 && decide (0 < tm)), subA ra1 rc1 0 1, tm, rc1⟩, rfl, ?_, ?_, rfl⟩
      · rw [← he.1]; exact hQ0
      · rw [← he.2]; exact hR0
end Go.Proofs.YtbppmiimeccclaaGreat
set_option maxRecDepth 100000
set_option linter.unusedVariables false
namespace Go.Proofs.YtbppmiimeccclaaGreat
open Go Go.Sl
set_option maxHeartbeats 4000000
theorem num_divmod (G : Imm) (x y : IV) (zx zy : Int) (hx : Num G x zx) (hy : Num G y zy) (h1 : x.n ≤ 536870912) (h2 : y.n ≤ 536870912) (hy0 : zy ≠ 0) :
    Does Tryz.prog 202 [.agg (Cells.enc x).toArray, .agg (Cells.enc y).toArray] G [] (fun v G' Ho => ∃ q r : IV, v = .tuple #[.agg (Cells.enc q).toArray, .agg (Cells.enc r).toArray] ∧ Num G' q (zx / zy) ∧ Num G' r (zx % zy) ∧ Ho = []) := by
  obtain ⟨n1, a, k1, ca⟩ := x
  obtain ⟨n2, b, k2, cb⟩ := y
  obtain ⟨la, hl, hlc, hA, hI⟩ := hx
  obtain ⟨lb, hl', hlc', hA', hI'⟩ := hy
  simp only at hl hlc hA hI hl' hlc' hA' hI' h1 h2
  subst hl hl'
  exact c202 G n1 n2 a b ca cb la lb zx zy hA hA' hI hI' h1 h2 hlc' hy0
theorem num_of (G : Imm) (n : Int) (hn : -9223372036854775808 ≤ n ∧ n ≤ 9223372036854775807) :
    Does Tryz.prog 37 [.int .i64 n] G [] (fun v G' Ho => ∃ r : IV, v = .agg (Cells.enc r).toArray ∧ Num G' r n ∧ Ho = []) := c37 G n hn
theorem Num.zero_iff {G : Imm} {x : IV} {z : Int} (h : Num G x z) : x.n = 0 ↔ z = 0 := by
  obtain ⟨l, h1, _, _, h4⟩ := h
  rw [← h1]; exact h4.zero_iff
theorem valL_pow (n : Nat) : valL ((List.replicate (n / 16 + 1) (default : U32)).set (n / 16) ⟨p2 (n % 16)⟩) = p2 n := by
  rw [valL_set _ _ _ (by rw [List.length_replicate]; omega)]
  have h0 : dg (List.replicate (n / 16 + 1) (default : U32)) (n / 16) = 0 := by
    unfold dg
    rw [Int.toNat_natCast, List.getElem?_replicate]
    split <;> rfl
  rw [h0, show (default : U32) = ⟨0⟩ from rfl, valL_replicate, pw_p2, Int.zero_add, Int.sub_zero, ← p2_add, show 16 * (n / 16) + n % 16 = n by omega]
theorem Num.out {G : Imm} {x : IV} {z z' : Int} (h : Num G x z) (e : z = z') : Num G x z' := e ▸ h
attribute [local irreducible] valL pw cmpZ p2
theorem num_over (G : Imm) (x y : IV) (zx zy : Int) (hx : Num G x zx) (hy : Num G y zy) (h1 : x.n ≤ 536870912) (h2 : y.n ≤ 536870912) (hy0 : zy ≠ 0) :
    Does Tryz.prog 185 [.agg (Cells.enc x).toArray, .agg (Cells.enc y).toArray] G [] (fun v G' Ho => ∃ q : IV, v = .tuple #[.agg (Cells.enc q).toArray, .bool (decide (zx % zy = 0))] ∧ Num G' q (if zx % zy = 0 then zx / zy else 0) ∧ Ho = []) := by
  refine Does.enter Tryz.func185 rfl Tryz.ntmps185 rfl (fun w => ?_)
  refine Wc.gl 2 [] ?_
  refine Wl.box 0 rfl rfl rfl (fun b1 => ?_)
  refine Wl.box 1 rfl rfl rfl (fun b2 => ?_)
  refine Wl.alloc 2 rfl T.zero78 (fun b3 => ?_)
  refine Wl.gl 7 [0, 1] ?_
  refine Wl.call 3 rfl T.fn202 rfl (num_divmod _ _ _ _ _ hx hy h1 h2 hy0) (tags_of trivial) (fun v1 G1 Ho1 hle1 hp => ?_)
  obtain ⟨q1, r1, rfl, hq1, hr1, rfl⟩ := hp
  replace hx := hx.up hle1
  replace hy := hy.up hle1
  refine Wl.ll0 3 [] ?_
  refine Wl.alloc 3 rfl T.zero78 (fun b4 => ?_)
  refine Wl.alloc 4 rfl T.zero78 (fun b5 => ?_)
  refine Wl.gc 13 [3, 4, 4] ?_
  refine Wc.cond rfl (fun hc1 => ?_) (fun hc1 => ?_)
  refine Wc.gl 2 [] ?_
  refine Wl.q rfl (Qy.build (cs := [_, _]) T.st78 rfl rfl rfl) ?_
  refine Wl.ga 6 [2] ?_
  rotate_left
  refine Wc.ga 10 [3, 2] ?_
  rotate_left
  · refine Ar.out2 (.inr rfl) (Ho := []) rfl (.agg 2 rfl rfl T.agg78) (.tmp rfl) trivial ?_
    have h0 : ¬ zx % zy = 0 := fun e => by have := (Num.zero_iff hr1).2 e; omega
    refine ⟨⟨false, none, 0, 0⟩, by rw [decide_eq_false h0]; rfl, ?_, rfl⟩
    rw [if_neg h0]; exact Num.zero _
  · refine Ar.out2 (.inr rfl) (Ho := []) rfl (.agg 2 rfl rfl T.agg78) (.tmp rfl) trivial ?_
    have h0 : zx % zy = 0 := (Num.zero_iff hr1).1 (by omega)
    refine ⟨q1, by rw [decide_eq_true h0], ?_, rfl⟩
    rw [if_pos h0]; exact hq1
theorem c184 (G : Imm) (n : Nat) (hn : n ≤ 16777216) :
    Does Tryz.prog 184 [.int .i64 (n : Int)] G [] (fun v G' Ho => ∃ r : IV, v = .agg (Cells.enc r).toArray ∧ Num G' r (p2 n) ∧ Ho = []) := by
  refine Does.enter Tryz.func184 rfl Tryz.ntmps184 rfl (fun w => ?_)
  refine Wc.gl 2 [] ?_
  refine Wl.alloc 0 rfl T.zero78 (fun b1 => ?_)
  refine Wl.gl 5 [] ?_
  refine Wl.q rfl (Qy.quoP rfl rfl (by omega)) ?_
  refine Wl.q rfl (Qy.add rfl rfl (by omega)) ?_
  refine Wl.make (α := U32) 1 rfl T.sl76 T.el142 rfl rfl (by omega) (by omega) (fun b2 => ?_)
  refine Wl.gc 3 [] ?_
  obtain ⟨N, hN⟩ : ∃ N, N = n / 16 + 1 := ⟨_, rfl⟩
  have hM : ((n : Int) / 16 + 1).toNat = N := by omega
  rw [hM]
  have hown : ∀ r : List U32, r.length = N → OwnA (some ⟨b2, 0, none⟩) N r [] := fun r hr => .inr ⟨b2, rfl, by rw [hr]; rfl, by omega, by simp only [maxLen]; omega⟩
  have hrl : (List.replicate N (default : U32)).length = N := List.length_replicate
  have hor := hown _ hrl
  refine Wc.re 3 rfl (show _ = Value.slice (some ⟨b2, 0, none⟩) (List.replicate N (default : U32)).length N by rw [List.length_replicate]) ?_
  refine Wc.gl 4 [] ?_
  refine Wl.q rfl (Qy.quoP rfl rfl (by omega)) ?_
  refine Wl.q rfl (Qy.move rfl) ?_
  refine Wl.q rfl (Qy.urem rfl rfl (by omega)) ?_
  refine Wl.q rfl (Qy.shl rfl rfl (by omega)) ?_
  refine Wl.q rfl (Qy.indexAddrO (α := U32) T.sl76 rfl rfl (by assumption) (by omega)) ?_
  refine Wl.setO (z := _) 1 T.size142 rfl rfl rfl (by assumption) (by omega) rfl (fun ho1 => ?_)
  refine Wl.gl 5 [] ?_
  have e3 : (List.replicate N (default : U32)).set ((n : Int) / 16).toNat ⟨1 * 2 ^ min ((n : Int) % 16).toNat IntKind.u32.bits % 2 ^ IntKind.u32.bits⟩ = (List.replicate (n / 16 + 1) (default : U32)).set (n / 16) ⟨p2 (n % 16)⟩ := by
    have h1 : 1 * 2 ^ min ((n : Int) % 16).toNat IntKind.u32.bits % 2 ^ IntKind.u32.bits = p2 (n % 16) := shl_one
    rw [h1, hN, show ((n : Int) / 16).toNat = n / 16 by omega]
  rw [e3] at ho1 ⊢
  obtain ⟨r, hr⟩ : ∃ r, r = (List.replicate (n / 16 + 1) (default : U32)).set (n / 16) ⟨p2 (n % 16)⟩ := ⟨_, rfl⟩
  rw [← hr] at ho1 ⊢
  have hrN : r.length = N := by rw [hr, List.length_set, List.length_replicate, hN]
  have hv : valL r = p2 n := by rw [hr]; exact valL_pow n
  have hd : Digs r := by rw [hr]; exact digs_set (Digs.zeros _) _ ⟨Int.le_of_lt (p2_pos _), by have := p2_le (show n % 16 ≤ 15 by omega); rw [show p2 15 = 32768 by unfold p2; decide] at this; omega⟩
  have hcap := ho1.le
  refine Wl.freezeRow 1 rfl ho1 (fun G9 hle9 hA => ?_)
  refine Wl.re 15 rfl (show _ = Value.slice (some ⟨b2, 0, none⟩) r.length N by rw [hrN, List.length_replicate]) ?_
  refine Wl.call 2 rfl T.fn82 rfl (c82 _ _ _ _ _ (by assumption) (by omega) (by first | assumption | omega)) (tags_of trivial) (fun v1 G1 Ho1 hle1 hp => ?_)
  obtain ⟨tn1, rfl, htr1, rfl, rfl⟩ := hp
  refine Wl.ga 4 [0] ?_
  refine Ar.out1 (.inr rfl) (Ho := Hp.only _ []) rfl (.agg 0 rfl rfl T.agg78) (Hp.sub_only _ _) ?_
  refine ⟨⟨false && decide (0 < tn1), subA (some ⟨b2, 0, none⟩) N 0 1, tn1, N⟩, rfl, ?_, rfl⟩
  have e := htr1.num hd hA hcap false
  rw [if_neg (by decide), hv] at e
  exact e
end Go.Proofs.YtbppmiimeccclaaGreat
set_option maxRecDepth 100000
set_option linter.unusedVariables false
namespace Go.Proofs.YtbppmiimeccclaaGreat
open Go Go.Sl
set_option maxHeartbeats 4000000
theorem mul_lt_pw {x y : Int} {k m : Nat} (hx : (x.natAbs : Int) < pw k) (hy : (y.natAbs : Int) < pw m) : ((x * y).natAbs : Int) < pw (k + m) := by
  rw [Int.natAbs_mul, pw_add, Int.natCast_mul]
  have h1 := Int.mul_le_mul_of_nonneg_left (Int.le_of_lt hy) (show (0 : Int) ≤ x.natAbs by omega)
  exact Int.lt_of_le_of_lt h1 (Int.mul_lt_mul_of_pos_right hx (pw_pos m))
/-- x times the one row and y times the other -/
def comb (x : Int) (xs : List Int) (y : Int) (ys : List Int) : List Int := List.zipWith (fun a b => x * a + y * b) xs ys
theorem comb_len {x y : Int} {xs ys : List Int} (h : xs.length = ys.length) : (comb x xs y ys).length = xs.length := by
  unfold comb; rw [List.length_zipWith, h, Nat.min_self]
theorem comb_succ {x y : Int} {xs ys : List Int} (h : xs.length = ys.length) {i : Nat} (hi : i < xs.length) :
    (comb x xs y ys).take (i + 1) = (comb x xs y ys).take i ++ [x * (xs[((i : Nat) : Int).toNat]?.getD 0) + y * (ys[((i : Nat) : Int).toNat]?.getD 0)] := by
  have h1 : i < (comb x xs y ys).length := by rw [comb_len h]; exact hi
  rw [List.take_succ_eq_append_getElem h1, Int.toNat_natCast, List.getElem?_eq_getElem hi, List.getElem?_eq_getElem (by omega : i < ys.length)]
  have h2 : (comb x xs y ys)[i] = x * xs[i] + y * ys[i] := List.getElem_zipWith
  rw [h2]; rfl
/-- two rows alike -/
theorem same_end {xs ys : List Int} (h : xs.length = ys.length) (he : ∀ i : Nat, i < xs.length → xs[i]?.getD 0 = ys[i]?.getD 0) : xs = ys := by
  refine List.ext_getElem h fun i h1 h2 => ?_
  have := he i h1
  rw [List.getElem?_eq_getElem h1, List.getElem?_eq_getElem h2] at this
  exact this
theorem cmpZ_zeroN {x y : Int} : cmpZ x y = 0 ↔ x = y := by
  unfold cmpZ
  split
  · omega
  · split <;> omega
theorem one_ltN : (((1 : Int)).natAbs : Int) < pw 1 := by decide
theorem mone_lt : (((-1 : Int)).natAbs : Int) < pw 1 := by decide
theorem zero_lt (k : Nat) : (((0 : Int)).natAbs : Int) < pw k := pw_pos k
attribute [local irreducible] valL pw cmpZ p2
theorem c38 (G : Imm) (a b : Option Addr) (ca cb : Nat) (la lb : List IV) (xs ys : List Int) (ha : Arr G a la) (hb : Arr G b lb) (hx : Nums G la xs) (hy : Nums G lb ys) (m : Nat) (hm : m ≤ 1073741824) (bx : Go.Sl.Below m xs) (by' : Go.Sl.Below m ys) (h1 : la.length ≤ 1099511627776) (h2 : lb.length ≤ 1099511627776) :
    Does Tryz.prog 38 [.slice a la.length ca, .slice b lb.length cb] G [] (fun v G' Ho => v = .bool (decide (xs = ys)) ∧ G' = G ∧ Ho = []) := by
  have hxl := hx.1
  have hyl := hy.1
  refine Does.enter Tryz.func38 rfl Tryz.ntmps38 rfl (fun w => ?_)
  by_cases hl : la.length = lb.length
  · refine Wc.gc 25 [0] ?_
    refine Wc.loop (ι := Nat) (fun i => ([(5, .int .i64 (i : Int)), (0, Go.Value.slice a (List.length la) ca), (1, Go.Value.slice b (List.length lb) cb)], [])) (fun i => i ≤ la.length ∧ ∀ j : Nat, j < i → xs[j]?.getD 0 = ys[j]?.getD 0) (fun i => la.length - i) (0) (⟨Nat.zero_le _, fun j hj => by omega⟩) ⟨rfl, rfl, rfl, trivial⟩ trivial (fun i => fun (hk : i ≤ la.length ∧ ∀ j : Nat, j < i → xs[j]?.getD 0 = ys[j]?.getD 0) => ?_)
    obtain ⟨hi, he⟩ := hk
    rcases Nat.lt_or_ge i la.length with hia | hia
    · have hxi := hx.at (m := (i : Int)) (by omega)
      have hyi := hy.at (m := (i : Int)) (by omega)
      have hxn := Num.len hxi (bx.at _)
      have hyn := Num.len hyi (by'.at _)
      refine Wc.gc 15 [1] ?_
      refine Wc.draw [] [] T.mixed rfl ?_
      refine Gm.q 0 [] (by kernel_rfl) rfl rfl (Qy.move rfl) ?_
      refine Gm.q 1 [] (by kernel_rfl) rfl rfl (Qy.move rfl) ?_
      refine Gm.q 2 [] (by kernel_rfl) rfl rfl (Qy.at (α := IV) T.sl74 rfl rfl (by assumption) (by omega)) ?_
      refine Gm.q 3 [] (by kernel_rfl) rfl rfl (Qy.loadsG T.agg78 rfl (Arr.elem (by assumption) (by omega)) rfl) ?_
      refine Gm.q 4 [] (by kernel_rfl) rfl rfl (Qy.move rfl) ?_
      refine Gm.q 5 [] (by kernel_rfl) rfl rfl (Qy.move rfl) ?_
      refine Gm.q 6 [] (by kernel_rfl) rfl rfl (Qy.at (α := IV) T.sl74 rfl rfl (by assumption) (by omega)) ?_
      refine Gm.q 7 [] (by kernel_rfl) rfl rfl (Qy.loadsG T.agg78 rfl (Arr.elem (by assumption) (by omega)) rfl) ?_
      refine Gm.one 8 trivial (by first | exact Imm.le_refl _ | assumption | (refine Imm.le_trans ?_ (by assumption); first | assumption | (refine Imm.le_trans ?_ (by assumption); assumption))) (by kernel_rfl) rfl ?_
      refine Wl.call0 rfl T.fn83 rfl (num_cmp _ _ _ _ _ (by assumption) (by assumption) (by omega) (by omega)) ?_
      refine Wl.on0 ?_
      refine Gm.q 9 [] (by kernel_rfl) rfl rfl (Qy.neq rfl rfl) ?_
      refine Gm.doneA (by kernel_rfl) trivial (by first | exact Imm.le_refl _ | assumption | (refine Imm.le_trans ?_ (by assumption); first | assumption | (refine Imm.le_trans ?_ (by assumption); assumption))) ?_
      refine Ar.next ?_
      refine Wc.cond rfl (fun hc1 => ?_) (fun hc1 => ?_)
      refine Wc.ga 11 [] ?_
      rotate_left
      refine Wc.ga 8 [] ?_
      rotate_left
      · refine Ar.out1 (.inr rfl) (Ho := []) rfl (.tmp rfl) trivial ?_
        have hne : ¬ xs = ys := fun e => by subst e; exact hc1 (cmpZ_zeroN.2 rfl)
        exact ⟨by rw [decide_eq_false hne], rfl, rfl⟩
      · have hc2 := cmpZ_zeroN.1 (Classical.not_not.1 hc1)
        rw [Int.toNat_natCast] at hc2
        refine Ar.again (i + 1) ?_ ?_ rfl ⟨rfl, rfl, rfl, trivial⟩ trivial
        · refine ⟨by omega, fun j hj => ?_⟩
          by_cases hji : j = i
          · subst hji; exact hc2
          · exact he j (by omega)
        · show la.length - (i + 1) < la.length - i
          omega
    · refine Wc.ga 21 [0] ?_
      refine Ar.out1 (.inr rfl) (Ho := []) rfl (.tmp rfl) trivial ?_
      have hee : xs = ys := same_end (by omega) (fun j hj => he j (by omega))
      exact ⟨by rw [decide_eq_true hee], rfl, rfl⟩
  · refine Wc.ga 23 [1] ?_
    refine Ar.out1 (.inr rfl) (Ho := []) rfl (.tmp rfl) trivial ?_
    have hne : ¬ xs = ys := fun e => by subst e; omega
    exact ⟨by rw [decide_eq_false hne], rfl, rfl⟩
/-- a row of numbers, frozen -/
def RowOf (G : Imm) (v : Value) (zs : List Int) : Prop := ∃ (o : Option Addr) (c : Nat) (l : List IV), v = .slice o l.length c ∧ Arr G o l ∧ Nums G l zs ∧ l.length ≤ c
theorem c183 (G : Imm) (x y : IV) (zx zy : Int) (a b : Option Addr) (ca cb : Nat) (la lb : List IV) (xs ys : List Int) (hx : Num G x zx) (hy : Num G y zy) (ha : Arr G a la) (hb : Arr G b lb) (hxs : Nums G la xs) (hys : Nums G lb ys) (hl : la.length = lb.length) (k m : Nat) (hk : k + m ≤ 134217728)
    (bx : (zx.natAbs : Int) < pw k) (by' : (zy.natAbs : Int) < pw k) (bxs : Go.Sl.Below m xs) (bys : Go.Sl.Below m ys) (h1 : la.length ≤ 1048576) :
    Does Tryz.prog 183 [.agg (Cells.enc x).toArray, .slice a la.length ca, .agg (Cells.enc y).toArray, .slice b lb.length cb] G [] (fun v G' Ho => RowOf G' v (comb zx xs zy ys) ∧ Ho = []) := by
  have hxl := hxs.1
  have hyl := hys.1
  obtain ⟨K, hK⟩ : ∃ K, K = k + m := ⟨_, rfl⟩
  have hK9 : K ≤ 1073741824 := by omega
  refine Does.enter Tryz.func183 rfl Tryz.ntmps183 rfl (fun w => ?_)
  refine Wc.nilRow 9 (Row 78 ([] : List IV) []) ?_
  refine Wc.gl 2 [] ?_
  refine Wl.box 10 rfl rfl rfl (fun b1 => ?_)
  refine Wl.box 11 rfl rfl rfl (fun b2 => ?_)
  refine Wl.gc 15 [] ?_
  refine Wc.loopG (ι := Nat × Imm × List IV × (Option Addr × Nat × List Value)) (fun (i, Gx, r, (o, d, j)) => ([(10, .int .i64 (i : Int)), (9, .slice o r.length d), (8, Go.Value.slice Option.none 0 0), (6, Go.Value.pointer (Option.some (Go.Addr.mk b2 0 Option.none))), (4, Go.Value.pointer (Option.some (Go.Addr.mk b1 0 Option.none))), (1, Go.Value.slice a (List.length la) ca), (3, Go.Value.slice b (List.length lb) cb)], [(9, o.map (·.block), Row 78 r j), (11, Option.some b2, Go.Obj.cells (List.toArray (Go.Sl.Cells.enc y)) 78), (10, Option.some b1, Go.Obj.cells (List.toArray (Go.Sl.Cells.enc x)) 78)])) (fun (i, Gx, r, (o, d, j)) => Gx) (fun (i, Gx, r, (o, d, j)) => i ≤ la.length ∧ G.le Gx ∧ r.length = i ∧ Nums Gx r ((comb zx xs zy ys).take i) ∧ OwnA o d r j) (fun (i, Gx, r, (o, d, j)) => la.length - i) ((0, G, [], (none, 0, []))) (⟨Nat.zero_le _, Imm.le_refl _, rfl, by rw [List.take_zero]; exact Nums.nil _, OwnA.nil⟩) rfl ⟨rfl, rfl, rfl, rfl, rfl, rfl, rfl, trivial⟩ ⟨rfl, rfl, rfl, trivial⟩ (fun ⟨i, Gx, r, (o, d, j)⟩ => fun (hk : i ≤ la.length ∧ G.le Gx ∧ r.length = i ∧ Nums Gx r ((comb zx xs zy ys).take i) ∧ OwnA o d r j) => ?_)
  obtain ⟨hi, hgx, hri, hrs, hob⟩ := hk
  replace hx := hx.up hgx
  replace hy := hy.up hgx
  replace ha := ha.up hgx
  replace hb := hb.up hgx
  replace hxs := hxs.up hgx
  replace hys := hys.up hgx
  rcases Nat.lt_or_ge i la.length with hia | hia
  · have hxi := hxs.at (m := (i : Int)) (by omega)
    have hyi := hys.at (m := (i : Int)) (by omega)
    have hxn := Num.len hxi (bxs.at _)
    have hyn := Num.len hyi (bys.at _)
    have hxn0 := Num.len hx bx
    have hyn0 := Num.len hy by'
    have hp1 := mul_lt_pw bx (bxs.at (m := m) ((i : Int).toNat))
    have hp2 := mul_lt_pw by' (bys.at (m := m) ((i : Int).toNat))
    rw [← hK] at hp1 hp2
    refine Wc.gc 14 [1] ?_
    refine Wc.draw [10, 11, 9] [(9, 15)] T.mixed rfl ?_
    refine Gm.q 0 [] (by kernel_rfl) rfl rfl (Qy.move rfl) ?_
    refine Gm.q 1 [10] (by kernel_rfl) rfl rfl (Qy.loadAll 10 T.agg78 rfl rfl rfl) ?_
    refine Gm.q 2 [] (by kernel_rfl) rfl rfl (Qy.move rfl) ?_
    refine Gm.q 3 [] (by kernel_rfl) rfl rfl (Qy.move rfl) ?_
    refine Gm.q 4 [] (by kernel_rfl) rfl rfl (Qy.at (α := IV) T.sl74 rfl rfl (by assumption) (by omega)) ?_
    refine Gm.q 5 [] (by kernel_rfl) rfl rfl (Qy.loadsG T.agg78 rfl (Arr.elem (by assumption) (by omega)) rfl) ?_
    refine Gm.q 7 [11] (by kernel_rfl) rfl rfl (Qy.loadAll 11 T.agg78 rfl rfl rfl) ?_
    refine Gm.q 8 [] (by kernel_rfl) rfl rfl (Qy.move rfl) ?_
    refine Gm.q 9 [] (by kernel_rfl) rfl rfl (Qy.move rfl) ?_
    refine Gm.q 10 [] (by kernel_rfl) rfl rfl (Qy.at (α := IV) T.sl74 rfl rfl (by assumption) (by omega)) ?_
    refine Gm.q 11 [] (by kernel_rfl) rfl rfl (Qy.loadsG T.agg78 rfl (Arr.elem (by assumption) (by omega)) rfl) ?_
    refine Gm.one 6 ⟨rfl, rfl, rfl, trivial⟩ (by first | exact Imm.le_refl _ | assumption | (refine Imm.le_trans ?_ (by assumption); first | assumption | (refine Imm.le_trans ?_ (by assumption); assumption))) (by kernel_rfl) rfl ?_
    refine Wl.call 12 rfl T.fn135 rfl (num_mul _ _ _ _ _ (by assumption) (by assumption) (by omega) (by omega)) (tags_of trivial) (fun v1 G1 Ho1 hle1 hp => ?_)
    obtain ⟨pm1, rfl, hpm1, rfl⟩ := hp
    replace hrs := hrs.up hle1
    replace hx := hx.up hle1
    replace hy := hy.up hle1
    replace ha := ha.up hle1
    replace hb := hb.up hle1
    replace hxs := hxs.up hle1
    replace hys := hys.up hle1
    replace hxi := hxi.up hle1
    replace hyi := hyi.up hle1
    refine Wl.on0 ?_
    refine Gm.one 12 ⟨rfl, rfl, rfl, trivial⟩ (by first | exact Imm.le_refl _ | assumption | (refine Imm.le_trans ?_ (by assumption); first | assumption | (refine Imm.le_trans ?_ (by assumption); assumption))) (by kernel_rfl) rfl ?_
    refine Wl.call 12 rfl T.fn135 rfl (num_mul _ _ _ _ _ (by assumption) (by assumption) (by omega) (by omega)) (tags_of trivial) (fun v2 G2 Ho2 hle2 hp => ?_)
    obtain ⟨pm2, rfl, hpm2, rfl⟩ := hp
    replace hpm1 := hpm1.up hle2
    replace hrs := hrs.up hle2
    replace hx := hx.up hle2
    replace hy := hy.up hle2
    replace ha := ha.up hle2
    replace hb := hb.up hle2
    replace hxs := hxs.up hle2
    replace hys := hys.up hle2
    replace hxi := hxi.up hle2
    replace hyi := hyi.up hle2
    refine Wl.on0 ?_
    refine Gm.one 13 ⟨rfl, rfl, rfl, trivial⟩ (by first | exact Imm.le_refl _ | assumption | (refine Imm.le_trans ?_ (by assumption); first | assumption | (refine Imm.le_trans ?_ (by assumption); assumption))) (by kernel_rfl) rfl ?_
    refine Wl.call 12 rfl T.fn201 rfl (num_add _ _ _ _ _ (by assumption) (by assumption) (Nat.le_trans (Num.len (m := K) (by assumption) (by assumption)) hK9) (Nat.le_trans (Num.len (m := K) (by assumption) (by assumption)) hK9)) (tags_of trivial) (fun v3 G3 Ho3 hle3 hp => ?_)
    obtain ⟨ps3, rfl, hps3, rfl⟩ := hp
    replace hpm2 := hpm2.up hle3
    replace hpm1 := hpm1.up hle3
    replace hrs := hrs.up hle3
    replace hx := hx.up hle3
    replace hy := hy.up hle3
    replace ha := ha.up hle3
    replace hb := hb.up hle3
    replace hxs := hxs.up hle3
    replace hys := hys.up hle3
    replace hxi := hxi.up hle3
    replace hyi := hyi.up hle3
    refine Wl.on0 ?_
    refine Gm.one 14 ⟨rfl, rfl, rfl, trivial⟩ (by first | exact Imm.le_refl _ | assumption | (refine Imm.le_trans ?_ (by assumption); first | assumption | (refine Imm.le_trans ?_ (by assumption); assumption))) (by kernel_rfl) rfl ?_
    refine Wl.lit (α := IV) 12 [(ps3)] rfl T.sl74 T.el78 rfl rfl rfl rfl rfl (fun b3 => ?_)
    refine Wl.on0 ?_
    refine Gm.one 15 ⟨rfl, rfl, rfl, trivial⟩ (by first | exact Imm.le_refl _ | assumption | (refine Imm.le_trans ?_ (by assumption); first | assumption | (refine Imm.le_trans ?_ (by assumption); assumption))) (by kernel_rfl) rfl ?_
    refine Wl.append (α := IV) 9 rfl T.sl74 T.el78 rfl rfl rfl (by first | assumption | exact OwnA.nil | exact OwnA.made (by simp)) (Src.row 12 rfl) (by first | omega | (simp only [List.length_append, List.length_cons, List.length_nil, maxLen]; omega)) (by first | omega | (simp only [List.length_append, List.length_cons, List.length_nil, maxLen]; omega)) (fun a1 c1 junk1 ho1 => ?_)
    refine Wl.on0 ?_
    refine Gm.q 16 [] (by kernel_rfl) rfl rfl (Qy.assign rfl) ?_
    refine Gm.doneA (by kernel_rfl) ⟨rfl, rfl, trivial⟩ (by first | exact Imm.le_refl _ | assumption | (refine Imm.le_trans ?_ (by assumption); first | assumption | (refine Imm.le_trans ?_ (by assumption); assumption))) ?_
    refine Ar.ga 7 [] ?_
    refine Ar.again ((i + 1, G3, r ++ [ps3], (a1, c1, junk1))) ?_ ?_ rfl ⟨rfl, rfl, rfl, rfl, rfl, rfl, rfl, trivial⟩ ⟨rfl, rfl, rfl, trivial⟩
    · exact ⟨by omega, Imm.le_trans hgx (Imm.le_trans hle1 (Imm.le_trans hle2 hle3)), by rw [List.length_append]; show r.length + 1 = i + 1; omega, by rw [comb_succ (by omega) (by omega)]; exact hrs.snoc hps3, ho1⟩
    · show la.length - (i + 1) < la.length - i
      omega
  · refine Wc.ga 22 [0] ?_
    have hcap := hob.le
    rw [List.take_of_length_le (by rw [comb_len (by omega)]; omega)] at hrs
    refine Ar.freezeRow 9 rfl hob (fun G9 hle9 hA => ?_)
    refine Ar.out1 (.inr rfl) (Ho := []) rfl (.tmp rfl) trivial ?_
    exact ⟨⟨o, d, r, rfl, hA, hrs.up hle9, hcap⟩, rfl⟩
theorem nums_zeros (G : Imm) (n : Nat) : Nums G (List.replicate n (default : IV)) (List.replicate n 0) := by
  refine ⟨by rw [List.length_replicate, List.length_replicate], fun i hi => ?_⟩
  rw [List.length_replicate] at hi
  rw [List.getElem?_replicate, List.getElem?_replicate, if_pos hi, if_pos hi]
  exact Num.zero G
theorem c36 (G : Imm) (n : Nat) (hn : n ≤ 1048576) :
    Does Tryz.prog 36 [.int .i64 (n : Int)] G [] (fun v G' Ho => RowOf G' v (List.replicate n 0) ∧ Ho = []) := by
  refine Does.enter Tryz.func36 rfl Tryz.ntmps36 rfl (fun w => ?_)
  refine Wc.gl 8 [] ?_
  refine Wl.make (α := IV) 0 rfl T.sl74 T.el78 rfl rfl (by omega) (by omega) (fun b1 => ?_)
  refine Wl.ga 4 [] ?_
  have hr : ∀ N : Nat, (N : Int).toNat = N := fun N => Int.toNat_natCast N
  rw [hr n]
  have hl : (List.replicate n (default : IV)).length = n := List.length_replicate
  have hob : OwnA (some ⟨b1, 0, none⟩) n (List.replicate n (default : IV)) [] := .inr ⟨b1, rfl, by rw [hl]; rfl, by omega, by simp only [maxLen]; omega⟩
  refine Ar.freezeRow 0 rfl hob (fun G9 hle9 hA => ?_)
  refine Ar.out1 (.inr rfl) (Ho := []) rfl (.tmp rfl) trivial ?_
  exact ⟨⟨_, n, _, by rw [hl], hA, nums_zeros _ n, by rw [hl]; exact Nat.le_refl _⟩, rfl⟩
theorem comb_scale (z : Int) (xs : List Int) : comb z xs 0 xs = xs.map (fun a => z * a) := by
  unfold comb
  induction xs with
  | nil => rfl
  | cons a l ih => rw [List.zipWith_cons_cons, ih, List.map_cons, Int.zero_mul, Int.add_zero]
theorem comb_one (c : Int) (xs ys : List Int) : comb 1 xs c ys = List.zipWith (fun a b => a + c * b) xs ys := by
  unfold comb
  congr 1
  funext a b
  rw [Int.one_mul]
theorem c130 (G : Imm) (x : IV) (z : Int) (a : Option Addr) (ca : Nat) (la : List IV) (xs : List Int) (hx : Num G x z) (ha : Arr G a la) (hxs : Nums G la xs) (k m : Nat) (hk : k + m ≤ 134217728)
    (bx : (z.natAbs : Int) < pw k) (bxs : Go.Sl.Below m xs) (h1 : la.length ≤ 1048576) :
    Does Tryz.prog 130 [.slice a la.length ca, .agg (Cells.enc x).toArray] G [] (fun v G' Ho => RowOf G' v (xs.map (fun a => z * a)) ∧ Ho = []) := by
  refine Does.enter Tryz.func130 rfl Tryz.ntmps130 rfl (fun w => ?_)
  refine Wc.gl 2 [] ?_
  refine Wl.box 0 rfl rfl rfl (fun b1 => ?_)
  refine Wl.gl 7 [0] ?_
  refine Wl.q rfl (Qy.build (cs := [_, _]) T.st78 rfl rfl rfl) ?_
  refine Wl.q rfl (Qy.move rfl) ?_
  refine Wl.call 1 rfl T.fn183 rfl (c183 _ x ⟨false, none, 0, 0⟩ z 0 _ _ _ _ _ _ xs xs hx (Num.zero _) ha ha hxs hxs rfl k m hk bx (zero_lt k) bxs bxs h1) (tags_of trivial) (fun v1 G1 Ho1 hle1 hp => ?_)
  obtain ⟨⟨ro1, rc1, rl1, rfl, hrA1, hrs1, hrl1⟩, rfl⟩ := hp
  replace hx := hx.up hle1
  replace ha := ha.up hle1
  replace hxs := hxs.up hle1
  refine Wl.ga 4 [] ?_
  refine Ar.out1 (.inr rfl) (Ho := []) rfl (.tmp rfl) trivial ?_
  exact ⟨⟨ro1, rc1, rl1, rfl, hrA1, by rw [← comb_scale]; exact hrs1, hrl1⟩, rfl⟩
theorem c131 (G : Imm) (a b : Option Addr) (ca cb : Nat) (la lb : List IV) (xs ys : List Int) (ha : Arr G a la) (hb : Arr G b lb) (hxs : Nums G la xs) (hys : Nums G lb ys) (hl : la.length = lb.length) (m : Nat) (hm : 1 + m ≤ 134217728)
    (bxs : Go.Sl.Below m xs) (bys : Go.Sl.Below m ys) (h1 : la.length ≤ 1048576) :
    Does Tryz.prog 131 [.slice a la.length ca, .slice b lb.length cb] G [] (fun v G' Ho => RowOf G' v (List.zipWith (fun a b => a + 1 * b) xs ys) ∧ Ho = []) := by
  refine Does.enter Tryz.func131 rfl Tryz.ntmps131 rfl (fun w => ?_)
  refine Wc.gl 7 [] ?_
  refine Wl.call 0 rfl T.fn37 rfl (num_of _ _ ⟨by decide, by decide⟩) (tags_of trivial) (fun v1 G1 Ho1 hle1 hp => ?_)
  obtain ⟨ri1, rfl, hri1, rfl⟩ := hp
  replace ha := ha.up hle1
  replace hb := hb.up hle1
  replace hxs := hxs.up hle1
  replace hys := hys.up hle1
  refine Wl.q rfl (Qy.move rfl) ?_
  refine Wl.call 0 rfl T.fn37 rfl (num_of _ _ ⟨by decide, by decide⟩) (tags_of trivial) (fun v2 G2 Ho2 hle2 hp => ?_)
  obtain ⟨ri2, rfl, hri2, rfl⟩ := hp
  replace hri1 := hri1.up hle2
  replace ha := ha.up hle2
  replace hb := hb.up hle2
  replace hxs := hxs.up hle2
  replace hys := hys.up hle2
  refine Wl.q rfl (Qy.move rfl) ?_
  refine Wl.call 0 rfl T.fn183 rfl (c183 _ _ _ 1 1 _ _ _ _ la lb xs ys hri1 hri2 ha hb hxs hys hl 1 m hm one_ltN one_ltN bxs bys h1) (tags_of trivial) (fun v3 G3 Ho3 hle3 hp => ?_)
  obtain ⟨⟨ro3, rc3, rl3, rfl, hrA3, hrs3, hrl3⟩, rfl⟩ := hp
  replace hri2 := hri2.up hle3
  replace hri1 := hri1.up hle3
  replace ha := ha.up hle3
  replace hb := hb.up hle3
  replace hxs := hxs.up hle3
  replace hys := hys.up hle3
  refine Wl.ga 4 [] ?_
  refine Ar.out1 (.inr rfl) (Ho := []) rfl (.tmp rfl) trivial ?_
  exact ⟨⟨ro3, rc3, rl3, rfl, hrA3, by rw [← comb_one]; exact hrs3, hrl3⟩, rfl⟩
theorem c132 (G : Imm) (a b : Option Addr) (ca cb : Nat) (la lb : List IV) (xs ys : List Int) (ha : Arr G a la) (hb : Arr G b lb) (hxs : Nums G la xs) (hys : Nums G lb ys) (hl : la.length = lb.length) (m : Nat) (hm : 1 + m ≤ 134217728)
    (bxs : Go.Sl.Below m xs) (bys : Go.Sl.Below m ys) (h1 : la.length ≤ 1048576) :
    Does Tryz.prog 132 [.slice a la.length ca, .slice b lb.length cb] G [] (fun v G' Ho => RowOf G' v (List.zipWith (fun a b => a + (-1) * b) xs ys) ∧ Ho = []) := by
  refine Does.enter Tryz.func132 rfl Tryz.ntmps132 rfl (fun w => ?_)
  refine Wc.gl 7 [] ?_
  refine Wl.call 0 rfl T.fn37 rfl (num_of _ _ ⟨by decide, by decide⟩) (tags_of trivial) (fun v1 G1 Ho1 hle1 hp => ?_)
  obtain ⟨ri1, rfl, hri1, rfl⟩ := hp
  replace ha := ha.up hle1
  replace hb := hb.up hle1
  replace hxs := hxs.up hle1
  replace hys := hys.up hle1
  refine Wl.q rfl (Qy.move rfl) ?_
  refine Wl.call 0 rfl T.fn37 rfl (num_of _ _ ⟨by decide, by decide⟩) (tags_of trivial) (fun v2 G2 Ho2 hle2 hp => ?_)
  obtain ⟨ri2, rfl, hri2, rfl⟩ := hp
  replace hri1 := hri1.up hle2
  replace ha := ha.up hle2
  replace hb := hb.up hle2
  replace hxs := hxs.up hle2
  replace hys := hys.up hle2
  refine Wl.q rfl (Qy.move rfl) ?_
  refine Wl.call 0 rfl T.fn183 rfl (c183 _ _ _ 1 (-1) _ _ _ _ la lb xs ys hri1 hri2 ha hb hxs hys hl 1 m hm one_ltN mone_lt bxs bys h1) (tags_of trivial) (fun v3 G3 Ho3 hle3 hp => ?_)
  obtain ⟨⟨ro3, rc3, rl3, rfl, hrA3, hrs3, hrl3⟩, rfl⟩ := hp
  replace hri2 := hri2.up hle3
  replace hri1 := hri1.up hle3
  replace ha := ha.up hle3
  replace hb := hb.up hle3
  replace hxs := hxs.up hle3
  replace hys := hys.up hle3
  refine Wl.ga 4 [] ?_
  refine Ar.out1 (.inr rfl) (Ho := []) rfl (.tmp rfl) trivial ?_
  exact ⟨⟨ro3, rc3, rl3, rfl, hrA3, by rw [← comb_one]; exact hrs3, hrl3⟩, rfl⟩
theorem map_succ {y : Int} {xs : List Int} {i : Nat} (hi : i < xs.length) :
    (xs.map (· / y)).take (i + 1) = (xs.map (· / y)).take i ++ [xs[((i : Nat) : Int).toNat]?.getD 0 / y] := by
  have h1 : i < (xs.map (· / y)).length := by rw [List.length_map]; exact hi
  rw [List.take_succ_eq_append_getElem h1, Int.toNat_natCast, List.getElem?_eq_getElem hi, List.getElem_map]; rfl
theorem c134 (G : Imm) (y : IV) (zy : Int) (a : Option Addr) (ca : Nat) (la : List IV) (xs : List Int) (hy : Num G y zy) (ha : Arr G a la) (hxs : Nums G la xs) (m : Nat) (hm : m ≤ 134217728) (hyn0 : y.n ≤ 134217728)
    (bxs : Go.Sl.Below m xs) (hy0 : zy ≠ 0) (h1 : la.length ≤ 1048576) :
    Does Tryz.prog 134 [.slice a la.length ca, .agg (Cells.enc y).toArray] G [] (fun v G' Ho => ∃ rv, v = .tuple #[rv, .bool (decide (AllDiv zy xs))] ∧ (AllDiv zy xs → RowOf G' rv (xs.map (· / zy))) ∧ Ho = []) := by
  have hxl := hxs.1
  refine Does.enter Tryz.func134 rfl Tryz.ntmps134 rfl (fun w => ?_)
  refine Wc.nilRow 9 (Row 78 ([] : List IV) []) ?_
  refine Wc.gl 2 [] ?_
  refine Wl.box 10 rfl rfl rfl (fun b1 => ?_)
  refine Wl.gc 16 [] ?_
  refine Wc.loopG (ι := Nat × Imm × List IV × (Option Addr × Nat × List Value)) (fun (i, Gx, r, (o, d, j)) => ([(7, .int .i64 (i : Int)), (6, .slice o r.length d), (3, Go.Value.pointer (Option.some (Go.Addr.mk b1 0 Option.none))), (0, Go.Value.slice a (List.length la) ca)], [(9, o.map (·.block), Row 78 r j), (10, Option.some b1, Go.Obj.cells (List.toArray (Go.Sl.Cells.enc y)) 78)])) (fun (i, Gx, r, (o, d, j)) => Gx) (fun (i, Gx, r, (o, d, j)) => i ≤ la.length ∧ G.le Gx ∧ r.length = i ∧ Nums Gx r ((xs.map (· / zy)).take i) ∧ OwnA o d r j ∧ ∀ q : Nat, q < i → xs[q]?.getD 0 % zy = 0) (fun (i, Gx, r, (o, d, j)) => la.length - i) ((0, G, [], (none, 0, []))) (⟨Nat.zero_le _, Imm.le_refl _, rfl, by rw [List.take_zero]; exact Nums.nil _, OwnA.nil, fun q hq => by omega⟩) rfl ⟨rfl, rfl, rfl, rfl, trivial⟩ ⟨rfl, rfl, trivial⟩ (fun ⟨i, Gx, r, (o, d, j)⟩ => fun (hk : i ≤ la.length ∧ G.le Gx ∧ r.length = i ∧ Nums Gx r ((xs.map (· / zy)).take i) ∧ OwnA o d r j ∧ ∀ q : Nat, q < i → xs[q]?.getD 0 % zy = 0) => ?_)
  obtain ⟨hi, hgx, hri, hrs, hob, hq⟩ := hk
  replace hy := hy.up hgx
  replace ha := ha.up hgx
  replace hxs := hxs.up hgx
  rcases Nat.lt_or_ge i la.length with hia | hia
  · have hxi := hxs.at (m := (i : Int)) (by omega)
    have hxn := Num.len hxi (bxs.at _)
    refine Wc.gc 15 [1] ?_
    refine Wc.draw [10, 9] [] T.mixed rfl ?_
    refine Gm.q 0 [] (by kernel_rfl) rfl rfl (Qy.move rfl) ?_
    refine Gm.q 1 [] (by kernel_rfl) rfl rfl (Qy.move rfl) ?_
    refine Gm.q 2 [] (by kernel_rfl) rfl rfl (Qy.at (α := IV) T.sl74 rfl rfl (by assumption) (by omega)) ?_
    refine Gm.q 3 [] (by kernel_rfl) rfl rfl (Qy.loadsG T.agg78 rfl (Arr.elem (by assumption) (by omega)) rfl) ?_
    refine Gm.q 4 [10] (by kernel_rfl) rfl rfl (Qy.loadAll 10 T.agg78 rfl rfl rfl) ?_
    refine Gm.two 5 9 ⟨rfl, rfl, trivial⟩ (by first | exact Imm.le_refl _ | assumption | (refine Imm.le_trans ?_ (by assumption); first | assumption | (refine Imm.le_trans ?_ (by assumption); assumption))) (by kernel_rfl) rfl rfl ?_ ?_
    refine Wl.call 11 rfl T.fn185 rfl (num_over _ _ _ _ zy (by assumption) (by assumption) (by omega) (by omega) hy0) (tags_of trivial) (fun v1 G1 Ho1 hle1 hp => ?_)
    obtain ⟨qo1, rfl, hqo1, rfl⟩ := hp
    replace hrs := hrs.up hle1
    replace hy := hy.up hle1
    replace ha := ha.up hle1
    replace hxs := hxs.up hle1
    replace hxi := hxi.up hle1
    refine Wl.on0 ?_
    refine Gm.q 6 [] (by kernel_rfl) rfl rfl (Qy.move rfl) ?_
    refine Gm.q 7 [] (by kernel_rfl) rfl rfl (Qy.extract rfl rfl) ?_
    refine Gm.q 8 [] (by kernel_rfl) rfl rfl (Qy.extract rfl rfl) ?_
    refine Gm.one 9 ⟨rfl, rfl, trivial⟩ (by first | exact Imm.le_refl _ | assumption | (refine Imm.le_trans ?_ (by assumption); first | assumption | (refine Imm.le_trans ?_ (by assumption); assumption))) (by kernel_rfl) rfl ?_
    refine Wl.alloc 11 rfl T.zero78 (fun b2 => ?_)
    refine Wl.on0 ?_
    refine Gm.one 10 ⟨rfl, rfl, trivial⟩ (by first | exact Imm.le_refl _ | assumption | (refine Imm.le_trans ?_ (by assumption); first | assumption | (refine Imm.le_trans ?_ (by assumption); assumption))) (by kernel_rfl) rfl ?_
    refine Wl.storeAll 11 T.size78 rfl rfl rfl rfl rfl rfl ?_
    refine Wl.on0 ?_
    refine Gm.q 11 [] (by kernel_rfl) rfl rfl (Qy.assign rfl) ?_
    refine Gm.doneA (by kernel_rfl) ⟨rfl, rfl, trivial⟩ (by first | exact Imm.le_refl _ | assumption | (refine Imm.le_trans ?_ (by assumption); first | assumption | (refine Imm.le_trans ?_ (by assumption); assumption))) ?_
    refine Ar.gl 5 [] ?_
    refine Wl.q rfl (Qy.notD rfl) ?_
    refine Wl.gc 2 [] ?_
    refine Wc.cond rfl (fun hc1 => ?_) (fun hc1 => ?_)
    refine Wc.ga 13 [] ?_
    rotate_left
    refine Wc.gl 5 [11] ?_
    refine Wl.lit (α := IV) 12 [(qo1)] rfl T.sl74 T.el78 rfl rfl rfl rfl rfl (fun b3 => ?_)
    refine Wl.append (α := IV) 9 rfl T.sl74 T.el78 rfl rfl rfl (by first | assumption | exact OwnA.nil | exact OwnA.made (by simp)) (Src.row 12 rfl) (by first | omega | (simp only [List.length_append, List.length_cons, List.length_nil, maxLen]; omega)) (by first | omega | (simp only [List.length_append, List.length_cons, List.length_nil, maxLen]; omega)) (fun a1 c1 junk1 ho1 => ?_)
    refine Wl.ga 9 [] ?_
    rotate_left
    refine Wl.alloc 11 rfl T.zero78 (fun b2 => ?_)
    refine Wl.on0 ?_
    refine Gm.one 5 ⟨rfl, rfl, trivial⟩ (by first | exact Imm.le_refl _ | assumption | (refine Imm.le_trans ?_ (by assumption); first | assumption | (refine Imm.le_trans ?_ (by assumption); assumption))) (by kernel_rfl) rfl ?_
    refine Wl.call 12 rfl T.fn185 rfl (num_over _ _ _ _ zy (by assumption) (by assumption) (by omega) (by omega) hy0) (tags_of trivial) (fun v1 G1 Ho1 hle1 hp => ?_)
    obtain ⟨qo1, rfl, hqo1, rfl⟩ := hp
    replace hrs := hrs.up hle1
    replace hy := hy.up hle1
    replace ha := ha.up hle1
    replace hxs := hxs.up hle1
    replace hxi := hxi.up hle1
    refine Wl.on0 ?_
    refine Gm.q 6 [] (by kernel_rfl) rfl rfl (Qy.move rfl) ?_
    refine Gm.q 7 [] (by kernel_rfl) rfl rfl (Qy.extract rfl rfl) ?_
    refine Gm.q 8 [] (by kernel_rfl) rfl rfl (Qy.extract rfl rfl) ?_
    refine Gm.one 10 ⟨rfl, rfl, trivial⟩ (by first | exact Imm.le_refl _ | assumption | (refine Imm.le_trans ?_ (by assumption); first | assumption | (refine Imm.le_trans ?_ (by assumption); assumption))) (by kernel_rfl) rfl ?_
    refine Wl.storeAll 11 T.size78 rfl rfl rfl rfl rfl rfl ?_
    refine Wl.on0 ?_
    refine Gm.q 11 [] (by kernel_rfl) rfl rfl (Qy.assign rfl) ?_
    refine Gm.doneA (by kernel_rfl) ⟨rfl, rfl, trivial⟩ (by first | exact Imm.le_refl _ | assumption | (refine Imm.le_trans ?_ (by assumption); first | assumption | (refine Imm.le_trans ?_ (by assumption); assumption))) ?_
    refine Ar.gl 5 [] ?_
    refine Wl.q rfl (Qy.notD rfl) ?_
    refine Wl.gc 2 [] ?_
    refine Wc.cond rfl (fun hc1 => ?_) (fun hc1 => ?_)
    refine Wc.ga 13 [] ?_
    rotate_left
    refine Wc.gl 5 [11] ?_
    refine Wl.lit (α := IV) 12 [(qo1)] rfl T.sl74 T.el78 rfl rfl rfl rfl rfl (fun b3 => ?_)
    refine Wl.append (α := IV) 9 rfl T.sl74 T.el78 rfl rfl rfl (by first | assumption | exact OwnA.nil | exact OwnA.made (by simp)) (Src.row 12 rfl) (by first | omega | (simp only [List.length_append, List.length_cons, List.length_nil, maxLen]; omega)) (by first | omega | (simp only [List.length_append, List.length_cons, List.length_nil, maxLen]; omega)) (fun a1 c1 junk1 ho1 => ?_)
    refine Wl.ga 9 [] ?_
    rotate_left
    · refine Ar.out2 (.inr rfl) (Ho := []) rfl (.tmp rfl) (.tmp rfl) trivial ?_
      have hn : ¬ AllDiv zy xs := fun h => hc1 (h _ (by omega))
      exact ⟨_, by rw [decide_eq_false hn], fun h => absurd h hn, rfl⟩
    · have hc2 := Classical.not_not.1 hc1
      rw [if_pos hc2] at hqo1
      refine Ar.again ((i + 1, G1, r ++ [qo1], (a1, c1, junk1))) ?_ ?_ rfl ⟨rfl, rfl, rfl, rfl, trivial⟩ ⟨rfl, rfl, trivial⟩
      · refine ⟨by omega, Imm.le_trans hgx hle1, by rw [List.length_append]; show r.length + 1 = i + 1; omega, by rw [map_succ (by omega)]; exact hrs.snoc hqo1, ho1, fun q hq9 => ?_⟩
        by_cases hqi : q = i
        · subst hqi; rw [Int.toNat_natCast] at hc2; exact hc2
        · exact hq q (by omega)
      · show la.length - (i + 1) < la.length - i
        omega
    · refine Ar.out2 (.inr rfl) (Ho := []) rfl (.tmp rfl) (.tmp rfl) trivial ?_
      have hn : ¬ AllDiv zy xs := fun h => hc1 (h _ (by omega))
      exact ⟨_, by rw [decide_eq_false hn], fun h => absurd h hn, rfl⟩
    · have hc2 := Classical.not_not.1 hc1
      rw [if_pos hc2] at hqo1
      refine Ar.again ((i + 1, G1, r ++ [qo1], (a1, c1, junk1))) ?_ ?_ rfl ⟨rfl, rfl, rfl, rfl, trivial⟩ ⟨rfl, rfl, trivial⟩
      · refine ⟨by omega, Imm.le_trans hgx hle1, by rw [List.length_append]; show r.length + 1 = i + 1; omega, by rw [map_succ (by omega)]; exact hrs.snoc hqo1, ho1, fun q hq9 => ?_⟩
        by_cases hqi : q = i
        · subst hqi; rw [Int.toNat_natCast] at hc2; exact hc2
        · exact hq q (by omega)
      · show la.length - (i + 1) < la.length - i
        omega
  · refine Wc.ga 23 [0] ?_
    have hcap := hob.le
    have hall : AllDiv zy xs := fun q hq9 => hq q (by omega)
    rw [List.take_of_length_le (by rw [List.length_map]; omega)] at hrs
    refine Ar.freezeRow 9 rfl hob (fun G9 hle9 hA => ?_)
    refine Ar.out2 (.inr rfl) (Ho := []) rfl (.tmp rfl) (.tmp rfl) trivial ?_
    exact ⟨_, by rw [decide_eq_true hall], fun _ => ⟨o, d, r, rfl, hA, hrs.up hle9, hcap⟩, rfl⟩
end Go.Proofs.YtbppmiimeccclaaGreat
set_option maxRecDepth 100000
set_option linter.unusedVariables false
namespace Go.Proofs.YtbppmiimeccclaaGreat
open Go Go.Sl
set_option maxHeartbeats 4000000
/-- the handle of a row of numbers -/
def RowS (G : Imm) (s : SV) (zs : List Int) : Prop := ∃ l : List IV, l.length = s.n ∧ s.n ≤ s.c ∧ Arr G s.a l ∧ Nums G l zs
theorem RowS.up {G G' : Imm} {s : SV} {zs : List Int} (h : RowS G s zs) (hl : G.le G') : RowS G' s zs := by
  obtain ⟨l, h1, h2, h3, h4⟩ := h
  exact ⟨l, h1, h2, h3.up hl, h4.up hl⟩
theorem RowOf.handle {G : Imm} {v : Value} {zs : List Int} (h : RowOf G v zs) : ∃ s : SV, v = .slice s.a s.n s.c ∧ RowS G s zs := by
  obtain ⟨o, c, l, rfl, h1, h2, h3⟩ := h
  exact ⟨⟨o, l.length, c⟩, rfl, l, rfl, h3, h1, h2⟩
/-- rows of numbers -/
def Grid (G : Imm) (l : List SV) (rs : List (List Int)) : Prop := l.length = rs.length ∧ ∀ i : Nat, i < l.length → RowS G (l[i]?.getD default) (rs[i]?.getD [])
theorem Grid.up {G G' : Imm} {l : List SV} {rs : List (List Int)} (h : Grid G l rs) (hl : G.le G') : Grid G' l rs := ⟨h.1, fun i hi => (h.2 i hi).up hl⟩
theorem Grid.nil (G : Imm) : Grid G [] [] := ⟨rfl, fun i hi => by simp at hi⟩
theorem Grid.at {G : Imm} {l : List SV} {rs : List (List Int)} (h : Grid G l rs) {m : Int} (hm : 0 ≤ m ∧ m < l.length) : RowS G (l[m.toNat]?.getD default) (rs[m.toNat]?.getD []) := h.2 _ (by omega)
theorem Grid.snoc {G : Imm} {l : List SV} {rs : List (List Int)} (h : Grid G l rs) {s : SV} {zs : List Int} (hx : RowS G s zs) : Grid G (l ++ [s]) (rs ++ [zs]) := by
  refine ⟨by simp [h.1], fun i hi => ?_⟩
  rw [List.length_append, List.length_singleton] at hi
  by_cases hc : i < l.length
  · rw [List.getElem?_append_left hc, List.getElem?_append_left (by rw [← h.1]; exact hc)]
    exact h.2 i hc
  · have e : i = l.length := by omega
    subst e
    rw [List.getElem?_concat_length, h.1, List.getElem?_concat_length]
    exact hx
theorem Grid.set {G : Imm} {l : List SV} {rs : List (List Int)} (h : Grid G l rs) (k : Nat) {s : SV} {zs : List Int} (hx : RowS G s zs) : Grid G (l.set k s) (rs.set k zs) := by
  refine ⟨by rw [List.length_set, List.length_set]; exact h.1, fun i hi => ?_⟩
  rw [List.length_set] at hi
  have hi2 : i < rs.length := by rw [← h.1]; exact hi
  rw [List.getElem?_set, List.getElem?_set]
  by_cases hk : k = i
  · subst hk; rw [if_pos rfl, if_pos rfl, if_pos hi, if_pos hi2]; exact hx
  · rw [if_neg hk, if_neg hk]; exact h.2 i hi
attribute [local irreducible] valL pw cmpZ p2
theorem c133 (G : Imm) (i : Sl.Instr) (hc1 : i.op = 5 ∨ i.op = 6 → -9223372036854775808 ≤ i.c ∧ i.c ≤ 9223372036854775807) (hc2 : ¬ (i.op = 5 ∨ i.op = 6) → 0 ≤ i.c ∧ i.c ≤ 64) :
    Does Tryz.prog 133 [.agg (Cells.enc i).toArray] G [] (fun v G' Ho => ∃ r : IV, v = .agg (Cells.enc r).toArray ∧ Num G' r (cst i) ∧ Ho = []) := by
  refine Does.enter Tryz.func133 rfl Tryz.ntmps133 rfl (fun w => ?_)
  by_cases h5 : i.op = 5
  · have hc1 := hc1 (.inl h5)
    refine Wc.gl 2 [] ?_
    refine Wl.box 0 rfl rfl rfl (fun b1 => ?_)
    refine Wl.alloc 1 rfl T.zero78 (fun b2 => ?_)
    refine Wl.gl 9 [0] ?_
    refine Wl.yes 6 rfl (by first | assumption | omega) ?_
    refine Wl.gl 11 [1, 0] ?_
    refine Wl.call 2 rfl T.fn37 rfl (num_of _ _ hc1) (tags_of trivial) (fun v1 G1 Ho1 hle1 hp => ?_)
    obtain ⟨ri1, rfl, hri1, rfl⟩ := hp
    refine Wl.ga 5 [1] ?_
    refine Ar.out1 (.inr rfl) (Ho := []) rfl (.agg 1 rfl rfl T.agg78) trivial ?_
    exact ⟨ri1, rfl, by rw [cst_c (.inl h5)]; exact hri1, rfl⟩
  · by_cases h6 : i.op = 6
    · have hc1 := hc1 (.inr h6)
      refine Wc.gl 2 [] ?_
      refine Wl.box 0 rfl rfl rfl (fun b1 => ?_)
      refine Wl.alloc 1 rfl T.zero78 (fun b2 => ?_)
      refine Wl.gl 9 [0] ?_
      refine Wl.no 6 rfl (by first | assumption | omega) ?_
      refine Wl.gl 14 [0, 1, 0] ?_
      refine Wl.call 2 rfl T.fn37 rfl (num_of _ _ hc1) (tags_of trivial) (fun v1 G1 Ho1 hle1 hp => ?_)
      obtain ⟨ri1, rfl, hri1, rfl⟩ := hp
      refine Wl.ga 5 [1] ?_
      refine Ar.out1 (.inr rfl) (Ho := []) rfl (.agg 1 rfl rfl T.agg78) trivial ?_
      exact ⟨ri1, rfl, by rw [cst_c (.inr h6)]; exact hri1, rfl⟩
    · have hcp := cst_p (i := i) (by omega)
      obtain ⟨c, hc⟩ : ∃ c : Nat, i.c = (c : Int) := ⟨i.c.toNat, by have := hc2 (by omega); omega⟩
      have hc9 : c ≤ 16777216 := by have := hc2 (by omega); omega
      rw [hc, Int.toNat_natCast] at hcp
      clear hc1 hc2
      obtain ⟨o, t, a, b, cc⟩ := i
      simp only at hc h5 h6
      subst hc
      refine Wc.gl 2 [] ?_
      refine Wl.box 0 rfl rfl rfl (fun b1 => ?_)
      refine Wl.alloc 1 rfl T.zero78 (fun b2 => ?_)
      refine Wl.gl 9 [0] ?_
      refine Wl.no 6 rfl (by first | assumption | omega) ?_
      refine Wl.gl 16 [0, 0, 0] ?_
      refine Wl.call 2 rfl T.fn184 rfl (c184 _ c hc9) (tags_of trivial) (fun v1 G1 Ho1 hle1 hp => ?_)
      obtain ⟨ri1, rfl, hri1, rfl⟩ := hp
      refine Wl.ga 4 [1] ?_
      refine Ar.out1 (.inr rfl) (Ho := []) rfl (.agg 1 rfl rfl T.agg78) trivial ?_
      exact ⟨ri1, rfl, by rw [hcp]; exact hri1, rfl⟩
theorem row_scale (G : Imm) (x : IV) (z : Int) (s : SV) (xs : List Int) (hx : Num G x z) (hs : RowS G s xs) (m : Nat) (hk : 5 + m ≤ 134217728)
    (bx : (z.natAbs : Int) < pw 5) (bxs : Go.Sl.Below m xs) (h1 : s.n ≤ 1048576) :
    Does Tryz.prog 130 [.slice s.a s.n s.c, .agg (Cells.enc x).toArray] G [] (fun v G' Ho => ∃ s' : SV, v = .slice s'.a s'.n s'.c ∧ RowS G' s' (xs.map (fun a => z * a)) ∧ Ho = []) := by
  obtain ⟨sa, sn, sc⟩ := s
  obtain ⟨l, hl, hc, hA, hN⟩ := hs
  simp only at hl hc hA h1
  subst hl
  refine (c130 G x z sa sc l xs hx hA hN 5 m hk bx bxs h1).mono fun v G' Ho _ ⟨h, e⟩ => ?_
  obtain ⟨s', e1, e2⟩ := h.handle
  exact ⟨s', e1, e2, e⟩
theorem row_add (G : Imm) (s t : SV) (xs ys : List Int) (hs : RowS G s xs) (ht : RowS G t ys) (hl : xs.length = ys.length) (m : Nat) (hm : 1 + m ≤ 134217728) (bxs : Go.Sl.Below m xs) (bys : Go.Sl.Below m ys) (h1 : s.n ≤ 1048576) :
    Does Tryz.prog 131 [.slice s.a s.n s.c, .slice t.a t.n t.c] G [] (fun v G' Ho => ∃ s' : SV, v = .slice s'.a s'.n s'.c ∧ RowS G' s' (List.zipWith (fun a b => a + 1 * b) xs ys) ∧ Ho = []) := by
  obtain ⟨sa, sn, sc⟩ := s
  obtain ⟨ta, tn, tc⟩ := t
  obtain ⟨l, hl1, hc, hA, hN⟩ := hs
  obtain ⟨l', hl2, hc', hA', hN'⟩ := ht
  simp only at hl1 hc hA h1 hl2 hc' hA'
  subst hl1 hl2
  have e1 := hN.1
  have e2 := hN'.1
  refine (c131 G sa ta sc tc l l' xs ys hA hA' hN hN' (by omega) m hm bxs bys h1).mono fun v G' Ho _ ⟨h, e⟩ => ?_
  obtain ⟨s', e1, e2⟩ := h.handle
  exact ⟨s', e1, e2, e⟩
theorem row_sub (G : Imm) (s t : SV) (xs ys : List Int) (hs : RowS G s xs) (ht : RowS G t ys) (hl : xs.length = ys.length) (m : Nat) (hm : 1 + m ≤ 134217728) (bxs : Go.Sl.Below m xs) (bys : Go.Sl.Below m ys) (h1 : s.n ≤ 1048576) :
    Does Tryz.prog 132 [.slice s.a s.n s.c, .slice t.a t.n t.c] G [] (fun v G' Ho => ∃ s' : SV, v = .slice s'.a s'.n s'.c ∧ RowS G' s' (List.zipWith (fun a b => a + (-1) * b) xs ys) ∧ Ho = []) := by
  obtain ⟨sa, sn, sc⟩ := s
  obtain ⟨ta, tn, tc⟩ := t
  obtain ⟨l, hl1, hc, hA, hN⟩ := hs
  obtain ⟨l', hl2, hc', hA', hN'⟩ := ht
  simp only at hl1 hc hA h1 hl2 hc' hA'
  subst hl1 hl2
  have e1 := hN.1
  have e2 := hN'.1
  refine (c132 G sa ta sc tc l l' xs ys hA hA' hN hN' (by omega) m hm bxs bys h1).mono fun v G' Ho _ ⟨h, e⟩ => ?_
  obtain ⟨s', e1, e2⟩ := h.handle
  exact ⟨s', e1, e2, e⟩
theorem row_over (G : Imm) (y : IV) (zy : Int) (s : SV) (xs : List Int) (hy : Num G y zy) (hs : RowS G s xs) (m : Nat) (hm : m ≤ 134217728) (by' : (zy.natAbs : Int) < pw 5) (bxs : Go.Sl.Below m xs) (hy0 : zy ≠ 0) (h1 : s.n ≤ 1048576) :
    Does Tryz.prog 134 [.slice s.a s.n s.c, .agg (Cells.enc y).toArray] G [] (fun v G' Ho => ∃ rv, v = .tuple #[rv, .bool (decide (AllDiv zy xs))] ∧ (AllDiv zy xs → ∃ s' : SV, rv = .slice s'.a s'.n s'.c ∧ RowS G' s' (xs.map (· / zy))) ∧ Ho = []) := by
  obtain ⟨sa, sn, sc⟩ := s
  obtain ⟨l, hl, hc, hA, hN⟩ := hs
  simp only at hl hc hA h1
  subst hl
  refine (c134 G y zy sa sc l xs hy hA hN m hm (Nat.le_trans (Num.len hy by') (by decide)) bxs hy0 h1).mono fun v G' Ho _ ⟨rv, h, h2, e⟩ => ?_
  exact ⟨rv, h, fun ha => (h2 ha).handle, e⟩
/-- rows of one length, none too large -/
def Even (m N : Nat) (rs : List (List Int)) : Prop := ∀ zs ∈ rs, zs.length = N ∧ Go.Sl.Below m zs
theorem Even.at {m N : Nat} {rs : List (List Int)} (h : Even m N rs) {k : Int} (hk : 0 ≤ k ∧ k < rs.length) : (rs[k.toNat]?.getD []).length = N ∧ Go.Sl.Below m (rs[k.toNat]?.getD []) := by
  have h1 : k.toNat < rs.length := by omega
  rw [List.getElem?_eq_getElem h1]
  exact h _ (List.getElem_mem h1)
theorem RowS.len {G : Imm} {s : SV} {zs : List Int} (h : RowS G s zs) : s.n = zs.length := by
  obtain ⟨l, h1, _, _, h4⟩ := h
  rw [← h1]; exact h4.1
end Go.Proofs.YtbppmiimeccclaaGreat
set_option maxRecDepth 100000
set_option linter.unusedVariables false
namespace Go.Proofs.YtbppmiimeccclaaGreat
open Go Go.Sl
set_option maxHeartbeats 4000000
attribute [local irreducible] valL pw cmpZ p2
theorem one_lt5 : (((-1 : Int)).natAbs : Int) < pw 5 := Int.lt_of_lt_of_le mone_lt (pw_le (by decide))
/-- what 'do' answers -/
def DoPostN (i : Sl.Instr) (rs : List (List Int)) (H0 : Hp) (v : Value) (G' : Imm) (Ho : Hp) : Prop :=
  ∃ rv, v = .tuple #[rv, .bool (decide (doI i rs ≠ none))] ∧ (∀ zs, doI i rs = some zs → ∃ s : SV, rv = .slice s.a s.n s.c ∧ RowS G' s zs) ∧ Ho = H0
theorem do_someN {i : Sl.Instr} {rs : List (List Int)} {H0 : Hp} {s : SV} {G' : Imm} {zs : List Int} (h : doI i rs = some zs) (hs : RowS G' s zs) : DoPostN i rs H0 (.tuple #[.slice s.a s.n s.c, .bool true]) G' H0 :=
  ⟨_, by rw [decide_eq_true (show doI i rs ≠ none from fun e => by rw [e] at h; cases h)], fun zs' h' => by rw [h] at h'; cases h'; exact ⟨s, rfl, hs⟩, rfl⟩
theorem do_overN {i : Sl.Instr} {rs : List (List Int)} {H0 : Hp} {rv : Value} {G' : Imm} {y : Int} {xs : List Int} (h : doI i rs = if AllDiv y xs then some (xs.map (· / y)) else none)
    (hs : AllDiv y xs → ∃ s : SV, rv = .slice s.a s.n s.c ∧ RowS G' s (xs.map (· / y))) : DoPostN i rs H0 (.tuple #[rv, .bool (decide (AllDiv y xs))]) G' H0 := by
  by_cases ha : AllDiv y xs
  · rw [if_pos ha] at h
    obtain ⟨s, e1, e2⟩ := hs ha
    subst e1
    rw [decide_eq_true ha]
    exact do_someN h e2
  · rw [if_neg ha] at h
    refine ⟨rv, by rw [decide_eq_false ha, decide_eq_false (show ¬ doI i rs ≠ none from fun e => e h)], (fun zs hz => by rw [h] at hz; cases hz), rfl⟩
theorem c80 (G : Imm) (i : Sl.Instr) (o : Option Addr) (d : Nat) (r : List SV) (j : List Value) (rs : List (List Int)) (m N : Nat) (hob : OwnA o d r j) (hg : Grid G r rs) (he : Even m N rs) (hN : N ≤ 1048576) (hm : 5 + m ≤ 134217728)
    (hop : 1 ≤ i.op ∧ i.op ≤ 8) (ha : 0 ≤ i.a ∧ i.a < r.length) (hb : i.op = 3 ∨ i.op = 4 → 0 ≤ i.b ∧ i.b < r.length) (hcc : constOk i.op i.c = true) (hr : r.length ≤ 1048576) (hz : i.op ≠ 1 → i.op ≠ 2 → i.op ≠ 3 → i.op ≠ 4 → cst i ≠ 0 ∧ ((cst i).natAbs : Int) < pw 5)
    (hc1 : i.op = 5 ∨ i.op = 6 → -9223372036854775808 ≤ i.c ∧ i.c ≤ 9223372036854775807) (hc2 : ¬ (i.op = 5 ∨ i.op = 6) → 0 ≤ i.c ∧ i.c ≤ 64) :
    Does Tryz.prog 80 [.agg (Cells.enc i).toArray, .slice o r.length d] G [(0, o.map (·.block), Row 74 r j)] (fun v G' Ho => DoPostN i rs [(0, o.map (·.block), Row 74 r j)] v G' Ho) := by
  have hgl := hg.1
  have hca := hob.le
  have haR := hg.at ha
  obtain ⟨haL, haB⟩ := he.at (k := i.a) (by omega)
  have haN : (r[i.a.toNat]?.getD default).n ≤ 1048576 := by rw [haR.len, haL]; exact hN
  have hm1 : 1 + m ≤ 134217728 := by omega
  have hm2 : m ≤ 134217728 := by omega
  have hmone := one_lt5
  refine Does.enter Tryz.func80 rfl Tryz.ntmps80 rfl (fun w => ?_)
  by_cases h2 : i.op = 2
  · refine Wc.gl 2 [] ?_
    refine Wl.box 1 rfl rfl rfl (fun b1 => ?_)
    refine Wl.gl 9 [1] ?_
    refine Wl.q rfl (Qy.indexAddrO (α := SV) T.sl69 rfl rfl (by assumption) (by omega)) ?_
    refine Wl.q rfl (Qy.loadO 0 0 T.one74 rfl rfl (by assumption) (by omega) rfl rfl) ?_
    refine Wl.gl 15 [1, 1] ?_
    refine Wl.call 2 rfl T.fn37 rfl (num_of _ _ ⟨by decide, by decide⟩) (tags_of trivial) (fun v1 G1 Ho1 hle1 hp => ?_)
    obtain ⟨ri1, rfl, hri1, rfl⟩ := hp
    replace hg := hg.up hle1
    replace haR := haR.up hle1
    refine Wl.call 2 rfl T.fn130 rfl (row_scale _ _ _ _ _ (by assumption) (by assumption) m hm (by assumption) (by assumption) (by assumption)) (tags_of trivial) (fun v2 G2 Ho2 hle2 hp => ?_)
    obtain ⟨rs2, rfl, hrs2, rfl⟩ := hp
    replace hri1 := hri1.up hle2
    replace hg := hg.up hle2
    replace haR := haR.up hle2
    refine Wl.ga 6 [] ?_
    refine Ar.out2 (.inr rfl) (Ho := [(0, o.map (·.block), Row 74 r j)]) rfl (.tmp rfl) (.tmp rfl) ⟨rfl, trivial⟩ ?_
    exact do_someN (by unfold doI; exact if_pos h2) hrs2
  by_cases h34 : i.op = 3 ∨ i.op = 4
  · have hb := hb h34
    have hbR := hg.at hb
    obtain ⟨hbL, hbB⟩ := he.at (k := i.b) (by omega)
    have hll : (rs[i.a.toNat]?.getD []).length = (rs[i.b.toNat]?.getD []).length := by rw [haL, hbL]
    by_cases h3 : i.op = 3
    · refine Wc.gl 2 [] ?_
      refine Wl.box 1 rfl rfl rfl (fun b1 => ?_)
      refine Wl.gl 9 [1] ?_
      refine Wl.q rfl (Qy.indexAddrO (α := SV) T.sl69 rfl rfl (by assumption) (by omega)) ?_
      refine Wl.q rfl (Qy.loadO 0 0 T.one74 rfl rfl (by assumption) (by omega) rfl rfl) ?_
      refine Wl.gl 29 [1, 0, 1, 1, 1] ?_
      refine Wl.q rfl (Qy.indexAddrO (α := SV) T.sl69 rfl rfl (by assumption) (by omega)) ?_
      refine Wl.q rfl (Qy.loadO 0 0 T.one74 rfl rfl (by assumption) (by omega) rfl rfl) ?_
      refine Wl.call 2 rfl T.fn131 rfl (row_add _ _ _ _ _ (by assumption) hbR hll m hm1 (by assumption) hbB (by assumption)) (tags_of trivial) (fun v1 G1 Ho1 hle1 hp => ?_)
      obtain ⟨rs1, rfl, hrs1, rfl⟩ := hp
      replace hg := hg.up hle1
      replace haR := haR.up hle1
      replace hbR := hbR.up hle1
      refine Wl.ga 6 [] ?_
      refine Ar.out2 (.inr rfl) (Ho := [(0, o.map (·.block), Row 74 r j)]) rfl (.tmp rfl) (.tmp rfl) ⟨rfl, trivial⟩ ?_
      exact do_someN (by unfold doI; exact (if_neg h2).trans (if_pos h3)) hrs1
    · have h4 : i.op = 4 := by omega
      refine Wc.gl 2 [] ?_
      refine Wl.box 1 rfl rfl rfl (fun b1 => ?_)
      refine Wl.gl 9 [1] ?_
      refine Wl.q rfl (Qy.indexAddrO (α := SV) T.sl69 rfl rfl (by assumption) (by omega)) ?_
      refine Wl.q rfl (Qy.loadO 0 0 T.one74 rfl rfl (by assumption) (by omega) rfl rfl) ?_
      refine Wl.gl 40 [1, 0, 1, 0, 1, 1, 1] ?_
      refine Wl.q rfl (Qy.indexAddrO (α := SV) T.sl69 rfl rfl (by assumption) (by omega)) ?_
      refine Wl.q rfl (Qy.loadO 0 0 T.one74 rfl rfl (by assumption) (by omega) rfl rfl) ?_
      refine Wl.call 2 rfl T.fn132 rfl (row_sub _ _ _ _ _ (by assumption) hbR hll m hm1 (by assumption) hbB (by assumption)) (tags_of trivial) (fun v1 G1 Ho1 hle1 hp => ?_)
      obtain ⟨rs1, rfl, hrs1, rfl⟩ := hp
      replace hg := hg.up hle1
      replace haR := haR.up hle1
      replace hbR := hbR.up hle1
      refine Wl.ga 6 [] ?_
      refine Ar.out2 (.inr rfl) (Ho := [(0, o.map (·.block), Row 74 r j)]) rfl (.tmp rfl) (.tmp rfl) ⟨rfl, trivial⟩ ?_
      exact do_someN (by unfold doI; exact (if_neg h2).trans ((if_neg h3).trans (if_pos h4))) hrs1
  by_cases h1 : i.op = 1
  · refine Wc.gl 2 [] ?_
    refine Wl.box 1 rfl rfl rfl (fun b1 => ?_)
    refine Wl.gl 9 [1] ?_
    refine Wl.q rfl (Qy.indexAddrO (α := SV) T.sl69 rfl rfl (by assumption) (by omega)) ?_
    refine Wl.q rfl (Qy.loadO 0 0 T.one74 rfl rfl (by assumption) (by omega) rfl rfl) ?_
    refine Wl.gl 43 [1, 0, 1, 0, 1, 0, 1] ?_
    refine Wl.no 41 rfl (by first | assumption | omega) ?_
    refine Wl.gl 19 [1, 0, 1] ?_
    refine Wl.no 53 rfl (by first | assumption | omega) ?_
    refine Wl.ga 20 [1, 0] ?_
    refine Ar.out2 (.inr rfl) (Ho := [(0, o.map (·.block), Row 74 r j)]) rfl (.tmp rfl) (.tmp rfl) ⟨rfl, trivial⟩ ?_
    exact do_someN (by unfold doI; exact (if_neg h2).trans ((if_neg (fun e => h34 (.inl e))).trans ((if_neg (fun e => h34 (.inr e))).trans ((if_neg (by omega)).trans (if_neg (by omega)))))) haR
  obtain ⟨hy0, hyb⟩ := hz h1 h2 (by omega) (by omega)
  by_cases h5 : i.op = 5
  · refine Wc.gl 2 [] ?_
    refine Wl.box 1 rfl rfl rfl (fun b1 => ?_)
    refine Wl.gl 9 [1] ?_
    refine Wl.q rfl (Qy.indexAddrO (α := SV) T.sl69 rfl rfl (by assumption) (by omega)) ?_
    refine Wl.q rfl (Qy.loadO 0 0 T.one74 rfl rfl (by assumption) (by omega) rfl rfl) ?_
    refine Wl.gl 43 [1, 0, 1, 0, 1, 0, 1] ?_
    refine Wl.yes 41 rfl (by first | assumption | omega) ?_
    refine Wl.gl 11 [1, 1] ?_
    refine Wl.call 2 rfl T.fn133 rfl (c133 _ i hc1 hc2) (tags_of trivial) (fun v1 G1 Ho1 hle1 hp => ?_)
    obtain ⟨ri1, rfl, hri1, rfl⟩ := hp
    replace hg := hg.up hle1
    replace haR := haR.up hle1
    refine Wl.call 2 rfl T.fn130 rfl (row_scale _ _ _ _ _ (by assumption) (by assumption) m hm (by assumption) (by assumption) (by assumption)) (tags_of trivial) (fun v2 G2 Ho2 hle2 hp => ?_)
    obtain ⟨rs2, rfl, hrs2, rfl⟩ := hp
    replace hri1 := hri1.up hle2
    replace hg := hg.up hle2
    replace haR := haR.up hle2
    refine Wl.ga 6 [] ?_
    refine Ar.out2 (.inr rfl) (Ho := [(0, o.map (·.block), Row 74 r j)]) rfl (.tmp rfl) (.tmp rfl) ⟨rfl, trivial⟩ ?_
    exact do_someN (by unfold doI; exact (if_neg h2).trans ((if_neg (fun e => h34 (.inl e))).trans ((if_neg (fun e => h34 (.inr e))).trans (if_pos (.inl h5))))) hrs2
  by_cases h7 : i.op = 7
  · refine Wc.gl 2 [] ?_
    refine Wl.box 1 rfl rfl rfl (fun b1 => ?_)
    refine Wl.gl 9 [1] ?_
    refine Wl.q rfl (Qy.indexAddrO (α := SV) T.sl69 rfl rfl (by assumption) (by omega)) ?_
    refine Wl.q rfl (Qy.loadO 0 0 T.one74 rfl rfl (by assumption) (by omega) rfl rfl) ?_
    refine Wl.gl 43 [1, 0, 1, 0, 1, 0, 1] ?_
    refine Wl.no 41 rfl (by first | assumption | omega) ?_
    refine Wl.gl 14 [1, 1, 1] ?_
    refine Wl.call 2 rfl T.fn133 rfl (c133 _ i hc1 hc2) (tags_of trivial) (fun v1 G1 Ho1 hle1 hp => ?_)
    obtain ⟨ri1, rfl, hri1, rfl⟩ := hp
    replace hg := hg.up hle1
    replace haR := haR.up hle1
    refine Wl.call 2 rfl T.fn130 rfl (row_scale _ _ _ _ _ (by assumption) (by assumption) m hm (by assumption) (by assumption) (by assumption)) (tags_of trivial) (fun v2 G2 Ho2 hle2 hp => ?_)
    obtain ⟨rs2, rfl, hrs2, rfl⟩ := hp
    replace hri1 := hri1.up hle2
    replace hg := hg.up hle2
    replace haR := haR.up hle2
    refine Wl.ga 6 [] ?_
    refine Ar.out2 (.inr rfl) (Ho := [(0, o.map (·.block), Row 74 r j)]) rfl (.tmp rfl) (.tmp rfl) ⟨rfl, trivial⟩ ?_
    exact do_someN (by unfold doI; exact (if_neg h2).trans ((if_neg (fun e => h34 (.inl e))).trans ((if_neg (fun e => h34 (.inr e))).trans (if_pos (.inr h7))))) hrs2
  by_cases h6 : i.op = 6
  · refine Wc.gl 2 [] ?_
    refine Wl.box 1 rfl rfl rfl (fun b1 => ?_)
    refine Wl.gl 9 [1] ?_
    refine Wl.q rfl (Qy.indexAddrO (α := SV) T.sl69 rfl rfl (by assumption) (by omega)) ?_
    refine Wl.q rfl (Qy.loadO 0 0 T.one74 rfl rfl (by assumption) (by omega) rfl rfl) ?_
    refine Wl.gl 43 [1, 0, 1, 0, 1, 0, 1] ?_
    refine Wl.no 41 rfl (by first | assumption | omega) ?_
    refine Wl.gl 19 [1, 0, 1] ?_
    refine Wl.yes 53 rfl (by first | assumption | omega) ?_
    refine Wl.gl 11 [1, 1] ?_
    refine Wl.call 2 rfl T.fn133 rfl (c133 _ i hc1 hc2) (tags_of trivial) (fun v1 G1 Ho1 hle1 hp => ?_)
    obtain ⟨ri1, rfl, hri1, rfl⟩ := hp
    replace hg := hg.up hle1
    replace haR := haR.up hle1
    refine Wl.call 2 rfl T.fn134 rfl (row_over _ _ _ _ _ (by assumption) (by assumption) m hm2 (by assumption) (by assumption) hy0 (by assumption)) (tags_of trivial) (fun v2 G2 Ho2 hle2 hp => ?_)
    obtain ⟨rv2, rfl, hrv2, rfl⟩ := hp
    replace hri1 := hri1.up hle2
    replace hg := hg.up hle2
    replace haR := haR.up hle2
    refine Wl.ga 8 [] ?_
    refine Ar.out2 (.inr rfl) (Ho := [(0, o.map (·.block), Row 74 r j)]) rfl (.tmp rfl) (.tmp rfl) ⟨rfl, trivial⟩ ?_
    exact do_overN (by unfold doI; exact (if_neg h2).trans ((if_neg (fun e => h34 (.inl e))).trans ((if_neg (fun e => h34 (.inr e))).trans ((if_neg (by omega)).trans (if_pos (.inl h6)))))) hrv2
  · have h8 : i.op = 8 := by omega
    refine Wc.gl 2 [] ?_
    refine Wl.box 1 rfl rfl rfl (fun b1 => ?_)
    refine Wl.gl 9 [1] ?_
    refine Wl.q rfl (Qy.indexAddrO (α := SV) T.sl69 rfl rfl (by assumption) (by omega)) ?_
    refine Wl.q rfl (Qy.loadO 0 0 T.one74 rfl rfl (by assumption) (by omega) rfl rfl) ?_
    refine Wl.gl 43 [1, 0, 1, 0, 1, 0, 1] ?_
    refine Wl.no 41 rfl (by first | assumption | omega) ?_
    refine Wl.gl 19 [1, 0, 1] ?_
    refine Wl.no 53 rfl (by first | assumption | omega) ?_
    refine Wl.gl 14 [1, 1, 1] ?_
    refine Wl.call 2 rfl T.fn133 rfl (c133 _ i hc1 hc2) (tags_of trivial) (fun v1 G1 Ho1 hle1 hp => ?_)
    obtain ⟨ri1, rfl, hri1, rfl⟩ := hp
    replace hg := hg.up hle1
    replace haR := haR.up hle1
    refine Wl.call 2 rfl T.fn134 rfl (row_over _ _ _ _ _ (by assumption) (by assumption) m hm2 (by assumption) (by assumption) hy0 (by assumption)) (tags_of trivial) (fun v2 G2 Ho2 hle2 hp => ?_)
    obtain ⟨rv2, rfl, hrv2, rfl⟩ := hp
    replace hri1 := hri1.up hle2
    replace hg := hg.up hle2
    replace haR := haR.up hle2
    refine Wl.ga 8 [] ?_
    refine Ar.out2 (.inr rfl) (Ho := [(0, o.map (·.block), Row 74 r j)]) rfl (.tmp rfl) (.tmp rfl) ⟨rfl, trivial⟩ ?_
    exact do_overN (by unfold doI; exact (if_neg h2).trans ((if_neg (fun e => h34 (.inl e))).trans ((if_neg (fun e => h34 (.inr e))).trans ((if_neg (by omega)).trans (if_pos (.inr h8)))))) hrv2
end Go.Proofs.YtbppmiimeccclaaGreat
set_option linter.unusedVariables false
namespace Go.Proofs.YtbppmiimeccclaaGreat
open Go Go.Sl
theorem below_map {m k : Nat} {xs : List Int} {f : Int → Int} (h : ∀ x : Int, (x.natAbs : Int) < pw m → ((f x).natAbs : Int) < pw k) (hx : Go.Sl.Below m xs) : Go.Sl.Below k (xs.map f) := fun z hz => by
  obtain ⟨x, h1, rfl⟩ := List.mem_map.1 hz
  exact h x (hx x h1)
theorem below_zip {m k : Nat} {xs ys : List Int} {f : Int → Int → Int} (h : ∀ x y : Int, (x.natAbs : Int) < pw m → (y.natAbs : Int) < pw m → ((f x y).natAbs : Int) < pw k) (hx : Go.Sl.Below m xs) (hy : Go.Sl.Below m ys) : Go.Sl.Below k (List.zipWith f xs ys) := fun z hz => by
  rw [List.mem_iff_getElem] at hz
  obtain ⟨n, hn, rfl⟩ := hz
  rw [List.getElem_zipWith]
  exact h _ _ (hx _ (List.getElem_mem _)) (hy _ (List.getElem_mem _))
theorem pw_five (m : Nat) : 65536 * pw m ≤ pw (5 + m) := by
  rw [← pw_succ]; exact pw_le (by omega)
theorem doI_even {i : Sl.Instr} {rs : List (List Int)} {m N : Nat} {x : List Int} (he : Even m N rs) (ha : 0 ≤ i.a ∧ i.a < rs.length) (hb : i.op = 3 ∨ i.op = 4 → 0 ≤ i.b ∧ i.b < rs.length)
    (hz : i.op = 5 ∨ i.op = 7 → ((cst i).natAbs : Int) < pw 5) (h : doI i rs = some x) : x.length = N ∧ Go.Sl.Below (5 + m) x := by
  obtain ⟨haL, haB⟩ := he.at ha
  have h5 := pw_five m
  have hp := pw_pos m
  unfold doI at h
  simp only at h
  split at h
  · cases h
    exact ⟨by rw [List.length_map]; exact haL, below_map (fun x hx => by omega) haB⟩
  · split at h
    · rename_i h3
      obtain ⟨hbL, hbB⟩ := he.at (hb (.inl h3))
      cases h
      exact ⟨by rw [List.length_zipWith, haL, hbL, Nat.min_self], below_zip (fun x y hx hy => by omega) haB hbB⟩
    · split at h
      · rename_i h4
        obtain ⟨hbL, hbB⟩ := he.at (hb (.inr h4))
        cases h
        exact ⟨by rw [List.length_zipWith, haL, hbL, Nat.min_self], below_zip (fun x y hx hy => by omega) haB hbB⟩
      · split at h
        · rename_i h57
          cases h
          exact ⟨by rw [List.length_map]; exact haL, below_map (fun x hx => mul_lt_pw (hz h57) hx) haB⟩
        · split at h
          · split at h
            · cases h
              refine ⟨by rw [List.length_map]; exact haL, below_map (fun x hx => ?_) haB⟩
              have h1 : (x / cst i).natAbs ≤ x.natAbs := Int.natAbs_ediv_le_natAbs _ _
              omega
            · cases h
          · cases h
            exact ⟨haL, haB.mono (by omega)⟩
theorem even_regs0 {p : PV} {gs : List (List Int)} {m N : Nat} (hg : Even m N gs) (h0 : 0 < gs.length) : Even m N (regs0 p gs) := fun zs hz => by
  unfold regs0 at hz
  obtain ⟨k, hk, rfl⟩ := List.mem_map.1 hz
  have hN := (hg.at (k := 0) (by omega)).1
  split
  · exact hg.at (k := (k : Int)) (by omega)
  · refine ⟨by rw [List.length_replicate]; exact hN, fun z hz => ?_⟩
    rw [List.eq_of_mem_replicate hz]; exact pw_pos m
theorem even_set {m N : Nat} {rs : List (List Int)} {x : List Int} (h : Even m N rs) (hx : x.length = N ∧ Go.Sl.Below m x) (k : Nat) : Even m N (rs.set k x) := fun zs hz => by
  rcases List.mem_or_eq_of_mem_set hz with h1 | h1
  · exact h zs h1
  · rw [h1]; exact hx
theorem Even.mono {m k N : Nat} {rs : List (List Int)} (h : Even m N rs) (hk : m ≤ k) : Even k N rs := fun zs hz => ⟨(h zs hz).1, (h zs hz).2.mono hk⟩
end Go.Proofs.YtbppmiimeccclaaGreat
set_option maxRecDepth 100000
set_option linter.unusedVariables false
namespace Go.Proofs.YtbppmiimeccclaaGreat
open Go Go.Sl
set_option maxHeartbeats 4000000
theorem row_next {G : Imm} {r : List SV} {rs : List (List Int)} {k : Nat} {s : SV} (h : ∀ q : Nat, q < k → RowS G (r[q]?.getD default) (rs[q]?.getD [])) (hk : k < r.length) (hs : RowS G s (rs[k]?.getD [])) : ∀ q : Nat, q < k + 1 → RowS G ((r.set k s)[q]?.getD default) (rs[q]?.getD []) := fun q hq => by
  rw [List.getElem?_set]
  by_cases he : k = q
  · subst he; rw [if_pos rfl, if_pos hk]; exact hs
  · rw [if_neg he]; exact h q (by omega)
theorem rows_up {G G' : Imm} {r : List SV} {rs : List (List Int)} {k : Nat} (h : ∀ q : Nat, q < k → RowS G (r[q]?.getD default) (rs[q]?.getD [])) (hl : G.le G') : ∀ q : Nat, q < k → RowS G' (r[q]?.getD default) (rs[q]?.getD []) := fun q hq => (h q hq).up hl
theorem outs_succ {p : PV} {rs : List (List Int)} {q : Nat} (hq : q < p.outs.length) :
    (outsOf p rs).take (q + 1) = (outsOf p rs).take q ++ [rs[(p.outs[((q : Nat) : Int).toNat]?.getD default).toNat]?.getD []] := by
  have h1 : q < (outsOf p rs).length := by unfold outsOf; rw [List.length_map]; exact hq
  have h2 : (outsOf p rs)[q] = rs[(p.outs[q]).toNat]?.getD [] := List.getElem_map _
  rw [List.take_succ_eq_append_getElem h1, h2, Int.toNat_natCast, List.getElem?_eq_getElem hq]; rfl
attribute [local irreducible] valL pw cmpZ p2
theorem c34 (G : Imm) (p : PV) (ac ao ga : Option Addr) (cc co gc : Nat) (gl : List SV) (gs : List (List Int)) (N : Nat) (hc : Arr G ac p.code) (ho : Arr G ao p.outs) (hga : Arr G ga gl) (hgg : Grid G gl gs) (hev : Even 4 N gs) (hN : N ≤ 1048576) (hR : rightP p = true) (hgi : (gl.length : Int) = p.ins) (hcl : p.code.length ≤ 16384) :
    Does Tryz.prog 34 [.agg #[.int .i64 p.ins, .int .i64 p.regs, .slice ac p.code.length cc, .slice ao p.outs.length co], .slice ga gl.length gc] G [] (fun v G' Ho => ∃ sv bad ov, v = .tuple #[sv, .int .i64 bad, ov] ∧ (followP p gs = none → 0 ≤ bad ∧ ov = .slice none 0 0) ∧
      (∀ os, followP p gs = some os → bad = -1 ∧ ∃ (oa : Option Addr) (oc : Nat) (ol : List SV), ov = .slice oa ol.length oc ∧ Arr G' oa ol ∧ Grid G' ol os) ∧ Ho = []) := by
  obtain ⟨f1, f2, f3, f4, f5, f6, f7, f8⟩ := right_facts hR
  have hgl := hgg.1
  obtain ⟨R, hRR⟩ : ∃ R : Nat, p.regs = (R : Int) := ⟨p.regs.toNat, by omega⟩
  refine Does.enter Tryz.func34 rfl Tryz.ntmps34 rfl (fun w => ?_)
  have hM : p.regs.toNat = R := by omega
  have hrl0 := regs0_len p gs
  rw [hM] at hrl0
  have hgl0 : 0 < gl.length := by omega
  have h0R := hgg.at (m := 0) (by omega)
  obtain ⟨h0L, h0B⟩ := hev.at (k := 0) (by omega)
  have h0n : (gl[(0 : Int).toNat]?.getD default).n ≤ 1048576 := by rw [h0R.len, h0L]; exact hN
  refine Wc.gl 2 [] ?_
  refine Wl.box 0 rfl rfl rfl (fun b1 => ?_)
  refine Wl.gl 9 [0] ?_
  refine Wl.make (α := SV) 1 rfl T.sl69 T.el74 rfl rfl (by omega) (by omega) (fun b2 => ?_)
  refine Wl.gc 10 [] ?_
  rw [hM]
  have hown : ∀ r : List SV, r.length = R → OwnA (some ⟨b2, 0, none⟩) R r [] := fun r hr => .inr ⟨b2, rfl, by rw [hr]; rfl, by omega, by simp only [maxLen]; omega⟩
  refine Wc.re 7 rfl (show _ = Value.slice (some ⟨b2, 0, none⟩) (List.replicate R (default : SV)).length R by rw [List.length_replicate]) ?_
  refine Wc.loopG (ι := Nat × Imm × List SV) (fun (k, Gx, r) => ([(8, .int .i64 (k : Int)), (7, .slice (some ⟨b2, 0, none⟩) r.length R), (6, Go.Value.slice Option.none 0 0), (5, Go.Value.int Go.IntKind.i64 0), (4, Go.Value.slice Option.none 0 0), (2, Go.Value.pointer (Option.some (Go.Addr.mk b1 0 Option.none))), (1, Go.Value.slice ga (List.length gl) gc)], [(1, some b2, Row 74 r []), (0, Option.some b1, Go.Obj.cells #[Go.Value.int Go.IntKind.i64 (Go.Proofs.YtbppmiimeccclaaGreat.PV.ins p), Go.Value.int Go.IntKind.i64 (Go.Proofs.YtbppmiimeccclaaGreat.PV.regs p), Go.Value.slice ac (List.length (Go.Proofs.YtbppmiimeccclaaGreat.PV.code p)) cc, Go.Value.slice ao (List.length (Go.Proofs.YtbppmiimeccclaaGreat.PV.outs p)) co] 25)])) (fun (k, Gx, r) => Gx) (fun (k, Gx, r) => k ≤ R ∧ G.le Gx ∧ r.length = R ∧ ∀ q : Nat, q < k → RowS Gx (r[q]?.getD default) ((regs0 p gs)[q]?.getD [])) (fun (k, Gx, r) => R - k) ((0, G, List.replicate R (default : SV))) (⟨Nat.zero_le _, Imm.le_refl _, List.length_replicate, fun q hq => by omega⟩) rfl ⟨rfl, rfl, rfl, rfl, rfl, rfl, rfl, trivial⟩ ⟨rfl, rfl, trivial⟩ (fun ⟨k, Gx, r⟩ => fun (hk : k ≤ R ∧ G.le Gx ∧ r.length = R ∧ ∀ q : Nat, q < k → RowS Gx (r[q]?.getD default) ((regs0 p gs)[q]?.getD [])) => ?_)
  obtain ⟨hk0, hgx, hrR, hrow⟩ := hk
  replace hc := hc.up hgx
  replace ho := ho.up hgx
  replace hga := hga.up hgx
  replace hgg := hgg.up hgx
  have hor := hown r hrR
  rcases Nat.lt_or_ge k R with hkR | hkR
  · by_cases hkg : k < gl.length
    · refine Wc.gl 19 [0, 1] ?_
      refine Wl.q rfl (Qy.at (α := SV) T.sl69 rfl rfl (by assumption) (by omega)) ?_
      refine Wl.q rfl (Qy.loadG T.one74 rfl (Arr.cell (by assumption) (by omega) 0 rfl rfl)) ?_
      refine Wl.q rfl (Qy.len T.sl74 rfl) ?_
      refine Wl.call 2 rfl T.fn36 rfl (c36 _ _ (by assumption)) (tags_of trivial) (fun v1 G1 Ho1 hle1 hp => ?_)
      obtain ⟨⟨zo1, zc1, zl1, rfl, hzA1, hzN1, hzl1⟩, rfl⟩ := hp
      replace hc := hc.up hle1
      replace ho := ho.up hle1
      replace hga := hga.up hle1
      replace hgg := hgg.up hle1
      refine Wl.q rfl (Qy.indexAddrO (α := SV) T.sl69 rfl rfl (by assumption) (by omega)) ?_
      refine Wl.setO (z := ⟨zo1, zl1.length, zc1⟩) 1 T.size74 rfl rfl rfl (by assumption) (by omega) rfl (fun ho1 => ?_)
      refine Wl.gl 16 [1] ?_
      refine Wl.q rfl (Qy.at (α := SV) T.sl69 rfl rfl (by assumption) (by omega)) ?_
      refine Wl.q rfl (Qy.loadG T.one74 rfl (Arr.cell (by assumption) (by omega) 0 rfl rfl)) ?_
      refine Wl.q rfl (Qy.indexAddrO (α := SV) T.sl69 rfl rfl (by assumption) (by omega)) ?_
      refine Wl.setO (z := gl[((k : Nat) : Int).toNat]?.getD default) 1 T.size74 rfl rfl rfl (by assumption) (by rw [List.length_set]; omega) rfl (fun ho2 => ?_)
      refine Wl.ga 8 [] ?_
      rw [Int.toNat_natCast, List.set_set]
      refine Ar.re 7 rfl (show _ = Value.slice (some ⟨b2, 0, none⟩) (r.set k (gl[k]?.getD default)).length R by rw [List.length_set]) ?_
      refine Ar.again ((k + 1, G1, r.set k (gl[k]?.getD default))) ?_ ?_ rfl ⟨rfl, rfl, rfl, rfl, rfl, rfl, rfl, trivial⟩ ⟨rfl, rfl, trivial⟩
      · refine ⟨by omega, Imm.le_trans hgx hle1, by rw [List.length_set]; exact hrR, row_next (rows_up hrow hle1) (by omega) ?_⟩
        rw [regs0_at (by omega), if_pos (by omega)]
        exact hgg.2 k hkg
      · show R - (k + 1) < R - k
        omega
    · refine Wc.gl 19 [0, 1] ?_
      refine Wl.q rfl (Qy.at (α := SV) T.sl69 rfl rfl (by assumption) (by omega)) ?_
      refine Wl.q rfl (Qy.loadG T.one74 rfl (Arr.cell (by assumption) (by omega) 0 rfl rfl)) ?_
      refine Wl.q rfl (Qy.len T.sl74 rfl) ?_
      refine Wl.call 2 rfl T.fn36 rfl (c36 _ _ (by assumption)) (tags_of trivial) (fun v1 G1 Ho1 hle1 hp => ?_)
      obtain ⟨⟨zo1, zc1, zl1, rfl, hzA1, hzN1, hzl1⟩, rfl⟩ := hp
      replace hc := hc.up hle1
      replace ho := ho.up hle1
      replace hga := hga.up hle1
      replace hgg := hgg.up hle1
      refine Wl.q rfl (Qy.indexAddrO (α := SV) T.sl69 rfl rfl (by assumption) (by omega)) ?_
      refine Wl.setO (z := ⟨zo1, zl1.length, zc1⟩) 1 T.size74 rfl rfl rfl (by assumption) (by omega) rfl (fun ho1 => ?_)
      refine Wl.ga 19 [0] ?_
      rw [Int.toNat_natCast]
      refine Ar.re 7 rfl (show _ = Value.slice (some ⟨b2, 0, none⟩) (r.set k (⟨zo1, zl1.length, zc1⟩ : SV)).length R by rw [List.length_set]) ?_
      refine Ar.again ((k + 1, G1, r.set k (⟨zo1, zl1.length, zc1⟩ : SV))) ?_ ?_ rfl ⟨rfl, rfl, rfl, rfl, rfl, rfl, rfl, trivial⟩ ⟨rfl, rfl, trivial⟩
      · refine ⟨by omega, Imm.le_trans hgx hle1, by rw [List.length_set]; exact hrR, row_next (rows_up hrow hle1) (by omega) ?_⟩
        rw [regs0_at (by omega), if_neg (by omega)]
        refine ⟨zl1, rfl, hzl1, hzA1, ?_⟩
        have e := hzN1
        rw [h0R.len] at e
        exact e
      · show R - (k + 1) < R - k
        omega
  · have hg0 : Grid Gx r (regs0 p gs) := ⟨by omega, fun q hq => hrow q (by omega)⟩
    have he0 : Even 4 N (regs0 p gs) := even_regs0 hev (by omega)
    refine Wc.gc 27 [0, 0] ?_
    refine Wc.nilRow 3 (Row 74 ([] : List SV) []) ?_
    refine Wc.loopG (ι := Nat × Imm × List SV × List (List Int) × List SV × (Option Addr × Nat × List Value)) (fun (i, Gy, r2, rs, st, (o, d, j)) => ([(10, .int .i64 (i : Int)), (9, .slice o st.length d), (7, .slice (some ⟨b2, 0, none⟩) r2.length R), (2, Go.Value.pointer (Option.some (Go.Addr.mk b1 0 Option.none)))], [(3, o.map (·.block), Row 74 st j), (1, some b2, Row 74 r2 []), (0, Option.some b1, Go.Obj.cells #[Go.Value.int Go.IntKind.i64 (Go.Proofs.YtbppmiimeccclaaGreat.PV.ins p), Go.Value.int Go.IntKind.i64 (Go.Proofs.YtbppmiimeccclaaGreat.PV.regs p), Go.Value.slice ac (List.length (Go.Proofs.YtbppmiimeccclaaGreat.PV.code p)) cc, Go.Value.slice ao (List.length (Go.Proofs.YtbppmiimeccclaaGreat.PV.outs p)) co] 25)])) (fun (i, Gy, r2, rs, st, (o, d, j)) => Gy) (fun (i, Gy, r2, rs, st, (o, d, j)) => i ≤ p.code.length ∧ Gx.le Gy ∧ r2.length = R ∧ Grid Gy r2 rs ∧ Even (4 + 5 * i) N rs ∧ runTo p gs i = some rs ∧ OwnA o d st j ∧ st.length = i) (fun (i, Gy, r2, rs, st, (o, d, j)) => p.code.length - i) ((0, Gx, r, regs0 p gs, [], (none, 0, []))) (⟨Nat.zero_le _, Imm.le_refl _, hrR, hg0, he0, rfl, OwnA.nil, rfl⟩) rfl ⟨rfl, rfl, rfl, rfl, trivial⟩ ⟨rfl, rfl, rfl, trivial⟩ (fun ⟨i, Gy, r2, rs, st, (o, d, j)⟩ => fun (hk : i ≤ p.code.length ∧ Gx.le Gy ∧ r2.length = R ∧ Grid Gy r2 rs ∧ Even (4 + 5 * i) N rs ∧ runTo p gs i = some rs ∧ OwnA o d st j ∧ st.length = i) => ?_)
    obtain ⟨hi0, hgy, hr2, hg2, he2, hrun, hob, hst⟩ := hk
    replace hc := hc.up hgy
    replace ho := ho.up hgy
    have hor2 := hown r2 hr2
    have hg2l := hg2.1
    rcases Nat.lt_or_ge i p.code.length with hic | hic
    · have hmem : (p.code[((i : Nat) : Int).toNat]?.getD default) ∈ p.code := by
        rw [Int.toNat_natCast, List.getElem?_eq_getElem hic]; exact List.getElem_mem hic
      obtain ⟨m1, m2, m3, m4, m5, m6, m7, m8⟩ := may_facts (f8 _ hmem)
      have m3' : 0 ≤ (p.code[((i : Nat) : Int).toNat]?.getD default).a ∧ (p.code[((i : Nat) : Int).toNat]?.getD default).a < r2.length := by omega
      have m2' : 0 ≤ (p.code[((i : Nat) : Int).toNat]?.getD default).to ∧ (p.code[((i : Nat) : Int).toNat]?.getD default).to < r2.length := by omega
      have he9 := Even.at he2 (k := (p.code[((i : Nat) : Int).toNat]?.getD default).a) (by omega)
      obtain ⟨ci, hci⟩ : ∃ ci, ci = p.code[((i : Nat) : Int).toNat]?.getD default := ⟨_, rfl⟩
      refine Wc.gl 20 [0, 1, 0] ?_
      refine Wl.q rfl (Qy.at (α := Sl.Instr) T.sl22 rfl rfl (by assumption) (by omega)) ?_
      refine Wl.q rfl (Qy.loadsG T.agg93 rfl (Arr.elem (by assumption) (by omega)) rfl) ?_
      refine Wl.q rfl (Qy.move rfl) ?_
      refine Wl.call 1 rfl T.fn80 rfl (c80 _ (p.code[((i : Nat) : Int).toNat]?.getD default) (some ⟨b2, 0, none⟩) R r2 [] rs (4 + 5 * i) N hor2 hg2 he2 hN (by omega) m1 m3' (fun h => by have := m4 h; omega) m5 (by omega) m6 m7 m8) (tags_of ⟨rfl, trivial⟩) (fun v1 G1 Ho1 hle1 hp => ?_)
      obtain ⟨rv, rfl, hrv, rfl⟩ := hp
      by_cases hd : doI (p.code[((i : Nat) : Int).toNat]?.getD default) rs = none
      · have hd2 : ¬ doI (p.code[((i : Nat) : Int).toNat]?.getD default) rs ≠ none := fun h => h hd
        refine Wl.gl 11 [] ?_
        refine Wl.q rfl (Qy.notD rfl) ?_
        refine Wl.ga 19 [1] ?_
        refine Ar.out3 (.inr rfl) (Ho := []) rfl (.tmp rfl) (.tmp rfl) (.tmp rfl) trivial ?_
        have hfn := runTo_stop hrun hd hic
        exact ⟨_, (i : Int), _, rfl, fun _ => ⟨Int.natCast_nonneg i, rfl⟩, fun os h => (by rw [hfn] at h; cases h), rfl⟩
      · obtain ⟨zs, hzs⟩ := Option.ne_none_iff_exists'.1 hd
        obtain ⟨s, rfl, hs⟩ := hrv zs hzs
        have hok : doI (p.code[((i : Nat) : Int).toNat]?.getD default) rs ≠ none := hd
        replace hc := hc.up hle1
        replace ho := ho.up hle1
        replace hg2 := hg2.up hle1
        refine Wl.gl 11 [] ?_
        refine Wl.q rfl (Qy.notD rfl) ?_
        refine Wl.gc 2 [] ?_
        refine Wc.cond rfl (fun hc1 => ?_) (fun hc1 => ?_)
        refine Wc.ga 16 [] ?_
        rotate_left
        refine Wc.gl 8 [0] ?_
        refine Wl.q rfl (Qy.at (α := Sl.Instr) T.sl22 rfl rfl (by assumption) (by omega)) ?_
        refine Wl.q rfl (Qy.fieldAddr T.fa93_1 rfl) ?_
        refine Wl.q rfl (Qy.loadG T.one3 rfl (Arr.cell (by assumption) (by omega) 1 rfl rfl)) ?_
        refine Wl.q rfl (Qy.move rfl) ?_
        refine Wl.q rfl (Qy.indexAddrO (α := SV) T.sl69 rfl rfl (by assumption) (by omega)) ?_
        refine Wl.setO (z := _) 1 T.size74 rfl rfl rfl (by assumption) (by omega) rfl (fun ho1 => ?_)
        refine Wl.gl 5 [] ?_
        refine Wl.lit (α := SV) 4 [⟨_, _, _⟩] rfl T.sl69 T.el74 rfl rfl rfl rfl rfl (fun b3 => ?_)
        refine Wl.append (α := SV) 3 rfl T.sl69 T.el74 rfl rfl rfl (by first | assumption | exact OwnA.nil | exact OwnA.made (by simp)) (Src.row 4 rfl) (by first | omega | (simp only [List.length_append, List.length_cons, List.length_nil, maxLen]; omega)) (by first | omega | (simp only [List.length_append, List.length_cons, List.length_nil, maxLen]; omega)) (fun a2 c2 junk2 ho2 => ?_)
        refine Wl.ga 9 [] ?_
        rotate_left
        · exact absurd hok hc1
        · refine Ar.re 7 rfl (show _ = Value.slice (some ⟨b2, 0, none⟩) (r2.set (p.code[((i : Nat) : Int).toNat]?.getD default).to.toNat s).length R by rw [List.length_set]) ?_
          refine Ar.again ((i + 1, G1, r2.set (p.code[((i : Nat) : Int).toNat]?.getD default).to.toNat s, rs.set (p.code[((i : Nat) : Int).toNat]?.getD default).to.toNat zs, st ++ [s], (a2, c2, junk2))) ?_ ?_ rfl ⟨rfl, rfl, rfl, rfl, trivial⟩ ⟨rfl, rfl, rfl, trivial⟩
          · have hx := doI_even (i := p.code[((i : Nat) : Int).toNat]?.getD default) he2 (by omega) (fun h => by have := m4 h; omega) (fun h => (m6 (by omega) (by omega) (by omega) (by omega)).2) hzs
            refine ⟨by omega, Imm.le_trans hgy hle1, by rw [List.length_set]; exact hr2, hg2.set _ hs, ?_, runTo_succ (x := []) hrun hzs, by assumption, by rw [List.length_append]; show st.length + 1 = i + 1; omega⟩
            rw [show 4 + 5 * (i + 1) = 5 + (4 + 5 * i) by omega]
            exact even_set (he2.mono (by omega)) hx _
          · show p.code.length - (i + 1) < p.code.length - i
            omega
    · have hie : i = p.code.length := by omega
      subst hie
      have hfo : followP p gs = some (outsOf p rs) := by unfold followP; rw [hrun]; rfl
      have hol : (outsOf p rs).length = p.outs.length := by unfold outsOf; rw [List.length_map]
      refine Wc.gc 28 [0, 0] ?_
      refine Wc.nilRow 4 (Row 74 ([] : List SV) []) ?_
      refine Wc.loop (ι := Nat × List SV × (Option Addr × Nat × List Value)) (fun (q, ol, (oo, od, oj)) => ([(14, .int .i64 (q : Int)), (13, .slice oo ol.length od), (9, Go.Value.slice o (List.length st) d), (7, Go.Value.slice (Option.some (Go.Addr.mk b2 0 Option.none)) (List.length r2) R), (2, Go.Value.pointer (Option.some (Go.Addr.mk b1 0 Option.none)))], [(4, oo.map (·.block), Row 74 ol oj), (3, Option.map (fun x => Go.Addr.block x) o, Go.Sl.Row (α := Go.Sl.SV) 74 (st) (j)), (1, Option.some b2, Go.Sl.Row (α := Go.Sl.SV) 74 (r2) ([])), (0, Option.some b1, Go.Obj.cells #[Go.Value.int Go.IntKind.i64 (Go.Proofs.YtbppmiimeccclaaGreat.PV.ins p), Go.Value.int Go.IntKind.i64 (Go.Proofs.YtbppmiimeccclaaGreat.PV.regs p), Go.Value.slice ac (List.length (Go.Proofs.YtbppmiimeccclaaGreat.PV.code p)) cc, Go.Value.slice ao (List.length (Go.Proofs.YtbppmiimeccclaaGreat.PV.outs p)) co] 25)])) (fun (q, ol, (oo, od, oj)) => q ≤ p.outs.length ∧ ol.length = q ∧ Grid Gy ol ((outsOf p rs).take q) ∧ OwnA oo od ol oj) (fun (q, ol, (oo, od, oj)) => p.outs.length - q) ((0, [], (none, 0, []))) (⟨Nat.zero_le _, rfl, by rw [List.take_zero]; exact Grid.nil _, OwnA.nil⟩) ⟨rfl, rfl, rfl, rfl, rfl, trivial⟩ ⟨rfl, rfl, rfl, rfl, trivial⟩ (fun ⟨q, ol, (oo, od, oj)⟩ => fun (hk : q ≤ p.outs.length ∧ ol.length = q ∧ Grid Gy ol ((outsOf p rs).take q) ∧ OwnA oo od ol oj) => ?_)
      obtain ⟨hq0, hql, hqg, hqo⟩ := hk
      rcases Nat.lt_or_ge q p.outs.length with hqc | hqc
      · have hmem : (p.outs[((q : Nat) : Int).toNat]?.getD default) ∈ p.outs := by
          rw [Int.toNat_natCast, List.getElem?_eq_getElem hqc]; exact List.getElem_mem hqc
        have hrr := f7 _ hmem
        have hrr2 : 0 ≤ (p.outs[((q : Nat) : Int).toNat]?.getD default) ∧ (p.outs[((q : Nat) : Int).toNat]?.getD default) < r2.length := by omega
        have hss := hg2.at hrr2
        refine Wc.gl 21 [0, 1, 0] ?_
        refine Wl.q rfl (Qy.at (α := Int) T.sl23 rfl rfl (by assumption) (by omega)) ?_
        refine Wl.q rfl (Qy.loadG T.one3 rfl (Arr.cell (by assumption) (by omega) 0 rfl rfl)) ?_
        refine Wl.q rfl (Qy.indexAddrO (α := SV) T.sl69 rfl rfl (by assumption) (by omega)) ?_
        refine Wl.q rfl (Qy.loadO 1 0 T.one74 rfl rfl (by assumption) (by omega) rfl rfl) ?_
        refine Wl.lit (α := SV) 5 [⟨_, _, _⟩] rfl T.sl69 T.el74 rfl rfl rfl rfl rfl (fun b3 => ?_)
        refine Wl.append (α := SV) 4 rfl T.sl69 T.el74 rfl rfl rfl (by first | assumption | exact OwnA.nil | exact OwnA.made (by simp)) (Src.row 5 rfl) (by first | omega | (simp only [List.length_append, List.length_cons, List.length_nil, maxLen]; omega)) (by first | omega | (simp only [List.length_append, List.length_cons, List.length_nil, maxLen]; omega)) (fun a1 c1 junk1 ho1 => ?_)
        refine Wl.ga 9 [] ?_
        refine Ar.again ((q + 1, ol ++ [r2[(p.outs[((q : Nat) : Int).toNat]?.getD default).toNat]?.getD default], (a1, c1, junk1))) ?_ ?_ rfl ⟨rfl, rfl, rfl, rfl, rfl, trivial⟩ ⟨rfl, rfl, rfl, rfl, trivial⟩
        · exact ⟨by omega, by rw [List.length_append]; show ol.length + 1 = q + 1; omega, by rw [outs_succ hqc]; exact hqg.snoc hss, by assumption⟩
        · show p.outs.length - (q + 1) < p.outs.length - q
          omega
      · refine Wc.ga 26 [0, 0] ?_
        rw [List.take_of_length_le (by omega)] at hqg
        refine Ar.freezeRow 4 rfl hqo (fun G9 hle9 hA => ?_)
        refine Ar.out3 (.inr rfl) (Ho := []) rfl (.tmp rfl) (.tmp rfl) (.tmp rfl) trivial ?_
        exact ⟨_, -1, _, rfl, fun h => (by rw [hfo] at h; cases h), fun os h => (by rw [hfo] at h; cases h; exact ⟨rfl, oo, od, ol, rfl, hA, hqg.up hle9⟩), rfl⟩
end Go.Proofs.YtbppmiimeccclaaGreat
set_option maxRecDepth 100000
set_option linter.unusedVariables false
namespace Go.Proofs.YtbppmiimeccclaaGreat
open Go Go.Sl
set_option maxHeartbeats 4000000
/-- handles that stand for numbers -/
def Bigs (G : Imm) (l : List IV) (zs : List Int) : Prop := l.length = zs.length ∧ ∀ i : Nat, i < l.length → Big G (l[i]?.getD default) (zs[i]?.getD 0)
theorem Bigs.up {G G' : Imm} {l : List IV} {zs : List Int} (h : Bigs G l zs) (hl : G.le G') : Bigs G' l zs := ⟨h.1, fun i hi => (h.2 i hi).up hl⟩
theorem Bigs.at {G : Imm} {l : List IV} {zs : List Int} (h : Bigs G l zs) {k : Int} (hk : 0 ≤ k ∧ k < l.length) : Big G (l[k.toNat]?.getD default) (zs[k.toNat]?.getD 0) := h.2 _ (by omega)
theorem Bigs.nil (G : Imm) : Bigs G [] [] := ⟨rfl, fun i hi => by simp at hi⟩
theorem Bigs.set {G : Imm} {l : List IV} {zs : List Int} (h : Bigs G l zs) (k : Nat) {x : IV} {z : Int} (hx : Big G x z) : Bigs G (l.set k x) (zs.set k z) := by
  refine ⟨by rw [List.length_set, List.length_set]; exact h.1, fun i hi => ?_⟩
  rw [List.length_set] at hi
  rw [List.getElem?_set, List.getElem?_set]
  have h1 := h.1
  by_cases hk : k = i
  · subst hk
    rw [if_pos rfl, if_pos rfl, if_pos hi, if_pos (by omega)]; exact hx
  · rw [if_neg hk, if_neg hk]; exact h.2 i hi
theorem Bigs.snoc {G : Imm} {l : List IV} {zs : List Int} (h : Bigs G l zs) {x : IV} {z : Int} (hx : Big G x z) : Bigs G (l ++ [x]) (zs ++ [z]) := by
  refine ⟨by rw [List.length_append, List.length_append, h.1]; rfl, fun i hi => ?_⟩
  rw [List.length_append, List.length_singleton] at hi
  have h1 := h.1
  rcases Nat.lt_or_ge i l.length with h2 | h2
  · rw [List.getElem?_append_left h2, List.getElem?_append_left (by omega)]; exact h.2 i h2
  · have e : i = l.length := by omega
    subst e
    rw [List.getElem?_append_right (Nat.le_refl _), Nat.sub_self, h1, List.getElem?_append_right (Nat.le_refl _), Nat.sub_self]; exact hx
theorem Bigs.zeros (G : Imm) (n : Nat) : Bigs G (List.replicate n (default : IV)) (List.replicate n 0) := by
  refine ⟨by rw [List.length_replicate, List.length_replicate], fun i hi => ?_⟩
  rw [List.length_replicate] at hi
  rw [List.getElem?_replicate, List.getElem?_replicate, if_pos hi, if_pos hi]
  exact Big.zero G
/-- none too large -/
def Below (m : Nat) (zs : List Int) : Prop := ∀ z ∈ zs, (z.natAbs : Int) < pb m
theorem Below.at {m : Nat} {zs : List Int} (h : Below m zs) (k : Nat) : ((zs[k]?.getD 0).natAbs : Int) < pb m := by
  rcases Nat.lt_or_ge k zs.length with h1 | h1
  · rw [List.getElem?_eq_getElem h1]; exact h _ (List.getElem_mem h1)
  · rw [List.getElem?_eq_none h1]; exact pb_pos m
theorem one_lt : ((1 : Int).natAbs : Int) < pb 1 := by unfold pb; decide
theorem p2_def (n : Nat) : p2 n = ((2 ^ n : Nat) : Int) := rfl
theorem sgZ_zero {z : Int} : sgZ z = 0 ↔ z = 0 := by
  unfold sgZ
  split
  · simp [*]
  · split <;> omega
theorem emod_small {x y : Int} (hy : y ≠ 0) : ((x % y).natAbs : Int) < y.natAbs := by
  have e1 := Int.emod_nonneg x hy
  rcases Int.lt_or_gt_of_ne hy with h | h
  · have e2 := Int.emod_lt_of_pos x (show 0 < -y by omega)
    rw [Int.emod_neg] at e2
    omega
  · have e2 := Int.emod_lt_of_pos x h
    omega
attribute [local irreducible] valB pb cmpZ lstWp p2
theorem c153 (G : Imm) (n : Nat) (hn : n ≤ 64) :
    Does Tryz.prog 153 [.int .i64 (n : Int)] G [] (fun v G' Ho => ∃ r : IV, v = .agg (Cells.enc r).toArray ∧ Big G' r (p2 n) ∧ Ho = []) := by
  refine Does.enter Tryz.func153 rfl Tryz.ntmps153 rfl (fun w => ?_)
  refine Wc.gl 2 [] ?_
  refine Wl.alloc 0 rfl T.zero104 (fun b1 => ?_)
  refine Wl.gl 4 [] ?_
  refine Wl.call 1 rfl T.fn57 rfl (c57 _ _ (by omega)) (tags_of trivial) (fun v1 G1 Ho1 hle1 hp => ?_)
  obtain ⟨ro1, rfl, hro1, rfl⟩ := hp
  refine Wl.q rfl (Qy.move rfl) ?_
  refine Wl.re 7 rfl (show _ = Value.int .i64 ((32 * (n / 32) + n % 32 : Nat) : Int) by rw [Nat.div_add_mod]) ?_
  refine Wl.call 20 rfl T.fn191 rfl (c191 _ ro1 1 (n / 32) (n % 32) hro1 (Nat.le_trans (Big.len hro1 one_lt) (by decide)) (Nat.mod_lt _ (by decide)) (by omega)) (tags_of trivial) (fun v9 G9 Ho9 hle9 hp => ?_)
  obtain ⟨r9, rfl, hr9, rfl⟩ := hp
  refine Wl.ll0 3 [] ?_
  refine Wl.alloc 1 rfl T.zero104 (fun b2 => ?_)
  refine Wl.ga 11 [1, 1, 0] ?_
  refine Ar.out1 (.inr rfl) (Ho := Hp.only _ []) rfl (.agg 0 rfl rfl T.agg104) (Hp.sub_only _ _) ?_
  exact ⟨r9, rfl, Big.out hr9 (by rw [Nat.div_add_mod, Int.one_mul, p2_def]), rfl⟩
end Go.Proofs.YtbppmiimeccclaaGreat
