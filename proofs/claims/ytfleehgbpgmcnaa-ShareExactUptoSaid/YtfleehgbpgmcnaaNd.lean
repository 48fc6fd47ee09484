import Derived.Test.YtfleehgbpgmcnaaNc
set_option maxRecDepth 100000
set_option linter.unusedVariables false
namespace Go.Proofs.Ytfleehgbpgmcnaa
open Go Go.Sl

set_option maxHeartbeats 4000000
/-- a number that was struck of a row of one's own, the row left as it is from now on -/
theorem trim_own {G : Imm} {o : Option Addr} {d n : Nat} {r : List U32} {j : List Value} (ht : TrimTo r n) (hd : Digs r) (ho : OwnA o d r j) (ha : Arr G o r) (neg : Bool) : Num G ⟨neg && decide (0 < n), subA o d 0 1, n, d⟩ (if neg = true then -valL r else valL r) :=
  ht.num hd ha ho.le neg
attribute [local irreducible] valL pw cmpZ
theorem c111 (G : Imm) (neg : Bool) (a : Option Addr) (c : Nat) (l : List U32) (z : Int) (ha : Arr G a l) (h : IsInt neg l z) (h1 : l.length ≤ 1073741824) (hc : l.length ≤ c) :
    Does Try.prog 111 [.agg #[.bool neg, .slice a l.length c]] G [] (fun v G' Ho => ∃ r : IV, v = .agg #[.bool r.neg, .slice r.a r.n r.c] ∧ Num G r (-z) ∧ G' = G ∧ Ho = []) := by
  refine Does.enter Try.func111 rfl Try.ntmps111 rfl (fun w => ?_)
  refine Wc.seq ?_
  refine Wc.region rfl ?_
  refine Wl.box 0 rfl rfl rfl (fun b1 => ?_)
  refine Wl.alloc 1 rfl T.zero43 (fun b2 => ?_)
  refine Wl.done ?_
  refine Ar.next ?_
  refine Wc.seq ?_
  refine Wc.region rfl ?_
  refine Wl.q rfl (Qy.fieldAddr T.fa43_0 rfl) ?_
  refine Wl.q rfl (Qy.load 0 T.one4 rfl rfl rfl) ?_
  refine Wl.q rfl (Qy.not rfl) ?_
  refine Wl.q rfl (Qy.fieldAddr T.fa43_1 rfl) ?_
  refine Wl.q rfl (Qy.load 0 T.one41 rfl rfl rfl) ?_
  refine Wl.call 2 rfl T.fn60 rfl (c60 _ _ _ _ _ (by assumption) (by omega) (by assumption)) (tags_of trivial) (fun v1 G1 Ho1 hle1 hp => ?_)
  obtain ⟨tn1, rfl, htr1, rfl, rfl⟩ := hp
  refine Wl.storeAll 1 T.size43 rfl rfl rfl rfl rfl rfl ?_
  refine Wl.done ?_
  refine Ar.next ?_
  refine Wc.ret ?_
  refine Ar.out1 (.inr rfl) (Ho := Hp.only _ []) rfl (.agg 1 rfl rfl T.agg43) (Hp.sub_only _ _) ?_
  refine ⟨⟨!neg && decide (0 < tn1), subA a c 0 1, tn1, c⟩, rfl, ?_, rfl, rfl⟩
  have e := htr1.num h.digs ha hc (!neg)
  have e2 : (if (!neg) = true then -valL l else valL l) = -z := by
    rw [h.val]; cases neg <;> simp
  rw [e2] at e; exact e
theorem c107 (G : Imm) (neg : Bool) (a : Option Addr) (c : Nat) (l : List U32) (z : Int) (ha : Arr G a l) (h : IsInt neg l z) (h1 : l.length ≤ 1073741824) (hc : l.length ≤ c) :
    Does Try.prog 107 [.agg #[.bool neg, .slice a l.length c]] G [] (fun v G' Ho => ∃ r : IV, v = .agg #[.bool r.neg, .slice r.a r.n r.c] ∧ Num G r (z.natAbs : Int) ∧ G' = G ∧ Ho = []) := by
  refine Does.enter Try.func107 rfl Try.ntmps107 rfl (fun w => ?_)
  refine Wc.seq ?_
  refine Wc.region rfl ?_
  refine Wl.box 0 rfl rfl rfl (fun b1 => ?_)
  refine Wl.alloc 1 rfl T.zero43 (fun b2 => ?_)
  refine Wl.done ?_
  refine Ar.next ?_
  refine Wc.seq ?_
  refine Wc.region rfl ?_
  refine Wl.q rfl (Qy.fieldAddr T.fa43_1 rfl) ?_
  refine Wl.q rfl (Qy.load 0 T.one41 rfl rfl rfl) ?_
  refine Wl.call 2 rfl T.fn60 rfl (c60 _ _ _ _ _ (by assumption) (by omega) (by assumption)) (tags_of trivial) (fun v1 G1 Ho1 hle1 hp => ?_)
  obtain ⟨tn1, rfl, htr1, rfl, rfl⟩ := hp
  refine Wl.storeAll 1 T.size43 rfl rfl rfl rfl rfl rfl ?_
  refine Wl.done ?_
  refine Ar.next ?_
  refine Wc.ret ?_
  refine Ar.out1 (.inr rfl) (Ho := Hp.only _ []) rfl (.agg 1 rfl rfl T.agg43) (Hp.sub_only _ _) ?_
  refine ⟨⟨false && decide (0 < tn1), subA a c 0 1, tn1, c⟩, rfl, ?_, rfl, rfl⟩
  have e := htr1.num h.digs ha hc false
  rw [if_neg (by decide), h.abs] at e
  exact e
theorem pw_lt_iff {a b : Nat} (h : pw a < pw b) : a < b := by
  rcases Nat.lt_or_ge a b with h1 | h1
  · exact h1
  · have := pw_le h1; omega
theorem wrap_neg {n : Int} (h : -9223372036854775808 ≤ n ∧ n < 0) : IntKind.u64.wrap (0 - IntKind.u64.wrap n) = -n := by
  rw [IntKind.wrap_u64, IntKind.wrap_u64]; omega
theorem of_next {r : List U32} {u m : Int} (h : valL r + pw r.length * u = m) : valL (r ++ [(⟨u % 65536⟩ : U32)]) + pw (r ++ [(⟨u % 65536⟩ : U32)]).length * (u / 65536) = m := by
  rw [valL_snoc, List.length_append, List.length_singleton, pw_succ]
  have := carry (pw r.length) u
  show valL r + pw r.length * (u % 65536) + 65536 * pw r.length * (u / 65536) = m
  omega
theorem of_len {r : List U32} {u m : Int} (h : valL r + pw r.length * u = m) (hd : Digs r) (hu : 0 < u) (hm : m ≤ 9223372036854775808) : r.length < 4 := by
  have h1 := valL_nonneg hd
  have h2 := Int.mul_le_mul_of_nonneg_left (show (1 : Int) ≤ u by omega) (Int.le_of_lt (pw_pos r.length))
  refine pw_lt_iff ?_
  have h3 : pw 4 = 18446744073709551616 := by unfold pw; decide
  omega
theorem c20 (G : Imm) (n : Int) (hn : -9223372036854775808 ≤ n ∧ n ≤ 9223372036854775807) :
    Does Try.prog 20 [.int .i64 n] G [] (fun v G' Ho => ∃ r : IV, v = .agg #[.bool r.neg, .slice r.a r.n r.c] ∧ Num G' r n ∧ Ho = []) := by
  refine Does.enter Try.func20 rfl Try.ntmps20 rfl (fun w => ?_)
  refine Wc.nilRow 0 (Row 91 ([] : List U32) []) ?_
  by_cases hneg : n < 0
  · refine Wc.seq ?_
    refine Wc.region rfl ?_
    refine Wl.alloc 1 rfl T.zero43 (fun b1 => ?_)
    refine Wl.done ?_
    refine Ar.next ?_
    refine Wc.seq ?_
    refine Wc.region rfl ?_
    refine Wl.q rfl (Qy.move rfl) ?_
    refine Wl.q rfl (Qy.conv rfl T.u90 rfl) ?_
    refine Wl.q rfl (Qy.assign rfl) ?_
    refine Wl.done ?_
    refine Ar.next ?_
    refine Wc.seq ?_
    refine Wc.seq ?_
    refine Wc.region rfl ?_
    refine Wl.q rfl (Qy.move rfl) ?_
    refine Wl.q rfl (Qy.lss rfl rfl) ?_
    refine Wl.done ?_
    refine Ar.next ?_
    refine Wc.condP rfl (by first | assumption | omega) ?_
    refine Wc.region rfl ?_
    refine Wl.q rfl (Qy.move rfl) ?_
    refine Wl.q rfl (Qy.negW rfl) ?_
    refine Wl.q rfl (Qy.assign rfl) ?_
    refine Wl.done ?_
    refine Ar.next ?_
    refine Wc.seq ?_
    refine Wc.region rfl ?_
    refine Wl.q rfl (Qy.assign rfl) ?_
    refine Wl.done ?_
    refine Ar.next ?_
    refine Wc.seq ?_
    refine Wc.block ?_
    refine Wc.re 3 rfl (show _ = Value.int .u64 (-n) by rw [wrap_neg ⟨hn.1, hneg⟩]) ?_
    refine Wc.loop (ι := Int × List U32 × (Option Addr × Nat × List Value)) (fun (u, r, (o, d, j)) => ([(3, .int .u64 u), (4, .slice o r.length d), (2, Go.Value.pointer (Option.some (Go.Addr.mk b1 0 Option.none))), (0, Go.Value.int Go.IntKind.i64 n)], [(0, o.map (·.block), Row 91 r j), (1, Option.some b1, Go.Obj.cells #[Go.Value.bool Bool.false, Go.Value.slice Option.none 0 0] 43)])) (fun (u, r, (o, d, j)) => 0 ≤ u ∧ u ≤ 9223372036854775808 ∧ Digs r ∧ valL r + pw r.length * u = n.natAbs ∧ r.length ≤ 4 ∧ OwnA o d r j) (fun (u, r, (o, d, j)) => u.toNat) ((-n, [], (none, 0, []))) (⟨by omega, by omega, Digs.nil, by rw [valL_nil, List.length_nil, pw_zero]; omega, by decide, OwnA.nil⟩) ⟨rfl, rfl, rfl, rfl, trivial⟩ ⟨rfl, rfl, trivial⟩ (fun ⟨u, r, (o, d, j)⟩ => fun (hk : 0 ≤ u ∧ u ≤ 9223372036854775808 ∧ Digs r ∧ valL r + pw r.length * u = n.natAbs ∧ r.length ≤ 4 ∧ OwnA o d r j) => ?_)
    obtain ⟨hu0, hu1, hdr, hv, hrl, hob⟩ := hk
    by_cases hu : 0 < u
    · have hl4 := of_len hv hdr hu (by omega)
      refine Wc.seq ?_
      refine Wc.seq ?_
      refine Wc.region rfl ?_
      refine Wl.q rfl (Qy.move rfl) ?_
      refine Wl.q rfl (Qy.gtr rfl rfl) ?_
      refine Wl.done ?_
      refine Ar.next ?_
      refine Wc.condP rfl (by first | assumption | omega) ?_
      refine Wc.skip ?_
      refine Ar.next ?_
      refine Wc.block ?_
      refine Wc.seq ?_
      refine Wc.region rfl ?_
      refine Wl.q rfl (Qy.move rfl) ?_
      refine Wl.q rfl (Qy.move rfl) ?_
      refine Wl.q rfl (Qy.urem rfl rfl (by omega)) ?_
      refine Wl.q rfl (Qy.conv32 rfl T.u91 rfl (by omega)) ?_
      refine Wl.lit (α := U32) 2 [⟨u % 65536⟩] rfl T.sl41 T.el91 rfl rfl rfl rfl rfl (fun b2 => ?_)
      refine Wl.append (α := U32) 0 rfl T.sl41 T.el91 rfl rfl rfl (by first | assumption | exact OwnA.nil | exact OwnA.made (by simp)) (Src.row 2 rfl) (by first | omega | (simp only [List.length_append, List.length_cons, List.length_nil, maxLen]; omega)) (by first | omega | (simp only [List.length_append, List.length_cons, List.length_nil, maxLen]; omega)) (fun a1 c1 junk1 ho1 => ?_)
      refine Wl.q rfl (Qy.assign rfl) ?_
      refine Wl.done ?_
      refine Ar.next ?_
      refine Wc.region rfl ?_
      refine Wl.q rfl (Qy.move rfl) ?_
      refine Wl.q rfl (Qy.uquo64 rfl rfl (by omega)) ?_
      refine Wl.q rfl (Qy.assign rfl) ?_
      refine Wl.done ?_
      refine Ar.outNormal ?_
      refine Ar.again ((u / 65536, _, (a1, c1, junk1))) ?_ ?_ rfl ⟨rfl, rfl, rfl, rfl, trivial⟩ ⟨rfl, rfl, trivial⟩
      · exact ⟨by omega, by omega, digs_snoc hdr _, of_next hv, by rw [List.length_append]; show r.length + 1 ≤ 4; omega, ho1⟩
      · show (u / 65536).toNat < u.toNat
        omega
    · have hu : u = 0 := by omega
      subst hu
      rw [Int.mul_zero, Int.add_zero] at hv
      refine Wc.seq ?_
      refine Wc.seq ?_
      refine Wc.region rfl ?_
      refine Wl.q rfl (Qy.move rfl) ?_
      refine Wl.q rfl (Qy.gtr rfl rfl) ?_
      refine Wl.done ?_
      refine Ar.next ?_
      refine Wc.condN rfl (by first | assumption | omega) ?_
      refine Wc.exit ?_
      refine Ar.passExit ?_
      refine Ar.passExit ?_
      refine Ar.here ?_
      refine Ar.next ?_
      refine Wc.seq ?_
      refine Wc.region rfl ?_
      refine Wl.q rfl (Qy.move rfl) ?_
      refine Wl.q rfl (Qy.lss rfl rfl) ?_
      refine Wl.q rfl (Qy.move rfl) ?_
      have hcap := hob.le
      refine Wl.freezeRow 0 rfl hob (fun G1 hle1 hA => ?_)
      refine Wl.call 2 rfl T.fn60 rfl (c60 _ _ _ _ _ (by assumption) (by omega) (by assumption)) (tags_of trivial) (fun v2 G2 Ho2 hle2 hp => ?_)
      obtain ⟨tn2, rfl, htr2, rfl, rfl⟩ := hp
      refine Wl.storeAll 1 T.size43 rfl rfl rfl rfl rfl rfl ?_
      refine Wl.done ?_
      refine Ar.next ?_
      refine Wc.ret ?_
      refine Ar.out1 (.inr rfl) (Ho := Hp.only _ []) rfl (.agg 1 rfl rfl T.agg43) (Hp.sub_only _ _) ?_
      refine ⟨⟨decide (n < 0) && decide (0 < tn2), subA o d 0 1, tn2, d⟩, rfl, ?_, rfl⟩
      have e := htr2.num hdr hA hcap (decide (n < 0))
      have e2 : (if decide (n < 0) = true then -valL r else valL r) = n := by
        rw [hv]; by_cases h : n < 0
        · rw [if_pos (by simpa using h)]; omega
        · rw [if_neg (by simpa using h)]; omega
      rw [e2] at e; exact e
  · refine Wc.seq ?_
    refine Wc.region rfl ?_
    refine Wl.alloc 1 rfl T.zero43 (fun b1 => ?_)
    refine Wl.done ?_
    refine Ar.next ?_
    refine Wc.seq ?_
    refine Wc.region rfl ?_
    refine Wl.q rfl (Qy.move rfl) ?_
    refine Wl.q rfl (Qy.conv64 rfl T.u90 rfl (by omega)) ?_
    refine Wl.q rfl (Qy.assign rfl) ?_
    refine Wl.done ?_
    refine Ar.next ?_
    refine Wc.seq ?_
    refine Wc.seq ?_
    refine Wc.region rfl ?_
    refine Wl.q rfl (Qy.move rfl) ?_
    refine Wl.q rfl (Qy.lss rfl rfl) ?_
    refine Wl.done ?_
    refine Ar.next ?_
    refine Wc.condN rfl (by first | assumption | omega) ?_
    refine Wc.skip ?_
    refine Ar.next ?_
    refine Wc.seq ?_
    refine Wc.region rfl ?_
    refine Wl.q rfl (Qy.assign rfl) ?_
    refine Wl.done ?_
    refine Ar.next ?_
    refine Wc.seq ?_
    refine Wc.block ?_
    refine Wc.loop (ι := Int × List U32 × (Option Addr × Nat × List Value)) (fun (u, r, (o, d, j)) => ([(3, .int .u64 u), (4, .slice o r.length d), (2, Go.Value.pointer (Option.some (Go.Addr.mk b1 0 Option.none))), (0, Go.Value.int Go.IntKind.i64 n)], [(0, o.map (·.block), Row 91 r j), (1, Option.some b1, Go.Obj.cells #[Go.Value.bool Bool.false, Go.Value.slice Option.none 0 0] 43)])) (fun (u, r, (o, d, j)) => 0 ≤ u ∧ u ≤ 9223372036854775808 ∧ Digs r ∧ valL r + pw r.length * u = n.natAbs ∧ r.length ≤ 4 ∧ OwnA o d r j) (fun (u, r, (o, d, j)) => u.toNat) ((n, [], (none, 0, []))) (⟨by omega, by omega, Digs.nil, by rw [valL_nil, List.length_nil, pw_zero]; omega, by decide, OwnA.nil⟩) ⟨rfl, rfl, rfl, rfl, trivial⟩ ⟨rfl, rfl, trivial⟩ (fun ⟨u, r, (o, d, j)⟩ => fun (hk : 0 ≤ u ∧ u ≤ 9223372036854775808 ∧ Digs r ∧ valL r + pw r.length * u = n.natAbs ∧ r.length ≤ 4 ∧ OwnA o d r j) => ?_)
    obtain ⟨hu0, hu1, hdr, hv, hrl, hob⟩ := hk
    by_cases hu : 0 < u
    · have hl4 := of_len hv hdr hu (by omega)
      refine Wc.seq ?_
      refine Wc.seq ?_
      refine Wc.region rfl ?_
      refine Wl.q rfl (Qy.move rfl) ?_
      refine Wl.q rfl (Qy.gtr rfl rfl) ?_
      refine Wl.done ?_
      refine Ar.next ?_
      refine Wc.condP rfl (by first | assumption | omega) ?_
      refine Wc.skip ?_
      refine Ar.next ?_
      refine Wc.block ?_
      refine Wc.seq ?_
      refine Wc.region rfl ?_
      refine Wl.q rfl (Qy.move rfl) ?_
      refine Wl.q rfl (Qy.move rfl) ?_
      refine Wl.q rfl (Qy.urem rfl rfl (by omega)) ?_
      refine Wl.q rfl (Qy.conv32 rfl T.u91 rfl (by omega)) ?_
      refine Wl.lit (α := U32) 2 [⟨u % 65536⟩] rfl T.sl41 T.el91 rfl rfl rfl rfl rfl (fun b2 => ?_)
      refine Wl.append (α := U32) 0 rfl T.sl41 T.el91 rfl rfl rfl (by first | assumption | exact OwnA.nil | exact OwnA.made (by simp)) (Src.row 2 rfl) (by first | omega | (simp only [List.length_append, List.length_cons, List.length_nil, maxLen]; omega)) (by first | omega | (simp only [List.length_append, List.length_cons, List.length_nil, maxLen]; omega)) (fun a1 c1 junk1 ho1 => ?_)
      refine Wl.q rfl (Qy.assign rfl) ?_
      refine Wl.done ?_
      refine Ar.next ?_
      refine Wc.region rfl ?_
      refine Wl.q rfl (Qy.move rfl) ?_
      refine Wl.q rfl (Qy.uquo64 rfl rfl (by omega)) ?_
      refine Wl.q rfl (Qy.assign rfl) ?_
      refine Wl.done ?_
      refine Ar.outNormal ?_
      refine Ar.again ((u / 65536, _, (a1, c1, junk1))) ?_ ?_ rfl ⟨rfl, rfl, rfl, rfl, trivial⟩ ⟨rfl, rfl, trivial⟩
      · exact ⟨by omega, by omega, digs_snoc hdr _, of_next hv, by rw [List.length_append]; show r.length + 1 ≤ 4; omega, ho1⟩
      · show (u / 65536).toNat < u.toNat
        omega
    · have hu : u = 0 := by omega
      subst hu
      rw [Int.mul_zero, Int.add_zero] at hv
      refine Wc.seq ?_
      refine Wc.seq ?_
      refine Wc.region rfl ?_
      refine Wl.q rfl (Qy.move rfl) ?_
      refine Wl.q rfl (Qy.gtr rfl rfl) ?_
      refine Wl.done ?_
      refine Ar.next ?_
      refine Wc.condN rfl (by first | assumption | omega) ?_
      refine Wc.exit ?_
      refine Ar.passExit ?_
      refine Ar.passExit ?_
      refine Ar.here ?_
      refine Ar.next ?_
      refine Wc.seq ?_
      refine Wc.region rfl ?_
      refine Wl.q rfl (Qy.move rfl) ?_
      refine Wl.q rfl (Qy.lss rfl rfl) ?_
      refine Wl.q rfl (Qy.move rfl) ?_
      have hcap := hob.le
      refine Wl.freezeRow 0 rfl hob (fun G1 hle1 hA => ?_)
      refine Wl.call 2 rfl T.fn60 rfl (c60 _ _ _ _ _ (by assumption) (by omega) (by assumption)) (tags_of trivial) (fun v2 G2 Ho2 hle2 hp => ?_)
      obtain ⟨tn2, rfl, htr2, rfl, rfl⟩ := hp
      refine Wl.storeAll 1 T.size43 rfl rfl rfl rfl rfl rfl ?_
      refine Wl.done ?_
      refine Ar.next ?_
      refine Wc.ret ?_
      refine Ar.out1 (.inr rfl) (Ho := Hp.only _ []) rfl (.agg 1 rfl rfl T.agg43) (Hp.sub_only _ _) ?_
      refine ⟨⟨decide (n < 0) && decide (0 < tn2), subA o d 0 1, tn2, d⟩, rfl, ?_, rfl⟩
      have e := htr2.num hdr hA hcap (decide (n < 0))
      have e2 : (if decide (n < 0) = true then -valL r else valL r) = n := by
        rw [hv]; by_cases h : n < 0
        · rw [if_pos (by simpa using h)]; omega
        · rw [if_neg (by simpa using h)]; omega
      rw [e2] at e; exact e
theorem c101 (G : Imm) (n1 n2 : Bool) (a b : Option Addr) (ca cb : Nat) (la lb : List U32) (x y : Int) (ha : Arr G a la) (hb : Arr G b lb) (hx : IsInt n1 la x) (hy : IsInt n2 lb y) (h1 : la.length ≤ 1073741824) (h2 : lb.length ≤ 1073741824) :
    Does Try.prog 101 [.agg #[.bool n1, .slice a la.length ca], .agg #[.bool n2, .slice b lb.length cb]] G [] (fun v G' Ho => ∃ r : IV, v = .agg #[.bool r.neg, .slice r.a r.n r.c] ∧ Num G' r (x + y) ∧ Ho = []) := by
  have da := hx.digs
  have db := hy.digs
  have ta := hx.top
  have tb := hy.top
  refine Does.enter Try.func101 rfl Try.ntmps101 rfl (fun w => ?_)
  by_cases hs : n1 = n2
  · refine Wc.seq ?_
    refine Wc.region rfl ?_
    refine Wl.box 0 rfl rfl rfl (fun b1 => ?_)
    refine Wl.box 1 rfl rfl rfl (fun b2 => ?_)
    refine Wl.alloc 2 rfl T.zero43 (fun b3 => ?_)
    refine Wl.done ?_
    refine Ar.next ?_
    refine Wc.seq ?_
    refine Wc.seq ?_
    refine Wc.region rfl ?_
    refine Wl.q rfl (Qy.fieldAddr T.fa43_0 rfl) ?_
    refine Wl.q rfl (Qy.load 0 T.one4 rfl rfl rfl) ?_
    refine Wl.q rfl (Qy.fieldAddr T.fa43_0 rfl) ?_
    refine Wl.q rfl (Qy.load 1 T.one4 rfl rfl rfl) ?_
    refine Wl.q rfl (Qy.eqlB T.u4 rfl rfl) ?_
    refine Wl.done ?_
    refine Ar.next ?_
    refine Wc.condP rfl (by first | assumption | omega) ?_
    refine Wc.seq ?_
    refine Wc.draw [0, 1, 2] [(2, 8)] T.mixed rfl ?_
    refine Gm.q 0 [] (by kernel_rfl) rfl rfl (Qy.fieldAddr T.fa43_0 rfl) ?_
    refine Gm.q 1 [0] (by kernel_rfl) rfl rfl (Qy.load 0 T.one4 rfl rfl rfl) ?_
    refine Gm.q 2 [] (by kernel_rfl) rfl rfl (Qy.fieldAddr T.fa43_1 rfl) ?_
    refine Gm.q 3 [0] (by kernel_rfl) rfl rfl (Qy.load 0 T.one41 rfl rfl rfl) ?_
    refine Gm.q 4 [] (by kernel_rfl) rfl rfl (Qy.fieldAddr T.fa43_1 rfl) ?_
    refine Gm.q 5 [1] (by kernel_rfl) rfl rfl (Qy.load 1 T.one41 rfl rfl rfl) ?_
    refine Gm.one 6 ⟨rfl, rfl, rfl, trivial⟩ (by first | exact Imm.le_refl _ | assumption) (by kernel_rfl) rfl ?_
    refine Wl.call 3 rfl T.fn104 rfl (c104 _ _ _ _ _ _ _ (by assumption) (by assumption) (by assumption) (by assumption) (by assumption) (by assumption)) (tags_of trivial) (fun v1 G1 Ho1 hle1 hp => ?_)
    obtain ⟨po1, pc1, pr1, pj1, rfl, hpo1, rfl, rfl, hpd1, hpv1, hpl1⟩ := hp
    refine Wl.on0 ?_
    refine Gm.one 7 ⟨rfl, rfl, rfl, trivial⟩ (by first | exact Imm.le_refl _ | assumption) (by kernel_rfl) rfl ?_
    have hcap := hpo1.le
    refine Wl.freezeRow 3 rfl hpo1 (fun G9 hle9 hA => ?_)
    refine Wl.call 4 rfl T.fn60 rfl (c60 _ _ _ _ _ (by assumption) (by omega) (by assumption)) (tags_of trivial) (fun v2 G2 Ho2 hle2 hp => ?_)
    obtain ⟨tn2, rfl, htr2, rfl, rfl⟩ := hp
    refine Wl.on0 ?_
    refine Gm.one 8 ⟨rfl, rfl, rfl, trivial⟩ (by first | exact Imm.le_refl _ | assumption) (by kernel_rfl) rfl ?_
    refine Wl.storeAll 2 T.size43 rfl rfl rfl rfl rfl rfl ?_
    refine Wl.on0 ?_
    refine Gm.doneA (by kernel_rfl) ⟨rfl, rfl, trivial⟩ (by first | exact Imm.le_refl _ | assumption) ?_
    refine Ar.next ?_
    refine Wc.ret ?_
    refine Ar.passRet ?_
    refine Ar.out1 (.inr rfl) (Ho := Hp.only _ []) rfl (.agg 2 rfl rfl T.agg43) (Hp.sub_only _ _) ?_
    refine ⟨⟨n1 && decide (0 < tn2), subA po1 pc1 0 1, tn2, pc1⟩, rfl, ?_, rfl⟩
    have e := htr2.num hpd1 hA hcap n1
    have e2 : (if n1 = true then -valL pr1 else valL pr1) = x + y := by
      rw [hpv1, hx.val, hy.val]
      revert hs
      cases n1 <;> cases n2 <;> simp <;> omega
    rw [e2] at e; exact e
  · by_cases hle : valL lb ≤ valL la
    · have hcmp : 0 ≤ cmpZ (valL la) (valL lb) := by
        rcases Int.lt_or_eq_of_le hle with h | h
        · rw [cmpZ_gt h]; decide
        · rw [cmpZ_eq h.symm]; decide
      have hll : lb.length ≤ la.length := by
        rcases Nat.lt_or_ge la.length lb.length with h | h
        · have := top_lt_len da db tb h; omega
        · exact h
      refine Wc.seq ?_
      refine Wc.region rfl ?_
      refine Wl.box 0 rfl rfl rfl (fun b1 => ?_)
      refine Wl.box 1 rfl rfl rfl (fun b2 => ?_)
      refine Wl.alloc 2 rfl T.zero43 (fun b3 => ?_)
      refine Wl.done ?_
      refine Ar.next ?_
      refine Wc.seq ?_
      refine Wc.seq ?_
      refine Wc.region rfl ?_
      refine Wl.q rfl (Qy.fieldAddr T.fa43_0 rfl) ?_
      refine Wl.q rfl (Qy.load 0 T.one4 rfl rfl rfl) ?_
      refine Wl.q rfl (Qy.fieldAddr T.fa43_0 rfl) ?_
      refine Wl.q rfl (Qy.load 1 T.one4 rfl rfl rfl) ?_
      refine Wl.q rfl (Qy.eqlB T.u4 rfl rfl) ?_
      refine Wl.done ?_
      refine Ar.next ?_
      refine Wc.condN rfl (by first | assumption | omega) ?_
      refine Wc.skip ?_
      refine Ar.next ?_
      refine Wc.seq ?_
      refine Wc.seq ?_
      refine Wc.region rfl ?_
      refine Wl.q rfl (Qy.fieldAddr T.fa43_1 rfl) ?_
      refine Wl.q rfl (Qy.load 0 T.one41 rfl rfl rfl) ?_
      refine Wl.q rfl (Qy.fieldAddr T.fa43_1 rfl) ?_
      refine Wl.q rfl (Qy.load 1 T.one41 rfl rfl rfl) ?_
      refine Wl.call0 rfl T.fn91 rfl (c91 _ _ _ _ _ _ _ (by assumption) (by assumption) (by assumption) (by assumption) (by assumption) (by assumption) (by assumption) (by assumption)) ?_
      refine Wl.q rfl (Qy.geq rfl rfl) ?_
      refine Wl.done ?_
      refine Ar.next ?_
      refine Wc.condP rfl (by first | assumption | omega) ?_
      refine Wc.seq ?_
      refine Wc.draw [0, 1, 2] [(2, 8)] T.mixed rfl ?_
      refine Gm.q 0 [] (by kernel_rfl) rfl rfl (Qy.fieldAddr T.fa43_0 rfl) ?_
      refine Gm.q 1 [0] (by kernel_rfl) rfl rfl (Qy.load 0 T.one4 rfl rfl rfl) ?_
      refine Gm.q 2 [] (by kernel_rfl) rfl rfl (Qy.fieldAddr T.fa43_1 rfl) ?_
      refine Gm.q 3 [0] (by kernel_rfl) rfl rfl (Qy.load 0 T.one41 rfl rfl rfl) ?_
      refine Gm.q 4 [] (by kernel_rfl) rfl rfl (Qy.fieldAddr T.fa43_1 rfl) ?_
      refine Gm.q 5 [1] (by kernel_rfl) rfl rfl (Qy.load 1 T.one41 rfl rfl rfl) ?_
      refine Gm.one 6 ⟨rfl, rfl, rfl, trivial⟩ (by first | exact Imm.le_refl _ | assumption) (by kernel_rfl) rfl ?_
      refine Wl.call 3 rfl T.fn105 rfl (c105 _ _ _ _ _ _ _ (by assumption) (by assumption) (by assumption) (by assumption) (by assumption) (by assumption) (by assumption)) (tags_of trivial) (fun v1 G1 Ho1 hle1 hp => ?_)
      obtain ⟨po1, pc1, pr1, pj1, rfl, hpo1, rfl, rfl, hpd1, hpv1, hpl1⟩ := hp
      refine Wl.on0 ?_
      refine Gm.one 7 ⟨rfl, rfl, rfl, trivial⟩ (by first | exact Imm.le_refl _ | assumption) (by kernel_rfl) rfl ?_
      have hcap := hpo1.le
      refine Wl.freezeRow 3 rfl hpo1 (fun G9 hle9 hA => ?_)
      refine Wl.call 4 rfl T.fn60 rfl (c60 _ _ _ _ _ (by assumption) (by omega) (by assumption)) (tags_of trivial) (fun v2 G2 Ho2 hle2 hp => ?_)
      obtain ⟨tn2, rfl, htr2, rfl, rfl⟩ := hp
      refine Wl.on0 ?_
      refine Gm.one 8 ⟨rfl, rfl, rfl, trivial⟩ (by first | exact Imm.le_refl _ | assumption) (by kernel_rfl) rfl ?_
      refine Wl.storeAll 2 T.size43 rfl rfl rfl rfl rfl rfl ?_
      refine Wl.on0 ?_
      refine Gm.doneA (by kernel_rfl) ⟨rfl, rfl, trivial⟩ (by first | exact Imm.le_refl _ | assumption) ?_
      refine Ar.next ?_
      refine Wc.ret ?_
      refine Ar.passRet ?_
      refine Ar.out1 (.inr rfl) (Ho := Hp.only _ []) rfl (.agg 2 rfl rfl T.agg43) (Hp.sub_only _ _) ?_
      refine ⟨⟨n1 && decide (0 < tn2), subA po1 pc1 0 1, tn2, pc1⟩, rfl, ?_, rfl⟩
      have e := htr2.num hpd1 hA hcap n1
      have e2 : (if n1 = true then -valL pr1 else valL pr1) = x + y := by
        rw [hpv1, hx.val, hy.val]
        revert hs
        cases n1 <;> cases n2 <;> simp <;> omega
      rw [e2] at e; exact e
    · have hcmp : ¬ 0 ≤ cmpZ (valL la) (valL lb) := by rw [cmpZ_lt (by omega)]; decide
      have hge9 : valL la ≤ valL lb := by omega
      have hll : la.length ≤ lb.length := by
        rcases Nat.lt_or_ge lb.length la.length with h | h
        · have := top_lt_len db da ta h; omega
        · exact h
      refine Wc.seq ?_
      refine Wc.region rfl ?_
      refine Wl.box 0 rfl rfl rfl (fun b1 => ?_)
      refine Wl.box 1 rfl rfl rfl (fun b2 => ?_)
      refine Wl.alloc 2 rfl T.zero43 (fun b3 => ?_)
      refine Wl.done ?_
      refine Ar.next ?_
      refine Wc.seq ?_
      refine Wc.seq ?_
      refine Wc.region rfl ?_
      refine Wl.q rfl (Qy.fieldAddr T.fa43_0 rfl) ?_
      refine Wl.q rfl (Qy.load 0 T.one4 rfl rfl rfl) ?_
      refine Wl.q rfl (Qy.fieldAddr T.fa43_0 rfl) ?_
      refine Wl.q rfl (Qy.load 1 T.one4 rfl rfl rfl) ?_
      refine Wl.q rfl (Qy.eqlB T.u4 rfl rfl) ?_
      refine Wl.done ?_
      refine Ar.next ?_
      refine Wc.condN rfl (by first | assumption | omega) ?_
      refine Wc.skip ?_
      refine Ar.next ?_
      refine Wc.seq ?_
      refine Wc.seq ?_
      refine Wc.region rfl ?_
      refine Wl.q rfl (Qy.fieldAddr T.fa43_1 rfl) ?_
      refine Wl.q rfl (Qy.load 0 T.one41 rfl rfl rfl) ?_
      refine Wl.q rfl (Qy.fieldAddr T.fa43_1 rfl) ?_
      refine Wl.q rfl (Qy.load 1 T.one41 rfl rfl rfl) ?_
      refine Wl.call0 rfl T.fn91 rfl (c91 _ _ _ _ _ _ _ (by assumption) (by assumption) (by assumption) (by assumption) (by assumption) (by assumption) (by assumption) (by assumption)) ?_
      refine Wl.q rfl (Qy.geq rfl rfl) ?_
      refine Wl.done ?_
      refine Ar.next ?_
      refine Wc.condN rfl (by first | assumption | omega) ?_
      refine Wc.skip ?_
      refine Ar.next ?_
      refine Wc.seq ?_
      refine Wc.draw [0, 1, 2] [(2, 8)] T.mixed rfl ?_
      refine Gm.q 0 [] (by kernel_rfl) rfl rfl (Qy.fieldAddr T.fa43_0 rfl) ?_
      refine Gm.q 1 [1] (by kernel_rfl) rfl rfl (Qy.load 1 T.one4 rfl rfl rfl) ?_
      refine Gm.q 2 [] (by kernel_rfl) rfl rfl (Qy.fieldAddr T.fa43_1 rfl) ?_
      refine Gm.q 3 [1] (by kernel_rfl) rfl rfl (Qy.load 1 T.one41 rfl rfl rfl) ?_
      refine Gm.q 4 [] (by kernel_rfl) rfl rfl (Qy.fieldAddr T.fa43_1 rfl) ?_
      refine Gm.q 5 [0] (by kernel_rfl) rfl rfl (Qy.load 0 T.one41 rfl rfl rfl) ?_
      refine Gm.one 6 ⟨rfl, rfl, rfl, trivial⟩ (by first | exact Imm.le_refl _ | assumption) (by kernel_rfl) rfl ?_
      refine Wl.call 3 rfl T.fn105 rfl (c105 _ _ _ _ _ _ _ (by assumption) (by assumption) (by assumption) (by assumption) (by assumption) (by assumption) (by assumption)) (tags_of trivial) (fun v1 G1 Ho1 hle1 hp => ?_)
      obtain ⟨po1, pc1, pr1, pj1, rfl, hpo1, rfl, rfl, hpd1, hpv1, hpl1⟩ := hp
      refine Wl.on0 ?_
      refine Gm.one 7 ⟨rfl, rfl, rfl, trivial⟩ (by first | exact Imm.le_refl _ | assumption) (by kernel_rfl) rfl ?_
      have hcap := hpo1.le
      refine Wl.freezeRow 3 rfl hpo1 (fun G9 hle9 hA => ?_)
      refine Wl.call 4 rfl T.fn60 rfl (c60 _ _ _ _ _ (by assumption) (by omega) (by assumption)) (tags_of trivial) (fun v2 G2 Ho2 hle2 hp => ?_)
      obtain ⟨tn2, rfl, htr2, rfl, rfl⟩ := hp
      refine Wl.on0 ?_
      refine Gm.one 8 ⟨rfl, rfl, rfl, trivial⟩ (by first | exact Imm.le_refl _ | assumption) (by kernel_rfl) rfl ?_
      refine Wl.storeAll 2 T.size43 rfl rfl rfl rfl rfl rfl ?_
      refine Wl.on0 ?_
      refine Gm.doneA (by kernel_rfl) ⟨rfl, rfl, trivial⟩ (by first | exact Imm.le_refl _ | assumption) ?_
      refine Ar.next ?_
      refine Wc.ret ?_
      refine Ar.out1 (.inr rfl) (Ho := Hp.only _ []) rfl (.agg 2 rfl rfl T.agg43) (Hp.sub_only _ _) ?_
      refine ⟨⟨n2 && decide (0 < tn2), subA po1 pc1 0 1, tn2, pc1⟩, rfl, ?_, rfl⟩
      have e := htr2.num hpd1 hA hcap n2
      have e2 : (if n2 = true then -valL pr1 else valL pr1) = x + y := by
        rw [hpv1, hx.val, hy.val]
        revert hs
        cases n1 <;> cases n2 <;> simp <;> omega
      rw [e2] at e; exact e
theorem c108 (G : Imm) (n1 n2 : Bool) (a b : Option Addr) (ca cb : Nat) (la lb : List U32) (x y : Int) (ha : Arr G a la) (hb : Arr G b lb) (hx : IsInt n1 la x) (hy : IsInt n2 lb y) (h1 : la.length ≤ 1073741824) (h2 : lb.length ≤ 1073741824) (hcb : lb.length ≤ cb) :
    Does Try.prog 108 [.agg #[.bool n1, .slice a la.length ca], .agg #[.bool n2, .slice b lb.length cb]] G [] (fun v G' Ho => ∃ r : IV, v = .agg #[.bool r.neg, .slice r.a r.n r.c] ∧ Num G' r (x - y) ∧ Ho = []) := by
  refine Does.enter Try.func108 rfl Try.ntmps108 rfl (fun w => ?_)
  refine Wc.seq ?_
  refine Wc.region rfl ?_
  refine Wl.box 0 rfl rfl rfl (fun b1 => ?_)
  refine Wl.box 1 rfl rfl rfl (fun b2 => ?_)
  refine Wl.alloc 2 rfl T.zero43 (fun b3 => ?_)
  refine Wl.done ?_
  refine Ar.next ?_
  refine Wc.seq ?_
  refine Wc.draw [0, 1, 2] [(2, 4)] T.mixed rfl ?_
  refine Gm.q 0 [0] (by kernel_rfl) rfl rfl (Qy.loadAll 0 T.agg43 rfl rfl rfl) ?_
  refine Gm.q 1 [1] (by kernel_rfl) rfl rfl (Qy.loadAll 1 T.agg43 rfl rfl rfl) ?_
  refine Gm.one 2 ⟨rfl, rfl, rfl, trivial⟩ (by first | exact Imm.le_refl _ | assumption) (by kernel_rfl) rfl ?_
  refine Wl.call 3 rfl T.fn111 rfl (c111 _ _ _ _ _ _ (by assumption) (by assumption) (by assumption) (by assumption)) (tags_of trivial) (fun v1 G1 Ho1 hle1 hp => ?_)
  obtain ⟨nr1, rfl, hnr1, rfl, rfl⟩ := hp
  refine Wl.on0 ?_
  refine Gm.one 3 ⟨rfl, rfl, rfl, trivial⟩ (by first | exact Imm.le_refl _ | assumption) (by kernel_rfl) rfl ?_
  obtain ⟨rn, ra, rk, rc⟩ := nr1
  obtain ⟨l, hl, hlc, hA, hI⟩ := hnr1
  simp only at hl hlc hA hI
  subst hl
  have hll : l.length ≤ lb.length := hI.len (by
    have := valL_lt hy.digs
    rw [hy.abs] at this
    omega)
  refine Wl.call 20 rfl T.fn101 rfl (c101 _ _ _ _ _ _ _ _ _ _ _ ha hA hx hI h1 (by omega)) (tags_of trivial) (fun v2 G2 Ho2 hle2 hp => ?_)
  obtain ⟨r2, rfl, hr2, rfl⟩ := hp
  refine Wl.on0 ?_
  refine Gm.one 4 ⟨rfl, rfl, rfl, trivial⟩ (by first | exact Imm.le_refl _ | assumption) (by kernel_rfl) rfl ?_
  refine Wl.storeAll 2 T.size43 rfl rfl rfl rfl rfl rfl ?_
  refine Wl.on0 ?_
  refine Gm.doneA (by kernel_rfl) ⟨rfl, rfl, trivial⟩ (by first | exact Imm.le_refl _ | assumption) ?_
  refine Ar.next ?_
  refine Wc.ret ?_
  refine Ar.out1 (.inr rfl) (Ho := Hp.only _ []) rfl (.agg 2 rfl rfl T.agg43) (Hp.sub_only _ _) ?_
  refine ⟨r2, rfl, ?_, rfl⟩
  rw [Int.sub_eq_add_neg]; exact hr2
theorem num_add (G : Imm) (x y : IV) (zx zy : Int) (hx : Num G x zx) (hy : Num G y zy) (h1 : x.n ≤ 1073741824) (h2 : y.n ≤ 1073741824) :
    Does Try.prog 101 [.agg (Cells.enc x).toArray, .agg (Cells.enc y).toArray] G [] (fun v G' Ho => ∃ r : IV, v = .agg (Cells.enc r).toArray ∧ Num G' r (zx + zy) ∧ Ho = []) := by
  obtain ⟨n1, a, k1, ca⟩ := x
  obtain ⟨n2, b, k2, cb⟩ := y
  obtain ⟨la, hl, hlc, hA, hI⟩ := hx
  obtain ⟨lb, hl', hlc', hA', hI'⟩ := hy
  simp only at hl hlc hA hI hl' hlc' hA' hI' h1 h2
  subst hl hl'
  exact c101 G n1 n2 a b ca cb la lb zx zy hA hA' hI hI' h1 h2
theorem num_cmp (G : Imm) (x y : IV) (zx zy : Int) (hx : Num G x zx) (hy : Num G y zy) (h1 : x.n ≤ 1073741824) (h2 : y.n ≤ 1073741824) :
    Does Try.prog 63 [.agg (Cells.enc x).toArray, .agg (Cells.enc y).toArray] G [] (fun v G' Ho => v = .int .i64 (cmpZ zx zy) ∧ G' = G ∧ Ho = []) := by
  obtain ⟨n1, a, k1, ca⟩ := x
  obtain ⟨n2, b, k2, cb⟩ := y
  obtain ⟨la, hl, hlc, hA, hI⟩ := hx
  obtain ⟨lb, hl', hlc', hA', hI'⟩ := hy
  simp only at hl hlc hA hI hl' hlc' hA' hI' h1 h2
  subst hl hl'
  exact c63 G n1 n2 a b ca cb la lb zx zy hA hA' hI hI' h1 h2
end Go.Proofs.Ytfleehgbpgmcnaa
