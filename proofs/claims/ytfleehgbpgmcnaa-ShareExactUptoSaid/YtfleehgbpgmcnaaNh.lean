import Derived.Test.YtfleehgbpgmcnaaNg
set_option maxRecDepth 100000
set_option linter.unusedVariables false
namespace Go.Proofs.Ytfleehgbpgmcnaa
open Go Go.Sl

set_option maxHeartbeats 4000000
theorem row_take {α : Type} [Cells α] (E : TypeId) (xs : List α) (j : List Value) (n : Nat) : Row E xs j = Row E (xs.take n) (flat (xs.drop n) ++ j) := by
  unfold Row
  rw [← List.append_assoc, ← flat_append, List.take_append_drop]
theorem own_take {α : Type} [Cells α] {a : Option Addr} {c : Nat} {xs : List α} {j : List Value} (h : OwnA a c xs j) (n : Nat) : OwnA a c (xs.take n) (flat (xs.drop n) ++ j) := by
  rcases h with ⟨h1, rfl, rfl, h4⟩ | ⟨b, h1, h2, h3, h4⟩
  · exact .inl ⟨h1, by simp, by simp [flat], h4⟩
  · refine .inr ⟨b, h1, ?_, ?_, h4⟩
    · rw [List.length_append, flat_length, ← Nat.add_assoc, ← Nat.add_mul, ← List.length_append, List.take_append_drop]; exact h2
    · rw [List.length_take]; omega
theorem top_of_ge {l : List U32} (hd : Digs l) (h0 : l ≠ []) (h : pw (l.length - 1) ≤ valL l) : Top l := by
  refine .inr fun hz => ?_
  have hl : 0 < l.length := List.length_pos_iff.2 h0
  have e := val_step l (l.length - 1)
  have hz' : dg l (l.length - 1) = 0 := by unfold dg; rw [Int.toNat_natCast]; exact hz
  rw [Nat.sub_add_cancel hl, take_all (Nat.le_refl _), hz', Int.mul_zero, Int.add_zero] at e
  have h1 := valL_lt (hd.take (l.length - 1))
  rw [List.length_take, Nat.min_eq_left (by omega)] at h1
  omega
theorem len_le_of_val {l m : List U32} (hl : Digs l) (hm : Digs m) (tm : Top m) (h : valL m ≤ valL l) : m.length ≤ l.length := by
  rcases Nat.lt_or_ge l.length m.length with h1 | h1
  · have := top_lt_len hl hm tm h1; omega
  · exact h1
theorem take_set {l : List U32} {i : Nat} (h : i < l.length) (d : U32) : (l.set i d).take (i + 1) = l.take i ++ [d] := by
  rw [List.take_add_one, List.take_set_of_le (Nat.le_refl _), List.getElem?_set_self h]; rfl
theorem dg_drop {r s : List U32} {i : Nat} (h : s.drop i = r.drop i) : dg s i = dg r i := by
  have e : s[i]? = r[i]? := by
    have := congrArg (·[0]?) h
    simpa [List.getElem?_drop] using this
  unfold dg; rw [Int.toNat_natCast, e]
theorem drop_set_next {r s : List U32} {i : Nat} (h : s.drop i = r.drop i) (d : U32) : (s.set i d).drop (i + 1) = r.drop (i + 1) := by
  rw [List.drop_set_of_lt (by omega), ← List.drop_drop, ← List.drop_drop, h]
theorem twice_next {r s : List U32} {i : Nat} {c c0 : Int} (hi : i < s.length) (hd : s.drop i = r.drop i) (hv : valL (s.take i) + pw i * c = 2 * valL (r.take i) + c0) :
    valL ((s.set i ⟨(c + 2 * dg s i) % 65536⟩).take (i + 1)) + pw (i + 1) * ((c + 2 * dg s i) / 65536) = 2 * valL (r.take (i + 1)) + c0 := by
  rw [take_set hi, valL_snoc, List.length_take, Nat.min_eq_left (Nat.le_of_lt hi), val_step, pw_succ, ← dg_drop hd]
  have h := carry (pw i) (c + 2 * dg s i)
  rw [Int.mul_add, Int.mul_left_comm] at h
  show valL (s.take i) + pw i * ((c + 2 * dg s i) % 65536) + 65536 * pw i * ((c + 2 * dg s i) / 65536) = _
  omega
theorem half_bit (x : Int) (e : Nat) : x / p2 e = 2 * (x / p2 (e + 1)) + x / p2 e % 2 := by
  rw [p2_succ, Int.mul_comm 2 (p2 e), ← Int.ediv_ediv_of_nonneg (Int.le_of_lt (p2_pos e))]
  omega
/-- where a power of two divides, a digit's low bits are noughts -/
theorem dig_zero {q : List U32} (hd : Digs q) {e : Nat} {Q : Int} (he : e / 16 < q.length) (h : valL q = p2 (e + 1) * Q) : dg q (e / 16) % p2 (e % 16 + 1) = 0 := by
  have e0 := val_split q (m := e / 16 + 1) (by omega)
  rw [val_step, pw_succ] at e0
  have h1 := valL_lt (hd.take (e / 16))
  have h0 := valL_nonneg (hd.take (e / 16))
  rw [List.length_take, Nat.min_eq_left (by omega)] at h1
  have ek : p2 (e + 1) = pw (e / 16) * p2 (e % 16 + 1) := by rw [pw_p2, ← p2_add, ← Nat.add_assoc, Nat.div_add_mod]
  obtain ⟨r, hr⟩ : ∃ r, 16 = e % 16 + 1 + r := ⟨15 - e % 16, by omega⟩
  have e4 : p2 16 = p2 (e % 16 + 1) * p2 r := (congrArg p2 hr).trans (by rw [p2_add])
  rw [p2_16] at e4
  have e2 : valL (q.take (e / 16)) + pw (e / 16) * (dg q (e / 16) + p2 (e % 16 + 1) * (p2 r * valL (q.drop (e / 16 + 1)))) = pw (e / 16) * (p2 (e % 16 + 1) * Q) := by
    rw [← Int.mul_assoc (pw (e / 16)) (p2 (e % 16 + 1)) Q, ← ek, ← h, e0, Int.mul_add, ← Int.mul_assoc (p2 (e % 16 + 1)) (p2 r), ← e4, ← Int.mul_assoc (pw (e / 16)) 65536, Int.mul_comm (pw (e / 16)) 65536]
    omega
  have e3 : dg q (e / 16) + p2 (e % 16 + 1) * (p2 r * valL (q.drop (e / 16 + 1))) = p2 (e % 16 + 1) * Q := by
    have h2 := congrArg (fun z => z / pw (e / 16)) e2
    rw [Int.add_mul_ediv_left _ _ (Int.ne_of_gt (pw_pos _)), Int.ediv_eq_zero_of_lt h0 h1, Int.zero_add, Int.mul_ediv_cancel_left _ (Int.ne_of_gt (pw_pos _))] at h2
    exact h2
  have e5 : dg q (e / 16) = p2 (e % 16 + 1) * (Q - p2 r * valL (q.drop (e / 16 + 1))) := by rw [Int.mul_sub]; omega
  rw [e5]; exact Int.mul_emod_right _ _
theorem long_yes {q : List U32} {e : Nat} {Q : Int} (he : e / 16 < q.length) (h : valL q = p2 (e + 1) * Q) : valL (q.set (e / 16) ⟨dg q (e / 16) + p2 (e % 16)⟩) = p2 e * (2 * Q + 1) := by
  have ek : p2 e = pw (e / 16) * p2 (e % 16) := by rw [pw_p2, ← p2_add, Nat.div_add_mod]
  rw [valL_set q (e / 16) _ he, h, p2_succ, Int.mul_add, Int.mul_one]
  show 2 * p2 e * Q + pw (e / 16) * (dg q (e / 16) + p2 (e % 16) - dg q (e / 16)) = _
  rw [show dg q (e / 16) + p2 (e % 16) - dg q (e / 16) = p2 (e % 16) by omega, ← ek, Int.mul_left_comm (p2 e) 2 Q, Int.mul_assoc 2 (p2 e) Q]
theorem dig_room {q : List U32} (hd : Digs q) {e : Nat} (he : e / 16 < q.length) (hz : dg q (e / 16) % p2 (e % 16 + 1) = 0) : 0 ≤ dg q (e / 16) + p2 (e % 16) ∧ dg q (e / 16) + p2 (e % 16) < 65536 := by
  have h1 := dg_lt hd he
  have h2 := p2_pos (e % 16)
  obtain ⟨r, hr⟩ : ∃ r, 16 = e % 16 + 1 + r := ⟨15 - e % 16, by omega⟩
  have e4 : p2 16 = p2 (e % 16 + 1) * p2 r := (congrArg p2 hr).trans (by rw [p2_add])
  rw [p2_16] at e4
  obtain ⟨y, hy⟩ : ∃ y, dg q (e / 16) = p2 (e % 16 + 1) * y := ⟨_, (Int.mul_ediv_cancel' (Int.dvd_of_emod_eq_zero hz)).symm⟩
  have hlt : y < p2 r := by
    rw [hy, e4] at h1
    exact Int.lt_of_mul_lt_mul_left h1.2 (Int.le_of_lt (p2_pos _))
  have h3 := Int.mul_le_mul_of_nonneg_left (show y + 1 ≤ p2 r by omega) (Int.le_of_lt (p2_pos (e % 16 + 1)))
  rw [Int.mul_add, Int.mul_one, ← e4, ← hy, p2_succ] at h3
  omega
theorem p2_def (n : Nat) : p2 n = ((2 ^ n : Nat) : Int) := rfl
theorem shl_one {e : Nat} : IntKind.u32.wrap (1 * 2 ^ min ((e : Int) % 16).toNat IntKind.u32.bits) = p2 (e % 16) := by
  have e1 : min ((e : Int) % 16).toNat IntKind.u32.bits = e % 16 := by
    rw [show IntKind.u32.bits = 32 from rfl]; omega
  have e2 : (2 : Int) ^ (e % 16) = p2 (e % 16) := by rw [p2_def, Int.natCast_pow]; rfl
  have h1 : p2 (e % 16) ≤ p2 16 := p2_le (by omega)
  rw [p2_16] at h1
  have h2 := p2_pos (e % 16)
  rw [e1, e2, Int.one_mul, IntWalk.u32_in _ (by omega)]
theorem or_dig {q : List U32} {e : Nat} (h : 0 ≤ dg q (e / 16) ∧ dg q (e / 16) < 65536) (hz : dg q (e / 16) % p2 (e % 16 + 1) = 0) :
    bits BinOp.or IntKind.u32 (q[((e : Int) / 16).toNat]?.getD default).v (IntKind.u32.wrap (1 * 2 ^ min ((e : Int) % 16).toNat IntKind.u32.bits)) = dg q (e / 16) + p2 (e % 16) := by
  have e1 : (q[((e : Int) / 16).toNat]?.getD default).v = dg q (e / 16) := by
    unfold dg; rw [show ((e : Int) / 16).toNat = ((e / 16 : Nat) : Int).toNat by omega]
  rw [shl_one, e1, p2_def (e % 16)]
  exact or_bit_u32 _ _ h (by omega) hz
attribute [local irreducible] valL pw cmpZ p2
theorem c106L (G : Imm) (a b : Option Addr) (ca cb : Nat) (la lb : List U32) (ha : Arr G a la) (hb : Arr G b lb) (da : Digs la) (db : Digs lb) (tb : Top lb) (h1 : la.length ≤ 536870912) (h2 : lb.length ≤ 536870912) (hl1 : lb.length ≠ 1) (hB : 0 < valL lb) :
    Does Try.prog 106 [.slice a la.length ca, .slice b lb.length cb] G [] (fun v G' Ho => DivOk G' la lb v ∧ Ho = []) := by
  refine Does.enter Try.func106 rfl Try.ntmps106 rfl (fun w => ?_)
  refine Wc.nilRow 50 (Row 91 ([] : List U32) []) ?_
  refine Wc.seq ?_
  refine Wc.region rfl ?_
  refine Wl.q rfl (Qy.assign rfl) ?_
  refine Wl.q rfl (Qy.assign rfl) ?_
  refine Wl.done ?_
  refine Ar.next ?_
  refine Wc.seq ?_
  refine Wc.seq ?_
  refine Wc.region rfl ?_
  refine Wl.q rfl (Qy.move rfl) ?_
  refine Wl.q rfl (Qy.len T.sl41 rfl) ?_
  refine Wl.q rfl (Qy.eql rfl rfl) ?_
  refine Wl.done ?_
  refine Ar.next ?_
  refine Wc.condN rfl (by first | assumption | omega) ?_
  refine Wc.skip ?_
  refine Ar.next ?_
  refine Wc.seq ?_
  refine Wc.region rfl ?_
  refine Wl.q rfl (Qy.move rfl) ?_
  refine Wl.q rfl (Qy.len T.sl41 rfl) ?_
  refine Wl.make (α := U32) 51 rfl T.sl41 T.el91 rfl rfl (by omega) (by omega) (fun b1 => ?_)
  refine Wl.q rfl (Qy.assign rfl) ?_
  refine Wl.done ?_
  refine Ar.next ?_
  refine Wc.seq ?_
  refine Wc.region rfl ?_
  refine Wl.q rfl (Qy.assign rfl) ?_
  refine Wl.done ?_
  refine Ar.next ?_
  refine Wc.seq ?_
  refine Wc.seq ?_
  refine Wc.region rfl ?_
  refine Wl.q rfl (Qy.move rfl) ?_
  refine Wl.call 52 rfl T.fn109 rfl (c109 _ _ _ _ (by assumption) (by assumption) (by assumption)) (tags_of trivial) (fun v1 G1 Ho1 hle1 hp => ?_)
  obtain ⟨nb1, rfl, hnv1, hnl1, rfl, rfl⟩ := hp
  refine Wl.q rfl (Qy.sub rfl rfl (by omega)) ?_
  refine Wl.q rfl (Qy.assign rfl) ?_
  refine Wl.done ?_
  refine Ar.next ?_
  refine Wc.block ?_
  obtain ⟨N, hN⟩ : ∃ N, N = la.length := ⟨_, rfl⟩
  have hM : (la.length : Int).toNat = N := by omega
  rw [hM]
  have hown : ∀ r : List U32, r.length = N → OwnA (some ⟨b1, 0, none⟩) N r [] := fun r hr => .inr ⟨b1, rfl, by rw [hr]; rfl, by omega, by simp only [maxLen]; omega⟩
  refine Wc.re 9 rfl (show _ = Value.slice (some ⟨b1, 0, none⟩) (List.replicate N (default : U32)).length N by rw [List.length_replicate]) ?_
  have hstart : valL la / p2 nb1 = 0 := Int.ediv_eq_zero_of_lt (valL_nonneg da) hnv1
  refine Wc.loop (ι := Nat × Int × List U32 × List U32 × (Option Addr × Nat × List Value)) (fun (k, Q, q, r, (o, d, j)) => ([(11, .int .i64 ((k : Int) - 1)), (9, .slice (some ⟨b1, 0, none⟩) q.length N), (10, .slice o r.length d), (5, Go.Value.slice Option.none 0 0), (4, Go.Value.slice Option.none 0 0), (0, Go.Value.slice a (List.length la) ca), (1, Go.Value.slice b (List.length lb) cb)], [(51, some b1, Row 91 q []), (50, o.map (·.block), Row 91 r j)])) (fun (k, Q, q, r, (o, d, j)) => k ≤ nb1 ∧ q.length = N ∧ Digs q ∧ Digs r ∧ Top r ∧ valL q = p2 k * Q ∧ valL la / p2 k = Q * valL lb + valL r ∧ valL r < valL lb ∧ r.length ≤ lb.length ∧ OwnA o d r j) (fun (k, Q, q, r, (o, d, j)) => k) ((nb1, 0, List.replicate N (default : U32), [], (none, 0, []))) (⟨Nat.le_refl _, List.length_replicate, Digs.zeros N, Digs.nil, Top.nil, by rw [Int.mul_zero]; exact valL_replicate N, by rw [hstart, Int.zero_mul, valL_nil]; rfl, by rw [valL_nil]; exact hB, Nat.zero_le _, OwnA.nil⟩) ⟨rfl, rfl, rfl, rfl, rfl, rfl, rfl, trivial⟩ ⟨rfl, rfl, trivial⟩ (fun ⟨k, Q, q, r, (o, d, j)⟩ => fun (hk : k ≤ nb1 ∧ q.length = N ∧ Digs q ∧ Digs r ∧ Top r ∧ valL q = p2 k * Q ∧ valL la / p2 k = Q * valL lb + valL r ∧ valL r < valL lb ∧ r.length ≤ lb.length ∧ OwnA o d r j) => ?_)
  obtain ⟨hk1, hqN, hdq, hdr, htr, hvq, hva, hrB, hrl, hob⟩ := hk
  have hoq := hown q hqN
  rcases Nat.eq_zero_or_pos k with rfl | hpos
  · rw [p2_zero, Int.ediv_one] at hva
    rw [p2_zero, Int.one_mul] at hvq
    have hcap := hoq.le
    have hcap2 := hob.le
    refine Wc.seq ?_
    refine Wc.seq ?_
    refine Wc.region rfl ?_
    refine Wl.q rfl (Qy.move rfl) ?_
    refine Wl.q rfl (Qy.geq rfl rfl) ?_
    refine Wl.done ?_
    refine Ar.next ?_
    refine Wc.condN rfl (by first | assumption | omega) ?_
    refine Wc.exit ?_
    refine Ar.passExit ?_
    refine Ar.passExit ?_
    refine Ar.here ?_
    refine Ar.next ?_
    refine Wc.seq ?_
    refine Wc.region rfl ?_
    refine Wl.q rfl (Qy.move rfl) ?_
    refine Wl.freezeRow 51 rfl hoq (fun G8 hle8 hA => Wl.freezeRow 50 rfl hob (fun G9 hle9 hA2 => ?_))
    replace hA := hA.up hle9
    refine Wl.call 52 rfl T.fn60 rfl (c60 _ _ _ _ _ (by assumption) (by first | omega | (simp only [List.length_cons, List.length_nil]; omega)) (by first | assumption | exact Nat.le_refl _)) (tags_of trivial) (fun v2 G2 Ho2 hle2 hp => ?_)
    obtain ⟨tn2, rfl, htr2, rfl, rfl⟩ := hp
    refine Wl.q rfl (Qy.fieldR T.fld43_1 rfl rfl) ?_
    refine Wl.q rfl (Qy.move rfl) ?_
    refine Wl.q rfl (Qy.assign rfl) ?_
    refine Wl.q rfl (Qy.assign rfl) ?_
    refine Wl.done ?_
    refine Ar.next ?_
    refine Wc.ret ?_
    refine Ar.out2 (.inr rfl) (Ho := []) rfl (.tmp rfl) (.tmp rfl) trivial ?_
    refine ⟨⟨subA (some ⟨b1, 0, none⟩) N 0 1, o, N, d, q.take tn2, r, ?_, arr_sub hA _, hA2, hdq.take _, htr2.top, hdr, htr, ?_, hrB, ?_, hcap2, ?_⟩, rfl⟩
    · rw [htr2.len]; rfl
    · rw [htr2.val, hvq]; exact hva
    · rw [htr2.len]; exact Nat.le_trans htr2.1 hcap
    · rw [htr2.len, ← hN, ← hqN]; exact htr2.1
  · obtain ⟨e, rfl⟩ : ∃ e, k = e + 1 := ⟨k - 1, by omega⟩
    have he16 : e < 16 * la.length := by omega
    refine Wc.re 11 rfl (show _ = Value.int .i64 (e : Int) by congr 1; omega) ?_
    have hbit : 0 ≤ valL la / p2 e % 2 ∧ valL la / p2 e % 2 ≤ 1 := by omega
    have hhb := half_bit (valL la) e
    generalize hc : valL la / p2 e % 2 = c0 at *
    refine Wc.seq ?_
    refine Wc.seq ?_
    refine Wc.region rfl ?_
    refine Wl.q rfl (Qy.move rfl) ?_
    refine Wl.q rfl (Qy.geq rfl rfl) ?_
    refine Wl.done ?_
    refine Ar.next ?_
    refine Wc.condP rfl (by first | assumption | omega) ?_
    refine Wc.skip ?_
    refine Ar.next ?_
    refine Wc.seq ?_
    refine Wc.block ?_
    refine Wc.seq ?_
    refine Wc.region rfl ?_
    refine Wl.q rfl (Qy.move rfl) ?_
    refine Wl.q rfl (Qy.move rfl) ?_
    refine Wl.call0 rfl T.fn110 rfl (c110 _ _ _ _ _ (by assumption) (by assumption) (by assumption) (by assumption)) ?_
    refine Wl.q rfl (Qy.assign rfl) ?_
    refine Wl.done ?_
    refine Ar.next ?_
    refine Wc.seq ?_
    refine Wc.seq ?_
    refine Wc.region rfl ?_
    refine Wl.q rfl (Qy.assign rfl) ?_
    refine Wl.done ?_
    refine Ar.next ?_
    refine Wc.block ?_
    refine Wc.re 12 rfl (show _ = Value.int .u32 c0 by rw [hc]) ?_
    refine Wc.loop (ι := Nat × Int × List U32) (fun (i, c, s) => ([(13, .int .i64 (i : Int)), (12, .int .u32 c), (10, .slice o s.length d), (0, .slice a la.length ca), (1, .slice b lb.length cb), (11, Go.Value.int Go.IntKind.i64 (↑e : Int)), (9, Go.Value.slice (Option.some (Go.Addr.mk b1 0 Option.none)) (List.length q) N), (5, Go.Value.slice Option.none 0 0), (4, Go.Value.slice Option.none 0 0)], [(50, o.map (·.block), Row 91 s j), (51, Option.some b1, Go.Sl.Row (α := Go.Sl.U32) 91 (q) ([]))])) (fun (i, c, s) => i ≤ r.length ∧ s.length = r.length ∧ Digs s ∧ 0 ≤ c ∧ c ≤ 1 ∧ valL (s.take i) + pw i * c = 2 * valL (r.take i) + c0 ∧ s.drop i = r.drop i ∧ OwnA o d s j) (fun (i, c, s) => r.length - i) ((0, c0, r)) (⟨Nat.zero_le _, rfl, hdr, hbit.1, hbit.2, by rw [List.take_zero, valL_nil, pw_zero, Int.one_mul]; omega, rfl, hob⟩) ⟨rfl, rfl, rfl, rfl, rfl, rfl, rfl, rfl, rfl, trivial⟩ ⟨rfl, rfl, trivial⟩ (fun ⟨i, c, s⟩ => fun (hk : i ≤ r.length ∧ s.length = r.length ∧ Digs s ∧ 0 ≤ c ∧ c ≤ 1 ∧ valL (s.take i) + pw i * c = 2 * valL (r.take i) + c0 ∧ s.drop i = r.drop i ∧ OwnA o d s j) => ?_)
    obtain ⟨hi1, hsl, hds, hcc0, hcc1, hvs, hdrop, hos⟩ := hk
    rcases Nat.lt_or_ge i r.length with hil | hil
    · have hsi : 0 ≤ (s[((i : Nat) : Int).toNat]?.getD default).v ∧ (s[((i : Nat) : Int).toNat]?.getD default).v < 65536 := dg_lt hds (by omega)
      refine Wc.seq ?_
      refine Wc.seq ?_
      refine Wc.region rfl ?_
      refine Wl.q rfl (Qy.move rfl) ?_
      refine Wl.q rfl (Qy.move rfl) ?_
      refine Wl.q rfl (Qy.len T.sl41 rfl) ?_
      refine Wl.q rfl (Qy.lss rfl rfl) ?_
      refine Wl.done ?_
      refine Ar.next ?_
      refine Wc.condP rfl (by first | assumption | omega) ?_
      refine Wc.skip ?_
      refine Ar.next ?_
      refine Wc.seq ?_
      refine Wc.block ?_
      refine Wc.seq ?_
      refine Wc.region rfl ?_
      refine Wl.q rfl (Qy.move rfl) ?_
      refine Wl.q rfl (Qy.move rfl) ?_
      refine Wl.q rfl (Qy.move rfl) ?_
      refine Wl.q rfl (Qy.indexAddrO (α := U32) T.sl41 rfl rfl (by assumption) (by omega)) ?_
      refine Wl.q rfl (Qy.loadO 50 0 T.one91 rfl rfl (by assumption) (by omega) rfl rfl) ?_
      refine Wl.q rfl (Qy.umul32 rfl rfl (by first | assumption | omega)) ?_
      refine Wl.q rfl (Qy.uadd32 rfl rfl (by omega)) ?_
      refine Wl.q rfl (Qy.assign rfl) ?_
      refine Wl.done ?_
      refine Ar.next ?_
      refine Wc.seq ?_
      refine Wc.region rfl ?_
      refine Wl.q rfl (Qy.move rfl) ?_
      refine Wl.q rfl (Qy.move rfl) ?_
      refine Wl.q rfl (Qy.move rfl) ?_
      refine Wl.q rfl (Qy.urem rfl rfl (by omega)) ?_
      refine Wl.q rfl (Qy.indexAddrO (α := U32) T.sl41 rfl rfl (by assumption) (by omega)) ?_
      refine Wl.setO (z := _) 50 T.size91 rfl rfl rfl (by assumption) (by omega) rfl (fun ho1 => ?_)
      refine Wl.done ?_
      refine Ar.next ?_
      refine Wc.region rfl ?_
      refine Wl.q rfl (Qy.move rfl) ?_
      refine Wl.q rfl (Qy.uquo32 rfl rfl (by omega)) ?_
      refine Wl.q rfl (Qy.assign rfl) ?_
      refine Wl.done ?_
      refine Ar.outNormal ?_
      refine Ar.next ?_
      refine Wc.region rfl ?_
      refine Wl.q rfl (Qy.move rfl) ?_
      refine Wl.q rfl (Qy.add rfl rfl (by omega)) ?_
      refine Wl.q rfl (Qy.assign rfl) ?_
      refine Wl.done ?_
      refine Ar.reH 50 (Row 91 (s.set i ⟨(c + 2 * (s[((i : Nat) : Int).toNat]?.getD default).v) % 65536⟩) j) rfl (by rw [Int.toNat_natCast]) ?_
      refine Ar.re 10 rfl (show _ = Value.slice o (s.set i ⟨(c + 2 * (s[((i : Nat) : Int).toNat]?.getD default).v) % 65536⟩).length d by rw [List.length_set]) ?_
      refine Ar.again ((i + 1, (c + 2 * (s[((i : Nat) : Int).toNat]?.getD default).v) / 65536, s.set i ⟨(c + 2 * (s[((i : Nat) : Int).toNat]?.getD default).v) % 65536⟩)) ?_ ?_ rfl ⟨rfl, rfl, rfl, rfl, rfl, rfl, rfl, rfl, rfl, trivial⟩ ⟨rfl, rfl, trivial⟩
      · refine ⟨by omega, by rw [List.length_set]; exact hsl, digs_set hds _ (by omega), by omega, by omega, twice_next (by omega) hdrop hvs, drop_set_next hdrop _, ?_⟩
        rw [Int.toNat_natCast] at ho1; exact ho1
      · show r.length - (i + 1) < r.length - i
        omega
    · have hii : i = r.length := by omega
      subst hii
      rw [take_all (by omega), take_all (Nat.le_refl _)] at hvs
      refine Wc.seq ?_
      refine Wc.seq ?_
      refine Wc.region rfl ?_
      refine Wl.q rfl (Qy.move rfl) ?_
      refine Wl.q rfl (Qy.move rfl) ?_
      refine Wl.q rfl (Qy.len T.sl41 rfl) ?_
      refine Wl.q rfl (Qy.lss rfl rfl) ?_
      refine Wl.done ?_
      refine Ar.next ?_
      refine Wc.condN rfl (by first | assumption | omega) ?_
      refine Wc.exit ?_
      refine Ar.passExit ?_
      refine Ar.passExit ?_
      refine Ar.here ?_
      refine Ar.next ?_
      refine Wc.meet (ι := List U32 × (Option Addr × Nat × List Value)) (fun (s1, (o1, d1, j1)) => ([(10, .slice o1 s1.length d1), (0, .slice a la.length ca), (1, .slice b lb.length cb), (11, Go.Value.int Go.IntKind.i64 (↑e : Int)), (9, Go.Value.slice (Option.some (Go.Addr.mk b1 0 Option.none)) (List.length q) N), (5, Go.Value.slice Option.none 0 0), (4, Go.Value.slice Option.none 0 0)], [(50, o1.map (·.block), Row 91 s1 j1), (51, Option.some b1, Go.Sl.Row (α := Go.Sl.U32) 91 (q) ([]))])) (fun (s1, (o1, d1, j1)) => Digs s1 ∧ Top s1 ∧ valL s1 = 2 * valL r + c0 ∧ s1.length ≤ r.length + 1 ∧ OwnA o1 d1 s1 j1) ?_ (fun ⟨s1, (o1, d1, j1)⟩ => fun (hk : Digs s1 ∧ Top s1 ∧ valL s1 = 2 * valL r + c0 ∧ s1.length ≤ r.length + 1 ∧ OwnA o1 d1 s1 j1) => ?_)
      · by_cases hcy : 0 < c
        · have hcE : c = 1 := by omega
          subst hcE
          rw [Int.mul_one, ← hsl] at hvs
          refine Wc.seq ?_
          refine Wc.region rfl ?_
          refine Wl.q rfl (Qy.move rfl) ?_
          refine Wl.q rfl (Qy.gtr rfl rfl) ?_
          refine Wl.done ?_
          refine Ar.next ?_
          refine Wc.condP rfl (by first | assumption | omega) ?_
          refine Wc.region rfl ?_
          refine Wl.q rfl (Qy.move rfl) ?_
          refine Wl.q rfl (Qy.move rfl) ?_
          refine Wl.lit (α := U32) 52 [⟨1⟩] rfl T.sl41 T.el91 rfl rfl rfl rfl rfl (fun b2 => ?_)
          refine Wl.append (α := U32) 50 rfl T.sl41 T.el91 rfl rfl rfl (by first | assumption | exact OwnA.nil | exact OwnA.made (by simp)) (Src.row 52 rfl) (by first | omega | (simp only [List.length_append, List.length_cons, List.length_nil, maxLen]; omega)) (by first | omega | (simp only [List.length_append, List.length_cons, List.length_nil, maxLen]; omega)) (fun a1 c1 junk1 ho1 => ?_)
          refine Wl.q rfl (Qy.assign rfl) ?_
          refine Wl.done ?_
          refine Ar.meet ((s ++ [⟨1⟩], (a1, c1, junk1))) ?_ rfl ⟨rfl, rfl, rfl, rfl, rfl, rfl, rfl, trivial⟩ ⟨rfl, rfl, trivial⟩
          refine ⟨hds.append (Digs.one (by decide)), ?_, by rw [valL_snoc, Int.mul_one]; exact hvs, by rw [List.length_append, hsl]; exact Nat.le_refl _, ho1⟩
          refine .inr ?_
          rw [List.length_append, List.length_singleton, Nat.add_sub_cancel, List.getElem?_append_right (Nat.le_refl _), Nat.sub_self]
          decide
        · have hcE : c = 0 := by omega
          subst hcE
          rw [Int.mul_zero, Int.add_zero] at hvs
          refine Wc.seq ?_
          refine Wc.region rfl ?_
          refine Wl.q rfl (Qy.move rfl) ?_
          refine Wl.q rfl (Qy.gtr rfl rfl) ?_
          refine Wl.done ?_
          refine Ar.next ?_
          refine Wc.condN rfl (by first | assumption | omega) ?_
          refine Wc.skip ?_
          refine Ar.meet ((s, (o, d, j))) ?_ rfl ⟨rfl, rfl, rfl, rfl, rfl, rfl, rfl, trivial⟩ ⟨rfl, rfl, trivial⟩
          refine ⟨hds, ?_, hvs, by omega, hos⟩
          by_cases hr0 : r = []
          · left
            rw [hr0] at hsl
            exact List.eq_nil_of_length_eq_zero hsl
          · refine top_of_ge hds (fun e0 => hr0 (List.eq_nil_of_length_eq_zero (by rw [← hsl, e0]; rfl))) ?_
            have := top_ge hdr htr hr0
            have h0 := valL_nonneg hdr
            rw [hsl, hvs]; omega
      clear hvs hos hds hsl hdrop hcc0 hcc1
      obtain ⟨hd1, ht1, hv1, hsl1, ho1⟩ := hk
      have heq : e / 16 < q.length := by omega
      have hdz := dig_zero hdq heq hvq
      have hroom := dig_room hdq heq hdz
      have hdgq := dg_lt hdq heq
      refine Wc.seq ?_
      refine Wc.region rfl ?_
      refine Wl.q rfl (Qy.move rfl) ?_
      refine Wl.q rfl (Qy.move rfl) ?_
      refine Wl.callB 60 rfl T.fn91 rfl (fun Gx hGx hgx => c91 Gx _ _ _ _ s1 lb (Arr.own hgx 50 rfl ho1) (hb.up hGx) hd1 db ht1 tb (by omega) (by omega)) (fun v5 Gx5 G5 Ho5 hlx5 hp => ?_)
      obtain ⟨rfl, rfl, rfl⟩ := hp
      by_cases hge : valL lb ≤ valL s1
      · have hcmp : 0 ≤ cmpZ (valL s1) (valL lb) := by
          rcases Int.lt_or_eq_of_le hge with h | h
          · rw [cmpZ_gt h]; decide
          · rw [cmpZ_eq h.symm]; decide
        have hll := len_le_of_val hd1 db tb hge
        refine Wl.q rfl (Qy.geq rfl rfl) ?_
        refine Wl.done ?_
        refine Ar.next ?_
        refine Wc.condP rfl (by first | assumption | omega) ?_
        refine Wc.seq ?_
        refine Wc.region rfl ?_
        refine Wl.q rfl (Qy.move rfl) ?_
        refine Wl.q rfl (Qy.move rfl) ?_
        refine Wl.callB 50 rfl T.fn105 rfl (fun Gx hGx hgx => c105 Gx _ _ _ _ s1 lb (Arr.own hgx 50 rfl ho1) (hb.up hGx) hd1 db (by omega) hll hge) (fun v7 Gx7 G7 Ho7 hlx7 hp => ?_)
        obtain ⟨mo, mc, mr, mj, rfl, hmo, rfl, rfl, hmd, hmv, hml⟩ := hp
        have hmc := hmo.le
        skip
        refine Wl.callB 70 rfl T.fn60 rfl (fun Gx hGx hgx => c60 Gx _ _ _ mr (Arr.own hgx 50 rfl hmo) (by omega) hmc) (fun v8 Gx8 G8 Ho8 hlx8 hp => ?_)
        obtain ⟨tn, rfl, htm, rfl, rfl⟩ := hp
        refine Wl.q rfl (Qy.fieldR T.fld43_1 rfl rfl) ?_
        refine Wl.q rfl (Qy.assign rfl) ?_
        refine Wl.done ?_
        refine Ar.next ?_
        refine Wc.draw [51, 50] [(50, 13), (51, 13)] T.mixed rfl ?_
        refine Gm.q 0 [] (by kernel_rfl) rfl rfl (Qy.move rfl) ?_
        refine Gm.q 1 [] (by kernel_rfl) rfl rfl (Qy.move rfl) ?_
        refine Gm.q 2 [] (by kernel_rfl) rfl rfl (Qy.quoP rfl rfl (by omega)) ?_
        refine Gm.q 3 [] (by kernel_rfl) rfl rfl (Qy.move rfl) ?_
        refine Gm.q 4 [] (by kernel_rfl) rfl rfl (Qy.move rfl) ?_
        refine Gm.q 5 [] (by kernel_rfl) rfl rfl (Qy.quoP rfl rfl (by omega)) ?_
        refine Gm.q 6 [] (by kernel_rfl) rfl rfl (Qy.indexAddrO (α := U32) T.sl41 rfl rfl (by assumption) (by omega)) ?_
        refine Gm.q 7 [51] (by kernel_rfl) rfl rfl (Qy.loadO 51 0 T.one91 rfl rfl (by assumption) (by omega) rfl rfl) ?_
        refine Gm.q 8 [] (by kernel_rfl) rfl rfl (Qy.move rfl) ?_
        refine Gm.q 9 [] (by kernel_rfl) rfl rfl (Qy.urem rfl rfl (by omega)) ?_
        refine Gm.q 10 [] (by kernel_rfl) rfl rfl (Qy.shl rfl rfl (by omega)) ?_
        refine Gm.q 11 [] (by kernel_rfl) rfl rfl (Qy.orW rfl rfl) ?_
        refine Gm.q 12 [] (by kernel_rfl) rfl rfl (Qy.indexAddrO (α := U32) T.sl41 rfl rfl (by assumption) (by omega)) ?_
        refine Gm.one 13 ⟨rfl, rfl, trivial⟩ (by first | exact Imm.le_refl _ | assumption) (by kernel_rfl) rfl ?_
        refine Wl.setO (z := _) 51 T.size91 rfl rfl rfl (by assumption) (by omega) rfl (fun ho2 => ?_)
        refine Wl.on0 ?_
        refine Gm.doneA (by kernel_rfl) trivial (by first | exact Imm.le_refl _ | assumption) ?_
        refine Ar.outNormal ?_
        refine Ar.next ?_
        refine Wc.region rfl ?_
        refine Wl.q rfl (Qy.move rfl) ?_
        refine Wl.q rfl (Qy.sub rfl rfl (by omega)) ?_
        refine Wl.q rfl (Qy.assign rfl) ?_
        refine Wl.done ?_
        refine Ar.reH 51 (Row 91 (q.set (e / 16) ⟨dg q (e / 16) + p2 (e % 16)⟩) []) rfl ?_ ?_
        · show Row 91 (q.set ((e : Int) / 16).toNat ⟨bits BinOp.or IntKind.u32 (q[((e : Int) / 16).toNat]?.getD default).v (IntKind.u32.wrap (1 * 2 ^ min ((e : Int) % 16).toNat IntKind.u32.bits))⟩) [] = _
          rw [or_dig hdgq hdz, show ((e : Int) / 16).toNat = e / 16 by omega]
        refine Ar.reH 50 (Row 91 (mr.take tn) (flat (mr.drop tn) ++ mj)) rfl (row_take 91 mr mj tn) ?_
        refine Ar.re 10 rfl (show _ = Value.slice mo (mr.take tn).length mc by rw [subA_zero_own hmo, htm.len]; rfl) ?_
        refine Ar.re 9 rfl (show _ = Value.slice (some ⟨b1, 0, none⟩) (q.set (e / 16) ⟨dg q (e / 16) + p2 (e % 16)⟩).length N by rw [List.length_set]) ?_
        refine Ar.again ((e, 2 * Q + 1, q.set (e / 16) ⟨dg q (e / 16) + p2 (e % 16)⟩, mr.take tn, (mo, mc, flat (mr.drop tn) ++ mj))) ?_ ?_ rfl ⟨rfl, rfl, rfl, rfl, rfl, rfl, rfl, trivial⟩ ⟨rfl, rfl, trivial⟩
        · have hvm := htm.val
          have hlt : valL (mr.take tn) < valL lb := by rw [hvm, hmv]; omega
          refine ⟨by omega, by rw [List.length_set]; exact hqN, digs_set hdq _ hroom, hmd.take _, htm.top, long_yes heq hvq, ?_, hlt, len_le_of_val db (hmd.take _) htm.top (Int.le_of_lt hlt), own_take hmo tn⟩
          rw [hhb, hva, hvm, hmv, hv1, Int.add_mul, Int.one_mul, Int.mul_add, ← Int.mul_assoc]; omega
        · show e < e + 1
          omega
      · have hcmp : ¬ 0 ≤ cmpZ (valL s1) (valL lb) := by rw [cmpZ_lt (by omega)]; decide
        have hll : s1.length ≤ lb.length := len_le_of_val db hd1 ht1 (by omega)
        refine Wl.q rfl (Qy.geq rfl rfl) ?_
        refine Wl.done ?_
        refine Ar.next ?_
        refine Wc.condN rfl (by first | assumption | omega) ?_
        refine Wc.skip ?_
        refine Ar.outNormal ?_
        refine Ar.next ?_
        refine Wc.region rfl ?_
        refine Wl.q rfl (Qy.move rfl) ?_
        refine Wl.q rfl (Qy.sub rfl rfl (by omega)) ?_
        refine Wl.q rfl (Qy.assign rfl) ?_
        refine Wl.done ?_
        refine Ar.again ((e, 2 * Q, q, s1, (o1, d1, j1))) ?_ ?_ rfl ⟨rfl, rfl, rfl, rfl, rfl, rfl, rfl, trivial⟩ ⟨rfl, rfl, trivial⟩
        · refine ⟨by omega, hqN, hdq, hd1, ht1, ?_, ?_, by omega, hll, ho1⟩
          · rw [hvq, p2_succ, Int.mul_left_comm (p2 e) 2 Q, Int.mul_assoc]
          · rw [hhb, hva, Int.mul_add, ← Int.mul_assoc, hv1]; omega
        · show e < e + 1
          omega
end Go.Proofs.Ytfleehgbpgmcnaa
