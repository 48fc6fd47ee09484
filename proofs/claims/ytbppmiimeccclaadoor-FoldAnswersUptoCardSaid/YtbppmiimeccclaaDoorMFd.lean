/- Parts of the proof (part 4): what the rows' text needs of the texts that lead to it. -/
import Derived.Test.YtbppmiimeccclaaDoorMFc
set_option linter.unusedVariables false
namespace Go.Sl
open Go
section
variable {P : Program} {ops : Array Oper} {rest : List Oper} {B : Bs} {e : Env} {D : List Deferred} {H : Hp} {G : Imm} {K : Act → World → Prop}
  {ty : TypeId} {pos : String} {after : Array Edge} {d : Nat} {α : Type} [Cells α]
theorem run_appendArr {w : World} (hw : HoldH H G w) {T E bytes : Nat} {zs : List Value} (hT : isSlice P T E (Cells.sz α)) (hE : ElemOf P E (Cells.sz α) bytes zs) {a ad : Option Addr} {c2 : Nat} {xs ys : List α}
    (hA : Src H G a xs) (hx0 : 0 < xs.length) (hsrc : Src H G ad ys) (hy0 : 0 < ys.length) (hb : (xs.length + ys.length) * bytes ≤ 140737488355328) (hl : xs.length + ys.length ≤ maxLen) :
    ∃ c' junk' w', (Builtin.append_ #[T, T] ty #[.slice a xs.length xs.length, .slice ad ys.length c2]).run P w = .ok (.slice (some ⟨w.heap.size, 0, none⟩) (xs ++ ys).length c') w' ∧ OwnA (some ⟨w.heap.size, 0, none⟩) c' (xs ++ ys) junk' ∧
      Upd (fun _ => False) w w' ∧ w'.heap.size = w.heap.size + 1 ∧ w'.heap[w.heap.size]? = some (Row E (xs ++ ys) junk') := by
  obtain ⟨i, z, hi, hz1, hz2, hs, hby, hzl, hsz⟩ := hE
  have hm63 : xs.length + ys.length ≤ 9223372036854775807 := by simp only [maxLen] at hl; omega
  have hlen : (xs ++ ys).length = xs.length + ys.length := List.length_append
  have hyl : (flat ys).length = ys.length * i.size := by rw [flat_length, hs]
  have hxl : (flat xs).length = xs.length * i.size := by rw [flat_length, hs]
  have junkLen : ∀ k, (Builtin.zeroCells z.cells k).toList.length = k * Cells.sz α := fun k => by
    rw [Array.length_toList, size_zeroCells, hz2]; simp [hzl]
  have fresh : ∀ old, old < xs.length + ys.length → ∃ junk', OwnA (some ⟨w.heap.size, 0, none⟩) (grownCap w (xs.length + ys.length) old E) (xs ++ ys) junk' ∧
      (w.drew.alloc (.cells ((flat xs).toArray ++ (flat ys).toArray ++ Builtin.zeroCells z.cells (grownCap w (xs.length + ys.length) old E - (xs.length + ys.length))) E)).heap[w.heap.size]? = some (Row E (xs ++ ys) junk') := fun old hold => by
    have hge := grownCap_ge w (xs.length + ys.length) old E
    have hcm : grownCap w (xs.length + ys.length) old E ≤ maxLen := grownCap_le_maxLen w _ old E hl
    refine ⟨(Builtin.zeroCells z.cells (grownCap w (xs.length + ys.length) old E - (xs.length + ys.length))).toList, .inr ⟨_, rfl, ?_, by rw [hlen]; exact hge, hcm⟩, ?_⟩
    · rw [junkLen, hlen, ← Nat.add_mul]; congr 1; omega
    · rw [show w.heap.size = w.drew.heap.size from rfl, alloc_new]
      congr 1
      simp [Row, flat_append]
  have hupd : ∀ o, Upd (fun _ => False) w (w.drew.alloc o) := fun o => (Upd.refl _ w).drew.alloc o
  rcases hA w hw with ⟨_, h0⟩ | ⟨ax, rfl, hcell⟩
  · rw [h0] at hx0; simp at hx0
  rcases hsrc w hw with ⟨_, h0⟩ | ⟨src, rfl, hsr⟩
  · rw [h0] at hy0; simp at hy0
  have hr := run_append_grow (P := P) w T ty E i z hT.1 hi hz1 ax xs.length xs.length (flat xs) hxl hcell src ys.length c2 (flat ys) hyl hsr (by omega) (by omega) (growslice_fits (by omega) (by rw [hby]; exact hb))
  obtain ⟨junk', h1, h2⟩ := fresh xs.length (by omega)
  exact ⟨_, junk', _, by rw [hlen]; exact hr, h1, hupd _, by simp, h2⟩
theorem Wl.appendArr {s x : Operand} {T E bytes : Nat} {zs : List Value} {a ad : Option Addr} {c2 : Nat} {xs ys : List α} (t : Nat) (hn : Nat.ble (d + 1) B.n = true) (hT : isSlice P T E (Cells.sz α)) (hE : ElemOf P E (Cells.sz α) bytes zs)
    (hs : e.ev s = some (.slice a xs.length xs.length)) (hx : e.ev x = some (.slice ad ys.length c2)) (hA : Src H G a xs) (hx0 : 0 < xs.length) (hsrc : Src H G ad ys) (hy0 : 0 < ys.length)
    (hb : (xs.length + ys.length) * bytes ≤ 140737488355328) (hl : xs.length + ys.length ≤ maxLen)
    (h : ∀ b c' junk', OwnA (some ⟨b, 0, none⟩) c' (xs ++ ys) junk' → Wl P ops rest B ⟨(d, .slice (some ⟨b, 0, none⟩) (xs ++ ys).length c') :: e, D, (t, some b, Row E (xs ++ ys) junk') :: H, G⟩ K) :
    Wl P ops (⟨some d, .call { callee := .builtin .append, args := #[s, x], argTypes := #[T, T] }, ty, pos, after, none⟩ :: rest) B ⟨e, D, H, G⟩ K := by
  intro ac w hh
  obtain ⟨c', junk', w', hrun, ho', hu, hsz, hbk⟩ := run_appendArr (c2 := c2) (ty := ty) hh.mem hT hE hA hx0 hsrc hy0 hb hl
  unfold lstWp
  rw [if_pos (by simp [Region.wanted])]
  unfold opWp
  have hex : (execOp ac.eval ⟨some d, .call { callee := .builtin .append, args := #[s, x], argTypes := #[T, T] }, ty, pos, after, none⟩).run P w = .ok (.value (.slice (some ⟨w.heap.size, 0, none⟩) (xs ++ ys).length c')) w' := by
    simp only [execOp, resolve, invoke, builtin, Sem.run_bind, Sem.run_pure, Result.andThen_ok, List.map_toArray, List.map_cons, List.map_nil, hh.eval hs, hh.eval hx, hrun]
  rw [hex]
  exact h _ c' junk' ho' _ _ (Hold.put (hh.ownNew t hu hsz hbk) hn _)
end
end Go.Sl
set_option maxRecDepth 100000
set_option linter.unusedVariables false
namespace Go.Proofs.YtbppmiimeccclaaDoor
open Go Go.Sl
set_option maxHeartbeats 4000000
theorem lims_drop {l : List U32} (h : Lims l) (k : Nat) : Lims (l.drop k) := fun d hd => h d (List.mem_of_mem_drop hd)
theorem bitAux_bounds : ∀ (f x : Nat), 0 < x → x < 2 ^ f → 1 ≤ Lib.bitLenAux f x ∧ Lib.bitLenAux f x ≤ f ∧ 2 ^ (Lib.bitLenAux f x - 1) ≤ x ∧ x < 2 ^ Lib.bitLenAux f x
  | 0, x, h0, h1 => by simp at h1; omega
  | f + 1, x, h0, h1 => by
    unfold Lib.bitLenAux
    rw [if_neg (by omega)]
    by_cases h2 : x / 2 = 0
    · have hx : x = 1 := by omega
      subst hx
      have : Lib.bitLenAux f (1 / 2) = 0 := by cases f <;> simp [Lib.bitLenAux]
      rw [this]; simp
    · have ih := bitAux_bounds f (x / 2) (by omega) (by rw [Nat.pow_succ] at h1; omega)
      obtain ⟨a1, a2, a3, a4⟩ := ih
      refine ⟨by omega, by omega, ?_, ?_⟩
      · rw [Nat.add_sub_cancel_left, ← Nat.sub_add_cancel a1, Nat.pow_succ]; omega
      · rw [Nat.add_comm 1, Nat.pow_succ]; omega
/-- a limb shifted up till its highest bit is 1 -/
theorem lead_room {x : Int} (h0 : 0 < x) (h1 : x < 4294967296) : ∃ s : Nat, s < 32 ∧ 32 - (Lib.bitLen x.toNat : Int) = (s : Int) ∧ 2147483648 ≤ ((2 ^ s : Nat) : Int) * x ∧ ((2 ^ s : Nat) : Int) * (x + 1) ≤ 4294967296 := by
  have hb := bitAux_bounds 64 x.toNat (by omega) (by have : (2:Nat) ^ 64 = 18446744073709551616 := by decide
                                                     omega)
  have hle := Lib.bitLen_le x.toNat 32 (by omega) (by omega)
  unfold Lib.bitLen at hle ⊢
  generalize Lib.bitLenAux 64 x.toNat = L at *
  obtain ⟨b1, b2, b3, b4⟩ := hb
  refine ⟨32 - L, by omega, by omega, ?_, ?_⟩
  · have e : 2 ^ (32 - L) * 2 ^ (L - 1) = 2147483648 := by
      rw [← Nat.pow_add, show 32 - L + (L - 1) = 31 by omega]
    have h2 := Nat.mul_le_mul_left (2 ^ (32 - L)) b3
    rw [e] at h2
    have h3 : ((2 ^ (32 - L) : Nat) : Int) * x = ((2 ^ (32 - L) * x.toNat : Nat) : Int) := by rw [Int.natCast_mul, Int.toNat_of_nonneg (by omega)]
    rw [h3]; omega
  · have e : 2 ^ (32 - L) * 2 ^ L = 4294967296 := by
      rw [← Nat.pow_add, show 32 - L + L = 32 by omega]
    have h2 := Nat.mul_le_mul_left (2 ^ (32 - L)) (show x.toNat + 1 ≤ 2 ^ L by omega)
    rw [e] at h2
    have h3 : ((2 ^ (32 - L) : Nat) : Int) * (x + 1) = ((2 ^ (32 - L) * (x.toNat + 1) : Nat) : Int) := by rw [Int.natCast_mul, Int.natCast_add, Int.toNat_of_nonneg (by omega)]; rfl
    rw [h3]; omega
theorem norm_top {b v : List U32} {m : Nat} {P : Int} (hP : 0 < P) (hb : b.length = m + 2) (db : Lims b) (dv : Lims v) (tv : Top v) (hx : 2147483648 ≤ P * lg b (m + 1)) (hx2 : P * (lg b (m + 1) + 1) ≤ 4294967296) (hv : valB v = P * valB b) : v.length = m + 2 ∧ 2147483648 ≤ lg v (m + 1) := by
  have e1 := bval_step b (m + 1)
  rw [take_all (show b.length ≤ m + 1 + 1 by omega)] at e1
  have h1 := valB_lt (db.take (m + 1))
  have h2 := valB_nonneg (db.take (m + 1))
  rw [List.length_take, Nat.min_eq_left (by omega)] at h1
  have hp := pb_pos (m + 1)
  have up : valB v < pb (m + 2) := by
    have f1 := Int.mul_lt_mul_of_pos_left (show valB b < pb (m + 1) * (lg b (m + 1) + 1) by rw [Int.mul_add, Int.mul_one]; omega) hP
    have f2 := Int.mul_le_mul_of_nonneg_left hx2 (Int.le_of_lt hp)
    rw [hv, show m + 2 = m + 1 + 1 by omega, pb_succ, Int.mul_comm 4294967296]
    rw [Int.mul_left_comm P] at f1
    omega
  have low : pb (m + 1) * 2147483648 ≤ valB v := by
    have f1 := Int.mul_le_mul_of_nonneg_left (show pb (m + 1) * lg b (m + 1) ≤ valB b by omega) (Int.le_of_lt hP)
    have f2 := Int.mul_le_mul_of_nonneg_left hx (Int.le_of_lt hp)
    rw [hv]
    rw [Int.mul_left_comm P] at f1
    omega
  have l1 := ltop_len dv tv up
  have l2 : m + 2 ≤ v.length := by
    rcases Nat.lt_or_ge v.length (m + 2) with h | h
    · have f1 := valB_lt dv
      have f2 := pb_le (show v.length ≤ m + 1 by omega)
      omega
    · exact h
  have hl : v.length = m + 2 := by omega
  refine ⟨hl, ?_⟩
  have e2 := bval_step v (m + 1)
  rw [take_all (show v.length ≤ m + 1 + 1 by omega)] at e2
  have h3 := valB_lt (dv.take (m + 1))
  rw [List.length_take, Nat.min_eq_left (by omega)] at h3
  rcases Int.lt_or_le (lg v (m + 1)) 2147483648 with h | h
  · have f1 := Int.mul_le_mul_of_nonneg_left (show lg v (m + 1) + 1 ≤ 2147483648 by omega) (Int.le_of_lt hp)
    rw [Int.mul_add, Int.mul_one] at f1
    omega
  · exact h
theorem cmpZ_neg {x y : Int} (h : cmpZ x y < 0) : x < y := by
  unfold cmpZ at h
  split at h
  · assumption
  · split at h <;> omega
/-- the window's own place in the row -/
theorem win_open (R : List U32) (i n : Nat) : R = R.take i ++ ((R.drop i).take n ++ R.drop (i + n)) := by
  rw [← List.drop_drop, List.take_append_drop, List.take_append_drop]
theorem div_start {u v : List U32} (du : Lims u) (dv : Lims v) (tv : Top v) (h0 : 0 < v.length) (hl : v.length ≤ u.length) : valB ((u ++ [(default : U32)]).drop (u.length + 1 - v.length)) < valB v := by
  rw [List.drop_append_of_le_length (by omega), valB_append, valB_one]
  have h1 := valB_lt (lims_drop du (u.length + 1 - v.length))
  rw [List.length_drop, show u.length - (u.length + 1 - v.length) = v.length - 1 by omega] at h1
  have h2 := ltop_ge dv tv (fun e => by rw [e] at h0; simp at h0)
  show valB (u.drop (u.length + 1 - v.length)) + pb _ * 0 < _
  rw [Int.mul_zero]; omega
/-- the window below v times 2^32, nought above it -/
theorem win_room {R v : List U32} {i n : Nat} (dR : Lims R) (dv : Lims v) (hi : i < R.length) (hn : v.length = n) (hl : i + (n + 1) ≤ R.length) (h : valB (R.drop (i + 1)) < valB v) :
    valB ((R.drop i).take (n + 1)) < 4294967296 * valB v ∧ valB (R.drop (i + (n + 1))) = 0 := by
  have e1 := bdrop_step hi
  have e2 := bval_split (R.drop i) (show n + 1 ≤ (R.drop i).length by rw [List.length_drop]; omega)
  rw [List.drop_drop] at e2
  have h1 := lg_rng dR i
  have h2 := valB_lt dv
  rw [hn] at h2
  have h3 := valB_nonneg (lims_drop dR (i + (n + 1)))
  have h4 := valB_nonneg ((lims_drop dR i).take (n + 1))
  have h5 := valB_nonneg (lims_drop dR (i + 1))
  have hp := pb_pos (n + 1)
  have h6 : valB (R.drop (i + (n + 1))) = 0 := by
    rcases (show valB (R.drop (i + (n + 1))) = 0 ∨ 1 ≤ valB (R.drop (i + (n + 1))) by omega) with hz | hz
    · exact hz
    · have f1 := Int.mul_le_mul_of_nonneg_left hz (Int.le_of_lt hp)
      rw [Int.mul_one] at f1
      have f2 := pb_succ n
      omega
  refine ⟨?_, h6⟩
  rw [h6, Int.mul_zero] at e2
  omega
theorem div_end {a b q R P : Int} (hP : 0 < P) (h : P * a = q * (P * b) + R) (h0 : 0 ≤ R) (h1 : R < P * b) : R / P = a % b ∧ q = a / b ∧ 0 < b := by
  have e : R = P * (a - q * b) := by rw [Int.mul_sub, Int.mul_left_comm P q]; omega
  have e1 : R / P = a - q * b := by rw [e, Int.mul_ediv_cancel_left _ (Int.ne_of_gt hP)]
  have l0 : 0 ≤ a - q * b := by
    rw [e] at h0
    exact Int.le_of_mul_le_mul_left (by rw [Int.mul_zero]; exact h0) hP
  have l1 : a - q * b < b := by
    rw [e] at h1
    exact Int.lt_of_mul_lt_mul_left h1 (Int.le_of_lt hP)
  have hb : 0 < b := by omega
  have := (Int.ediv_emod_unique (a := a) (b := b) (r := a - q * b) (q := q) hb).2 ⟨by rw [Int.mul_comm b q]; omega, l0, l1⟩
  exact ⟨e1.trans this.2.symm, this.1.symm, hb⟩
theorem Nat32.short {G : Imm} {v : Value} {z : Int} {n : Nat} {lb : List U32} (h : Nat32 G v z n) (db : Lims lb) (hz : z < valB lb) : Nat32 G v z lb.length := by
  obtain ⟨b, m, h1, h2, h3, h4, h5, h6⟩ := h
  refine ⟨b, m, h1, h2, h3, h4, h5, ?_⟩
  rcases Nat.lt_or_ge lb.length m.length with h7 | h7
  · have := ltop_lt_len db h3 h4 h7; omega
  · exact h7
theorem c111 (G : Imm) (x : Int) (h0 : 0 ≤ x) (h1 : x ≤ 4294967295) : Does Tryd.prog 111 [.int .u32 x] G [] (fun v G' Ho => v = .int .i64 (32 - (Lib.bitLen x.toNat : Int)) ∧ G' = G ∧ Ho = []) :=
  Does.pureCalls fun w => Tryd.bits_LeadingZeros32 x w h0 h1
end Go.Proofs.YtbppmiimeccclaaDoor
set_option maxRecDepth 100000
set_option linter.unusedVariables false
namespace Go.Proofs.YtbppmiimeccclaaDoor
open Go Go.Sl
set_option maxHeartbeats 4000000
/-- how far a limb is shifted till its highest bit is 1 -/
theorem c111s (G : Imm) (x : Int) (h0 : 0 < x) (h1 : x < 4294967296) : Does Tryd.prog 111 [.int .u32 x] G [] (fun v G' Ho => ∃ sh : Nat, v = .int .i64 (sh : Int) ∧ sh < 32 ∧ 2147483648 ≤ ((2 ^ sh : Nat) : Int) * x ∧ ((2 ^ sh : Nat) : Int) * (x + 1) ≤ 4294967296 ∧ G' = G ∧ Ho = []) := by
  obtain ⟨sh, h2, h3, h4, h5⟩ := lead_room h0 h1
  exact (c111 G x (by omega) (by omega)).mono fun v G' Ho _ ⟨e1, e2, e3⟩ => ⟨sh, by rw [e1, h3], h2, h4, h5, e2, e3⟩
theorem c112z (G : Imm) (a : Option Addr) (ca : Nat) (la : List U32) (s : Nat) (ha : Arr G a la) (da : Lims la) (h1 : la.length ≤ 1073741824) (hs : s < 32) :
    Does Tryd.prog 112 [.slice a la.length ca, .int .i64 (s : Int)] G [] (fun v G' Ho => ∃ r, v = .tuple #[r, .int .i64 0] ∧ Nat32 G' r (((2 ^ s : Nat) : Int) * valB la) (la.length + 1) ∧ Ho = []) := by
  have h := c112 G a ca la 0 s ha da h1 hs (by omega)
  rw [show 32 * 0 + s = s by omega, pb_zero, Int.one_mul] at h
  exact h
attribute [local irreducible] valB pb cmpZ lstWp
theorem c93 (G : Imm) (a b : Option Addr) (ca cb : Nat) (la lb : List U32) (ha : Arr G a la) (hb : Arr G b lb) (da : Lims la) (ta : Top la) (db : Lims lb) (h1 : la.length ≤ 536870912) (h2 : lb.length ≤ 536870912) (h3 : la.length ≤ ca) (h4 : lb.length ≤ cb) (hB : 0 < valB lb) :
    Does Tryd.prog 93 [.slice a la.length ca, .slice b lb.length cb] G [] (fun v G' Ho => ∃ q r, v = .tuple #[q, r, .int .i64 0] ∧ Nat32 G' q (valB la / valB lb) la.length ∧ Nat32 G' r (valB la % valB lb) lb.length ∧ Ho = []) := by
  have hA := valB_nonneg da
  refine Does.enter Tryd.func93 rfl Tryd.ntmps93 rfl (fun w => ?_)
  refine Wc.seq ?_
  refine Wc.region rfl ?_
  refine Wl.q rfl (Qy.assign rfl) ?_
  refine Wl.q rfl (Qy.assign rfl) ?_
  refine Wl.q rfl (Qy.assign rfl) ?_
  refine Wl.done ?_
  refine Ar.next ?_
  refine Wc.seq ?_
  refine Wc.region rfl ?_
  refine Wl.q rfl (Qy.move rfl) ?_
  refine Wl.call 0 rfl T.fn96 rfl (c96 _ _ _ _ (by assumption) (by omega) (by first | assumption | omega)) (tags_of trivial) (fun v1 G1 Ho1 hle1 hp => ?_)
  obtain ⟨ta1, tm1, rfl, hta1, hte1, htr1, htl1, rfl, rfl⟩ := hp
  refine Wl.q rfl (Qy.assign rfl) ?_
  refine Wl.done ?_
  refine Ar.next ?_
  have dm := trim_lims hte1 db
  have tp := trim_top hte1 htr1
  have hV := trim_val hte1 htr1
  have hpos : 0 < tm1.length := by
    rcases Nat.eq_zero_or_pos tm1.length with h | h
    · have h5 := List.eq_nil_of_length_eq_zero h
      rw [h5, valB_nil] at hV
      omega
    · exact h
  by_cases hlt : valB la < valB tm1
  · have hcmp : cmpZ (valB la) (valB tm1) = -1 := cmpZ_lt hlt
    refine Wc.seq ?_
    refine Wc.seq ?_
    refine Wc.region rfl ?_
    refine Wl.q rfl (Qy.move rfl) ?_
    refine Wl.q rfl (Qy.len T.sl65 rfl) ?_
    refine Wl.q rfl (Qy.eql rfl rfl) ?_
    refine Wl.done ?_
    refine Ar.next ?_
    refine Wc.condN rfl (by first | assumption | omega) ?_
    refine Wc.skip ?_
    refine Ar.next ?_
    refine Wc.seq ?_
    refine Wc.seq ?_
    refine Wc.region rfl ?_
    refine Wl.q rfl (Qy.move rfl) ?_
    refine Wl.q rfl (Qy.move rfl) ?_
    refine Wl.call0 rfl T.fn74 rfl (c74 _ _ _ _ _ _ _ (by assumption) (by assumption) (by assumption) (by assumption) (by omega) (by omega) (by omega) (by omega)) ?_
    refine Wl.q rfl (Qy.lss rfl rfl) ?_
    refine Wl.done ?_
    refine Ar.next ?_
    refine Wc.condP rfl (by first | assumption | omega) ?_
    refine Wc.seq ?_
    refine Wc.region rfl ?_
    refine Wl.q rfl (Qy.move rfl) ?_
    refine Wl.call 0 rfl T.fn95 rfl (c95 _ _ _ _ (by assumption) (by first | omega | (simp only [List.length_cons, List.length_nil]; omega)) (by first | omega | (simp only [List.length_cons, List.length_nil]; omega))) (tags_of trivial) (fun v2 G2 Ho2 hle2 hp => ?_)
    obtain ⟨na2, nm2, rfl, hna2, hne2, hnt2, hnl2, rfl⟩ := hp
    replace ha := ha.up hle2
    replace hb := hb.up hle2
    replace hta1 := hta1.up hle2
    refine Wl.q rfl (Qy.assign rfl) ?_
    refine Wl.q rfl (Qy.assign rfl) ?_
    refine Wl.q rfl (Qy.assign rfl) ?_
    refine Wl.done ?_
    refine Ar.next ?_
    refine Wc.ret ?_
    refine Ar.passRet ?_
    refine Ar.out3 (.inr rfl) (Ho := Hp.only _ []) rfl (.tmp rfl) (.tmp rfl) (.tmp rfl) (Hp.sub_only _ _) ?_
    refine ⟨_, _, rfl, ⟨none, [], rfl, Arr.nil _, Lims.nil, Top.nil, ?_, Nat.zero_le _⟩, Nat32.short (Nat32.of hna2 hne2 hnt2 da ?_ (Nat.le_refl _)) db ?_, rfl⟩
    · rw [valB_nil, Int.ediv_eq_zero_of_lt hA (by omega)]
    · rw [Int.emod_eq_of_lt hA (by omega)]
    · exact Int.emod_lt_of_pos _ hB
  · have hcmp : ¬ cmpZ (valB la) (valB tm1) < 0 := fun h => hlt (cmpZ_neg h)
    by_cases hone : tm1.length = 1
    · have hv1 := bone_val hone
      have hr1 := lg_rng dm 0
      have e1 : (tm1[(0 : Int).toNat]?.getD default).v = lg tm1 0 := rfl
      have hb0 : 0 < (tm1[(0 : Int).toNat]?.getD default).v ∧ (tm1[(0 : Int).toNat]?.getD default).v < 4294967296 := by rw [e1]; omega
      refine Wc.seq ?_
      refine Wc.seq ?_
      refine Wc.region rfl ?_
      refine Wl.q rfl (Qy.move rfl) ?_
      refine Wl.q rfl (Qy.len T.sl65 rfl) ?_
      refine Wl.q rfl (Qy.eql rfl rfl) ?_
      refine Wl.done ?_
      refine Ar.next ?_
      refine Wc.condN rfl (by first | assumption | omega) ?_
      refine Wc.skip ?_
      refine Ar.next ?_
      refine Wc.seq ?_
      refine Wc.seq ?_
      refine Wc.region rfl ?_
      refine Wl.q rfl (Qy.move rfl) ?_
      refine Wl.q rfl (Qy.move rfl) ?_
      refine Wl.call0 rfl T.fn74 rfl (c74 _ _ _ _ _ _ _ (by assumption) (by assumption) (by assumption) (by assumption) (by omega) (by omega) (by omega) (by omega)) ?_
      refine Wl.q rfl (Qy.lss rfl rfl) ?_
      refine Wl.done ?_
      refine Ar.next ?_
      refine Wc.condN rfl (by first | assumption | omega) ?_
      refine Wc.skip ?_
      refine Ar.next ?_
      refine Wc.seq ?_
      refine Wc.seq ?_
      refine Wc.region rfl ?_
      refine Wl.q rfl (Qy.move rfl) ?_
      refine Wl.q rfl (Qy.len T.sl65 rfl) ?_
      refine Wl.q rfl (Qy.eql rfl rfl) ?_
      refine Wl.done ?_
      refine Ar.next ?_
      refine Wc.condP rfl (by first | assumption | omega) ?_
      refine Wc.seq ?_
      refine Wc.region rfl ?_
      refine Wl.q rfl (Qy.move rfl) ?_
      refine Wl.q rfl (Qy.move rfl) ?_
      refine Wl.q rfl (Qy.at (α := U32) T.sl65 rfl rfl (by assumption) (by omega)) ?_
      refine Wl.q rfl (Qy.loadG T.one128 rfl (Arr.cell (by assumption) (by omega) 0 rfl rfl)) ?_
      refine Wl.call 0 rfl T.fn110 rfl (c110 _ _ _ _ _ (by assumption) (by assumption) (by omega) (by omega) (by omega)) (tags_of trivial) (fun v2 G2 Ho2 hle2 hp => ?_)
      obtain ⟨dq2, dz2, dm2, rfl, ⟨dqa2, dqm2, rfl, hdqa2, hdql2, hdqt2, hdqv2, hdqn2⟩, hdv2, hd02, hd12, rfl⟩ := hp
      replace ha := ha.up hle2
      replace hb := hb.up hle2
      replace hta1 := hta1.up hle2
      refine Wl.q rfl (Qy.move rfl) ?_
      refine Wl.q rfl (Qy.extract rfl rfl) ?_
      refine Wl.q rfl (Qy.extract rfl rfl) ?_
      refine Wl.q rfl (Qy.extract rfl rfl) ?_
      refine Wl.q rfl (Qy.assign rfl) ?_
      refine Wl.q rfl (Qy.assign rfl) ?_
      refine Wl.q rfl (Qy.assign rfl) ?_
      refine Wl.done ?_
      refine Ar.next ?_
      refine Wc.seq ?_
      refine Wc.region rfl ?_
      refine Wl.q rfl (Qy.move rfl) ?_
      refine Wl.q rfl (Qy.move rfl) ?_
      refine Wl.lit (α := U32) 0 [⟨dm2⟩] rfl T.sl65 T.el128 rfl rfl rfl rfl rfl (fun b1 => ?_)
      have hdl : Lims [(⟨dm2⟩ : U32)] := Lims.one (by omega)
      refine Wl.freezeRow 0 rfl (OwnA.made (xs := [(⟨dm2⟩ : U32)]) (by simp [maxLen])) (fun G9 hle9 hA9 => ?_)
      replace hdqa2 := hdqa2.up hle9
      refine Wl.call 1 rfl T.fn95 rfl (c95 _ _ _ _ (by assumption) (by first | omega | (simp only [List.length_cons, List.length_nil]; omega)) (by first | omega | (simp only [List.length_cons, List.length_nil]; omega))) (tags_of trivial) (fun v3 G3 Ho3 hle3 hp => ?_)
      obtain ⟨na3, nm3, rfl, hna3, hne3, hnt3, hnl3, rfl⟩ := hp
      replace hA9 := hA9.up hle3
      replace hdqa2 := hdqa2.up hle3
      refine Wl.q rfl (Qy.assign rfl) ?_
      refine Wl.q rfl (Qy.assign rfl) ?_
      refine Wl.q rfl (Qy.assign rfl) ?_
      refine Wl.done ?_
      refine Ar.next ?_
      refine Wc.ret ?_
      refine Ar.passRet ?_
      refine Ar.out3 (.inr rfl) (Ho := Hp.only _ []) rfl (.tmp rfl) (.tmp rfl) (.tmp rfl) (Hp.sub_only _ _) ?_
      have hdu := (Int.ediv_emod_unique (a := valB la) (b := valB lb) (r := dm2) (q := dz2) hB).2 ⟨by rw [Int.mul_comm, ← hV, hv1, ← e1]; omega, hd02, by rw [← hV, hv1, ← e1]; exact hd12⟩
      refine ⟨_, _, rfl, ⟨dqa2, dqm2, rfl, hdqa2, hdql2, hdqt2, by rw [hdqv2, hdu.1], hdqn2⟩, Nat32.short (Nat32.of hna3 hne3 hnt3 hdl (by rw [valB_one, hdu.2]) (Nat.le_refl _)) db (Int.emod_lt_of_pos _ hB), rfl⟩
    · obtain ⟨m, hm⟩ : ∃ m, tm1.length = m + 2 := ⟨tm1.length - 2, by omega⟩
      have hx := lg_rng dm (m + 1)
      have ex : (tm1[((tm1.length : Int) - 1).toNat]?.getD default).v = lg tm1 (m + 1) := by unfold lg; rw [show ((tm1.length : Int) - 1).toNat = ((m + 1 : Nat) : Int).toNat by omega]
      have hx1 : lg tm1 (m + 1) ≠ 0 := by
        rcases tp with h | h
        · rw [h] at hm; simp at hm
        · unfold lg; rw [Int.toNat_natCast, show m + 1 = tm1.length - 1 by omega]; exact h
      have hxb : 0 < (tm1[((tm1.length : Int) - 1).toNat]?.getD default).v ∧ (tm1[((tm1.length : Int) - 1).toNat]?.getD default).v < 4294967296 := by rw [ex]; omega
      refine Wc.seq ?_
      refine Wc.seq ?_
      refine Wc.region rfl ?_
      refine Wl.q rfl (Qy.move rfl) ?_
      refine Wl.q rfl (Qy.len T.sl65 rfl) ?_
      refine Wl.q rfl (Qy.eql rfl rfl) ?_
      refine Wl.done ?_
      refine Ar.next ?_
      refine Wc.condN rfl (by first | assumption | omega) ?_
      refine Wc.skip ?_
      refine Ar.next ?_
      refine Wc.seq ?_
      refine Wc.seq ?_
      refine Wc.region rfl ?_
      refine Wl.q rfl (Qy.move rfl) ?_
      refine Wl.q rfl (Qy.move rfl) ?_
      refine Wl.call0 rfl T.fn74 rfl (c74 _ _ _ _ _ _ _ (by assumption) (by assumption) (by assumption) (by assumption) (by omega) (by omega) (by omega) (by omega)) ?_
      refine Wl.q rfl (Qy.lss rfl rfl) ?_
      refine Wl.done ?_
      refine Ar.next ?_
      refine Wc.condN rfl (by first | assumption | omega) ?_
      refine Wc.skip ?_
      refine Ar.next ?_
      refine Wc.seq ?_
      refine Wc.seq ?_
      refine Wc.region rfl ?_
      refine Wl.q rfl (Qy.move rfl) ?_
      refine Wl.q rfl (Qy.len T.sl65 rfl) ?_
      refine Wl.q rfl (Qy.eql rfl rfl) ?_
      refine Wl.done ?_
      refine Ar.next ?_
      refine Wc.condN rfl (by first | assumption | omega) ?_
      refine Wc.skip ?_
      refine Ar.next ?_
      refine Wc.seq ?_
      refine Wc.region rfl ?_
      refine Wl.q rfl (Qy.move rfl) ?_
      refine Wl.q rfl (Qy.move rfl) ?_
      refine Wl.q rfl (Qy.len T.sl65 rfl) ?_
      refine Wl.q rfl (Qy.sub rfl rfl (by omega)) ?_
      refine Wl.q rfl (Qy.at (α := U32) T.sl65 rfl rfl (by assumption) (by omega)) ?_
      refine Wl.q rfl (Qy.loadG T.one128 rfl (Arr.cell (by assumption) (by omega) 0 rfl rfl)) ?_
      refine Wl.call 0 rfl T.fn111 rfl (c111s _ _ (by omega) (by omega)) (tags_of trivial) (fun v2 G2 Ho2 hle2 hp => ?_)
      obtain ⟨sh, rfl, hsh, hs1, hs2, rfl, rfl⟩ := hp
      refine Wl.q rfl (Qy.assign rfl) ?_
      refine Wl.done ?_
      refine Ar.next ?_
      refine Wc.seq ?_
      refine Wc.region rfl ?_
      refine Wl.q rfl (Qy.move rfl) ?_
      refine Wl.q rfl (Qy.move rfl) ?_
      refine Wl.call 0 rfl T.fn112 rfl (c112z _ _ _ _ sh (by assumption) (by assumption) (by omega) (by omega)) (tags_of trivial) (fun v3 G3 Ho3 hle3 hp => ?_)
      obtain ⟨sr3, rfl, ⟨sa3, sm3, rfl, hsa3, hsl3, hst3, hsv3, hsn3⟩, rfl⟩ := hp
      replace ha := ha.up hle3
      replace hb := hb.up hle3
      replace hta1 := hta1.up hle3
      refine Wl.q rfl (Qy.move rfl) ?_
      refine Wl.q rfl (Qy.extract rfl rfl) ?_
      refine Wl.q rfl (Qy.extract rfl rfl) ?_
      refine Wl.q rfl (Qy.assign rfl) ?_
      refine Wl.q rfl (Qy.assign rfl) ?_
      refine Wl.done ?_
      refine Ar.next ?_
      refine Wc.seq ?_
      refine Wc.region rfl ?_
      refine Wl.q rfl (Qy.move rfl) ?_
      refine Wl.q rfl (Qy.move rfl) ?_
      refine Wl.call 0 rfl T.fn112 rfl (c112z _ _ _ _ sh (by assumption) (by assumption) (by omega) (by omega)) (tags_of trivial) (fun v4 G4 Ho4 hle4 hp => ?_)
      obtain ⟨sr4, rfl, ⟨sa4, sm4, rfl, hsa4, hsl4, hst4, hsv4, hsn4⟩, rfl⟩ := hp
      replace hsa3 := hsa3.up hle4
      replace ha := ha.up hle4
      replace hb := hb.up hle4
      replace hta1 := hta1.up hle4
      refine Wl.q rfl (Qy.move rfl) ?_
      refine Wl.q rfl (Qy.extract rfl rfl) ?_
      refine Wl.q rfl (Qy.extract rfl rfl) ?_
      refine Wl.q rfl (Qy.assign rfl) ?_
      refine Wl.q rfl (Qy.assign rfl) ?_
      refine Wl.done ?_
      refine Ar.next ?_
      refine Wc.seq ?_
      refine Wc.region rfl ?_
      refine Wl.q rfl (Qy.move rfl) ?_
      refine Wl.lit (α := U32) 0 [⟨0⟩] rfl T.sl65 T.el128 rfl rfl rfl rfl rfl (fun b1 => ?_)
      have hP : 0 < ((2 ^ sh : Nat) : Int) := (pow_split (s := sh) (by omega)).choose_spec.2.2
      obtain ⟨hvl, hvt⟩ := norm_top hP hm dm hsl3 hst3 (by rw [← ex]; exact hs1) (by rw [← ex]; exact hs2) hsv3
      have hge : valB sm3 ≤ valB sm4 := by
        rw [hsv3, hsv4]; exact Int.mul_le_mul_of_nonneg_left (by omega) (Int.le_of_lt hP)
      have huv : sm3.length ≤ sm4.length := by
        rcases Nat.lt_or_ge sm4.length sm3.length with h | h
        · have := ltop_lt_len hsl4 hsl3 hst3 h; omega
        · exact h
      refine Wl.appendArr (α := U32) (xs := sm4) (ys := [(⟨0⟩ : U32)]) 40 rfl T.sl65 T.el128 rfl rfl (Src.arr (by assumption)) (by omega) (Src.row 0 rfl) (by decide) (by simp only [List.length_cons, List.length_nil]; omega) (by simp only [List.length_cons, List.length_nil, maxLen]; omega) (fun b2 c2 j2 ho2 => ?_)
      have hstart := div_start hsl4 hsl3 hst3 (by omega) huv
      have huA : valB (sm4 ++ [(⟨0⟩ : U32)]) = valB sm4 := by rw [valB_append, valB_one]; show _ + _ * 0 = _; omega
      have dU : Lims (sm4 ++ [(⟨0⟩ : U32)]) := hsl4.append (Lims.one (by decide))
      have lU : (sm4 ++ [(⟨0⟩ : U32)]).length = sm4.length + 1 := by rw [List.length_append]; rfl
      change valB ((sm4 ++ [(⟨0⟩ : U32)]).drop _) < _ at hstart
      generalize sm4 ++ [(⟨0⟩ : U32)] = uL at *
      refine Wl.q rfl (Qy.assign rfl) ?_
      refine Wl.done ?_
      refine Ar.next ?_
      refine Wc.seq ?_
      refine Wc.region rfl ?_
      refine Wl.q rfl (Qy.move rfl) ?_
      refine Wl.q rfl (Qy.len T.sl65 rfl) ?_
      refine Wl.q rfl (Qy.assign rfl) ?_
      refine Wl.done ?_
      refine Ar.next ?_
      refine Wc.seq ?_
      refine Wc.region rfl ?_
      refine Wl.q rfl (Qy.move rfl) ?_
      refine Wl.q rfl (Qy.len T.sl65 rfl) ?_
      refine Wl.q rfl (Qy.move rfl) ?_
      refine Wl.q rfl (Qy.sub rfl rfl (by omega)) ?_
      refine Wl.make (α := U32) 41 rfl T.sl65 T.el128 rfl rfl (by omega) (by omega) (fun b3 => ?_)
      refine Wl.q rfl (Qy.assign rfl) ?_
      refine Wl.done ?_
      refine Ar.next ?_
      refine Wc.seq ?_
      refine Wc.seq ?_
      refine Wc.region rfl ?_
      refine Wl.q rfl (Qy.move rfl) ?_
      refine Wl.q rfl (Qy.len T.sl65 rfl) ?_
      refine Wl.q rfl (Qy.move rfl) ?_
      refine Wl.q rfl (Qy.sub rfl rfl (by omega)) ?_
      refine Wl.q rfl (Qy.sub rfl rfl (by omega)) ?_
      refine Wl.q rfl (Qy.assign rfl) ?_
      refine Wl.done ?_
      refine Ar.next ?_
      refine Wc.block ?_
      obtain ⟨N, hN⟩ : ∃ N, N = uL.length - sm3.length := ⟨_, rfl⟩
      have hM : ((uL.length : Int) - (sm3.length : Int)).toNat = N := by omega
      rw [hM]
      have hNs : sm4.length + 1 - sm3.length = N := by omega
      rw [hNs] at hstart
      have hown : ∀ r : List U32, r.length = N → OwnA (some ⟨b3, 0, none⟩) N r [] := fun r hr => .inr ⟨b3, rfl, by rw [hr]; rfl, by omega, by simp only [maxLen]; omega⟩
      have hc2 : uL.length ≤ c2 := ho2.le
      have hownU : ∀ r : List U32, r.length = uL.length → OwnA (some ⟨b2, 0, none⟩) c2 r j2 := fun r hr => by
        rcases ho2 with ⟨h, _⟩ | ⟨b', e, h5, h6, h7⟩
        · cases h
        · exact .inr ⟨b', e, by rw [hr]; exact h5, by rw [hr]; exact h6, h7⟩
      refine Wc.re 16 rfl (show _ = Value.slice (some ⟨b3, 0, none⟩) (List.replicate N (default : U32)).length N by rw [List.length_replicate]) ?_
      refine Wc.re 17 rfl (show _ = Value.int .i64 ((N : Int) - 1) by congr 1; omega) ?_
      refine Wc.loop (ι := Nat × List U32 × List U32) (fun (k, q, R) => ([(17, .int .i64 ((k : Int) - 1)), (16, .slice (some ⟨b3, 0, none⟩) q.length N), (13, .slice (some ⟨b2, 0, none⟩) R.length c2), (15, Go.Value.int Go.IntKind.i64 (↑(List.length sm3) : Int)), (11, Go.Value.slice sa3 (List.length sm3) (List.length sm3)), (10, Go.Value.int Go.IntKind.i64 (↑sh : Int)), (6, Go.Value.int Go.IntKind.i64 0), (5, Go.Value.slice Option.none 0 0), (4, Go.Value.slice Option.none 0 0)], [(41, some b3, Row 128 q []), (40, some b2, Row 128 R j2), (0, Option.some b1, Go.Sl.Row (α := Go.Sl.U32) 128 ([Go.Sl.U32.mk 0]) ([]))])) (fun (k, q, R) => k ≤ N ∧ q.length = N ∧ Lims q ∧ R.length = uL.length ∧ Lims R ∧ valB sm4 = valB q * valB sm3 + valB R ∧ valB (R.drop k) < valB sm3 ∧ ∀ j, j < k → lg q j = 0) (fun (k, q, R) => k) ((N, List.replicate N (default : U32), uL)) (⟨Nat.le_refl _, List.length_replicate, Lims.zeros N, rfl, dU, by rw [show valB (List.replicate N (default : U32)) = 0 from valB_replicate N, Int.zero_mul, Int.zero_add, huA], hstart, fun j _ => lg_zeros N j⟩) ⟨rfl, rfl, rfl, rfl, rfl, rfl, rfl, rfl, rfl, trivial⟩ ⟨rfl, rfl, rfl, trivial⟩ (fun ⟨k, q, R⟩ => fun (hk : k ≤ N ∧ q.length = N ∧ Lims q ∧ R.length = uL.length ∧ Lims R ∧ valB sm4 = valB q * valB sm3 + valB R ∧ valB (R.drop k) < valB sm3 ∧ ∀ j, j < k → lg q j = 0) => ?_)
      obtain ⟨hk1, hqN, hdq, hRn, hdR, hval, hRlt, hqz⟩ := hk
      have hoq := hown q hqN
      have hoR := hownU R hRn
      rcases Nat.eq_zero_or_pos k with rfl | hkp
      · rw [List.drop_zero] at hRlt
        refine Wc.seq ?_
        refine Wc.seq ?_
        refine Wc.region rfl ?_
        refine Wl.q rfl (Qy.move rfl) ?_
        refine Wl.q rfl (Qy.geq rfl rfl) ?_
        refine Wl.done ?_
        refine Ar.next ?_
        refine Wc.condN rfl (by first | assumption | omega) ?_
        refine Wc.exit ?_
        refine Ar.passExit ?_
        refine Ar.passExit ?_
        refine Ar.here ?_
        refine Ar.next ?_
        refine Wc.seq ?_
        refine Wc.region rfl ?_
        refine Wl.q rfl (Qy.move rfl) ?_
        refine Wl.q rfl (Qy.move rfl) ?_
        refine Wl.freezeRow 41 rfl hoq (fun G8 hle8 hAq => Wl.freezeRow 40 rfl hoR (fun G9 hle9 hAR => ?_))
        replace hAq := hAq.up hle9
        refine Wl.call 42 rfl T.fn114 rfl (c114 _ _ _ _ sh (by assumption) (by assumption) (by omega) (by omega) (by omega)) (tags_of trivial) (fun v5 G5 Ho5 hle5 hp => ?_)
        obtain ⟨sr5, rfl, ⟨sa5, sm5, rfl, hsa5, hsl5, hst5, hsv5, hsn5⟩, rfl⟩ := hp
        replace hAR := hAR.up hle5
        replace hAq := hAq.up hle5
        refine Wl.q rfl (Qy.move rfl) ?_
        refine Wl.q rfl (Qy.extract rfl rfl) ?_
        refine Wl.q rfl (Qy.extract rfl rfl) ?_
        refine Wl.q rfl (Qy.assign rfl) ?_
        refine Wl.q rfl (Qy.assign rfl) ?_
        refine Wl.done ?_
        refine Ar.next ?_
        refine Wc.seq ?_
        refine Wc.region rfl ?_
        refine Wl.q rfl (Qy.move rfl) ?_
        refine Wl.call 42 rfl T.fn96 rfl (c96 _ _ _ _ (by assumption) (by omega) (by first | assumption | omega)) (tags_of trivial) (fun v6 G6 Ho6 hle6 hp => ?_)
        obtain ⟨ta6, tm6, rfl, hta6, hte6, htr6, htl6, rfl, rfl⟩ := hp
        refine Wl.q rfl (Qy.move rfl) ?_
        refine Wl.q rfl (Qy.assign rfl) ?_
        refine Wl.q rfl (Qy.assign rfl) ?_
        refine Wl.q rfl (Qy.assign rfl) ?_
        refine Wl.done ?_
        refine Ar.next ?_
        refine Wc.ret ?_
        refine Ar.out3 (.inr rfl) (Ho := Hp.only _ []) rfl (.tmp rfl) (.tmp rfl) (.tmp rfl) (Hp.sub_only _ _) ?_
        have hRn0 := valB_nonneg hdR
        rw [hsv3, hsv4, hV] at hval
        rw [hsv3, hV] at hRlt
        obtain ⟨hd1, hd2, _⟩ := div_end hP hval hRn0 hRlt
        exact ⟨_, _, rfl, Nat32.of hta6 hte6 htr6 hdq hd2 (by omega), Nat32.short ⟨sa5, sm5, rfl, hsa5, hsl5, hst5, by rw [hsv5, hd1], Nat.le_refl _⟩ db (Int.emod_lt_of_pos _ hB), rfl⟩
      · obtain ⟨i, rfl⟩ : ∃ i, k = i + 1 := ⟨k - 1, by omega⟩
        have ei : (((i + 1 : Nat) : Int) - 1).toNat = i := by omega
        refine Wc.seq ?_
        refine Wc.seq ?_
        refine Wc.region rfl ?_
        refine Wl.q rfl (Qy.move rfl) ?_
        refine Wl.q rfl (Qy.geq rfl rfl) ?_
        refine Wl.done ?_
        refine Ar.next ?_
        refine Wc.condP rfl (by first | assumption | omega) ?_
        refine Wc.skip ?_
        refine Ar.next ?_
        refine Wc.seq ?_
        refine Wc.block ?_
        refine Wc.region rfl ?_
        refine Wl.q rfl (Qy.move rfl) ?_
        refine Wl.q rfl (Qy.move rfl) ?_
        refine Wl.q rfl (Qy.move rfl) ?_
        refine Wl.q rfl (Qy.move rfl) ?_
        refine Wl.q rfl (Qy.move rfl) ?_
        refine Wl.q rfl (Qy.move rfl) ?_
        refine Wl.q rfl (Qy.add rfl rfl (by omega)) ?_
        refine Wl.q rfl (Qy.add rfl rfl (by omega)) ?_
        refine Wl.q rfl (Qy.cutLH T.sl65 rfl rfl rfl (by omega) (by omega) (by omega)) ?_
        refine Wl.q rfl (Qy.move rfl) ?_
        have hroom := win_room (n := m + 2) hdR hsl3 (show i < R.length by omega) hvl (by omega) hRlt
        obtain ⟨p, hp⟩ : ∃ p, p = R.take i := ⟨_, rfl⟩
        obtain ⟨ww, hw⟩ : ∃ ww, ww = (R.drop i).take (m + 3) := ⟨_, rfl⟩
        obtain ⟨z, hz⟩ : ∃ z, z = R.drop (i + (m + 3)) := ⟨_, rfl⟩
        have hsplit : R = p ++ (ww ++ z) := by rw [hp, hw, hz]; exact win_open R i (m + 3)
        have lp : p.length = i := by rw [hp, List.length_take]; omega
        have lw : ww.length = m + 3 := by rw [hw, List.length_take, List.length_drop]; omega
        have dw : Lims ww := by rw [hw]; exact (lims_drop hdR i).take _
        obtain ⟨hr1, hr2⟩ := hroom
        rw [show m + 2 + 1 = m + 3 by omega] at hr1 hr2
        rw [← hw] at hr1
        rw [← hz] at hr2
        refine Wl.re 93 rfl (show _ = Value.slice (some ⟨b2, p.length, none⟩) ww.length (c2 - i) by
          rw [ei, lp, lw]
          show Value.slice (if c2 = i then (some ⟨b2, 0, none⟩ : Option Addr) else (some ⟨b2, 0, none⟩ : Option Addr).map (·.add (i * 1))) _ _ = _
          rw [if_neg (by omega), Option.map_some, add_lit, Nat.mul_one, Nat.zero_add]
          congr 1
          omega) ?_
        refine Wl.reH 40 (Row 128 (p ++ (ww ++ z)) j2) rfl (by rw [← hsplit]) ?_
        refine Wl.call 40 rfl T.fn113 rfl (c113 _ b2 p ww z j2 _ _ _ sm3 m (by assumption) dw hsl3 (by omega) lw hvl hvt hr1) (tags_of ⟨rfl, trivial⟩) (fun r9 G9 Ho9 hle9 hp9 => ?_)
        obtain ⟨w9, g9, rfl, rfl, rfl, hg1, hg2, hwl, hwd, hwv, hwlt⟩ := hp9
        refine Wl.q rfl (Qy.indexAddrO (α := U32) T.sl65 rfl rfl (by assumption) (by omega)) ?_
        refine Wl.setO (z := _) 41 T.size128 rfl rfl rfl (by assumption) (by omega) rfl (fun ho1 => ?_)
        refine Wl.done ?_
        refine Ar.outNormal ?_
        refine Ar.next ?_
        refine Wc.region rfl ?_
        refine Wl.q rfl (Qy.move rfl) ?_
        refine Wl.q rfl (Qy.sub rfl rfl (by omega)) ?_
        refine Wl.q rfl (Qy.assign rfl) ?_
        refine Wl.done ?_
        have lz : z.length = R.length - (i + (m + 3)) := by rw [hz, List.length_drop]
        have dz : Lims z := by rw [hz]; exact lims_drop hdR _
        have dp : Lims p := by rw [hp]; exact hdR.take _
        have hwin := win_val p ww w9 z (by omega)
        rw [← hsplit, lp, hwv, show valB ww - g9 * valB sm3 - valB ww = -(g9 * valB sm3) by omega] at hwin
        have lR : (p ++ (w9 ++ z)).length = uL.length := by rw [List.length_append, List.length_append]; omega
        refine Ar.re 17 rfl (show _ = Value.int .i64 ((i : Int) - 1) by congr 1; omega) ?_
        refine Ar.reH 41 (Row 128 (q.set i (⟨g9⟩ : U32)) []) rfl (by rw [ei]) ?_
        refine Ar.re 16 rfl (show _ = Value.slice (some ⟨b3, 0, none⟩) (q.set i (⟨g9⟩ : U32)).length N by rw [List.length_set]) ?_
        refine Ar.re 13 rfl (show _ = Value.slice (some ⟨b2, 0, none⟩) (p ++ (w9 ++ z)).length c2 by rw [lR, hRn]) ?_
        refine Ar.again ((i, q.set i (⟨g9⟩ : U32), p ++ (w9 ++ z))) ?_ ?_ rfl ⟨rfl, rfl, rfl, rfl, rfl, rfl, rfl, rfl, rfl, trivial⟩ ⟨rfl, rfl, rfl, trivial⟩
        · refine ⟨by omega, by rw [List.length_set]; exact hqN, lims_set hdq _ ⟨hg1, hg2⟩, lR, dp.append (hwd.append dz), quo_next (q := 0) (by omega) (hqz i (by omega)) hval hwin, ?_, fun j hj => by rw [lg_set_ne (by omega)]; exact hqz j (by omega)⟩
          rw [List.drop_append_of_le_length (by omega), List.drop_eq_nil_of_le (by omega), List.nil_append, valB_append, hr2, Int.mul_zero, Int.add_zero]
          exact hwlt
        · show i < i + 1
          omega
end Go.Proofs.YtbppmiimeccclaaDoor
set_option maxRecDepth 100000
set_option linter.unusedVariables false
namespace Go.Proofs.YtbppmiimeccclaaDoor
open Go Go.Sl
set_option maxHeartbeats 4000000
theorem IsBig.make {neg : Bool} {m : List U32} (hd : Lims m) (ht : Top m) : IsBig (neg && decide (0 < m.length)) m (if neg = true then -valB m else valB m) := by
  refine ⟨hd, ht, fun e => by rw [e]; simp, ?_⟩
  by_cases h : 0 < m.length
  · simp [h]
  · have e : m = [] := List.eq_nil_of_length_eq_zero (by omega)
    rw [e]; simp [valB_nil]
theorem Big.make {G : Imm} {b : Option Addr} {c : Nat} {m : List U32} (neg : Bool) (hA : Arr G b m) (hd : Lims m) (ht : Top m) (hc : m.length ≤ c) {z : Int} (hz : z = if neg = true then -valB m else valB m) : Big G ⟨neg && decide (0 < m.length), b, m.length, c⟩ z :=
  ⟨m, rfl, hc, hA, hz ▸ IsBig.make hd ht⟩
theorem Big.len {G : Imm} {x : IV} {z : Int} (h : Big G x z) {m : Nat} (hz : (z.natAbs : Int) < pb m) : x.n ≤ m := by
  obtain ⟨l, h1, _, _, h4⟩ := h
  rw [← h1]; exact h4.len hz
theorem Big.zero_iff {G : Imm} {x : IV} {z : Int} (h : Big G x z) : x.n = 0 ↔ z = 0 := by
  obtain ⟨l, h1, _, _, h4⟩ := h
  rw [← h1]; exact h4.zero_iff
theorem Big.out {G : Imm} {x : IV} {z z' : Int} (h : Big G x z) (e : z = z') : Big G x z' := e ▸ h
/-- the sign -/
def sgZ (z : Int) : Int := if z = 0 then 0 else if z < 0 then -1 else 1
attribute [local irreducible] valB pb cmpZ lstWp
theorem c89 (G : Imm) (neg : Bool) (a : Option Addr) (n c : Nat) (hn : n ≤ 1099511627776) :
    Does Tryd.prog 89 [.bool neg, .slice a n c] G [] (fun v G' Ho => v = .agg #[.bool (neg && decide (0 < n)), .slice a n c] ∧ G' = G ∧ Ho = []) := by
  refine Does.enter Tryd.func89 rfl Tryd.ntmps89 rfl (fun w => ?_)
  have e : ((0 : Int) < (n : Int)) = (0 < n) := by rw [eq_iff_iff]; omega
  cases neg
  · refine Wc.seq ?_
    refine Wc.region rfl ?_
    refine Wl.alloc 0 rfl T.zero67 (fun b1 => ?_)
    refine Wl.done ?_
    refine Ar.next ?_
    refine Wc.seq ?_
    refine Wc.region rfl ?_
    refine Wl.q rfl (Qy.move rfl) ?_
    refine Wl.q rfl (Qy.move rfl) ?_
    refine Wl.pass rfl rfl rfl ?_
    refine Wl.pass rfl rfl rfl ?_
    refine Wl.pass rfl rfl rfl ?_
    refine Wl.q rfl (Qy.pick rfl rfl) ?_
    refine Wl.q rfl (Qy.move rfl) ?_
    refine Wl.q rfl (Qy.build (cs := [_, _]) T.st67 rfl rfl rfl) ?_
    refine Wl.storeAll 0 T.size67 rfl rfl rfl rfl rfl rfl ?_
    refine Wl.done ?_
    refine Ar.next ?_
    refine Wc.ret ?_
    refine Ar.out1 (.inr rfl) (Ho := Hp.only _ []) rfl (.agg 0 rfl rfl T.agg67) (Hp.sub_only _ _) ?_
    exact ⟨by simp only [Bool.false_and], rfl, rfl⟩
  · refine Wc.seq ?_
    refine Wc.region rfl ?_
    refine Wl.alloc 0 rfl T.zero67 (fun b1 => ?_)
    refine Wl.done ?_
    refine Ar.next ?_
    refine Wc.seq ?_
    refine Wc.region rfl ?_
    refine Wl.q rfl (Qy.move rfl) ?_
    refine Wl.q rfl (Qy.move rfl) ?_
    refine Wl.want rfl rfl ?_
    refine Wl.q rfl (Qy.move rfl) ?_
    refine Wl.want rfl rfl ?_
    refine Wl.q rfl (Qy.len T.sl65 rfl) ?_
    refine Wl.want rfl rfl ?_
    refine Wl.q rfl (Qy.gtr rfl rfl) ?_
    refine Wl.q rfl (Qy.pick rfl rfl) ?_
    refine Wl.q rfl (Qy.move rfl) ?_
    refine Wl.q rfl (Qy.build (cs := [_, _]) T.st67 rfl rfl rfl) ?_
    refine Wl.storeAll 0 T.size67 rfl rfl rfl rfl rfl rfl ?_
    refine Wl.done ?_
    refine Ar.next ?_
    refine Wc.ret ?_
    refine Ar.out1 (.inr rfl) (Ho := Hp.only _ []) rfl (.agg 0 rfl rfl T.agg67) (Hp.sub_only _ _) ?_
    exact ⟨by simp only [e, Bool.true_and], rfl, rfl⟩
theorem c73 (G : Imm) (neg : Bool) (a : Option Addr) (c : Nat) (l : List U32) (ha : Arr G a l) (hd : Lims l) (hb : l.length ≤ 1073741824) (hc : l.length ≤ c) :
    Does Tryd.prog 73 [.bool neg, .slice a l.length c] G [] (fun v G' Ho => ∃ r : IV, v = .agg (Cells.enc r).toArray ∧ Big G' r (if neg = true then -valB l else valB l) ∧ Ho = []) := by
  refine Does.enter Tryd.func73 rfl Tryd.ntmps73 rfl (fun w => ?_)
  refine Wc.seq ?_
  refine Wc.region rfl ?_
  refine Wl.alloc 0 rfl T.zero67 (fun b1 => ?_)
  refine Wl.done ?_
  refine Ar.next ?_
  refine Wc.seq ?_
  refine Wc.region rfl ?_
  refine Wl.q rfl (Qy.move rfl) ?_
  refine Wl.q rfl (Qy.move rfl) ?_
  refine Wl.call 1 rfl T.fn95 rfl (c95 _ _ _ _ (by assumption) (by first | omega | (simp only [List.length_cons, List.length_nil]; omega)) (by first | omega | (simp only [List.length_cons, List.length_nil]; omega))) (tags_of trivial) (fun v1 G1 Ho1 hle1 hp => ?_)
  obtain ⟨na1, nm1, rfl, hna1, hne1, hnt1, hnl1, rfl⟩ := hp
  replace ha := ha.up hle1
  refine Wl.call0 rfl T.fn89 rfl (c89 _ _ _ _ _ (by omega)) ?_
  refine Wl.storeAll 0 T.size67 rfl rfl rfl rfl rfl rfl ?_
  refine Wl.done ?_
  refine Ar.next ?_
  refine Wc.ret ?_
  refine Ar.out1 (.inr rfl) (Ho := Hp.only _ []) rfl (.agg 0 rfl rfl T.agg67) (Hp.sub_only _ _) ?_
  refine ⟨⟨neg && decide (0 < nm1.length), na1, nm1.length, nm1.length⟩, rfl, Big.make neg hna1 (trim_lims hne1 hd) (trim_top hne1 hnt1) (Nat.le_refl _) (by rw [trim_val hne1 hnt1]), rfl⟩
theorem c72 (G : Imm) (neg : Bool) (a : Option Addr) (c : Nat) (l : List U32) (z : Int) (h : IsBig neg l z) (h1 : l.length ≤ 1073741824) :
    Does Tryd.prog 72 [.agg #[.bool neg, .slice a l.length c]] G [] (fun v G' Ho => v = .int .i64 (sgZ z) ∧ G' = G ∧ Ho = []) := by
  have hz := h.zero_iff
  have hn := h.neg_iff
  refine Does.enter Tryd.func72 rfl Tryd.ntmps72 rfl (fun w => ?_)
  by_cases h0 : l.length = 0
  · have hz0 := hz.1 h0
    refine Wc.seq ?_
    refine Wc.region rfl ?_
    refine Wl.box 0 rfl rfl rfl (fun b1 => ?_)
    refine Wl.q rfl (Qy.assign rfl) ?_
    refine Wl.done ?_
    refine Ar.next ?_
    refine Wc.seq ?_
    refine Wc.block ?_
    refine Wc.seq ?_
    refine Wc.region rfl ?_
    refine Wl.q rfl (Qy.fieldAddr T.fa67_1 rfl) ?_
    refine Wl.q rfl (Qy.load 0 T.one65 rfl rfl rfl) ?_
    refine Wl.q rfl (Qy.len T.sl65 rfl) ?_
    refine Wl.q rfl (Qy.eql rfl rfl) ?_
    refine Wl.q rfl (Qy.assign rfl) ?_
    refine Wl.done ?_
    refine Ar.next ?_
    refine Wc.condP rfl (by first | assumption | omega) ?_
    refine Wc.seq ?_
    refine Wc.region rfl ?_
    refine Wl.q rfl (Qy.assign rfl) ?_
    refine Wl.done ?_
    refine Ar.next ?_
    refine Wc.ret ?_
    refine Ar.outRet ?_
    refine Ar.passRet ?_
    refine Ar.out1 (.inr rfl) (Ho := Hp.only _ []) rfl (.tmp rfl) (Hp.sub_only _ _) ?_
    exact ⟨by rw [hz0]; rfl, rfl, rfl⟩
  · have hz0 : z ≠ 0 := fun e => h0 (hz.2 e)
    by_cases hs : z < 0
    · rw [hn, decide_eq_true hs]
      refine Wc.seq ?_
      refine Wc.region rfl ?_
      refine Wl.box 0 rfl rfl rfl (fun b1 => ?_)
      refine Wl.q rfl (Qy.assign rfl) ?_
      refine Wl.done ?_
      refine Ar.next ?_
      refine Wc.seq ?_
      refine Wc.block ?_
      refine Wc.seq ?_
      refine Wc.region rfl ?_
      refine Wl.q rfl (Qy.fieldAddr T.fa67_1 rfl) ?_
      refine Wl.q rfl (Qy.load 0 T.one65 rfl rfl rfl) ?_
      refine Wl.q rfl (Qy.len T.sl65 rfl) ?_
      refine Wl.q rfl (Qy.eql rfl rfl) ?_
      refine Wl.q rfl (Qy.assign rfl) ?_
      refine Wl.done ?_
      refine Ar.next ?_
      refine Wc.condN rfl (by first | assumption | omega) ?_
      refine Wc.seq ?_
      refine Wc.region rfl ?_
      refine Wl.q rfl (Qy.fieldAddr T.fa67_0 rfl) ?_
      refine Wl.q rfl (Qy.load 0 T.one4 rfl rfl rfl) ?_
      refine Wl.q rfl (Qy.assign rfl) ?_
      refine Wl.done ?_
      refine Ar.next ?_
      refine Wc.condT rfl ?_
      refine Wc.seq ?_
      refine Wc.region rfl ?_
      refine Wl.q rfl (Qy.assign rfl) ?_
      refine Wl.done ?_
      refine Ar.next ?_
      refine Wc.ret ?_
      refine Ar.outRet ?_
      refine Ar.passRet ?_
      refine Ar.out1 (.inr rfl) (Ho := Hp.only _ []) rfl (.tmp rfl) (Hp.sub_only _ _) ?_
      exact ⟨by unfold sgZ; rw [if_neg hz0, if_pos hs], rfl, rfl⟩
    · rw [hn, decide_eq_false hs]
      refine Wc.seq ?_
      refine Wc.region rfl ?_
      refine Wl.box 0 rfl rfl rfl (fun b1 => ?_)
      refine Wl.q rfl (Qy.assign rfl) ?_
      refine Wl.done ?_
      refine Ar.next ?_
      refine Wc.seq ?_
      refine Wc.block ?_
      refine Wc.seq ?_
      refine Wc.region rfl ?_
      refine Wl.q rfl (Qy.fieldAddr T.fa67_1 rfl) ?_
      refine Wl.q rfl (Qy.load 0 T.one65 rfl rfl rfl) ?_
      refine Wl.q rfl (Qy.len T.sl65 rfl) ?_
      refine Wl.q rfl (Qy.eql rfl rfl) ?_
      refine Wl.q rfl (Qy.assign rfl) ?_
      refine Wl.done ?_
      refine Ar.next ?_
      refine Wc.condN rfl (by first | assumption | omega) ?_
      refine Wc.seq ?_
      refine Wc.region rfl ?_
      refine Wl.q rfl (Qy.fieldAddr T.fa67_0 rfl) ?_
      refine Wl.q rfl (Qy.load 0 T.one4 rfl rfl rfl) ?_
      refine Wl.q rfl (Qy.assign rfl) ?_
      refine Wl.done ?_
      refine Ar.next ?_
      refine Wc.condF rfl ?_
      refine Wc.skip ?_
      refine Ar.outNormal ?_
      refine Ar.next ?_
      refine Wc.seq ?_
      refine Wc.region rfl ?_
      refine Wl.q rfl (Qy.assign rfl) ?_
      refine Wl.done ?_
      refine Ar.next ?_
      refine Wc.ret ?_
      refine Ar.out1 (.inr rfl) (Ho := Hp.only _ []) rfl (.tmp rfl) (Hp.sub_only _ _) ?_
      exact ⟨by unfold sgZ; rw [if_neg hz0, if_neg hs], rfl, rfl⟩
theorem c66 (G : Imm) (x : IV) (z : Int) (hx : Big G x z) (h1 : x.n ≤ 1073741824) :
    Does Tryd.prog 66 [.agg (Cells.enc x).toArray] G [] (fun v G' Ho => ∃ r : IV, v = .agg (Cells.enc r).toArray ∧ Big G' r (-z) ∧ G' = G ∧ Ho = []) := by
  obtain ⟨neg, a, n, c⟩ := x
  obtain ⟨l, hl, hlc, hA, hI⟩ := hx
  simp only at hl hlc hA hI h1
  subst hl
  show Does Tryd.prog 66 [.agg #[.bool neg, .slice a l.length c]] G [] _
  refine Does.enter Tryd.func66 rfl Tryd.ntmps66 rfl (fun w => ?_)
  refine Wc.seq ?_
  refine Wc.region rfl ?_
  refine Wl.box 0 rfl rfl rfl (fun b1 => ?_)
  refine Wl.alloc 1 rfl T.zero67 (fun b2 => ?_)
  refine Wl.done ?_
  refine Ar.next ?_
  refine Wc.seq ?_
  refine Wc.region rfl ?_
  refine Wl.q rfl (Qy.fieldAddr T.fa67_0 rfl) ?_
  refine Wl.q rfl (Qy.load 0 T.one4 rfl rfl rfl) ?_
  refine Wl.q rfl (Qy.not rfl) ?_
  refine Wl.q rfl (Qy.fieldAddr T.fa67_1 rfl) ?_
  refine Wl.q rfl (Qy.load 0 T.one65 rfl rfl rfl) ?_
  refine Wl.call0 rfl T.fn89 rfl (c89 _ _ _ _ _ (by omega)) ?_
  refine Wl.storeAll 1 T.size67 rfl rfl rfl rfl rfl rfl ?_
  refine Wl.done ?_
  refine Ar.next ?_
  refine Wc.ret ?_
  refine Ar.out1 (.inr rfl) (Ho := Hp.only _ []) rfl (.agg 1 rfl rfl T.agg67) (Hp.sub_only _ _) ?_
  refine ⟨⟨!neg && decide (0 < l.length), a, l.length, c⟩, rfl, Big.make (!neg) hA hI.digs hI.top hlc ?_, rfl, rfl⟩
  rw [hI.val]; cases neg <;> simp
theorem c94 (G : Imm) (x : IV) (z : Int) (hx : Big G x z) (h1 : x.n ≤ 1073741824) :
    Does Tryd.prog 94 [.agg (Cells.enc x).toArray] G [] (fun v G' Ho => ∃ r : IV, v = .agg (Cells.enc r).toArray ∧ Big G' r (z.natAbs : Int) ∧ G' = G ∧ Ho = []) := by
  obtain ⟨neg, a, n, c⟩ := x
  obtain ⟨l, hl, hlc, hA, hI⟩ := hx
  simp only at hl hlc hA hI h1
  subst hl
  show Does Tryd.prog 94 [.agg #[.bool neg, .slice a l.length c]] G [] _
  refine Does.enter Tryd.func94 rfl Tryd.ntmps94 rfl (fun w => ?_)
  refine Wc.seq ?_
  refine Wc.region rfl ?_
  refine Wl.box 0 rfl rfl rfl (fun b1 => ?_)
  refine Wl.alloc 1 rfl T.zero67 (fun b2 => ?_)
  refine Wl.done ?_
  refine Ar.next ?_
  refine Wc.seq ?_
  refine Wc.region rfl ?_
  refine Wl.q rfl (Qy.fieldAddr T.fa67_1 rfl) ?_
  refine Wl.q rfl (Qy.load 0 T.one65 rfl rfl rfl) ?_
  refine Wl.call0 rfl T.fn89 rfl (c89 _ _ _ _ _ (by omega)) ?_
  refine Wl.storeAll 1 T.size67 rfl rfl rfl rfl rfl rfl ?_
  refine Wl.done ?_
  refine Ar.next ?_
  refine Wc.ret ?_
  refine Ar.out1 (.inr rfl) (Ho := Hp.only _ []) rfl (.agg 1 rfl rfl T.agg67) (Hp.sub_only _ _) ?_
  refine ⟨⟨false && decide (0 < l.length), a, l.length, c⟩, rfl, Big.make false hA hI.digs hI.top hlc ?_, rfl, rfl⟩
  rw [if_neg (by decide), hI.abs]
theorem big_sign (G : Imm) (x : IV) (z : Int) (hx : Big G x z) (h1 : x.n ≤ 1073741824) :
    Does Tryd.prog 72 [.agg (Cells.enc x).toArray] G [] (fun v G' Ho => v = .int .i64 (sgZ z) ∧ G' = G ∧ Ho = []) := by
  obtain ⟨n1, a, k1, ca⟩ := x
  obtain ⟨la, hl, hlc, hA, hI⟩ := hx
  simp only at hl hlc hA hI h1
  subst hl
  exact c72 G n1 a ca la z hI h1
theorem c41 (G : Imm) (x y : IV) (zx zy : Int) (hx : Big G x zx) (hy : Big G y zy) (h1 : x.n ≤ 1073741824) (h2 : y.n ≤ 1073741824) :
    Does Tryd.prog 41 [.agg (Cells.enc x).toArray, .agg (Cells.enc y).toArray] G [] (fun v G' Ho => v = .int .i64 (cmpZ zx zy) ∧ G' = G ∧ Ho = []) := by
  obtain ⟨n1, a, k1, ca⟩ := x
  obtain ⟨n2, b, k2, cb⟩ := y
  obtain ⟨la, hl, hlc, hA, hI⟩ := hx
  obtain ⟨lb, hl', hlc', hA', hI'⟩ := hy
  simp only at hl hlc hA hI hl' hlc' hA' hI' h1 h2
  subst hl hl'
  have da := hI.digs
  have db := hI'.digs
  have ta := hI.top
  have tb := hI'.top
  have va := hI.abs
  have vb := hI'.abs
  have na := hI.neg_iff
  have nb := hI'.neg_iff
  have cs : ∀ u v : Int, u < v → cmpZ u v = -1 := fun u v h => cmpZ_lt h
  have cg : ∀ u v : Int, v < u → cmpZ u v = 1 := fun u v h => cmpZ_gt h
  show Does Tryd.prog 41 [.agg #[.bool n1, .slice a la.length ca], .agg #[.bool n2, .slice b lb.length cb]] G [] _
  refine Does.enter Tryd.func41 rfl Tryd.ntmps41 rfl (fun w => ?_)
  by_cases sx : zx < 0 <;> by_cases sy : zy < 0
  · rw [na, nb, decide_eq_true sx, decide_eq_true sy]
    refine Wc.seq ?_
    refine Wc.region rfl ?_
    refine Wl.box 0 rfl rfl rfl (fun b1 => ?_)
    refine Wl.box 1 rfl rfl rfl (fun b2 => ?_)
    refine Wl.q rfl (Qy.assign rfl) ?_
    refine Wl.done ?_
    refine Ar.next ?_
    refine Wc.seq ?_
    refine Wc.block ?_
    refine Wc.seq ?_
    refine Wc.region rfl ?_
    refine Wl.q rfl (Qy.fieldAddr T.fa67_0 rfl) ?_
    refine Wl.q rfl (Qy.load 0 T.one4 rfl rfl rfl) ?_
    refine Wl.q rfl (Qy.move rfl) ?_
    refine Wl.want rfl rfl ?_
    refine Wl.q rfl (Qy.fieldAddr T.fa67_0 rfl) ?_
    refine Wl.want rfl rfl ?_
    refine Wl.q rfl (Qy.load 1 T.one4 rfl rfl rfl) ?_
    refine Wl.q rfl (Qy.pick rfl rfl) ?_
    refine Wl.q rfl (Qy.assign rfl) ?_
    refine Wl.done ?_
    refine Ar.next ?_
    refine Wc.condT rfl ?_
    refine Wc.seq ?_
    refine Wc.region rfl ?_
    refine Wl.q rfl (Qy.fieldAddr T.fa67_1 rfl) ?_
    refine Wl.q rfl (Qy.load 1 T.one65 rfl rfl rfl) ?_
    refine Wl.q rfl (Qy.fieldAddr T.fa67_1 rfl) ?_
    refine Wl.q rfl (Qy.load 0 T.one65 rfl rfl rfl) ?_
    refine Wl.call0 rfl T.fn74 rfl (c74 _ _ _ _ _ _ _ (by assumption) (by assumption) (by assumption) (by assumption) (by omega) (by omega) (by omega) (by omega)) ?_
    refine Wl.q rfl (Qy.assign rfl) ?_
    refine Wl.done ?_
    refine Ar.next ?_
    refine Wc.ret ?_
    refine Ar.outRet ?_
    refine Ar.passRet ?_
    refine Ar.out1 (.inr rfl) (Ho := Hp.only _ []) rfl (.tmp rfl) (Hp.sub_only _ _) ?_
    exact ⟨by rw [cmpZ_congr (x := valB lb) (y := valB la) (u := zx) (v := zy) (by omega) (by omega)], rfl, rfl⟩
  · rw [na, nb, decide_eq_true sx, decide_eq_false sy]
    refine Wc.seq ?_
    refine Wc.region rfl ?_
    refine Wl.box 0 rfl rfl rfl (fun b1 => ?_)
    refine Wl.box 1 rfl rfl rfl (fun b2 => ?_)
    refine Wl.q rfl (Qy.assign rfl) ?_
    refine Wl.done ?_
    refine Ar.next ?_
    refine Wc.seq ?_
    refine Wc.block ?_
    refine Wc.seq ?_
    refine Wc.region rfl ?_
    refine Wl.q rfl (Qy.fieldAddr T.fa67_0 rfl) ?_
    refine Wl.q rfl (Qy.load 0 T.one4 rfl rfl rfl) ?_
    refine Wl.q rfl (Qy.move rfl) ?_
    refine Wl.want rfl rfl ?_
    refine Wl.q rfl (Qy.fieldAddr T.fa67_0 rfl) ?_
    refine Wl.want rfl rfl ?_
    refine Wl.q rfl (Qy.load 1 T.one4 rfl rfl rfl) ?_
    refine Wl.q rfl (Qy.pick rfl rfl) ?_
    refine Wl.q rfl (Qy.assign rfl) ?_
    refine Wl.done ?_
    refine Ar.next ?_
    refine Wc.condF rfl ?_
    refine Wc.seq ?_
    refine Wc.region rfl ?_
    refine Wl.q rfl (Qy.fieldAddr T.fa67_0 rfl) ?_
    refine Wl.q rfl (Qy.load 0 T.one4 rfl rfl rfl) ?_
    refine Wl.q rfl (Qy.assign rfl) ?_
    refine Wl.done ?_
    refine Ar.next ?_
    refine Wc.condT rfl ?_
    refine Wc.seq ?_
    refine Wc.region rfl ?_
    refine Wl.q rfl (Qy.assign rfl) ?_
    refine Wl.done ?_
    refine Ar.next ?_
    refine Wc.ret ?_
    refine Ar.outRet ?_
    refine Ar.passRet ?_
    refine Ar.out1 (.inr rfl) (Ho := Hp.only _ []) rfl (.tmp rfl) (Hp.sub_only _ _) ?_
    exact ⟨by rw [cs zx zy (by omega)], rfl, rfl⟩
  · rw [na, nb, decide_eq_false sx, decide_eq_true sy]
    refine Wc.seq ?_
    refine Wc.region rfl ?_
    refine Wl.box 0 rfl rfl rfl (fun b1 => ?_)
    refine Wl.box 1 rfl rfl rfl (fun b2 => ?_)
    refine Wl.q rfl (Qy.assign rfl) ?_
    refine Wl.done ?_
    refine Ar.next ?_
    refine Wc.seq ?_
    refine Wc.block ?_
    refine Wc.seq ?_
    refine Wc.region rfl ?_
    refine Wl.q rfl (Qy.fieldAddr T.fa67_0 rfl) ?_
    refine Wl.q rfl (Qy.load 0 T.one4 rfl rfl rfl) ?_
    refine Wl.q rfl (Qy.move rfl) ?_
    refine Wl.pass rfl rfl rfl ?_
    refine Wl.pass rfl rfl rfl ?_
    refine Wl.q rfl (Qy.pick rfl rfl) ?_
    refine Wl.q rfl (Qy.assign rfl) ?_
    refine Wl.done ?_
    refine Ar.next ?_
    refine Wc.condF rfl ?_
    refine Wc.seq ?_
    refine Wc.region rfl ?_
    refine Wl.q rfl (Qy.fieldAddr T.fa67_0 rfl) ?_
    refine Wl.q rfl (Qy.load 0 T.one4 rfl rfl rfl) ?_
    refine Wl.q rfl (Qy.assign rfl) ?_
    refine Wl.done ?_
    refine Ar.next ?_
    refine Wc.condF rfl ?_
    refine Wc.seq ?_
    refine Wc.region rfl ?_
    refine Wl.q rfl (Qy.fieldAddr T.fa67_0 rfl) ?_
    refine Wl.q rfl (Qy.load 1 T.one4 rfl rfl rfl) ?_
    refine Wl.q rfl (Qy.assign rfl) ?_
    refine Wl.done ?_
    refine Ar.next ?_
    refine Wc.condT rfl ?_
    refine Wc.seq ?_
    refine Wc.region rfl ?_
    refine Wl.q rfl (Qy.assign rfl) ?_
    refine Wl.done ?_
    refine Ar.next ?_
    refine Wc.ret ?_
    refine Ar.outRet ?_
    refine Ar.passRet ?_
    refine Ar.out1 (.inr rfl) (Ho := Hp.only _ []) rfl (.tmp rfl) (Hp.sub_only _ _) ?_
    exact ⟨by rw [cg zx zy (by omega)], rfl, rfl⟩
  · rw [na, nb, decide_eq_false sx, decide_eq_false sy]
    refine Wc.seq ?_
    refine Wc.region rfl ?_
    refine Wl.box 0 rfl rfl rfl (fun b1 => ?_)
    refine Wl.box 1 rfl rfl rfl (fun b2 => ?_)
    refine Wl.q rfl (Qy.assign rfl) ?_
    refine Wl.done ?_
    refine Ar.next ?_
    refine Wc.seq ?_
    refine Wc.block ?_
    refine Wc.seq ?_
    refine Wc.region rfl ?_
    refine Wl.q rfl (Qy.fieldAddr T.fa67_0 rfl) ?_
    refine Wl.q rfl (Qy.load 0 T.one4 rfl rfl rfl) ?_
    refine Wl.q rfl (Qy.move rfl) ?_
    refine Wl.pass rfl rfl rfl ?_
    refine Wl.pass rfl rfl rfl ?_
    refine Wl.q rfl (Qy.pick rfl rfl) ?_
    refine Wl.q rfl (Qy.assign rfl) ?_
    refine Wl.done ?_
    refine Ar.next ?_
    refine Wc.condF rfl ?_
    refine Wc.seq ?_
    refine Wc.region rfl ?_
    refine Wl.q rfl (Qy.fieldAddr T.fa67_0 rfl) ?_
    refine Wl.q rfl (Qy.load 0 T.one4 rfl rfl rfl) ?_
    refine Wl.q rfl (Qy.assign rfl) ?_
    refine Wl.done ?_
    refine Ar.next ?_
    refine Wc.condF rfl ?_
    refine Wc.seq ?_
    refine Wc.region rfl ?_
    refine Wl.q rfl (Qy.fieldAddr T.fa67_0 rfl) ?_
    refine Wl.q rfl (Qy.load 1 T.one4 rfl rfl rfl) ?_
    refine Wl.q rfl (Qy.assign rfl) ?_
    refine Wl.done ?_
    refine Ar.next ?_
    refine Wc.condF rfl ?_
    refine Wc.skip ?_
    refine Ar.outNormal ?_
    refine Ar.next ?_
    refine Wc.seq ?_
    refine Wc.region rfl ?_
    refine Wl.q rfl (Qy.fieldAddr T.fa67_1 rfl) ?_
    refine Wl.q rfl (Qy.load 0 T.one65 rfl rfl rfl) ?_
    refine Wl.q rfl (Qy.fieldAddr T.fa67_1 rfl) ?_
    refine Wl.q rfl (Qy.load 1 T.one65 rfl rfl rfl) ?_
    refine Wl.call0 rfl T.fn74 rfl (c74 _ _ _ _ _ _ _ (by assumption) (by assumption) (by assumption) (by assumption) (by omega) (by omega) (by omega) (by omega)) ?_
    refine Wl.q rfl (Qy.assign rfl) ?_
    refine Wl.done ?_
    refine Ar.next ?_
    refine Wc.ret ?_
    refine Ar.out1 (.inr rfl) (Ho := Hp.only _ []) rfl (.tmp rfl) (Hp.sub_only _ _) ?_
    exact ⟨by rw [cmpZ_congr (x := valB la) (y := valB lb) (u := zx) (v := zy) (by omega) (by omega)], rfl, rfl⟩
theorem c69 (G : Imm) (x y : IV) (zx zy : Int) (hx : Big G x zx) (hy : Big G y zy) (h1 : x.n ≤ 536870912) (h2 : y.n ≤ 536870912) :
    Does Tryd.prog 69 [.agg (Cells.enc x).toArray, .agg (Cells.enc y).toArray] G [] (fun v G' Ho => ∃ r : IV, v = .agg (Cells.enc r).toArray ∧ Big G' r (zx * zy) ∧ Ho = []) := by
  obtain ⟨n1, a, k1, ca⟩ := x
  obtain ⟨n2, b, k2, cb⟩ := y
  obtain ⟨la, hl, hlc, hA, hI⟩ := hx
  obtain ⟨lb, hl', hlc', hA', hI'⟩ := hy
  simp only at hl hlc hA hI hl' hlc' hA' hI' h1 h2
  subst hl hl'
  have da := hI.digs
  have db := hI'.digs
  have ta := hI.top
  have tb := hI'.top
  show Does Tryd.prog 69 [.agg #[.bool n1, .slice a la.length ca], .agg #[.bool n2, .slice b lb.length cb]] G [] _
  refine Does.enter Tryd.func69 rfl Tryd.ntmps69 rfl (fun w => ?_)
  refine Wc.seq ?_
  refine Wc.region rfl ?_
  refine Wl.box 0 rfl rfl rfl (fun b1 => ?_)
  refine Wl.box 1 rfl rfl rfl (fun b2 => ?_)
  refine Wl.alloc 2 rfl T.zero67 (fun b3 => ?_)
  refine Wl.done ?_
  refine Ar.next ?_
  refine Wc.seq ?_
  refine Wc.draw [0, 1, 2] [(2, 11)] T.mixed rfl ?_
  refine Gm.q 0 [] (by kernel_rfl) rfl rfl (Qy.fieldAddr T.fa67_0 rfl) ?_
  refine Gm.q 1 [0] (by kernel_rfl) rfl rfl (Qy.load 0 T.one4 rfl rfl rfl) ?_
  refine Gm.q 2 [] (by kernel_rfl) rfl rfl (Qy.fieldAddr T.fa67_0 rfl) ?_
  refine Gm.q 3 [1] (by kernel_rfl) rfl rfl (Qy.load 1 T.one4 rfl rfl rfl) ?_
  refine Gm.q 4 [] (by kernel_rfl) rfl rfl (Qy.neqB T.u4 rfl rfl) ?_
  refine Gm.q 5 [] (by kernel_rfl) rfl rfl (Qy.fieldAddr T.fa67_1 rfl) ?_
  refine Gm.q 6 [0] (by kernel_rfl) rfl rfl (Qy.load 0 T.one65 rfl rfl rfl) ?_
  refine Gm.q 7 [] (by kernel_rfl) rfl rfl (Qy.fieldAddr T.fa67_1 rfl) ?_
  refine Gm.q 8 [1] (by kernel_rfl) rfl rfl (Qy.load 1 T.one65 rfl rfl rfl) ?_
  refine Gm.one 9 ⟨rfl, rfl, rfl, trivial⟩ (by first | exact Imm.le_refl _ | assumption | (refine Imm.le_trans ?_ (by assumption); first | assumption | (refine Imm.le_trans ?_ (by assumption); assumption))) (by kernel_rfl) rfl ?_
  refine Wl.call 3 rfl T.fn92 rfl (c92 _ _ _ _ _ _ _ (by assumption) (by assumption) (by assumption) (by assumption) (by omega) (by omega)) (tags_of trivial) (fun v1 G1 Ho1 hle1 hp => ?_)
  obtain ⟨⟨ra1, rm1, rfl, hra1, hrl1, hrt1, hrv1, hrn1⟩, rfl⟩ := hp
  replace hA := hA.up hle1
  replace hA' := hA'.up hle1
  refine Wl.on0 ?_
  refine Gm.one 10 ⟨rfl, rfl, rfl, trivial⟩ (by first | exact Imm.le_refl _ | assumption | (refine Imm.le_trans ?_ (by assumption); first | assumption | (refine Imm.le_trans ?_ (by assumption); assumption))) (by kernel_rfl) rfl ?_
  refine Wl.call0 rfl T.fn89 rfl (c89 _ _ _ _ _ (by omega)) ?_
  refine Wl.on0 ?_
  refine Gm.one 11 ⟨rfl, rfl, rfl, trivial⟩ (by first | exact Imm.le_refl _ | assumption | (refine Imm.le_trans ?_ (by assumption); first | assumption | (refine Imm.le_trans ?_ (by assumption); assumption))) (by kernel_rfl) rfl ?_
  refine Wl.storeAll 2 T.size67 rfl rfl rfl rfl rfl rfl ?_
  refine Wl.on0 ?_
  refine Gm.doneA (by kernel_rfl) ⟨rfl, rfl, trivial⟩ (by first | exact Imm.le_refl _ | assumption | (refine Imm.le_trans ?_ (by assumption); first | assumption | (refine Imm.le_trans ?_ (by assumption); assumption))) ?_
  refine Ar.next ?_
  refine Wc.ret ?_
  refine Ar.out1 (.inr rfl) (Ho := Hp.only _ []) rfl (.agg 2 rfl rfl T.agg67) (Hp.sub_only _ _) ?_
  refine ⟨⟨decide (n1 ≠ n2) && decide (0 < rm1.length), ra1, rm1.length, rm1.length⟩, rfl, Big.make (decide (n1 ≠ n2)) hra1 hrl1 hrt1 (Nat.le_refl _) ?_, rfl⟩
  rw [hrv1, hI.val, hI'.val]
  cases n1 <;> cases n2 <;> simp [Int.neg_mul, Int.mul_neg]
end Go.Proofs.YtbppmiimeccclaaDoor
set_option maxRecDepth 100000
set_option linter.unusedVariables false
namespace Go.Proofs.YtbppmiimeccclaaDoor
open Go Go.Sl
set_option maxHeartbeats 4000000
theorem wrap_neg {n : Int} (h : -9223372036854775808 ≤ n ∧ n < 0) : IntKind.u64.wrap (0 - IntKind.u64.wrap n) = -n := by
  rw [IntKind.wrap_u64, IntKind.wrap_u64]; omega
theorem two_val (u : Int) : valB [(⟨u % 4294967296⟩ : U32), ⟨u / 4294967296⟩] = u := by
  rw [valB_cons, valB_cons, valB_nil]
  show u % 4294967296 + 4294967296 * (u / 4294967296 + 4294967296 * 0) = u
  omega
theorem two_lims {u : Int} (h : 0 ≤ u ∧ u < 18446744073709551616) : Lims [(⟨u % 4294967296⟩ : U32), ⟨u / 4294967296⟩] := by
  intro d hd
  simp only [List.mem_cons, List.mem_nil_iff, or_false] at hd
  rcases hd with rfl | rfl
  · exact mod32 u
  · show 0 ≤ u / 4294967296 ∧ u / 4294967296 < 4294967296
    omega
theorem Big.lt {G : Imm} {x : IV} {z : Int} (h : Big G x z) : (z.natAbs : Int) < pb x.n := by
  obtain ⟨l, h1, _, _, h4⟩ := h
  rw [← h4.abs, ← h1]; exact valB_lt h4.digs
attribute [local irreducible] valB pb cmpZ lstWp
theorem c38 (G : Imm) (n : Int) (hn : -9223372036854775808 ≤ n ∧ n ≤ 9223372036854775807) :
    Does Tryd.prog 38 [.int .i64 n] G [] (fun v G' Ho => ∃ r : IV, v = .agg (Cells.enc r).toArray ∧ Big G' r n ∧ Ho = []) := by
  refine Does.enter Tryd.func38 rfl Tryd.ntmps38 rfl (fun w => ?_)
  refine Wc.seq ?_
  refine Wc.region rfl ?_
  refine Wl.alloc 0 rfl T.zero67 (fun b1 => ?_)
  refine Wl.done ?_
  refine Ar.next ?_
  refine Wc.seq ?_
  refine Wc.region rfl ?_
  refine Wl.q rfl (Qy.move rfl) ?_
  refine Wl.q rfl (Qy.conv rfl T.u126 rfl) ?_
  refine Wl.q rfl (Qy.assign rfl) ?_
  refine Wl.done ?_
  refine Ar.next ?_
  refine Wc.meet (ι := Int) (fun u => ([(0, .int .i64 n), (2, .pointer (some ⟨b1, 0, none⟩)), (3, .int .u64 u)], [(0, some b1, .cells #[.bool false, .slice none 0 0] 67)])) (fun u => 0 ≤ u ∧ u < 18446744073709551616 ∧ n = if decide (n < 0) = true then -u else u) ?_ (fun u => fun (hk : 0 ≤ u ∧ u < 18446744073709551616 ∧ n = if decide (n < 0) = true then -u else u) => ?_)
  · by_cases hneg : n < 0
    · refine Wc.seq ?_
      refine Wc.region rfl ?_
      refine Wl.q rfl (Qy.move rfl) ?_
      refine Wl.q rfl (Qy.lss rfl rfl) ?_
      refine Wl.done ?_
      refine Ar.next ?_
      refine Wc.condP rfl (by first | assumption | omega) ?_
      refine Wc.region rfl ?_
      refine Wl.q rfl (Qy.move rfl) ?_
      refine Wl.q rfl (Qy.negW rfl) ?_
      refine Wl.q rfl (Qy.assign rfl) ?_
      refine Wl.done ?_
      refine Ar.re 3 rfl (show _ = Value.int .u64 (-n) by rw [wrap_neg ⟨hn.1, hneg⟩]) ?_
      refine Ar.meet (-n) ?_ rfl ⟨rfl, rfl, rfl, trivial⟩ ⟨rfl, trivial⟩
      exact ⟨by omega, by omega, by rw [if_pos (by simpa using hneg)]; omega⟩
    · refine Wc.seq ?_
      refine Wc.region rfl ?_
      refine Wl.q rfl (Qy.move rfl) ?_
      refine Wl.q rfl (Qy.lss rfl rfl) ?_
      refine Wl.done ?_
      refine Ar.next ?_
      refine Wc.condN rfl (by first | assumption | omega) ?_
      refine Wc.skip ?_
      refine Ar.re 3 rfl (show _ = Value.int .u64 n by rw [IntWalk.u64_in _ (by omega)]) ?_
      refine Ar.meet (n) ?_ rfl ⟨rfl, rfl, rfl, trivial⟩ ⟨rfl, trivial⟩
      exact ⟨by omega, by omega, by rw [if_neg (by simpa using hneg)]⟩
  obtain ⟨hu0, hu1, hun⟩ := hk
  refine Wc.seq ?_
  refine Wc.region rfl ?_
  refine Wl.q rfl (Qy.move rfl) ?_
  refine Wl.q rfl (Qy.lss rfl rfl) ?_
  refine Wl.q rfl (Qy.move rfl) ?_
  refine Wl.q rfl (Qy.trunc32 rfl T.u128 rfl) ?_
  refine Wl.q rfl (Qy.move rfl) ?_
  refine Wl.q rfl (Qy.shr32 rfl rfl (by omega)) ?_
  refine Wl.q rfl (Qy.conv32 rfl T.u128 rfl (by omega)) ?_
  refine Wl.lit (α := U32) 1 [⟨u % 4294967296⟩, ⟨u / 4294967296⟩] rfl T.sl65 T.el128 rfl rfl rfl rfl rfl (fun b2 => ?_)
  have hd := two_lims ⟨hu0, hu1⟩
  refine Wl.freezeRow 1 rfl (OwnA.made (xs := [(⟨u % 4294967296⟩ : U32), ⟨u / 4294967296⟩]) (by simp [maxLen])) (fun G9 hle9 hA9 => ?_)
  refine Wl.call 2 rfl T.fn73 rfl (c73 _ _ _ _ _ (by assumption) (by assumption) (by first | omega | (simp only [List.length_cons, List.length_nil]; omega)) (by first | omega | (simp only [List.length_cons, List.length_nil]; omega))) (tags_of trivial) (fun v1 G1 Ho1 hle1 hp => ?_)
  obtain ⟨r1, rfl, hr1, rfl⟩ := hp
  replace hA9 := hA9.up hle1
  refine Wl.storeAll 0 T.size67 rfl rfl rfl rfl rfl rfl ?_
  refine Wl.done ?_
  refine Ar.next ?_
  refine Wc.ret ?_
  refine Ar.out1 (.inr rfl) (Ho := Hp.only _ []) rfl (.agg 0 rfl rfl T.agg67) (Hp.sub_only _ _) ?_
  exact ⟨_, rfl, Big.out hr1 (by rw [two_val]; exact hun.symm), rfl⟩
theorem c67 (G : Imm) (x y : IV) (zx zy : Int) (hx : Big G x zx) (hy : Big G y zy) (h1 : x.n ≤ 536870912) (h2 : y.n ≤ 536870912) :
    Does Tryd.prog 67 [.agg (Cells.enc x).toArray, .agg (Cells.enc y).toArray] G [] (fun v G' Ho => ∃ r : IV, v = .agg (Cells.enc r).toArray ∧ Big G' r (zx + zy) ∧ Ho = []) := by
  obtain ⟨n1, a, k1, ca⟩ := x
  obtain ⟨n2, b, k2, cb⟩ := y
  obtain ⟨la, hl, hlc, hA, hI⟩ := hx
  obtain ⟨lb, hl', hlc', hA', hI'⟩ := hy
  simp only at hl hlc hA hI hl' hlc' hA' hI' h1 h2
  subst hl hl'
  have da := hI.digs
  have db := hI'.digs
  have ta := hI.top
  have tb := hI'.top
  have len_le : ∀ {l m : List U32}, Lims l → Lims m → Top m → valB m ≤ valB l → m.length ≤ l.length := fun {l m} hl hm tm h => by
    rcases Nat.lt_or_ge l.length m.length with h1 | h1
    · have := ltop_lt_len hl hm tm h1; omega
    · exact h1
  show Does Tryd.prog 67 [.agg #[.bool n1, .slice a la.length ca], .agg #[.bool n2, .slice b lb.length cb]] G [] _
  refine Does.enter Tryd.func67 rfl Tryd.ntmps67 rfl (fun w => ?_)
  by_cases hs : n1 = n2
  · refine Wc.seq ?_
    refine Wc.region rfl ?_
    refine Wl.box 0 rfl rfl rfl (fun b1 => ?_)
    refine Wl.box 1 rfl rfl rfl (fun b2 => ?_)
    refine Wl.alloc 2 rfl T.zero67 (fun b3 => ?_)
    refine Wl.done ?_
    refine Ar.next ?_
    refine Wc.seq ?_
    refine Wc.seq ?_
    refine Wc.region rfl ?_
    refine Wl.q rfl (Qy.fieldAddr T.fa67_0 rfl) ?_
    refine Wl.q rfl (Qy.load 0 T.one4 rfl rfl rfl) ?_
    refine Wl.q rfl (Qy.fieldAddr T.fa67_0 rfl) ?_
    refine Wl.q rfl (Qy.load 1 T.one4 rfl rfl rfl) ?_
    refine Wl.q rfl (Qy.eqlB T.u4 rfl rfl) ?_
    refine Wl.done ?_
    refine Ar.next ?_
    refine Wc.condP rfl (by first | assumption | omega) ?_
    refine Wc.seq ?_
    refine Wc.draw [0, 1, 2] [(2, 8)] T.mixed rfl ?_
    refine Gm.q 0 [] (by kernel_rfl) rfl rfl (Qy.fieldAddr T.fa67_0 rfl) ?_
    refine Gm.q 1 [0] (by kernel_rfl) rfl rfl (Qy.load 0 T.one4 rfl rfl rfl) ?_
    refine Gm.q 2 [] (by kernel_rfl) rfl rfl (Qy.fieldAddr T.fa67_1 rfl) ?_
    refine Gm.q 3 [0] (by kernel_rfl) rfl rfl (Qy.load 0 T.one65 rfl rfl rfl) ?_
    refine Gm.q 4 [] (by kernel_rfl) rfl rfl (Qy.fieldAddr T.fa67_1 rfl) ?_
    refine Gm.q 5 [1] (by kernel_rfl) rfl rfl (Qy.load 1 T.one65 rfl rfl rfl) ?_
    refine Gm.one 6 ⟨rfl, rfl, rfl, trivial⟩ (by first | exact Imm.le_refl _ | assumption | (refine Imm.le_trans ?_ (by assumption); first | assumption | (refine Imm.le_trans ?_ (by assumption); assumption))) (by kernel_rfl) rfl ?_
    refine Wl.call 3 rfl T.fn90 rfl (c90 _ _ _ _ _ _ _ (by assumption) (by assumption) (by assumption) (by assumption) (by omega) (by omega)) (tags_of trivial) (fun v1 G1 Ho1 hle1 hp => ?_)
    obtain ⟨⟨ra1, rm1, rfl, hra1, hrl1, hrt1, hrv1, hrn1⟩, rfl⟩ := hp
    replace hA := hA.up hle1
    replace hA' := hA'.up hle1
    refine Wl.on0 ?_
    refine Gm.one 7 ⟨rfl, rfl, rfl, trivial⟩ (by first | exact Imm.le_refl _ | assumption | (refine Imm.le_trans ?_ (by assumption); first | assumption | (refine Imm.le_trans ?_ (by assumption); assumption))) (by kernel_rfl) rfl ?_
    refine Wl.call0 rfl T.fn89 rfl (c89 _ _ _ _ _ (by omega)) ?_
    refine Wl.on0 ?_
    refine Gm.one 8 ⟨rfl, rfl, rfl, trivial⟩ (by first | exact Imm.le_refl _ | assumption | (refine Imm.le_trans ?_ (by assumption); first | assumption | (refine Imm.le_trans ?_ (by assumption); assumption))) (by kernel_rfl) rfl ?_
    refine Wl.storeAll 2 T.size67 rfl rfl rfl rfl rfl rfl ?_
    refine Wl.on0 ?_
    refine Gm.doneA (by kernel_rfl) ⟨rfl, rfl, trivial⟩ (by first | exact Imm.le_refl _ | assumption | (refine Imm.le_trans ?_ (by assumption); first | assumption | (refine Imm.le_trans ?_ (by assumption); assumption))) ?_
    refine Ar.next ?_
    refine Wc.ret ?_
    refine Ar.passRet ?_
    refine Ar.out1 (.inr rfl) (Ho := Hp.only _ []) rfl (.agg 2 rfl rfl T.agg67) (Hp.sub_only _ _) ?_
    all_goals
      refine ⟨⟨n1 && decide (0 < rm1.length), ra1, rm1.length, rm1.length⟩, rfl, Big.make n1 hra1 hrl1 hrt1 (Nat.le_refl _) ?_, rfl⟩
      rw [hrv1, hI.val, hI'.val]
      revert hs
      cases n1 <;> cases n2 <;> simp <;> omega
  · by_cases hle : valB lb ≤ valB la
    · have hcmp : ¬ cmpZ (valB la) (valB lb) < 0 := fun h => by have := cmpZ_neg h; omega
      have hll := len_le da db tb hle
      refine Wc.seq ?_
      refine Wc.region rfl ?_
      refine Wl.box 0 rfl rfl rfl (fun b1 => ?_)
      refine Wl.box 1 rfl rfl rfl (fun b2 => ?_)
      refine Wl.alloc 2 rfl T.zero67 (fun b3 => ?_)
      refine Wl.done ?_
      refine Ar.next ?_
      refine Wc.seq ?_
      refine Wc.seq ?_
      refine Wc.region rfl ?_
      refine Wl.q rfl (Qy.fieldAddr T.fa67_0 rfl) ?_
      refine Wl.q rfl (Qy.load 0 T.one4 rfl rfl rfl) ?_
      refine Wl.q rfl (Qy.fieldAddr T.fa67_0 rfl) ?_
      refine Wl.q rfl (Qy.load 1 T.one4 rfl rfl rfl) ?_
      refine Wl.q rfl (Qy.eqlB T.u4 rfl rfl) ?_
      refine Wl.done ?_
      refine Ar.next ?_
      refine Wc.condN rfl (by first | assumption | omega) ?_
      refine Wc.skip ?_
      refine Ar.next ?_
      refine Wc.seq ?_
      refine Wc.seq ?_
      refine Wc.region rfl ?_
      refine Wl.q rfl (Qy.fieldAddr T.fa67_1 rfl) ?_
      refine Wl.q rfl (Qy.load 0 T.one65 rfl rfl rfl) ?_
      refine Wl.q rfl (Qy.fieldAddr T.fa67_1 rfl) ?_
      refine Wl.q rfl (Qy.load 1 T.one65 rfl rfl rfl) ?_
      refine Wl.call0 rfl T.fn74 rfl (c74 _ _ _ _ _ _ _ (by assumption) (by assumption) (by assumption) (by assumption) (by omega) (by omega) (by omega) (by omega)) ?_
      refine Wl.q rfl (Qy.lss rfl rfl) ?_
      refine Wl.done ?_
      refine Ar.next ?_
      refine Wc.condN rfl (by first | assumption | omega) ?_
      refine Wc.skip ?_
      refine Ar.next ?_
      refine Wc.seq ?_
      refine Wc.region rfl ?_
      refine Wl.q rfl (Qy.fieldAddr T.fa67_1 rfl) ?_
      refine Wl.q rfl (Qy.load 0 T.one65 rfl rfl rfl) ?_
      refine Wl.q rfl (Qy.fieldAddr T.fa67_1 rfl) ?_
      refine Wl.q rfl (Qy.load 1 T.one65 rfl rfl rfl) ?_
      refine Wl.call 3 rfl T.fn91 rfl (c91 _ _ _ _ _ _ _ (by assumption) (by assumption) (by assumption) (by assumption) (by omega) (by omega) (by omega) (by omega) (by omega)) (tags_of trivial) (fun v1 G1 Ho1 hle1 hp => ?_)
      obtain ⟨rq1, rfl, ⟨ra1, rm1, rfl, hra1, hrl1, hrt1, hrv1, hrn1⟩, rfl⟩ := hp
      replace hA := hA.up hle1
      replace hA' := hA'.up hle1
      refine Wl.q rfl (Qy.move rfl) ?_
      refine Wl.q rfl (Qy.extract rfl rfl) ?_
      refine Wl.q rfl (Qy.extract rfl rfl) ?_
      refine Wl.q rfl (Qy.assign rfl) ?_
      refine Wl.q rfl (Qy.assign rfl) ?_
      refine Wl.done ?_
      refine Ar.next ?_
      refine Wc.seq ?_
      refine Wc.region rfl ?_
      refine Wl.q rfl (Qy.fieldAddr T.fa67_0 rfl) ?_
      refine Wl.q rfl (Qy.load 0 T.one4 rfl rfl rfl) ?_
      refine Wl.q rfl (Qy.move rfl) ?_
      refine Wl.call0 rfl T.fn89 rfl (c89 _ _ _ _ _ (by omega)) ?_
      refine Wl.storeAll 2 T.size67 rfl rfl rfl rfl rfl rfl ?_
      refine Wl.done ?_
      refine Ar.next ?_
      refine Wc.ret ?_
      refine Ar.out1 (.inr rfl) (Ho := Hp.only _ []) rfl (.agg 2 rfl rfl T.agg67) (Hp.sub_only _ _) ?_
      refine ⟨⟨n1 && decide (0 < rm1.length), ra1, rm1.length, rm1.length⟩, rfl, Big.make n1 hra1 hrl1 hrt1 (Nat.le_refl _) ?_, rfl⟩
      rw [hrv1, hI.val, hI'.val]
      revert hs
      cases n1 <;> cases n2 <;> simp <;> omega
    · have hcmp : cmpZ (valB la) (valB lb) = -1 := cmpZ_lt (by omega)
      have hle' : valB la ≤ valB lb := by omega
      have hll := len_le db da ta hle'
      refine Wc.seq ?_
      refine Wc.region rfl ?_
      refine Wl.box 0 rfl rfl rfl (fun b1 => ?_)
      refine Wl.box 1 rfl rfl rfl (fun b2 => ?_)
      refine Wl.alloc 2 rfl T.zero67 (fun b3 => ?_)
      refine Wl.done ?_
      refine Ar.next ?_
      refine Wc.seq ?_
      refine Wc.seq ?_
      refine Wc.region rfl ?_
      refine Wl.q rfl (Qy.fieldAddr T.fa67_0 rfl) ?_
      refine Wl.q rfl (Qy.load 0 T.one4 rfl rfl rfl) ?_
      refine Wl.q rfl (Qy.fieldAddr T.fa67_0 rfl) ?_
      refine Wl.q rfl (Qy.load 1 T.one4 rfl rfl rfl) ?_
      refine Wl.q rfl (Qy.eqlB T.u4 rfl rfl) ?_
      refine Wl.done ?_
      refine Ar.next ?_
      refine Wc.condN rfl (by first | assumption | omega) ?_
      refine Wc.skip ?_
      refine Ar.next ?_
      refine Wc.seq ?_
      refine Wc.seq ?_
      refine Wc.region rfl ?_
      refine Wl.q rfl (Qy.fieldAddr T.fa67_1 rfl) ?_
      refine Wl.q rfl (Qy.load 0 T.one65 rfl rfl rfl) ?_
      refine Wl.q rfl (Qy.fieldAddr T.fa67_1 rfl) ?_
      refine Wl.q rfl (Qy.load 1 T.one65 rfl rfl rfl) ?_
      refine Wl.call0 rfl T.fn74 rfl (c74 _ _ _ _ _ _ _ (by assumption) (by assumption) (by assumption) (by assumption) (by omega) (by omega) (by omega) (by omega)) ?_
      refine Wl.q rfl (Qy.lss rfl rfl) ?_
      refine Wl.done ?_
      refine Ar.next ?_
      refine Wc.condP rfl (by first | assumption | omega) ?_
      refine Wc.region rfl ?_
      refine Wl.q rfl (Qy.loadAll 1 T.agg67 rfl rfl rfl) ?_
      refine Wl.q rfl (Qy.loadAll 0 T.agg67 rfl rfl rfl) ?_
      refine Wl.storeAll 0 T.size67 rfl rfl rfl rfl rfl rfl ?_
      refine Wl.storeAll 1 T.size67 rfl rfl rfl rfl rfl rfl ?_
      refine Wl.done ?_
      refine Ar.next ?_
      refine Wc.seq ?_
      refine Wc.region rfl ?_
      refine Wl.q rfl (Qy.fieldAddr T.fa67_1 rfl) ?_
      refine Wl.q rfl (Qy.load 0 T.one65 rfl rfl rfl) ?_
      refine Wl.q rfl (Qy.fieldAddr T.fa67_1 rfl) ?_
      refine Wl.q rfl (Qy.load 1 T.one65 rfl rfl rfl) ?_
      refine Wl.call 3 rfl T.fn91 rfl (c91 _ _ _ _ _ _ _ (by assumption) (by assumption) (by assumption) (by assumption) (by omega) (by omega) (by omega) (by omega) (by omega)) (tags_of trivial) (fun v1 G1 Ho1 hle1 hp => ?_)
      obtain ⟨rq1, rfl, ⟨ra1, rm1, rfl, hra1, hrl1, hrt1, hrv1, hrn1⟩, rfl⟩ := hp
      replace hA := hA.up hle1
      replace hA' := hA'.up hle1
      refine Wl.q rfl (Qy.move rfl) ?_
      refine Wl.q rfl (Qy.extract rfl rfl) ?_
      refine Wl.q rfl (Qy.extract rfl rfl) ?_
      refine Wl.q rfl (Qy.assign rfl) ?_
      refine Wl.q rfl (Qy.assign rfl) ?_
      refine Wl.done ?_
      refine Ar.next ?_
      refine Wc.seq ?_
      refine Wc.region rfl ?_
      refine Wl.q rfl (Qy.fieldAddr T.fa67_0 rfl) ?_
      refine Wl.q rfl (Qy.load 0 T.one4 rfl rfl rfl) ?_
      refine Wl.q rfl (Qy.move rfl) ?_
      refine Wl.call0 rfl T.fn89 rfl (c89 _ _ _ _ _ (by omega)) ?_
      refine Wl.storeAll 2 T.size67 rfl rfl rfl rfl rfl rfl ?_
      refine Wl.done ?_
      refine Ar.next ?_
      refine Wc.ret ?_
      refine Ar.out1 (.inr rfl) (Ho := Hp.only _ []) rfl (.agg 2 rfl rfl T.agg67) (Hp.sub_only _ _) ?_
      refine ⟨⟨n2 && decide (0 < rm1.length), ra1, rm1.length, rm1.length⟩, rfl, Big.make n2 hra1 hrl1 hrt1 (Nat.le_refl _) ?_, rfl⟩
      rw [hrv1, hI.val, hI'.val]
      revert hs
      cases n1 <;> cases n2 <;> simp <;> omega
theorem c68 (G : Imm) (x y : IV) (zx zy : Int) (hx : Big G x zx) (hy : Big G y zy) (h1 : x.n ≤ 536870912) (h2 : y.n ≤ 536870912) :
    Does Tryd.prog 68 [.agg (Cells.enc x).toArray, .agg (Cells.enc y).toArray] G [] (fun v G' Ho => ∃ r : IV, v = .agg (Cells.enc r).toArray ∧ Big G' r (zx - zy) ∧ Ho = []) := by
  refine Does.enter Tryd.func68 rfl Tryd.ntmps68 rfl (fun w => ?_)
  refine Wc.seq ?_
  refine Wc.region rfl ?_
  refine Wl.box 0 rfl rfl rfl (fun b1 => ?_)
  refine Wl.box 1 rfl rfl rfl (fun b2 => ?_)
  refine Wl.alloc 2 rfl T.zero67 (fun b3 => ?_)
  refine Wl.done ?_
  refine Ar.next ?_
  refine Wc.seq ?_
  refine Wc.draw [0, 1, 2] [(2, 4)] T.mixed rfl ?_
  refine Gm.q 0 [0] (by kernel_rfl) rfl rfl (Qy.loadAll 0 T.agg67 rfl rfl rfl) ?_
  refine Gm.q 1 [1] (by kernel_rfl) rfl rfl (Qy.loadAll 1 T.agg67 rfl rfl rfl) ?_
  refine Gm.one 2 ⟨rfl, rfl, rfl, trivial⟩ (by first | exact Imm.le_refl _ | assumption | (refine Imm.le_trans ?_ (by assumption); first | assumption | (refine Imm.le_trans ?_ (by assumption); assumption))) (by kernel_rfl) rfl ?_
  refine Wl.call 3 rfl T.fn66 rfl (c66 _ _ _ hy (by omega)) (tags_of trivial) (fun v1 G1 Ho1 hle1 hp => ?_)
  obtain ⟨nr1, rfl, hnr1, rfl, rfl⟩ := hp
  refine Wl.on0 ?_
  refine Gm.one 3 ⟨rfl, rfl, rfl, trivial⟩ (by first | exact Imm.le_refl _ | assumption | (refine Imm.le_trans ?_ (by assumption); first | assumption | (refine Imm.le_trans ?_ (by assumption); assumption))) (by kernel_rfl) rfl ?_
  have hn1 : nr1.n ≤ y.n := Big.len hnr1 (by rw [Int.natAbs_neg]; exact Big.lt hy)
  refine Wl.call 20 rfl T.fn67 rfl (c67 _ x nr1 zx (-zy) hx hnr1 h1 (by omega)) (tags_of trivial) (fun v2 G2 Ho2 hle2 hp => ?_)
  obtain ⟨r2, rfl, hr2, rfl⟩ := hp
  refine Wl.on0 ?_
  refine Gm.one 4 ⟨rfl, rfl, rfl, trivial⟩ (by first | exact Imm.le_refl _ | assumption | (refine Imm.le_trans ?_ (by assumption); first | assumption | (refine Imm.le_trans ?_ (by assumption); assumption))) (by kernel_rfl) rfl ?_
  refine Wl.storeAll 2 T.size67 rfl rfl rfl rfl rfl rfl ?_
  refine Wl.on0 ?_
  refine Gm.doneA (by kernel_rfl) ⟨rfl, rfl, trivial⟩ (by first | exact Imm.le_refl _ | assumption | (refine Imm.le_trans ?_ (by assumption); first | assumption | (refine Imm.le_trans ?_ (by assumption); assumption))) ?_
  refine Ar.next ?_
  refine Wc.ret ?_
  refine Ar.out1 (.inr rfl) (Ho := Hp.only _ []) rfl (.agg 2 rfl rfl T.agg67) (Hp.sub_only _ _) ?_
  exact ⟨r2, rfl, Big.out hr2 (Int.sub_eq_add_neg).symm, rfl⟩
theorem pb_p2 (d s : Nat) : pb d * ((2 ^ s : Nat) : Int) = ((2 ^ (32 * d + s) : Nat) : Int) := by
  unfold pb
  rw [← Int.natCast_mul]
  congr 1
  rw [show (4294967296 : Nat) = 2 ^ 32 by decide, ← Nat.pow_mul, ← Nat.pow_add]
theorem c109 (G : Imm) (x : IV) (zx : Int) (d s : Nat) (hx : Big G x zx) (h1 : x.n ≤ 536870912) (hs : s < 32) (hd : d ≤ 1000) :
    Does Tryd.prog 109 [.agg (Cells.enc x).toArray, .int .i64 ((32 * d + s : Nat) : Int)] G [] (fun v G' Ho => ∃ r : IV, v = .tuple #[.agg (Cells.enc r).toArray, .int .i64 0] ∧ Big G' r (zx * ((2 ^ (32 * d + s) : Nat) : Int)) ∧ Ho = []) := by
  obtain ⟨n1, a, k1, ca⟩ := x
  obtain ⟨la, hl, hlc, hA, hI⟩ := hx
  simp only at hl hlc hA hI h1
  subst hl
  have da := hI.digs
  show Does Tryd.prog 109 [.agg #[.bool n1, .slice a la.length ca], .int .i64 ((32 * d + s : Nat) : Int)] G [] _
  refine Does.enter Tryd.func109 rfl Tryd.ntmps109 rfl (fun w => ?_)
  refine Wc.seq ?_
  refine Wc.region rfl ?_
  refine Wl.box 0 rfl rfl rfl (fun b1 => ?_)
  refine Wl.alloc 1 rfl T.zero67 (fun b2 => ?_)
  refine Wl.q rfl (Qy.assign rfl) ?_
  refine Wl.done ?_
  refine Ar.next ?_
  refine Wc.seq ?_
  refine Wc.region rfl ?_
  refine Wl.q rfl (Qy.fieldAddr T.fa67_1 rfl) ?_
  refine Wl.q rfl (Qy.load 0 T.one65 rfl rfl rfl) ?_
  refine Wl.q rfl (Qy.move rfl) ?_
  refine Wl.call 2 rfl T.fn112 rfl (c112 _ _ _ _ d s (by assumption) (by assumption) (by omega) hs hd) (tags_of trivial) (fun v1 G1 Ho1 hle1 hp => ?_)
  obtain ⟨rq1, rfl, ⟨ra1, rm1, rfl, hra1, hrl1, hrt1, hrv1, hrn1⟩, rfl⟩ := hp
  replace hA := hA.up hle1
  refine Wl.q rfl (Qy.move rfl) ?_
  refine Wl.q rfl (Qy.extract rfl rfl) ?_
  refine Wl.q rfl (Qy.extract rfl rfl) ?_
  refine Wl.q rfl (Qy.assign rfl) ?_
  refine Wl.q rfl (Qy.assign rfl) ?_
  refine Wl.done ?_
  refine Ar.next ?_
  refine Wc.seq ?_
  refine Wc.seq ?_
  refine Wc.region rfl ?_
  refine Wl.q rfl (Qy.move rfl) ?_
  refine Wl.q rfl (Qy.neq rfl rfl) ?_
  refine Wl.done ?_
  refine Ar.next ?_
  refine Wc.condN rfl (by first | assumption | omega) ?_
  refine Wc.skip ?_
  refine Ar.next ?_
  refine Wc.seq ?_
  refine Wc.region rfl ?_
  refine Wl.q rfl (Qy.fieldAddr T.fa67_0 rfl) ?_
  refine Wl.q rfl (Qy.load 0 T.one4 rfl rfl rfl) ?_
  refine Wl.q rfl (Qy.move rfl) ?_
  refine Wl.call0 rfl T.fn89 rfl (c89 _ _ _ _ _ (by omega)) ?_
  refine Wl.storeAll 1 T.size67 rfl rfl rfl rfl rfl rfl ?_
  refine Wl.q rfl (Qy.assign rfl) ?_
  refine Wl.done ?_
  refine Ar.next ?_
  refine Wc.ret ?_
  refine Ar.out2 (.inr rfl) (Ho := Hp.only _ []) rfl (.agg 1 rfl rfl T.agg67) (.tmp rfl) (Hp.sub_only _ _) ?_
  refine ⟨⟨n1 && decide (0 < rm1.length), ra1, rm1.length, rm1.length⟩, rfl, Big.make n1 hra1 hrl1 hrt1 (Nat.le_refl _) ?_, rfl⟩
  rw [hrv1, hI.val, pb_p2]
  cases n1
  · rw [if_neg (by decide), if_neg (by decide), Int.mul_comm]
  · rw [if_pos rfl, if_pos rfl, Int.neg_mul, Int.mul_comm]
end Go.Proofs.YtbppmiimeccclaaDoor
set_option linter.unusedVariables false
namespace Go.Sl
open Go
section
variable {B : Bs} {e : Env} {D : List Deferred} {H : Hp} {G : Imm}
/-- a block under another tag -/
theorem retagH {a : Act} {w : World} (hh : Hold B ⟨e, D, H, G⟩ a w) (t t' : Nat) {k : Option Nat} {o : Obj} (ht : H.get t = some (k, o)) (hn : t ≠ t') (hk : H.get t' = none ∨ True) : Hold B ⟨e, D, (t', k, o) :: (t, none, o) :: H, G⟩ a w := by
  have key : ∀ i b o', Hp.get ((t', k, o) :: (t, none, o) :: H) i = some (some b, o') → (i = t' ∧ H.get t = some (some b, o')) ∨ (i ≠ t' ∧ i ≠ t ∧ H.get i = some (some b, o')) := fun i b o' hx => by
    rw [Hp.get_cons] at hx
    split at hx
    · rename_i hi; left; refine ⟨hi.symm, ?_⟩; rw [ht]; exact hx
    · rename_i hi
      rw [Hp.get_cons] at hx
      split at hx
      · simp at hx
      · rename_i hi2; exact .inr ⟨fun h => hi h.symm, fun h => hi2 h.symm, hx⟩
  refine ⟨hh.size, hh.defers, hh.env, ⟨?_, ?_, hh.mem.imm, ?_⟩, hh.upd, ?_, hh.le, hh.new⟩
  · intro i b o' hx
    rcases key i b o' hx with ⟨_, h⟩ | ⟨_, _, h⟩
    · exact hh.mem.own _ b o' h
    · exact hh.mem.own _ b o' h
  · intro i i' b o1 o2 hx hy
    rcases key i b o1 hx with ⟨h1, h2⟩ | ⟨h1, h1', h2⟩ <;> rcases key i' b o2 hy with ⟨h3, h4⟩ | ⟨h3, h3', h4⟩
    · rw [h1, h3]
    · exact absurd (hh.mem.one _ _ b _ _ h2 h4).symm h3'
    · exact absurd (hh.mem.one _ _ b _ _ h2 h4) h1'
    · exact hh.mem.one _ _ b _ _ h2 h4
  · intro i b o' hx
    rcases key i b o' hx with ⟨_, h⟩ | ⟨_, _, h⟩
    · exact hh.mem.off _ b o' h
    · exact hh.mem.off _ b o' h
  · intro i b o' hx
    rcases key i b o' hx with ⟨_, h⟩ | ⟨_, _, h⟩
    · exact hh.mine _ b o' h
    · exact hh.mine _ b o' h
theorem Ar.retag {x : Exit} {Q : Exit → Act → World → Prop} (t t' : Nat) {k : Option Nat} {o : Obj} (ht : H.get t = some (k, o)) (hn : Nat.beq t t' = false) (h : Ar Q x B ⟨e, D, (t', k, o) :: (t, none, o) :: H, G⟩) : Ar Q x B ⟨e, D, H, G⟩ :=
  fun a w hh => h a w (retagH hh t t' ht (fun e => by subst e; simp at hn) (.inr trivial))
end
end Go.Sl
set_option maxRecDepth 100000
set_option linter.unusedVariables false
namespace Go.Proofs.YtbppmiimeccclaaDoor
open Go Go.Sl
set_option maxHeartbeats 4000000
theorem sgZ_bd (z : Int) : -1 ≤ sgZ z ∧ sgZ z ≤ 1 := by unfold sgZ; split; exact ⟨by omega, by omega⟩; split <;> exact ⟨by omega, by omega⟩
theorem sgZ_bd9 (z : Int) : -9223372036854775808 ≤ sgZ z ∧ sgZ z ≤ 9223372036854775807 := by have := sgZ_bd z; omega
theorem sgZ_lt1 (z : Int) : ((sgZ z).natAbs : Int) < pb 1 := by have := sgZ_bd z; have : pb 1 = 4294967296 := (by decide); omega
theorem sgZ_mul (z : Int) : sgZ z * z = z.natAbs := by
  unfold sgZ
  split
  · omega
  · split <;> omega
theorem ediv_of {x y q r : Int} (hy : y ≠ 0) (h : x = q * y + r) (h0 : 0 ≤ r) (h1 : r < y.natAbs) : q = x / y ∧ r = x % y := by
  rcases Int.lt_or_gt_of_ne hy with hn | hp
  · have := (Int.ediv_emod_unique' (a := x) (b := y) (r := r) (q := q) hn).2 ⟨by rw [Int.mul_comm y q]; omega, h0, by omega⟩
    exact ⟨this.1.symm, this.2.symm⟩
  · have := (Int.ediv_emod_unique (a := x) (b := y) (r := r) (q := q) hp).2 ⟨by rw [Int.mul_comm y q]; omega, h0, by omega⟩
    exact ⟨this.1.symm, this.2.symm⟩
theorem dm_plain {n1 n2 : Bool} {x y la lb lq lr : Int} (hx : x = if n1 = true then -la else la) (hy : y = if n2 = true then -lb else lb) (hv : la = lq * lb + lr) :
    x = (if decide (n1 ≠ n2) = true then -lq else lq) * y + (if n1 = true then -lr else lr) := by
  subst hx hy hv
  cases n1 <;> cases n2 <;> simp [Int.neg_mul, Int.mul_neg, Int.neg_add]
theorem dm_next {x y q r : Int} (h : x = q * y + r) : x = (q - sgZ y) * y + (r + y.natAbs) := by
  have := sgZ_mul y
  rw [Int.sub_mul, this]; omega
theorem dm_true {n1 : Bool} {m : List U32} {q x y : Int} (hx : x = q * y + (if n1 = true then -valB m else valB m)) (hy : y ≠ 0) (hl : valB m < y.natAbs) (h : (n1 && decide (0 < m.length)) = true) (ht : Top m) (hd : Lims m) :
    q - sgZ y = x / y ∧ (if n1 = true then -valB m else valB m) + (y.natAbs : Int) = x % y := by
  rw [Bool.and_eq_true, decide_eq_true_eq] at h
  have hp := ltop_pos hd ht (fun e => by have := h.2; rw [e] at this; simp at this)
  have e := h.1
  subst e
  rw [if_pos rfl] at hx ⊢
  exact ediv_of hy (dm_next hx) (by omega) (by omega)
theorem dm_false {n1 : Bool} {m : List U32} {q x y : Int} (hx : x = q * y + (if n1 = true then -valB m else valB m)) (hy : y ≠ 0) (hl : valB m < y.natAbs) (h : (n1 && decide (0 < m.length)) = false) (hd : Lims m) :
    q = x / y ∧ (if n1 = true then -valB m else valB m) = x % y := by
  have hn := valB_nonneg hd
  refine ediv_of hy hx ?_ ?_
  · cases n1 with
    | false => rw [if_neg (by decide)]; exact hn
    | true =>
      have h0 : m = [] := by
        rw [Bool.true_and, decide_eq_false_iff_not] at h
        exact List.eq_nil_of_length_eq_zero (by omega)
      rw [if_pos rfl, h0, valB_nil]
      omega
  · split <;> omega
attribute [local irreducible] valB pb cmpZ lstWp
theorem c71 (G : Imm) (x y : IV) (zx zy : Int) (hx : Big G x zx) (hy : Big G y zy) (h1 : x.n ≤ 268435456) (h2 : y.n ≤ 268435456) (hy0 : zy ≠ 0) :
    Does Tryd.prog 71 [.agg (Cells.enc x).toArray, .agg (Cells.enc y).toArray] G [] (fun v G' Ho => ∃ q r : IV, v = .tuple #[.agg (Cells.enc q).toArray, .agg (Cells.enc r).toArray, .int .i64 0] ∧ Big G' q (zx / zy) ∧ Big G' r (zx % zy) ∧ Ho = []) := by
  obtain ⟨n1, a, k1, ca⟩ := x
  obtain ⟨n2, b, k2, cb⟩ := y
  obtain ⟨la, hl, hlc, hA, hI⟩ := hx
  obtain ⟨lb, hl', hlc', hA', hI'⟩ := hy
  simp only at hl hlc hA hI hl' hlc' hA' hI' h1 h2
  subst hl hl'
  have da := hI.digs
  have db := hI'.digs
  have ta := hI.top
  have tb := hI'.top
  have h1' : la.length ≤ 536870912 := by omega
  have h2' : lb.length ≤ 536870912 := by omega
  have va := hI.abs
  have vb := hI'.abs
  have hlt := valB_lt db
  have hB : 0 < valB lb := by omega
  show Does Tryd.prog 71 [.agg #[.bool n1, .slice a la.length ca], .agg #[.bool n2, .slice b lb.length cb]] G [] _
  refine Does.enter Tryd.func71 rfl Tryd.ntmps71 rfl (fun w => ?_)
  refine Wc.seq ?_
  refine Wc.region rfl ?_
  refine Wl.box 0 rfl rfl rfl (fun b1 => ?_)
  refine Wl.box 1 rfl rfl rfl (fun b2 => ?_)
  refine Wl.alloc 2 rfl T.zero67 (fun b3 => ?_)
  refine Wl.alloc 3 rfl T.zero67 (fun b4 => ?_)
  refine Wl.q rfl (Qy.assign rfl) ?_
  refine Wl.done ?_
  refine Ar.next ?_
  refine Wc.seq ?_
  refine Wc.region rfl ?_
  refine Wl.q rfl (Qy.fieldAddr T.fa67_1 rfl) ?_
  refine Wl.q rfl (Qy.load 0 T.one65 rfl rfl rfl) ?_
  refine Wl.q rfl (Qy.fieldAddr T.fa67_1 rfl) ?_
  refine Wl.q rfl (Qy.load 1 T.one65 rfl rfl rfl) ?_
  refine Wl.call 4 rfl T.fn93 rfl (c93 _ _ _ _ _ _ _ (by assumption) (by assumption) da ta db h1' h2' hlc hlc' hB) (tags_of trivial) (fun v1 G1 Ho1 hle1 hp => ?_)
  obtain ⟨_, _, rfl, ⟨qa1, qm1, rfl, hqa1, hql1, hqt1, hqv1, hqn1⟩, ⟨ra1, rm1, rfl, hra1, hrl1, hrt1, hrv1, hrn1⟩, rfl⟩ := hp
  replace hA := hA.up hle1
  replace hA' := hA'.up hle1
  refine Wl.q rfl (Qy.move rfl) ?_
  refine Wl.q rfl (Qy.extract rfl rfl) ?_
  refine Wl.q rfl (Qy.extract rfl rfl) ?_
  refine Wl.q rfl (Qy.extract rfl rfl) ?_
  refine Wl.q rfl (Qy.assign rfl) ?_
  refine Wl.q rfl (Qy.assign rfl) ?_
  refine Wl.q rfl (Qy.assign rfl) ?_
  refine Wl.done ?_
  refine Ar.next ?_
  refine Wc.seq ?_
  refine Wc.seq ?_
  refine Wc.region rfl ?_
  refine Wl.q rfl (Qy.move rfl) ?_
  refine Wl.q rfl (Qy.neq rfl rfl) ?_
  refine Wl.done ?_
  refine Ar.next ?_
  refine Wc.condN rfl (by first | assumption | omega) ?_
  refine Wc.skip ?_
  refine Ar.next ?_
  refine Wc.meet (ι := Nat × Nat) (fun (p, q) => ([(10, .pointer (some ⟨p, 0, none⟩)), (11, .pointer (some ⟨q, 0, none⟩)), (6, Go.Value.int Go.IntKind.i64 0), (5, Go.Value.pointer (Option.some (Go.Addr.mk b4 0 Option.none))), (4, Go.Value.pointer (Option.some (Go.Addr.mk b3 0 Option.none))), (3, Go.Value.pointer (Option.some (Go.Addr.mk b2 0 Option.none)))], [(60, some p, .cells #[.bool (decide (n1 ≠ n2) && decide (0 < qm1.length)), .slice qa1 qm1.length qm1.length] 67), (61, some q, .cells #[.bool (n1 && decide (0 < rm1.length)), .slice ra1 rm1.length rm1.length] 67), (3, Option.some b4, Go.Obj.cells #[Go.Value.bool Bool.false, Go.Value.slice Option.none 0 0] 67), (2, Option.some b3, Go.Obj.cells #[Go.Value.bool Bool.false, Go.Value.slice Option.none 0 0] 67), (1, Option.some b2, Go.Obj.cells #[Go.Value.bool n2, Go.Value.slice b (List.length lb) cb] 67), (0, Option.some b1, Go.Obj.cells #[Go.Value.bool n1, Go.Value.slice a (List.length la) ca] 67)])) (fun (p, q) => True) ?_ (fun ⟨p, q⟩ => fun (hk : True) => ?_)
  · refine Wc.draw [0, 1, 2, 3] [] T.mixed rfl ?_
    refine Gm.q 0 [] (by kernel_rfl) rfl rfl (Qy.fieldAddr T.fa67_0 rfl) ?_
    refine Gm.q 1 [0] (by kernel_rfl) rfl rfl (Qy.load 0 T.one4 rfl rfl rfl) ?_
    refine Gm.q 2 [] (by kernel_rfl) rfl rfl (Qy.fieldAddr T.fa67_0 rfl) ?_
    refine Gm.q 3 [1] (by kernel_rfl) rfl rfl (Qy.load 1 T.one4 rfl rfl rfl) ?_
    refine Gm.q 4 [] (by kernel_rfl) rfl rfl (Qy.neqB T.u4 rfl rfl) ?_
    refine Gm.q 5 [] (by kernel_rfl) rfl rfl (Qy.move rfl) ?_
    refine Gm.q 7 [] (by kernel_rfl) rfl rfl (Qy.fieldAddr T.fa67_0 rfl) ?_
    refine Gm.q 8 [0] (by kernel_rfl) rfl rfl (Qy.load 0 T.one4 rfl rfl rfl) ?_
    refine Gm.q 9 [] (by kernel_rfl) rfl rfl (Qy.move rfl) ?_
    refine Gm.three 6 11 12 ⟨rfl, rfl, rfl, rfl, trivial⟩ (by first | exact Imm.le_refl _ | assumption | (refine Imm.le_trans ?_ (by assumption); first | assumption | (refine Imm.le_trans ?_ (by assumption); assumption))) (by kernel_rfl) rfl rfl rfl ?_ ?_ ?_
    refine Wl.call0 rfl T.fn89 rfl (c89 _ _ _ _ _ (by omega)) ?_
    refine Wl.on0 ?_
    refine Gm.three 10 11 12 ⟨rfl, rfl, rfl, rfl, trivial⟩ (by first | exact Imm.le_refl _ | assumption | (refine Imm.le_trans ?_ (by assumption); first | assumption | (refine Imm.le_trans ?_ (by assumption); assumption))) (by kernel_rfl) rfl rfl rfl ?_ ?_ ?_
    refine Wl.call0 rfl T.fn89 rfl (c89 _ _ _ _ _ (by omega)) ?_
    refine Wl.on0 ?_
    refine Gm.two 11 12 ⟨rfl, rfl, rfl, rfl, trivial⟩ (by first | exact Imm.le_refl _ | assumption | (refine Imm.le_trans ?_ (by assumption); first | assumption | (refine Imm.le_trans ?_ (by assumption); assumption))) (by kernel_rfl) rfl rfl ?_ ?_
    refine Wl.alloc 4 rfl T.zero67 (fun b5 => ?_)
    refine Wl.on0 ?_
    refine Gm.one 12 ⟨rfl, rfl, rfl, rfl, trivial⟩ (by first | exact Imm.le_refl _ | assumption | (refine Imm.le_trans ?_ (by assumption); first | assumption | (refine Imm.le_trans ?_ (by assumption); assumption))) (by kernel_rfl) rfl ?_
    refine Wl.alloc 5 rfl T.zero67 (fun b6 => ?_)
    refine Wl.on0 ?_
    refine Gm.one 13 ⟨rfl, rfl, rfl, rfl, trivial⟩ (by first | exact Imm.le_refl _ | assumption | (refine Imm.le_trans ?_ (by assumption); first | assumption | (refine Imm.le_trans ?_ (by assumption); assumption))) (by kernel_rfl) rfl ?_
    refine Wl.storeAll 4 T.size67 rfl rfl rfl rfl rfl rfl ?_
    refine Wl.on0 ?_
    refine Gm.one 14 ⟨rfl, rfl, rfl, rfl, trivial⟩ (by first | exact Imm.le_refl _ | assumption | (refine Imm.le_trans ?_ (by assumption); first | assumption | (refine Imm.le_trans ?_ (by assumption); assumption))) (by kernel_rfl) rfl ?_
    refine Wl.storeAll 5 T.size67 rfl rfl rfl rfl rfl rfl ?_
    refine Wl.on0 ?_
    refine Gm.doneA (by kernel_rfl) ⟨rfl, rfl, rfl, rfl, trivial⟩ (by first | exact Imm.le_refl _ | assumption | (refine Imm.le_trans ?_ (by assumption); first | assumption | (refine Imm.le_trans ?_ (by assumption); assumption))) ?_
    rotate_left
    refine Wl.alloc 4 rfl T.zero67 (fun b5 => ?_)
    refine Wl.on0 ?_
    refine Gm.one 11 ⟨rfl, rfl, rfl, rfl, trivial⟩ (by first | exact Imm.le_refl _ | assumption | (refine Imm.le_trans ?_ (by assumption); first | assumption | (refine Imm.le_trans ?_ (by assumption); assumption))) (by kernel_rfl) rfl ?_
    refine Wl.alloc 5 rfl T.zero67 (fun b6 => ?_)
    refine Wl.on0 ?_
    refine Gm.one 13 ⟨rfl, rfl, rfl, rfl, trivial⟩ (by first | exact Imm.le_refl _ | assumption | (refine Imm.le_trans ?_ (by assumption); first | assumption | (refine Imm.le_trans ?_ (by assumption); assumption))) (by kernel_rfl) rfl ?_
    refine Wl.storeAll 5 T.size67 rfl rfl rfl rfl rfl rfl ?_
    refine Wl.on0 ?_
    refine Gm.one 14 ⟨rfl, rfl, rfl, rfl, trivial⟩ (by first | exact Imm.le_refl _ | assumption | (refine Imm.le_trans ?_ (by assumption); first | assumption | (refine Imm.le_trans ?_ (by assumption); assumption))) (by kernel_rfl) rfl ?_
    refine Wl.storeAll 4 T.size67 rfl rfl rfl rfl rfl rfl ?_
    refine Wl.on0 ?_
    refine Gm.doneA (by kernel_rfl) ⟨rfl, rfl, rfl, rfl, trivial⟩ (by first | exact Imm.le_refl _ | assumption | (refine Imm.le_trans ?_ (by assumption); first | assumption | (refine Imm.le_trans ?_ (by assumption); assumption))) ?_
    rotate_left
    refine Wl.alloc 4 rfl T.zero67 (fun b5 => ?_)
    refine Wl.on0 ?_
    refine Gm.two 10 12 ⟨rfl, rfl, rfl, rfl, trivial⟩ (by first | exact Imm.le_refl _ | assumption | (refine Imm.le_trans ?_ (by assumption); first | assumption | (refine Imm.le_trans ?_ (by assumption); assumption))) (by kernel_rfl) rfl rfl ?_ ?_
    refine Wl.call0 rfl T.fn89 rfl (c89 _ _ _ _ _ (by omega)) ?_
    refine Wl.on0 ?_
    refine Gm.one 12 ⟨rfl, rfl, rfl, rfl, trivial⟩ (by first | exact Imm.le_refl _ | assumption | (refine Imm.le_trans ?_ (by assumption); first | assumption | (refine Imm.le_trans ?_ (by assumption); assumption))) (by kernel_rfl) rfl ?_
    refine Wl.alloc 5 rfl T.zero67 (fun b6 => ?_)
    refine Wl.on0 ?_
    refine Gm.one 13 ⟨rfl, rfl, rfl, rfl, trivial⟩ (by first | exact Imm.le_refl _ | assumption | (refine Imm.le_trans ?_ (by assumption); first | assumption | (refine Imm.le_trans ?_ (by assumption); assumption))) (by kernel_rfl) rfl ?_
    refine Wl.storeAll 4 T.size67 rfl rfl rfl rfl rfl rfl ?_
    refine Wl.on0 ?_
    refine Gm.one 14 ⟨rfl, rfl, rfl, rfl, trivial⟩ (by first | exact Imm.le_refl _ | assumption | (refine Imm.le_trans ?_ (by assumption); first | assumption | (refine Imm.le_trans ?_ (by assumption); assumption))) (by kernel_rfl) rfl ?_
    refine Wl.storeAll 5 T.size67 rfl rfl rfl rfl rfl rfl ?_
    refine Wl.on0 ?_
    refine Gm.doneA (by kernel_rfl) ⟨rfl, rfl, rfl, rfl, trivial⟩ (by first | exact Imm.le_refl _ | assumption | (refine Imm.le_trans ?_ (by assumption); first | assumption | (refine Imm.le_trans ?_ (by assumption); assumption))) ?_
    rotate_left
    refine Wl.alloc 5 rfl T.zero67 (fun b6 => ?_)
    refine Wl.on0 ?_
    refine Gm.one 10 ⟨rfl, rfl, rfl, rfl, trivial⟩ (by first | exact Imm.le_refl _ | assumption | (refine Imm.le_trans ?_ (by assumption); first | assumption | (refine Imm.le_trans ?_ (by assumption); assumption))) (by kernel_rfl) rfl ?_
    refine Wl.call0 rfl T.fn89 rfl (c89 _ _ _ _ _ (by omega)) ?_
    refine Wl.on0 ?_
    refine Gm.one 13 ⟨rfl, rfl, rfl, rfl, trivial⟩ (by first | exact Imm.le_refl _ | assumption | (refine Imm.le_trans ?_ (by assumption); first | assumption | (refine Imm.le_trans ?_ (by assumption); assumption))) (by kernel_rfl) rfl ?_
    refine Wl.storeAll 4 T.size67 rfl rfl rfl rfl rfl rfl ?_
    refine Wl.on0 ?_
    refine Gm.one 14 ⟨rfl, rfl, rfl, rfl, trivial⟩ (by first | exact Imm.le_refl _ | assumption | (refine Imm.le_trans ?_ (by assumption); first | assumption | (refine Imm.le_trans ?_ (by assumption); assumption))) (by kernel_rfl) rfl ?_
    refine Wl.storeAll 5 T.size67 rfl rfl rfl rfl rfl rfl ?_
    refine Wl.on0 ?_
    refine Gm.doneA (by kernel_rfl) ⟨rfl, rfl, rfl, rfl, trivial⟩ (by first | exact Imm.le_refl _ | assumption | (refine Imm.le_trans ?_ (by assumption); first | assumption | (refine Imm.le_trans ?_ (by assumption); assumption))) ?_
    rotate_left
    refine Wl.alloc 4 rfl T.zero67 (fun b5 => ?_)
    refine Wl.on0 ?_
    refine Gm.two 10 11 ⟨rfl, rfl, rfl, rfl, trivial⟩ (by first | exact Imm.le_refl _ | assumption | (refine Imm.le_trans ?_ (by assumption); first | assumption | (refine Imm.le_trans ?_ (by assumption); assumption))) (by kernel_rfl) rfl rfl ?_ ?_
    refine Wl.call0 rfl T.fn89 rfl (c89 _ _ _ _ _ (by omega)) ?_
    refine Wl.on0 ?_
    refine Gm.one 11 ⟨rfl, rfl, rfl, rfl, trivial⟩ (by first | exact Imm.le_refl _ | assumption | (refine Imm.le_trans ?_ (by assumption); first | assumption | (refine Imm.le_trans ?_ (by assumption); assumption))) (by kernel_rfl) rfl ?_
    refine Wl.alloc 5 rfl T.zero67 (fun b6 => ?_)
    refine Wl.on0 ?_
    refine Gm.one 13 ⟨rfl, rfl, rfl, rfl, trivial⟩ (by first | exact Imm.le_refl _ | assumption | (refine Imm.le_trans ?_ (by assumption); first | assumption | (refine Imm.le_trans ?_ (by assumption); assumption))) (by kernel_rfl) rfl ?_
    refine Wl.storeAll 5 T.size67 rfl rfl rfl rfl rfl rfl ?_
    refine Wl.on0 ?_
    refine Gm.one 14 ⟨rfl, rfl, rfl, rfl, trivial⟩ (by first | exact Imm.le_refl _ | assumption | (refine Imm.le_trans ?_ (by assumption); first | assumption | (refine Imm.le_trans ?_ (by assumption); assumption))) (by kernel_rfl) rfl ?_
    refine Wl.storeAll 4 T.size67 rfl rfl rfl rfl rfl rfl ?_
    refine Wl.on0 ?_
    refine Gm.doneA (by kernel_rfl) ⟨rfl, rfl, rfl, rfl, trivial⟩ (by first | exact Imm.le_refl _ | assumption | (refine Imm.le_trans ?_ (by assumption); first | assumption | (refine Imm.le_trans ?_ (by assumption); assumption))) ?_
    rotate_left
    refine Wl.alloc 5 rfl T.zero67 (fun b6 => ?_)
    refine Wl.on0 ?_
    refine Gm.one 10 ⟨rfl, rfl, rfl, rfl, trivial⟩ (by first | exact Imm.le_refl _ | assumption | (refine Imm.le_trans ?_ (by assumption); first | assumption | (refine Imm.le_trans ?_ (by assumption); assumption))) (by kernel_rfl) rfl ?_
    refine Wl.call0 rfl T.fn89 rfl (c89 _ _ _ _ _ (by omega)) ?_
    refine Wl.on0 ?_
    refine Gm.one 13 ⟨rfl, rfl, rfl, rfl, trivial⟩ (by first | exact Imm.le_refl _ | assumption | (refine Imm.le_trans ?_ (by assumption); first | assumption | (refine Imm.le_trans ?_ (by assumption); assumption))) (by kernel_rfl) rfl ?_
    refine Wl.storeAll 5 T.size67 rfl rfl rfl rfl rfl rfl ?_
    refine Wl.on0 ?_
    refine Gm.one 14 ⟨rfl, rfl, rfl, rfl, trivial⟩ (by first | exact Imm.le_refl _ | assumption | (refine Imm.le_trans ?_ (by assumption); first | assumption | (refine Imm.le_trans ?_ (by assumption); assumption))) (by kernel_rfl) rfl ?_
    refine Wl.storeAll 4 T.size67 rfl rfl rfl rfl rfl rfl ?_
    refine Wl.on0 ?_
    refine Gm.doneA (by kernel_rfl) ⟨rfl, rfl, rfl, rfl, trivial⟩ (by first | exact Imm.le_refl _ | assumption | (refine Imm.le_trans ?_ (by assumption); first | assumption | (refine Imm.le_trans ?_ (by assumption); assumption))) ?_
    rotate_left
    refine Wl.alloc 4 rfl T.zero67 (fun b5 => ?_)
    refine Wl.on0 ?_
    refine Gm.two 6 12 ⟨rfl, rfl, rfl, rfl, trivial⟩ (by first | exact Imm.le_refl _ | assumption | (refine Imm.le_trans ?_ (by assumption); first | assumption | (refine Imm.le_trans ?_ (by assumption); assumption))) (by kernel_rfl) rfl rfl ?_ ?_
    refine Wl.call0 rfl T.fn89 rfl (c89 _ _ _ _ _ (by omega)) ?_
    refine Wl.on0 ?_
    refine Gm.two 10 12 ⟨rfl, rfl, rfl, rfl, trivial⟩ (by first | exact Imm.le_refl _ | assumption | (refine Imm.le_trans ?_ (by assumption); first | assumption | (refine Imm.le_trans ?_ (by assumption); assumption))) (by kernel_rfl) rfl rfl ?_ ?_
    refine Wl.call0 rfl T.fn89 rfl (c89 _ _ _ _ _ (by omega)) ?_
    refine Wl.on0 ?_
    refine Gm.one 12 ⟨rfl, rfl, rfl, rfl, trivial⟩ (by first | exact Imm.le_refl _ | assumption | (refine Imm.le_trans ?_ (by assumption); first | assumption | (refine Imm.le_trans ?_ (by assumption); assumption))) (by kernel_rfl) rfl ?_
    refine Wl.alloc 5 rfl T.zero67 (fun b6 => ?_)
    refine Wl.on0 ?_
    refine Gm.one 13 ⟨rfl, rfl, rfl, rfl, trivial⟩ (by first | exact Imm.le_refl _ | assumption | (refine Imm.le_trans ?_ (by assumption); first | assumption | (refine Imm.le_trans ?_ (by assumption); assumption))) (by kernel_rfl) rfl ?_
    refine Wl.storeAll 4 T.size67 rfl rfl rfl rfl rfl rfl ?_
    refine Wl.on0 ?_
    refine Gm.one 14 ⟨rfl, rfl, rfl, rfl, trivial⟩ (by first | exact Imm.le_refl _ | assumption | (refine Imm.le_trans ?_ (by assumption); first | assumption | (refine Imm.le_trans ?_ (by assumption); assumption))) (by kernel_rfl) rfl ?_
    refine Wl.storeAll 5 T.size67 rfl rfl rfl rfl rfl rfl ?_
    refine Wl.on0 ?_
    refine Gm.doneA (by kernel_rfl) ⟨rfl, rfl, rfl, rfl, trivial⟩ (by first | exact Imm.le_refl _ | assumption | (refine Imm.le_trans ?_ (by assumption); first | assumption | (refine Imm.le_trans ?_ (by assumption); assumption))) ?_
    rotate_left
    refine Wl.alloc 5 rfl T.zero67 (fun b6 => ?_)
    refine Wl.on0 ?_
    refine Gm.one 10 ⟨rfl, rfl, rfl, rfl, trivial⟩ (by first | exact Imm.le_refl _ | assumption | (refine Imm.le_trans ?_ (by assumption); first | assumption | (refine Imm.le_trans ?_ (by assumption); assumption))) (by kernel_rfl) rfl ?_
    refine Wl.call0 rfl T.fn89 rfl (c89 _ _ _ _ _ (by omega)) ?_
    refine Wl.on0 ?_
    refine Gm.one 13 ⟨rfl, rfl, rfl, rfl, trivial⟩ (by first | exact Imm.le_refl _ | assumption | (refine Imm.le_trans ?_ (by assumption); first | assumption | (refine Imm.le_trans ?_ (by assumption); assumption))) (by kernel_rfl) rfl ?_
    refine Wl.storeAll 4 T.size67 rfl rfl rfl rfl rfl rfl ?_
    refine Wl.on0 ?_
    refine Gm.one 14 ⟨rfl, rfl, rfl, rfl, trivial⟩ (by first | exact Imm.le_refl _ | assumption | (refine Imm.le_trans ?_ (by assumption); first | assumption | (refine Imm.le_trans ?_ (by assumption); assumption))) (by kernel_rfl) rfl ?_
    refine Wl.storeAll 5 T.size67 rfl rfl rfl rfl rfl rfl ?_
    refine Wl.on0 ?_
    refine Gm.doneA (by kernel_rfl) ⟨rfl, rfl, rfl, rfl, trivial⟩ (by first | exact Imm.le_refl _ | assumption | (refine Imm.le_trans ?_ (by assumption); first | assumption | (refine Imm.le_trans ?_ (by assumption); assumption))) ?_
    rotate_left
    refine Wl.alloc 5 rfl T.zero67 (fun b6 => ?_)
    refine Wl.on0 ?_
    refine Gm.one 6 ⟨rfl, rfl, rfl, rfl, trivial⟩ (by first | exact Imm.le_refl _ | assumption | (refine Imm.le_trans ?_ (by assumption); first | assumption | (refine Imm.le_trans ?_ (by assumption); assumption))) (by kernel_rfl) rfl ?_
    refine Wl.call0 rfl T.fn89 rfl (c89 _ _ _ _ _ (by omega)) ?_
    refine Wl.on0 ?_
    refine Gm.one 10 ⟨rfl, rfl, rfl, rfl, trivial⟩ (by first | exact Imm.le_refl _ | assumption | (refine Imm.le_trans ?_ (by assumption); first | assumption | (refine Imm.le_trans ?_ (by assumption); assumption))) (by kernel_rfl) rfl ?_
    refine Wl.call0 rfl T.fn89 rfl (c89 _ _ _ _ _ (by omega)) ?_
    refine Wl.on0 ?_
    refine Gm.one 13 ⟨rfl, rfl, rfl, rfl, trivial⟩ (by first | exact Imm.le_refl _ | assumption | (refine Imm.le_trans ?_ (by assumption); first | assumption | (refine Imm.le_trans ?_ (by assumption); assumption))) (by kernel_rfl) rfl ?_
    refine Wl.storeAll 4 T.size67 rfl rfl rfl rfl rfl rfl ?_
    refine Wl.on0 ?_
    refine Gm.one 14 ⟨rfl, rfl, rfl, rfl, trivial⟩ (by first | exact Imm.le_refl _ | assumption | (refine Imm.le_trans ?_ (by assumption); first | assumption | (refine Imm.le_trans ?_ (by assumption); assumption))) (by kernel_rfl) rfl ?_
    refine Wl.storeAll 5 T.size67 rfl rfl rfl rfl rfl rfl ?_
    refine Wl.on0 ?_
    refine Gm.doneA (by kernel_rfl) ⟨rfl, rfl, rfl, rfl, trivial⟩ (by first | exact Imm.le_refl _ | assumption | (refine Imm.le_trans ?_ (by assumption); first | assumption | (refine Imm.le_trans ?_ (by assumption); assumption))) ?_
    rotate_left
    refine Wl.alloc 4 rfl T.zero67 (fun b5 => ?_)
    refine Wl.on0 ?_
    refine Gm.two 6 11 ⟨rfl, rfl, rfl, rfl, trivial⟩ (by first | exact Imm.le_refl _ | assumption | (refine Imm.le_trans ?_ (by assumption); first | assumption | (refine Imm.le_trans ?_ (by assumption); assumption))) (by kernel_rfl) rfl rfl ?_ ?_
    refine Wl.call0 rfl T.fn89 rfl (c89 _ _ _ _ _ (by omega)) ?_
    refine Wl.on0 ?_
    refine Gm.two 10 11 ⟨rfl, rfl, rfl, rfl, trivial⟩ (by first | exact Imm.le_refl _ | assumption | (refine Imm.le_trans ?_ (by assumption); first | assumption | (refine Imm.le_trans ?_ (by assumption); assumption))) (by kernel_rfl) rfl rfl ?_ ?_
    refine Wl.call0 rfl T.fn89 rfl (c89 _ _ _ _ _ (by omega)) ?_
    refine Wl.on0 ?_
    refine Gm.one 11 ⟨rfl, rfl, rfl, rfl, trivial⟩ (by first | exact Imm.le_refl _ | assumption | (refine Imm.le_trans ?_ (by assumption); first | assumption | (refine Imm.le_trans ?_ (by assumption); assumption))) (by kernel_rfl) rfl ?_
    refine Wl.alloc 5 rfl T.zero67 (fun b6 => ?_)
    refine Wl.on0 ?_
    refine Gm.one 13 ⟨rfl, rfl, rfl, rfl, trivial⟩ (by first | exact Imm.le_refl _ | assumption | (refine Imm.le_trans ?_ (by assumption); first | assumption | (refine Imm.le_trans ?_ (by assumption); assumption))) (by kernel_rfl) rfl ?_
    refine Wl.storeAll 5 T.size67 rfl rfl rfl rfl rfl rfl ?_
    refine Wl.on0 ?_
    refine Gm.one 14 ⟨rfl, rfl, rfl, rfl, trivial⟩ (by first | exact Imm.le_refl _ | assumption | (refine Imm.le_trans ?_ (by assumption); first | assumption | (refine Imm.le_trans ?_ (by assumption); assumption))) (by kernel_rfl) rfl ?_
    refine Wl.storeAll 4 T.size67 rfl rfl rfl rfl rfl rfl ?_
    refine Wl.on0 ?_
    refine Gm.doneA (by kernel_rfl) ⟨rfl, rfl, rfl, rfl, trivial⟩ (by first | exact Imm.le_refl _ | assumption | (refine Imm.le_trans ?_ (by assumption); first | assumption | (refine Imm.le_trans ?_ (by assumption); assumption))) ?_
    rotate_left
    refine Wl.alloc 5 rfl T.zero67 (fun b6 => ?_)
    refine Wl.on0 ?_
    refine Gm.one 10 ⟨rfl, rfl, rfl, rfl, trivial⟩ (by first | exact Imm.le_refl _ | assumption | (refine Imm.le_trans ?_ (by assumption); first | assumption | (refine Imm.le_trans ?_ (by assumption); assumption))) (by kernel_rfl) rfl ?_
    refine Wl.call0 rfl T.fn89 rfl (c89 _ _ _ _ _ (by omega)) ?_
    refine Wl.on0 ?_
    refine Gm.one 13 ⟨rfl, rfl, rfl, rfl, trivial⟩ (by first | exact Imm.le_refl _ | assumption | (refine Imm.le_trans ?_ (by assumption); first | assumption | (refine Imm.le_trans ?_ (by assumption); assumption))) (by kernel_rfl) rfl ?_
    refine Wl.storeAll 5 T.size67 rfl rfl rfl rfl rfl rfl ?_
    refine Wl.on0 ?_
    refine Gm.one 14 ⟨rfl, rfl, rfl, rfl, trivial⟩ (by first | exact Imm.le_refl _ | assumption | (refine Imm.le_trans ?_ (by assumption); first | assumption | (refine Imm.le_trans ?_ (by assumption); assumption))) (by kernel_rfl) rfl ?_
    refine Wl.storeAll 4 T.size67 rfl rfl rfl rfl rfl rfl ?_
    refine Wl.on0 ?_
    refine Gm.doneA (by kernel_rfl) ⟨rfl, rfl, rfl, rfl, trivial⟩ (by first | exact Imm.le_refl _ | assumption | (refine Imm.le_trans ?_ (by assumption); first | assumption | (refine Imm.le_trans ?_ (by assumption); assumption))) ?_
    rotate_left
    refine Wl.alloc 5 rfl T.zero67 (fun b6 => ?_)
    refine Wl.on0 ?_
    refine Gm.one 6 ⟨rfl, rfl, rfl, rfl, trivial⟩ (by first | exact Imm.le_refl _ | assumption | (refine Imm.le_trans ?_ (by assumption); first | assumption | (refine Imm.le_trans ?_ (by assumption); assumption))) (by kernel_rfl) rfl ?_
    refine Wl.call0 rfl T.fn89 rfl (c89 _ _ _ _ _ (by omega)) ?_
    refine Wl.on0 ?_
    refine Gm.one 10 ⟨rfl, rfl, rfl, rfl, trivial⟩ (by first | exact Imm.le_refl _ | assumption | (refine Imm.le_trans ?_ (by assumption); first | assumption | (refine Imm.le_trans ?_ (by assumption); assumption))) (by kernel_rfl) rfl ?_
    refine Wl.call0 rfl T.fn89 rfl (c89 _ _ _ _ _ (by omega)) ?_
    refine Wl.on0 ?_
    refine Gm.one 13 ⟨rfl, rfl, rfl, rfl, trivial⟩ (by first | exact Imm.le_refl _ | assumption | (refine Imm.le_trans ?_ (by assumption); first | assumption | (refine Imm.le_trans ?_ (by assumption); assumption))) (by kernel_rfl) rfl ?_
    refine Wl.storeAll 5 T.size67 rfl rfl rfl rfl rfl rfl ?_
    refine Wl.on0 ?_
    refine Gm.one 14 ⟨rfl, rfl, rfl, rfl, trivial⟩ (by first | exact Imm.le_refl _ | assumption | (refine Imm.le_trans ?_ (by assumption); first | assumption | (refine Imm.le_trans ?_ (by assumption); assumption))) (by kernel_rfl) rfl ?_
    refine Wl.storeAll 4 T.size67 rfl rfl rfl rfl rfl rfl ?_
    refine Wl.on0 ?_
    refine Gm.doneA (by kernel_rfl) ⟨rfl, rfl, rfl, rfl, trivial⟩ (by first | exact Imm.le_refl _ | assumption | (refine Imm.le_trans ?_ (by assumption); first | assumption | (refine Imm.le_trans ?_ (by assumption); assumption))) ?_
    rotate_left
    all_goals first | (refine Ar.retag 4 60 rfl rfl (Ar.retag 5 61 rfl rfl (Ar.meet (b5, b6) trivial rfl ?_ ?_)) <;> (repeat (first | exact trivial | refine ⟨rfl, ?_⟩)); done) | (refine Ar.retag 5 60 rfl rfl (Ar.retag 4 61 rfl rfl (Ar.meet (b6, b5) trivial rfl ?_ ?_)) <;> (repeat (first | exact trivial | refine ⟨rfl, ?_⟩)); done)
  · have hxy := dm_plain hI.val hI'.val (show valB la = valB qm1 * valB lb + valB rm1 by rw [hqv1, hrv1, Int.mul_comm]; exact (Int.mul_ediv_add_emod (valB la) (valB lb)).symm)
    have hrlt : valB rm1 < valB lb := by rw [hrv1]; exact Int.emod_lt_of_pos _ hB
    have hQ0 := Big.make (decide (n1 ≠ n2)) hqa1 hql1 hqt1 (Nat.le_refl _) rfl
    have hy2 : Big G1 ⟨n2, b, lb.length, cb⟩ zy := ⟨lb, rfl, hlc', hA', hI'⟩
    have hR0 := Big.make n1 hra1 hrl1 hrt1 (Nat.le_refl _) rfl
    refine Wc.seq ?_
    refine Wc.seq ?_
    refine Wc.region rfl ?_
    refine Wl.q rfl (Qy.fieldAddr T.fa67_0 rfl) ?_
    refine Wl.q rfl (Qy.load 61 T.one4 rfl rfl rfl) ?_
    refine Wl.done ?_
    refine Ar.next ?_
    refine Wc.ite rfl (fun hc1 => ?_) (fun hc1 => ?_)
    refine Wc.seq ?_
    refine Wc.draw [0, 1, 2, 3, 61, 60] [(61, 4)] T.mixed rfl ?_
    refine Gm.q 0 [61] (by kernel_rfl) rfl rfl (Qy.loadAll 61 T.agg67 rfl rfl rfl) ?_
    refine Gm.q 1 [1] (by kernel_rfl) rfl rfl (Qy.loadAll 1 T.agg67 rfl rfl rfl) ?_
    refine Gm.one 2 ⟨rfl, rfl, rfl, rfl, rfl, rfl, trivial⟩ (by first | exact Imm.le_refl _ | assumption | (refine Imm.le_trans ?_ (by assumption); first | assumption | (refine Imm.le_trans ?_ (by assumption); assumption))) (by kernel_rfl) rfl ?_
    refine Wl.call 62 rfl T.fn94 rfl (c94 _ ⟨n2, b, lb.length, cb⟩ zy hy2 (Nat.le_trans h2' (by decide))) (tags_of trivial) (fun v2 G2 Ho2 hle2 hp => ?_)
    obtain ⟨nr2, rfl, hnr2, rfl, rfl⟩ := hp
    refine Wl.on0 ?_
    refine Gm.one 3 ⟨rfl, rfl, rfl, rfl, rfl, rfl, trivial⟩ (by first | exact Imm.le_refl _ | assumption | (refine Imm.le_trans ?_ (by assumption); first | assumption | (refine Imm.le_trans ?_ (by assumption); assumption))) (by kernel_rfl) rfl ?_
    refine Wl.call 62 rfl T.fn67 rfl (c67 _ ⟨(n1 && decide (0 < rm1.length)), ra1, rm1.length, rm1.length⟩ nr2 _ _ hR0 hnr2 (Nat.le_trans hrn1 h2') (Nat.le_trans (Big.len hnr2 (m := lb.length) (by omega)) h2')) (tags_of trivial) (fun v3 G3 Ho3 hle3 hp => ?_)
    obtain ⟨rs3, rfl, hrs3, rfl⟩ := hp
    replace hnr2 := hnr2.up hle3
    replace hqa1 := hqa1.up hle3
    replace hra1 := hra1.up hle3
    replace hA := hA.up hle3
    replace hA' := hA'.up hle3
    replace hQ0 := hQ0.up hle3
    replace hy2 := hy2.up hle3
    replace hR0 := hR0.up hle3
    refine Wl.on0 ?_
    refine Gm.one 4 ⟨rfl, rfl, rfl, rfl, rfl, rfl, trivial⟩ (by first | exact Imm.le_refl _ | assumption | (refine Imm.le_trans ?_ (by assumption); first | assumption | (refine Imm.le_trans ?_ (by assumption); assumption))) (by kernel_rfl) rfl ?_
    refine Wl.storeAll 61 T.size67 rfl rfl rfl rfl rfl rfl ?_
    refine Wl.on0 ?_
    refine Gm.doneA (by kernel_rfl) ⟨rfl, rfl, rfl, rfl, rfl, trivial⟩ (by first | exact Imm.le_refl _ | assumption | (refine Imm.le_trans ?_ (by assumption); first | assumption | (refine Imm.le_trans ?_ (by assumption); assumption))) ?_
    refine Ar.next ?_
    refine Wc.draw [0, 1, 2, 3, 60, 61] [(60, 5)] T.mixed rfl ?_
    refine Gm.q 0 [60] (by kernel_rfl) rfl rfl (Qy.loadAll 60 T.agg67 rfl rfl rfl) ?_
    refine Gm.q 1 [1] (by kernel_rfl) rfl rfl (Qy.loadAll 1 T.agg67 rfl rfl rfl) ?_
    refine Gm.one 2 ⟨rfl, rfl, rfl, rfl, rfl, rfl, trivial⟩ (by first | exact Imm.le_refl _ | assumption | (refine Imm.le_trans ?_ (by assumption); first | assumption | (refine Imm.le_trans ?_ (by assumption); assumption))) (by kernel_rfl) rfl ?_
    refine Wl.call0 rfl T.fn72 rfl (c72 _ _ _ _ _ zy hI' (by omega)) ?_
    refine Wl.on0 ?_
    refine Gm.one 3 ⟨rfl, rfl, rfl, rfl, rfl, rfl, trivial⟩ (by first | exact Imm.le_refl _ | assumption | (refine Imm.le_trans ?_ (by assumption); first | assumption | (refine Imm.le_trans ?_ (by assumption); assumption))) (by kernel_rfl) rfl ?_
    refine Wl.call 62 rfl T.fn38 rfl (c38 _ _ (sgZ_bd9 zy)) (tags_of trivial) (fun v4 G4 Ho4 hle4 hp => ?_)
    obtain ⟨ro4, rfl, hro4, rfl⟩ := hp
    replace hrs3 := hrs3.up hle4
    replace hnr2 := hnr2.up hle4
    replace hqa1 := hqa1.up hle4
    replace hra1 := hra1.up hle4
    replace hA := hA.up hle4
    replace hA' := hA'.up hle4
    replace hQ0 := hQ0.up hle4
    replace hy2 := hy2.up hle4
    replace hR0 := hR0.up hle4
    refine Wl.on0 ?_
    refine Gm.one 4 ⟨rfl, rfl, rfl, rfl, rfl, rfl, trivial⟩ (by first | exact Imm.le_refl _ | assumption | (refine Imm.le_trans ?_ (by assumption); first | assumption | (refine Imm.le_trans ?_ (by assumption); assumption))) (by kernel_rfl) rfl ?_
    refine Wl.call 62 rfl T.fn68 rfl (c68 _ ⟨(decide (n1 ≠ n2) && decide (0 < qm1.length)), qa1, qm1.length, qm1.length⟩ ro4 _ _ hQ0 hro4 (Nat.le_trans hqn1 h1') (Nat.le_trans (Big.len hro4 (m := 1) (sgZ_lt1 zy)) (by decide))) (tags_of trivial) (fun v5 G5 Ho5 hle5 hp => ?_)
    obtain ⟨rd5, rfl, hrd5, rfl⟩ := hp
    replace hro4 := hro4.up hle5
    replace hrs3 := hrs3.up hle5
    replace hnr2 := hnr2.up hle5
    replace hqa1 := hqa1.up hle5
    replace hra1 := hra1.up hle5
    replace hA := hA.up hle5
    replace hA' := hA'.up hle5
    replace hQ0 := hQ0.up hle5
    replace hy2 := hy2.up hle5
    replace hR0 := hR0.up hle5
    refine Wl.on0 ?_
    refine Gm.one 5 ⟨rfl, rfl, rfl, rfl, rfl, rfl, trivial⟩ (by first | exact Imm.le_refl _ | assumption | (refine Imm.le_trans ?_ (by assumption); first | assumption | (refine Imm.le_trans ?_ (by assumption); assumption))) (by kernel_rfl) rfl ?_
    refine Wl.storeAll 60 T.size67 rfl rfl rfl rfl rfl rfl ?_
    refine Wl.on0 ?_
    refine Gm.doneA (by kernel_rfl) ⟨rfl, rfl, rfl, rfl, rfl, trivial⟩ (by first | exact Imm.le_refl _ | assumption | (refine Imm.le_trans ?_ (by assumption); first | assumption | (refine Imm.le_trans ?_ (by assumption); assumption))) ?_
    refine Ar.next ?_
    refine Wc.seq ?_
    refine Wc.draw [0, 1, 2, 3, 61, 60] [(3, 3), (2, 2)] T.mixed rfl ?_
    refine Gm.q 0 [60] (by kernel_rfl) rfl rfl (Qy.loadAll 60 T.agg67 rfl rfl rfl) ?_
    refine Gm.q 1 [61] (by kernel_rfl) rfl rfl (Qy.loadAll 61 T.agg67 rfl rfl rfl) ?_
    refine Gm.one 2 ⟨rfl, rfl, rfl, rfl, rfl, rfl, trivial⟩ (by first | exact Imm.le_refl _ | assumption | (refine Imm.le_trans ?_ (by assumption); first | assumption | (refine Imm.le_trans ?_ (by assumption); assumption))) (by kernel_rfl) rfl ?_
    refine Wl.storeAll 2 T.size67 rfl rfl rfl rfl rfl rfl ?_
    refine Wl.on0 ?_
    refine Gm.one 3 ⟨rfl, rfl, rfl, rfl, rfl, trivial⟩ (by first | exact Imm.le_refl _ | assumption | (refine Imm.le_trans ?_ (by assumption); first | assumption | (refine Imm.le_trans ?_ (by assumption); assumption))) (by kernel_rfl) rfl ?_
    refine Wl.storeAll 3 T.size67 rfl rfl rfl rfl rfl rfl ?_
    refine Wl.on0 ?_
    refine Gm.q 4 [] (by kernel_rfl) rfl rfl (Qy.assign rfl) ?_
    refine Gm.doneA (by kernel_rfl) ⟨rfl, rfl, rfl, rfl, trivial⟩ (by first | exact Imm.le_refl _ | assumption | (refine Imm.le_trans ?_ (by assumption); first | assumption | (refine Imm.le_trans ?_ (by assumption); assumption))) ?_
    refine Ar.next ?_
    refine Wc.ret ?_
    refine Ar.out3 (.inr rfl) (Ho := Hp.only _ []) rfl (.agg 2 rfl rfl T.agg67) (.agg 3 rfl rfl T.agg67) (.tmp rfl) (Hp.sub_only _ _) ?_
    rotate_left
    refine Wc.skip ?_
    refine Ar.next ?_
    refine Wc.seq ?_
    refine Wc.draw [0, 1, 2, 3, 61, 60] [(3, 3), (2, 2)] T.mixed rfl ?_
    refine Gm.q 0 [60] (by kernel_rfl) rfl rfl (Qy.loadAll 60 T.agg67 rfl rfl rfl) ?_
    refine Gm.q 1 [61] (by kernel_rfl) rfl rfl (Qy.loadAll 61 T.agg67 rfl rfl rfl) ?_
    refine Gm.one 2 ⟨rfl, rfl, rfl, rfl, rfl, rfl, trivial⟩ (by first | exact Imm.le_refl _ | assumption | (refine Imm.le_trans ?_ (by assumption); first | assumption | (refine Imm.le_trans ?_ (by assumption); assumption))) (by kernel_rfl) rfl ?_
    refine Wl.storeAll 2 T.size67 rfl rfl rfl rfl rfl rfl ?_
    refine Wl.on0 ?_
    refine Gm.one 3 ⟨rfl, rfl, rfl, rfl, rfl, trivial⟩ (by first | exact Imm.le_refl _ | assumption | (refine Imm.le_trans ?_ (by assumption); first | assumption | (refine Imm.le_trans ?_ (by assumption); assumption))) (by kernel_rfl) rfl ?_
    refine Wl.storeAll 3 T.size67 rfl rfl rfl rfl rfl rfl ?_
    refine Wl.on0 ?_
    refine Gm.q 4 [] (by kernel_rfl) rfl rfl (Qy.assign rfl) ?_
    refine Gm.doneA (by kernel_rfl) ⟨rfl, rfl, rfl, rfl, trivial⟩ (by first | exact Imm.le_refl _ | assumption | (refine Imm.le_trans ?_ (by assumption); first | assumption | (refine Imm.le_trans ?_ (by assumption); assumption))) ?_
    refine Ar.next ?_
    refine Wc.ret ?_
    refine Ar.out3 (.inr rfl) (Ho := Hp.only _ []) rfl (.agg 2 rfl rfl T.agg67) (.agg 3 rfl rfl T.agg67) (.tmp rfl) (Hp.sub_only _ _) ?_
    rotate_left
    · have he := dm_true hxy hy0 (by omega) hc1 hrt1 hrl1
      refine ⟨rd5, rs3, rfl, ?_, ?_, rfl⟩
      · rw [← he.1]; exact hrd5
      · rw [← he.2]; exact hrs3
    · have he := dm_false hxy hy0 (by omega) hc1 hrl1
      refine ⟨⟨(decide (n1 ≠ n2) && decide (0 < qm1.length)), qa1, qm1.length, qm1.length⟩, ⟨(n1 && decide (0 < rm1.length)), ra1, rm1.length, rm1.length⟩, rfl, ?_, ?_, rfl⟩
      · rw [← he.1]; exact hQ0
      · rw [← he.2]; exact hR0
end Go.Proofs.YtbppmiimeccclaaDoor
set_option linter.unusedVariables false
namespace Go.Proofs.YtbppmiimeccclaaDoor
open Go Go.Sl
def p2 (n : Nat) : Int := ((2 ^ n : Nat) : Int)
theorem p2_pos (n : Nat) : 0 < p2 n := by unfold p2; exact Int.ofNat_lt.2 (Nat.pow_pos (by decide))
theorem p2_add (m n : Nat) : p2 (m + n) = p2 m * p2 n := by unfold p2; rw [Nat.pow_add, Int.natCast_mul]
theorem p2_le {m n : Nat} (h : m ≤ n) : p2 m ≤ p2 n := by unfold p2; exact Int.ofNat_le.2 (Nat.pow_le_pow_right (by decide) h)
/-- what an instruction multiplies or divides by -/
def cst (i : Sl.Instr) : Int := if i.op = 5 ∨ i.op = 6 then i.c else p2 i.c.toNat
theorem cst_c {i : Sl.Instr} (h : i.op = 5 ∨ i.op = 6) : cst i = i.c := if_pos h
theorem cst_p {i : Sl.Instr} (h : ¬ (i.op = 5 ∨ i.op = 6)) : cst i = p2 i.c.toNat := if_neg h
end Go.Proofs.YtbppmiimeccclaaDoor
set_option maxRecDepth 100000
set_option linter.unusedVariables false
namespace Go.Proofs.YtbppmiimeccclaaDoor
open Go Go.Sl
set_option maxHeartbeats 4000000
/-- handles that stand for numbers -/
def Bigs (G : Imm) (l : List IV) (zs : List Int) : Prop := l.length = zs.length ∧ ∀ i : Nat, i < l.length → Big G (l[i]?.getD default) (zs[i]?.getD 0)
theorem Bigs.up {G G' : Imm} {l : List IV} {zs : List Int} (h : Bigs G l zs) (hl : G.le G') : Bigs G' l zs := ⟨h.1, fun i hi => (h.2 i hi).up hl⟩
theorem Bigs.at {G : Imm} {l : List IV} {zs : List Int} (h : Bigs G l zs) {k : Int} (hk : 0 ≤ k ∧ k < l.length) : Big G (l[k.toNat]?.getD default) (zs[k.toNat]?.getD 0) := h.2 _ (by omega)
theorem Bigs.nil (G : Imm) : Bigs G [] [] := ⟨rfl, fun i hi => by simp at hi⟩
theorem Bigs.set {G : Imm} {l : List IV} {zs : List Int} (h : Bigs G l zs) (k : Nat) {x : IV} {z : Int} (hx : Big G x z) : Bigs G (l.set k x) (zs.set k z) := by
  refine ⟨by rw [List.length_set, List.length_set]; exact h.1, fun i hi => ?_⟩
  rw [List.length_set] at hi
  rw [List.getElem?_set, List.getElem?_set]
  have h1 := h.1
  by_cases hk : k = i
  · subst hk
    rw [if_pos rfl, if_pos rfl, if_pos hi, if_pos (by omega)]; exact hx
  · rw [if_neg hk, if_neg hk]; exact h.2 i hi
theorem Bigs.snoc {G : Imm} {l : List IV} {zs : List Int} (h : Bigs G l zs) {x : IV} {z : Int} (hx : Big G x z) : Bigs G (l ++ [x]) (zs ++ [z]) := by
  refine ⟨by rw [List.length_append, List.length_append, h.1]; rfl, fun i hi => ?_⟩
  rw [List.length_append, List.length_singleton] at hi
  have h1 := h.1
  rcases Nat.lt_or_ge i l.length with h2 | h2
  · rw [List.getElem?_append_left h2, List.getElem?_append_left (by omega)]; exact h.2 i h2
  · have e : i = l.length := by omega
    subst e
    rw [List.getElem?_append_right (Nat.le_refl _), Nat.sub_self, h1, List.getElem?_append_right (Nat.le_refl _), Nat.sub_self]; exact hx
theorem Bigs.zeros (G : Imm) (n : Nat) : Bigs G (List.replicate n (default : IV)) (List.replicate n 0) := by
  refine ⟨by rw [List.length_replicate, List.length_replicate], fun i hi => ?_⟩
  rw [List.length_replicate] at hi
  rw [List.getElem?_replicate, List.getElem?_replicate, if_pos hi, if_pos hi]
  exact Big.zero G
/-- none too large -/
def Below (m : Nat) (zs : List Int) : Prop := ∀ z ∈ zs, (z.natAbs : Int) < pb m
theorem Below.at {m : Nat} {zs : List Int} (h : Below m zs) (k : Nat) : ((zs[k]?.getD 0).natAbs : Int) < pb m := by
  rcases Nat.lt_or_ge k zs.length with h1 | h1
  · rw [List.getElem?_eq_getElem h1]; exact h _ (List.getElem_mem h1)
  · rw [List.getElem?_eq_none h1]; exact pb_pos m
theorem one_lt : ((1 : Int).natAbs : Int) < pb 1 := by unfold pb; decide
theorem p2_def (n : Nat) : p2 n = ((2 ^ n : Nat) : Int) := rfl
theorem sgZ_zero {z : Int} : sgZ z = 0 ↔ z = 0 := by
  unfold sgZ
  split
  · simp [*]
  · split <;> omega
theorem emod_small {x y : Int} (hy : y ≠ 0) : ((x % y).natAbs : Int) < y.natAbs := by
  have e1 := Int.emod_nonneg x hy
  rcases Int.lt_or_gt_of_ne hy with h | h
  · have e2 := Int.emod_lt_of_pos x (show 0 < -y by omega)
    rw [Int.emod_neg] at e2
    omega
  · have e2 := Int.emod_lt_of_pos x h
    omega
attribute [local irreducible] valB pb cmpZ lstWp p2
theorem c88 (G : Imm) (n : Nat) (hn : n ≤ 64) :
    Does Tryd.prog 88 [.int .i64 (n : Int)] G [] (fun v G' Ho => ∃ r : IV, v = .agg (Cells.enc r).toArray ∧ Big G' r (p2 n) ∧ Ho = []) := by
  refine Does.enter Tryd.func88 rfl Tryd.ntmps88 rfl (fun w => ?_)
  refine Wc.seq ?_
  refine Wc.region rfl ?_
  refine Wl.alloc 0 rfl T.zero67 (fun b1 => ?_)
  refine Wl.done ?_
  refine Ar.next ?_
  refine Wc.seq ?_
  refine Wc.region rfl ?_
  refine Wl.call 1 rfl T.fn38 rfl (c38 _ _ (by omega)) (tags_of trivial) (fun v1 G1 Ho1 hle1 hp => ?_)
  obtain ⟨ro1, rfl, hro1, rfl⟩ := hp
  refine Wl.q rfl (Qy.move rfl) ?_
  refine Wl.re 7 rfl (show _ = Value.int .i64 ((32 * (n / 32) + n % 32 : Nat) : Int) by rw [Nat.div_add_mod]) ?_
  refine Wl.call 20 rfl T.fn109 rfl (c109 _ ro1 1 (n / 32) (n % 32) hro1 (Nat.le_trans (Big.len hro1 one_lt) (by decide)) (Nat.mod_lt _ (by decide)) (by omega)) (tags_of trivial) (fun v9 G9 Ho9 hle9 hp => ?_)
  obtain ⟨r9, rfl, hr9, rfl⟩ := hp
  refine Wl.q rfl (Qy.move rfl) ?_
  refine Wl.q rfl (Qy.extract rfl rfl) ?_
  refine Wl.q rfl (Qy.extract rfl rfl) ?_
  refine Wl.alloc 1 rfl T.zero67 (fun b2 => ?_)
  refine Wl.storeAll 1 T.size67 rfl rfl rfl rfl rfl rfl ?_
  refine Wl.q rfl (Qy.assign rfl) ?_
  refine Wl.done ?_
  refine Ar.next ?_
  refine Wc.seq ?_
  refine Wc.region rfl ?_
  refine Wl.q rfl (Qy.loadAll 1 T.agg67 rfl rfl rfl) ?_
  refine Wl.storeAll 0 T.size67 rfl rfl rfl rfl rfl rfl ?_
  refine Wl.done ?_
  refine Ar.next ?_
  refine Wc.ret ?_
  refine Ar.out1 (.inr rfl) (Ho := Hp.only _ []) rfl (.agg 0 rfl rfl T.agg67) (Hp.sub_only _ _) ?_
  exact ⟨r9, rfl, Big.out hr9 (by rw [Nat.div_add_mod, Int.one_mul, p2_def]), rfl⟩
theorem c70 (G : Imm) (x y : IV) (zx zy : Int) (hx : Big G x zx) (hy : Big G y zy) (h1 : x.n ≤ 268435456) (h2 : y.n ≤ 268435456) (hy0 : zy ≠ 0) :
    Does Tryd.prog 70 [.agg (Cells.enc x).toArray, .agg (Cells.enc y).toArray] G [] (fun v G' Ho => ∃ q : IV, v = .tuple #[.agg (Cells.enc q).toArray, .bool (decide (zx % zy = 0))] ∧ Big G' q (zx / zy) ∧ Ho = []) := by
  have hlt : ((zx % zy).natAbs : Int) < pb y.n := by
    have e2 := emod_small (x := zx) hy0
    have e3 := Big.lt hy
    omega
  refine Does.enter Tryd.func70 rfl Tryd.ntmps70 rfl (fun w => ?_)
  refine Wc.seq ?_
  refine Wc.region rfl ?_
  refine Wl.box 0 rfl rfl rfl (fun b1 => ?_)
  refine Wl.box 1 rfl rfl rfl (fun b2 => ?_)
  refine Wl.alloc 2 rfl T.zero67 (fun b3 => ?_)
  refine Wl.q rfl (Qy.assign rfl) ?_
  refine Wl.done ?_
  refine Ar.next ?_
  refine Wc.seq ?_
  refine Wc.region rfl ?_
  refine Wl.q rfl (Qy.loadAll 0 T.agg67 rfl rfl rfl) ?_
  refine Wl.q rfl (Qy.loadAll 1 T.agg67 rfl rfl rfl) ?_
  refine Wl.call 3 rfl T.fn71 rfl (c71 _ _ _ _ _ hx hy h1 h2 hy0) (tags_of trivial) (fun v1 G1 Ho1 hle1 hp => ?_)
  obtain ⟨q1, r1, rfl, hq1, hr1, rfl⟩ := hp
  replace hx := hx.up hle1
  replace hy := hy.up hle1
  refine Wl.q rfl (Qy.move rfl) ?_
  refine Wl.q rfl (Qy.extract rfl rfl) ?_
  refine Wl.q rfl (Qy.extract rfl rfl) ?_
  refine Wl.q rfl (Qy.extract rfl rfl) ?_
  refine Wl.alloc 3 rfl T.zero67 (fun b4 => ?_)
  refine Wl.alloc 4 rfl T.zero67 (fun b5 => ?_)
  refine Wl.storeAll 3 T.size67 rfl rfl rfl rfl rfl rfl ?_
  refine Wl.storeAll 4 T.size67 rfl rfl rfl rfl rfl rfl ?_
  refine Wl.q rfl (Qy.assign rfl) ?_
  refine Wl.done ?_
  refine Ar.next ?_
  refine Wc.seq ?_
  refine Wc.draw [0, 1, 2, 3, 4] [(2, 4)] T.mixed rfl ?_
  refine Gm.q 0 [3] (by kernel_rfl) rfl rfl (Qy.loadAll 3 T.agg67 rfl rfl rfl) ?_
  refine Gm.q 1 [4] (by kernel_rfl) rfl rfl (Qy.loadAll 4 T.agg67 rfl rfl rfl) ?_
  refine Gm.one 2 ⟨rfl, rfl, rfl, rfl, rfl, trivial⟩ (by first | exact Imm.le_refl _ | assumption | (refine Imm.le_trans ?_ (by assumption); first | assumption | (refine Imm.le_trans ?_ (by assumption); assumption))) (by kernel_rfl) rfl ?_
  refine Wl.call0 rfl T.fn72 rfl (big_sign _ r1 (zx % zy) hr1 (Nat.le_trans (Big.len hr1 hlt) (Nat.le_trans h2 (by decide)))) ?_
  refine Wl.on0 ?_
  refine Gm.q 3 [] (by kernel_rfl) rfl rfl (Qy.eql rfl rfl) ?_
  refine Gm.one 4 ⟨rfl, rfl, rfl, rfl, rfl, trivial⟩ (by first | exact Imm.le_refl _ | assumption | (refine Imm.le_trans ?_ (by assumption); first | assumption | (refine Imm.le_trans ?_ (by assumption); assumption))) (by kernel_rfl) rfl ?_
  refine Wl.storeAll 2 T.size67 rfl rfl rfl rfl rfl rfl ?_
  refine Wl.on0 ?_
  refine Gm.q 5 [] (by kernel_rfl) rfl rfl (Qy.assign rfl) ?_
  refine Gm.doneA (by kernel_rfl) ⟨rfl, rfl, rfl, rfl, trivial⟩ (by first | exact Imm.le_refl _ | assumption | (refine Imm.le_trans ?_ (by assumption); first | assumption | (refine Imm.le_trans ?_ (by assumption); assumption))) ?_
  refine Ar.next ?_
  refine Wc.ret ?_
  refine Ar.out2 (.inr rfl) (Ho := Hp.only _ []) rfl (.agg 2 rfl rfl T.agg67) (.tmp rfl) (Hp.sub_only _ _) ?_
  all_goals exact ⟨q1, by rw [decide_eq_decide.2 sgZ_zero], hq1, rfl⟩
end Go.Proofs.YtbppmiimeccclaaDoor
set_option maxRecDepth 100000
set_option linter.unusedVariables false
namespace Go.Proofs.YtbppmiimeccclaaDoor
open Go Go.Sl
set_option maxHeartbeats 4000000
/-- one instruction on numbers -/
def doZ (i : Sl.Instr) (zs : List Int) : Option Int :=
  let a := zs[i.a.toNat]?.getD 0
  let b := zs[i.b.toNat]?.getD 0
  if i.op = 2 then some (-a)
  else if i.op = 3 then some (a + b)
  else if i.op = 4 then some (a - b)
  else if i.op = 5 ∨ i.op = 7 then some (a * cst i)
  else if i.op = 6 ∨ i.op = 8 then (if a % cst i = 0 then some (a / cst i) else none)
  else some a
/-- how a machine calculates with whole numbers -/
def waysV : Value := .agg #[.func (.func 66) #[] #[], .func (.func 67) #[] #[], .func (.func 68) #[] #[], .func (.func 69) #[] #[], .func (.func 70) #[] #[]]
theorem c88i (G : Imm) (c : Int) (h : 0 ≤ c ∧ c ≤ 64) :
    Does Tryd.prog 88 [.int .i64 c] G [] (fun v G' Ho => ∃ r : IV, v = .agg (Cells.enc r).toArray ∧ Big G' r (p2 c.toNat) ∧ Ho = []) := by
  obtain ⟨n, rfl⟩ := Int.eq_ofNat_of_zero_le h.1
  rw [Int.toNat_natCast]
  exact c88 G n (by omega)
/-- what 'do' answers -/
def DoPost (i : Sl.Instr) (zs : List Int) (H0 : Hp) (v : Value) (G' : Imm) (Ho : Hp) : Prop :=
  ∃ x : IV, v = .tuple #[.agg (Cells.enc x).toArray, .bool (decide (doZ i zs ≠ none))] ∧ (∀ z, doZ i zs = some z → Big G' x z) ∧ Ho = H0
theorem do_some {i : Sl.Instr} {zs : List Int} {H0 : Hp} {x : IV} {G' : Imm} {z : Int} (h : doZ i zs = some z) (hx : Big G' x z) : DoPost i zs H0 (.tuple #[.agg (Cells.enc x).toArray, .bool true]) G' H0 :=
  ⟨x, by rw [decide_eq_true (show doZ i zs ≠ none from fun e => by rw [e] at h; cases h)], fun z' h' => by rw [h] at h'; cases h'; exact hx, rfl⟩
theorem do_over {i : Sl.Instr} {zs : List Int} {H0 : Hp} {q : IV} {G' : Imm} {a y : Int} (h : doZ i zs = if a % y = 0 then some (a / y) else none) (hq : Big G' q (a / y)) : DoPost i zs H0 (.tuple #[.agg (Cells.enc q).toArray, .bool (decide (a % y = 0))]) G' H0 := by
  by_cases ha : a % y = 0
  · rw [if_pos ha] at h
    rw [decide_eq_true ha]
    exact do_some h hq
  · rw [if_neg ha] at h
    refine ⟨q, by rw [decide_eq_false ha, decide_eq_false (show ¬ doZ i zs ≠ none from fun e => e h)], (fun z hz => by rw [h] at hz; cases hz), rfl⟩
attribute [local irreducible] valB pb cmpZ lstWp p2 cst
theorem c65 (G : Imm) (i : Sl.Instr) (o : Option Addr) (d : Nat) (r : List IV) (j : List Value) (zs : List Int) (m : Nat) (hob : OwnA o d r j) (hg : Bigs G r zs) (hm : Below m zs) (hm2 : m ≤ 268435456)
    (hop : 1 ≤ i.op ∧ i.op ≤ 8) (ha : 0 ≤ i.a ∧ i.a < r.length) (hb : 0 ≤ i.b ∧ i.b < r.length)
    (hcst : i.op ≠ 1 → i.op ≠ 2 → i.op ≠ 3 → i.op ≠ 4 → cst i ≠ 0 ∧ ((cst i).natAbs : Int) < pb 3)
    (hc1 : i.op = 5 ∨ i.op = 6 → -9223372036854775808 ≤ i.c ∧ i.c ≤ 9223372036854775807) (hc2 : ¬ (i.op = 5 ∨ i.op = 6) → 0 ≤ i.c ∧ i.c ≤ 64) :
    Does Tryd.prog 65 [waysV, .slice o r.length d, .agg (Cells.enc i).toArray] G [(0, o.map (·.block), Row 67 r j)] (fun v G' Ho => DoPost i zs [(0, o.map (·.block), Row 67 r j)] v G' Ho) := by
  have hca := hob.le
  have haR := hg.at ha
  have hbR := hg.at hb
  have hA2 : (r[i.a.toNat]?.getD default).n ≤ 268435456 := Nat.le_trans (Big.len haR (hm.at _)) hm2
  have hB2 : (r[i.b.toNat]?.getD default).n ≤ 268435456 := Nat.le_trans (Big.len hbR (hm.at _)) hm2
  have hA5 := Nat.le_trans hA2 (show 268435456 ≤ 536870912 by decide)
  have hB5 := Nat.le_trans hB2 (show 268435456 ≤ 536870912 by decide)
  have hA9 := Nat.le_trans hA2 (show 268435456 ≤ 1073741824 by decide)
  refine Does.enter Tryd.func65 rfl Tryd.ntmps65 rfl (fun w => ?_)
  refine Wc.seq ?_
  refine Wc.region rfl ?_
  refine Wl.box 1 rfl rfl rfl (fun b1 => ?_)
  refine Wl.box 2 rfl rfl rfl (fun b2 => ?_)
  refine Wl.alloc 3 rfl T.zero67 (fun b3 => ?_)
  refine Wl.q rfl (Qy.assign rfl) ?_
  refine Wl.done ?_
  refine Ar.next ?_
  refine Wc.meet (ι := Nat × Nat) (fun (p, q) => ([(8, .pointer (some ⟨p, 0, none⟩)), (9, .pointer (some ⟨q, 0, none⟩)), (7, Go.Value.bool Bool.false), (6, Go.Value.pointer (Option.some (Go.Addr.mk b3 0 Option.none))), (5, Go.Value.pointer (Option.some (Go.Addr.mk b2 0 Option.none))), (3, Go.Value.pointer (Option.some (Go.Addr.mk b1 0 Option.none)))], [(60, some p, .cells (Cells.enc (r[i.a.toNat]?.getD default)).toArray 67), (61, some q, .cells (Cells.enc (r[i.b.toNat]?.getD default)).toArray 67), (3, Option.some b3, Go.Obj.cells #[Go.Value.bool Bool.false, Go.Value.slice Option.none 0 0] 67), (2, Option.some b2, Go.Obj.cells (List.toArray (Go.Sl.Cells.enc i)) 55), (1, Option.some b1, Go.Obj.cells #[Go.Value.func (Go.Fn.func 66) #[] #[], Go.Value.func (Go.Fn.func 67) #[] #[], Go.Value.func (Go.Fn.func 68) #[] #[], Go.Value.func (Go.Fn.func 69) #[] #[], Go.Value.func (Go.Fn.func 70) #[] #[]] 72), (0, Option.map (fun x => Go.Addr.block x) o, Go.Sl.Row (α := Go.Sl.IV) 67 (r) (j))])) (fun (p, q) => True) ?_ (fun ⟨p, q⟩ => fun (hk : True) => ?_)
  · refine Wc.draw [0, 1, 2, 3] [] T.mixed rfl ?_
    refine Gm.q 0 [] (by kernel_rfl) rfl rfl (Qy.move rfl) ?_
    refine Gm.q 1 [] (by kernel_rfl) rfl rfl (Qy.fieldAddr T.fa55_2 rfl) ?_
    refine Gm.q 2 [2] (by kernel_rfl) rfl rfl (Qy.load 2 T.one3 rfl rfl rfl) ?_
    refine Gm.q 3 [] (by kernel_rfl) rfl rfl (Qy.indexAddrO (α := IV) T.sl34 rfl rfl (by assumption) (by omega)) ?_
    refine Gm.q 4 [0] (by kernel_rfl) rfl rfl (Qy.loadsO 0 T.agg67 rfl rfl (by assumption) (by omega)) ?_
    refine Gm.q 5 [] (by kernel_rfl) rfl rfl (Qy.move rfl) ?_
    refine Gm.q 6 [] (by kernel_rfl) rfl rfl (Qy.fieldAddr T.fa55_3 rfl) ?_
    refine Gm.q 7 [2] (by kernel_rfl) rfl rfl (Qy.load 2 T.one3 rfl rfl rfl) ?_
    refine Gm.q 8 [] (by kernel_rfl) rfl rfl (Qy.indexAddrO (α := IV) T.sl34 rfl rfl (by assumption) (by omega)) ?_
    refine Gm.q 9 [0] (by kernel_rfl) rfl rfl (Qy.loadsO 0 T.agg67 rfl rfl (by assumption) (by omega)) ?_
    refine Gm.two 10 11 ⟨rfl, rfl, rfl, rfl, trivial⟩ (by first | exact Imm.le_refl _ | assumption | (refine Imm.le_trans ?_ (by assumption); first | assumption | (refine Imm.le_trans ?_ (by assumption); assumption))) (by kernel_rfl) rfl rfl ?_ ?_
    refine Wl.alloc 4 rfl T.zero67 (fun b4 => ?_)
    refine Wl.on0 ?_
    refine Gm.one 11 ⟨rfl, rfl, rfl, rfl, trivial⟩ (by first | exact Imm.le_refl _ | assumption | (refine Imm.le_trans ?_ (by assumption); first | assumption | (refine Imm.le_trans ?_ (by assumption); assumption))) (by kernel_rfl) rfl ?_
    refine Wl.alloc 5 rfl T.zero67 (fun b5 => ?_)
    refine Wl.on0 ?_
    refine Gm.one 12 ⟨rfl, rfl, rfl, rfl, trivial⟩ (by first | exact Imm.le_refl _ | assumption | (refine Imm.le_trans ?_ (by assumption); first | assumption | (refine Imm.le_trans ?_ (by assumption); assumption))) (by kernel_rfl) rfl ?_
    refine Wl.storeAll 4 T.size67 rfl rfl rfl rfl rfl rfl ?_
    refine Wl.on0 ?_
    refine Gm.one 13 ⟨rfl, rfl, rfl, rfl, trivial⟩ (by first | exact Imm.le_refl _ | assumption | (refine Imm.le_trans ?_ (by assumption); first | assumption | (refine Imm.le_trans ?_ (by assumption); assumption))) (by kernel_rfl) rfl ?_
    refine Wl.storeAll 5 T.size67 rfl rfl rfl rfl rfl rfl ?_
    refine Wl.on0 ?_
    refine Gm.doneA (by kernel_rfl) ⟨rfl, rfl, rfl, rfl, trivial⟩ (by first | exact Imm.le_refl _ | assumption | (refine Imm.le_trans ?_ (by assumption); first | assumption | (refine Imm.le_trans ?_ (by assumption); assumption))) ?_
    rotate_left
    refine Wl.alloc 4 rfl T.zero67 (fun b4 => ?_)
    refine Wl.on0 ?_
    refine Gm.one 10 ⟨rfl, rfl, rfl, rfl, trivial⟩ (by first | exact Imm.le_refl _ | assumption | (refine Imm.le_trans ?_ (by assumption); first | assumption | (refine Imm.le_trans ?_ (by assumption); assumption))) (by kernel_rfl) rfl ?_
    refine Wl.alloc 5 rfl T.zero67 (fun b5 => ?_)
    refine Wl.on0 ?_
    refine Gm.one 12 ⟨rfl, rfl, rfl, rfl, trivial⟩ (by first | exact Imm.le_refl _ | assumption | (refine Imm.le_trans ?_ (by assumption); first | assumption | (refine Imm.le_trans ?_ (by assumption); assumption))) (by kernel_rfl) rfl ?_
    refine Wl.storeAll 5 T.size67 rfl rfl rfl rfl rfl rfl ?_
    refine Wl.on0 ?_
    refine Gm.one 13 ⟨rfl, rfl, rfl, rfl, trivial⟩ (by first | exact Imm.le_refl _ | assumption | (refine Imm.le_trans ?_ (by assumption); first | assumption | (refine Imm.le_trans ?_ (by assumption); assumption))) (by kernel_rfl) rfl ?_
    refine Wl.storeAll 4 T.size67 rfl rfl rfl rfl rfl rfl ?_
    refine Wl.on0 ?_
    refine Gm.doneA (by kernel_rfl) ⟨rfl, rfl, rfl, rfl, trivial⟩ (by first | exact Imm.le_refl _ | assumption | (refine Imm.le_trans ?_ (by assumption); first | assumption | (refine Imm.le_trans ?_ (by assumption); assumption))) ?_
    rotate_left
    all_goals first | (refine Ar.retag 4 60 rfl rfl (Ar.retag 5 61 rfl rfl (Ar.meet (b4, b5) trivial rfl ?_ ?_)) <;> (repeat (first | exact trivial | refine ⟨rfl, ?_⟩)); done) | (refine Ar.retag 5 60 rfl rfl (Ar.retag 4 61 rfl rfl (Ar.meet (b5, b4) trivial rfl ?_ ?_)) <;> (repeat (first | exact trivial | refine ⟨rfl, ?_⟩)); done)
  by_cases h2 : i.op = 2
  · refine Wc.seq ?_
    refine Wc.seq ?_
    refine Wc.region rfl ?_
    refine Wl.q rfl (Qy.fieldAddr T.fa55_0 rfl) ?_
    refine Wl.q rfl (Qy.load 2 T.one3 rfl rfl rfl) ?_
    refine Wl.done ?_
    refine Ar.next ?_
    refine Wc.block ?_
    refine Wc.seq ?_
    refine Wc.region rfl ?_
    refine Wl.q rfl (Qy.eql rfl rfl) ?_
    refine Wl.q rfl (Qy.assign rfl) ?_
    refine Wl.done ?_
    refine Ar.next ?_
    refine Wc.condP rfl (by first | assumption | omega) ?_
    refine Wc.seq ?_
    refine Wc.region rfl ?_
    refine Wl.q rfl (Qy.fieldAddr T.fa72_0 rfl) ?_
    refine Wl.q rfl (Qy.load 1 T.one68 rfl rfl rfl) ?_
    refine Wl.q rfl (Qy.loadAll 60 T.agg67 rfl rfl rfl) ?_
    refine Wl.callV (fst := []) (cap := []) 62 rfl T.fn66 rfl rfl (c66 _ _ _ haR hA9) (tags_of trivial) (fun v1 G1 Ho1 hle1 hp => ?_)
    obtain ⟨rs, rfl, hrs, rfl, rfl⟩ := hp
    refine Wl.storeAll 3 T.size67 rfl rfl rfl rfl rfl rfl ?_
    refine Wl.q rfl (Qy.assign rfl) ?_
    refine Wl.done ?_
    refine Ar.next ?_
    refine Wc.ret ?_
    refine Ar.outRet ?_
    refine Ar.passRet ?_
    refine Ar.out2 (.inr rfl) (Ho := Hp.only _ [0]) rfl (.agg 3 rfl rfl T.agg67) (.tmp rfl) (Hp.sub_only _ _) ?_
    exact do_some (by unfold doZ; exact if_pos h2) hrs
  by_cases h3 : i.op = 3
  · refine Wc.seq ?_
    refine Wc.seq ?_
    refine Wc.region rfl ?_
    refine Wl.q rfl (Qy.fieldAddr T.fa55_0 rfl) ?_
    refine Wl.q rfl (Qy.load 2 T.one3 rfl rfl rfl) ?_
    refine Wl.done ?_
    refine Ar.next ?_
    refine Wc.block ?_
    refine Wc.seq ?_
    refine Wc.region rfl ?_
    refine Wl.q rfl (Qy.eql rfl rfl) ?_
    refine Wl.q rfl (Qy.assign rfl) ?_
    refine Wl.done ?_
    refine Ar.next ?_
    refine Wc.condN rfl (by first | assumption | omega) ?_
    refine Wc.seq ?_
    refine Wc.region rfl ?_
    refine Wl.q rfl (Qy.eql rfl rfl) ?_
    refine Wl.q rfl (Qy.assign rfl) ?_
    refine Wl.done ?_
    refine Ar.next ?_
    refine Wc.condP rfl (by first | assumption | omega) ?_
    refine Wc.seq ?_
    refine Wc.region rfl ?_
    refine Wl.q rfl (Qy.fieldAddr T.fa72_1 rfl) ?_
    refine Wl.q rfl (Qy.load 1 T.one69 rfl rfl rfl) ?_
    refine Wl.q rfl (Qy.loadAll 60 T.agg67 rfl rfl rfl) ?_
    refine Wl.q rfl (Qy.loadAll 61 T.agg67 rfl rfl rfl) ?_
    refine Wl.callV (fst := []) (cap := []) 62 rfl T.fn67 rfl rfl (c67 _ _ _ _ _ haR hbR hA5 hB5) (tags_of trivial) (fun v1 G1 Ho1 hle1 hp => ?_)
    obtain ⟨rs, rfl, hrs, rfl⟩ := hp
    replace hg := hg.up hle1
    replace haR := haR.up hle1
    replace hbR := hbR.up hle1
    refine Wl.storeAll 3 T.size67 rfl rfl rfl rfl rfl rfl ?_
    refine Wl.q rfl (Qy.assign rfl) ?_
    refine Wl.done ?_
    refine Ar.next ?_
    refine Wc.ret ?_
    refine Ar.outRet ?_
    refine Ar.passRet ?_
    refine Ar.out2 (.inr rfl) (Ho := Hp.only _ [0]) rfl (.agg 3 rfl rfl T.agg67) (.tmp rfl) (Hp.sub_only _ _) ?_
    exact do_some (by unfold doZ; simp only [h3, if_true]; rfl) hrs
  by_cases h4 : i.op = 4
  · refine Wc.seq ?_
    refine Wc.seq ?_
    refine Wc.region rfl ?_
    refine Wl.q rfl (Qy.fieldAddr T.fa55_0 rfl) ?_
    refine Wl.q rfl (Qy.load 2 T.one3 rfl rfl rfl) ?_
    refine Wl.done ?_
    refine Ar.next ?_
    refine Wc.block ?_
    refine Wc.seq ?_
    refine Wc.region rfl ?_
    refine Wl.q rfl (Qy.eql rfl rfl) ?_
    refine Wl.q rfl (Qy.assign rfl) ?_
    refine Wl.done ?_
    refine Ar.next ?_
    refine Wc.condN rfl (by first | assumption | omega) ?_
    refine Wc.seq ?_
    refine Wc.region rfl ?_
    refine Wl.q rfl (Qy.eql rfl rfl) ?_
    refine Wl.q rfl (Qy.assign rfl) ?_
    refine Wl.done ?_
    refine Ar.next ?_
    refine Wc.condN rfl (by first | assumption | omega) ?_
    refine Wc.seq ?_
    refine Wc.region rfl ?_
    refine Wl.q rfl (Qy.eql rfl rfl) ?_
    refine Wl.q rfl (Qy.assign rfl) ?_
    refine Wl.done ?_
    refine Ar.next ?_
    refine Wc.condP rfl (by first | assumption | omega) ?_
    refine Wc.seq ?_
    refine Wc.region rfl ?_
    refine Wl.q rfl (Qy.fieldAddr T.fa72_2 rfl) ?_
    refine Wl.q rfl (Qy.load 1 T.one69 rfl rfl rfl) ?_
    refine Wl.q rfl (Qy.loadAll 60 T.agg67 rfl rfl rfl) ?_
    refine Wl.q rfl (Qy.loadAll 61 T.agg67 rfl rfl rfl) ?_
    refine Wl.callV (fst := []) (cap := []) 62 rfl T.fn68 rfl rfl (c68 _ _ _ _ _ haR hbR hA5 hB5) (tags_of trivial) (fun v1 G1 Ho1 hle1 hp => ?_)
    obtain ⟨rs, rfl, hrs, rfl⟩ := hp
    replace hg := hg.up hle1
    replace haR := haR.up hle1
    replace hbR := hbR.up hle1
    refine Wl.storeAll 3 T.size67 rfl rfl rfl rfl rfl rfl ?_
    refine Wl.q rfl (Qy.assign rfl) ?_
    refine Wl.done ?_
    refine Ar.next ?_
    refine Wc.ret ?_
    refine Ar.outRet ?_
    refine Ar.passRet ?_
    refine Ar.out2 (.inr rfl) (Ho := Hp.only _ [0]) rfl (.agg 3 rfl rfl T.agg67) (.tmp rfl) (Hp.sub_only _ _) ?_
    exact do_some (by unfold doZ; simp only [h4, if_true]; rfl) hrs
  by_cases h1 : i.op = 1
  · refine Wc.seq ?_
    refine Wc.seq ?_
    refine Wc.region rfl ?_
    refine Wl.q rfl (Qy.fieldAddr T.fa55_0 rfl) ?_
    refine Wl.q rfl (Qy.load 2 T.one3 rfl rfl rfl) ?_
    refine Wl.done ?_
    refine Ar.next ?_
    refine Wc.block ?_
    refine Wc.seq ?_
    refine Wc.region rfl ?_
    refine Wl.q rfl (Qy.eql rfl rfl) ?_
    refine Wl.q rfl (Qy.assign rfl) ?_
    refine Wl.done ?_
    refine Ar.next ?_
    refine Wc.condN rfl (by first | assumption | omega) ?_
    refine Wc.seq ?_
    refine Wc.region rfl ?_
    refine Wl.q rfl (Qy.eql rfl rfl) ?_
    refine Wl.q rfl (Qy.assign rfl) ?_
    refine Wl.done ?_
    refine Ar.next ?_
    refine Wc.condN rfl (by first | assumption | omega) ?_
    refine Wc.seq ?_
    refine Wc.region rfl ?_
    refine Wl.q rfl (Qy.eql rfl rfl) ?_
    refine Wl.q rfl (Qy.assign rfl) ?_
    refine Wl.done ?_
    refine Ar.next ?_
    refine Wc.condN rfl (by first | assumption | omega) ?_
    refine Wc.seq ?_
    refine Wc.region rfl ?_
    refine Wl.q rfl (Qy.eql rfl rfl) ?_
    refine Wl.q rfl (Qy.assign rfl) ?_
    refine Wl.done ?_
    refine Ar.next ?_
    refine Wc.condN rfl (by first | assumption | omega) ?_
    refine Wc.seq ?_
    refine Wc.region rfl ?_
    refine Wl.q rfl (Qy.eql rfl rfl) ?_
    refine Wl.q rfl (Qy.assign rfl) ?_
    refine Wl.done ?_
    refine Ar.next ?_
    refine Wc.condN rfl (by first | assumption | omega) ?_
    refine Wc.seq ?_
    refine Wc.region rfl ?_
    refine Wl.q rfl (Qy.eql rfl rfl) ?_
    refine Wl.q rfl (Qy.assign rfl) ?_
    refine Wl.done ?_
    refine Ar.next ?_
    refine Wc.condN rfl (by first | assumption | omega) ?_
    refine Wc.seq ?_
    refine Wc.region rfl ?_
    refine Wl.q rfl (Qy.eql rfl rfl) ?_
    refine Wl.q rfl (Qy.assign rfl) ?_
    refine Wl.done ?_
    refine Ar.next ?_
    refine Wc.condN rfl (by first | assumption | omega) ?_
    refine Wc.skip ?_
    refine Ar.outNormal ?_
    refine Ar.next ?_
    refine Wc.seq ?_
    refine Wc.region rfl ?_
    refine Wl.q rfl (Qy.loadAll 60 T.agg67 rfl rfl rfl) ?_
    refine Wl.storeAll 3 T.size67 rfl rfl rfl rfl rfl rfl ?_
    refine Wl.q rfl (Qy.assign rfl) ?_
    refine Wl.done ?_
    refine Ar.next ?_
    refine Wc.ret ?_
    refine Ar.out2 (.inr rfl) (Ho := Hp.only _ [0]) rfl (.agg 3 rfl rfl T.agg67) (.tmp rfl) (Hp.sub_only _ _) ?_
    exact do_some (by unfold doZ; simp only [h1]; rfl) haR
  obtain ⟨hk0, hk3⟩ := hcst h1 h2 h3 h4
  by_cases h5 : i.op = 5
  · have hc9 := hc1 (.inl h5)
    have e5 : cst i = i.c := cst_c (.inl h5)
    rw [e5] at hk3
    refine Wc.seq ?_
    refine Wc.seq ?_
    refine Wc.region rfl ?_
    refine Wl.q rfl (Qy.fieldAddr T.fa55_0 rfl) ?_
    refine Wl.q rfl (Qy.load 2 T.one3 rfl rfl rfl) ?_
    refine Wl.done ?_
    refine Ar.next ?_
    refine Wc.block ?_
    refine Wc.seq ?_
    refine Wc.region rfl ?_
    refine Wl.q rfl (Qy.eql rfl rfl) ?_
    refine Wl.q rfl (Qy.assign rfl) ?_
    refine Wl.done ?_
    refine Ar.next ?_
    refine Wc.condN rfl (by first | assumption | omega) ?_
    refine Wc.seq ?_
    refine Wc.region rfl ?_
    refine Wl.q rfl (Qy.eql rfl rfl) ?_
    refine Wl.q rfl (Qy.assign rfl) ?_
    refine Wl.done ?_
    refine Ar.next ?_
    refine Wc.condN rfl (by first | assumption | omega) ?_
    refine Wc.seq ?_
    refine Wc.region rfl ?_
    refine Wl.q rfl (Qy.eql rfl rfl) ?_
    refine Wl.q rfl (Qy.assign rfl) ?_
    refine Wl.done ?_
    refine Ar.next ?_
    refine Wc.condN rfl (by first | assumption | omega) ?_
    refine Wc.seq ?_
    refine Wc.region rfl ?_
    refine Wl.q rfl (Qy.eql rfl rfl) ?_
    refine Wl.q rfl (Qy.assign rfl) ?_
    refine Wl.done ?_
    refine Ar.next ?_
    refine Wc.condP rfl (by first | assumption | omega) ?_
    refine Wc.seq ?_
    refine Wc.draw [0, 1, 2, 3, 61, 60] [(3, 7), (60, 6), (61, 6), (3, 6), (2, 6), (1, 6), (0, 6)] T.mixed rfl ?_
    refine Gm.q 0 [] (by kernel_rfl) rfl rfl (Qy.fieldAddr T.fa72_3 rfl) ?_
    refine Gm.q 1 [1] (by kernel_rfl) rfl rfl (Qy.load 1 T.one69 rfl rfl rfl) ?_
    refine Gm.q 2 [60] (by kernel_rfl) rfl rfl (Qy.loadAll 60 T.agg67 rfl rfl rfl) ?_
    refine Gm.q 3 [] (by kernel_rfl) rfl rfl (Qy.fieldAddr T.fa55_4 rfl) ?_
    refine Gm.one 4 ⟨rfl, rfl, rfl, rfl, rfl, rfl, trivial⟩ (by first | exact Imm.le_refl _ | assumption | (refine Imm.le_trans ?_ (by assumption); first | assumption | (refine Imm.le_trans ?_ (by assumption); assumption))) (by kernel_rfl) rfl ?_
    refine Wl.q rfl (Qy.load 2 T.one3 rfl rfl rfl) ?_
    refine Wl.on0 ?_
    refine Gm.one 5 ⟨rfl, rfl, rfl, rfl, rfl, rfl, trivial⟩ (by first | exact Imm.le_refl _ | assumption | (refine Imm.le_trans ?_ (by assumption); first | assumption | (refine Imm.le_trans ?_ (by assumption); assumption))) (by kernel_rfl) rfl ?_
    refine Wl.call 62 rfl T.fn38 rfl (c38 _ i.c hc9) (tags_of trivial) (fun v1 G1 Ho1 hle1 hp => ?_)
    obtain ⟨rk, rfl, hrk, rfl⟩ := hp
    replace hg := hg.up hle1
    replace haR := haR.up hle1
    replace hbR := hbR.up hle1
    refine Wl.on0 ?_
    refine Gm.one 6 ⟨rfl, rfl, rfl, rfl, rfl, rfl, trivial⟩ (by first | exact Imm.le_refl _ | assumption | (refine Imm.le_trans ?_ (by assumption); first | assumption | (refine Imm.le_trans ?_ (by assumption); assumption))) (by kernel_rfl) rfl ?_
    refine Wl.callV (fst := []) (cap := []) 62 rfl T.fn69 rfl rfl (c69 _ _ _ _ _ haR hrk hA5 (Nat.le_trans (Big.len hrk hk3) (by decide))) (tags_of trivial) (fun v2 G2 Ho2 hle2 hp => ?_)
    obtain ⟨rs, rfl, hrs, rfl⟩ := hp
    replace hrk := hrk.up hle2
    replace hg := hg.up hle2
    replace haR := haR.up hle2
    replace hbR := hbR.up hle2
    refine Wl.on0 ?_
    refine Gm.one 7 trivial (by first | exact Imm.le_refl _ | assumption | (refine Imm.le_trans ?_ (by assumption); first | assumption | (refine Imm.le_trans ?_ (by assumption); assumption))) (by kernel_rfl) rfl ?_
    refine Wl.storeAll 3 T.size67 rfl rfl rfl rfl rfl rfl ?_
    refine Wl.on0 ?_
    refine Gm.q 8 [] (by kernel_rfl) rfl rfl (Qy.assign rfl) ?_
    refine Gm.doneA (by kernel_rfl) trivial (by first | exact Imm.le_refl _ | assumption | (refine Imm.le_trans ?_ (by assumption); first | assumption | (refine Imm.le_trans ?_ (by assumption); assumption))) ?_
    refine Ar.next ?_
    refine Wc.ret ?_
    refine Ar.outRet ?_
    refine Ar.passRet ?_
    refine Ar.out2 (.inr rfl) (Ho := Hp.only _ [0]) rfl (.agg 3 rfl rfl T.agg67) (.tmp rfl) (Hp.sub_only _ _) ?_
    all_goals exact do_some (by unfold doZ; simp only [h5, if_true, true_or]; rfl) (Big.out hrs (by rw [e5]))
  by_cases h6 : i.op = 6
  · have hc9 := hc1 (.inr h6)
    have e5 : cst i = i.c := cst_c (.inr h6)
    rw [e5] at hk3 hk0
    refine Wc.seq ?_
    refine Wc.seq ?_
    refine Wc.region rfl ?_
    refine Wl.q rfl (Qy.fieldAddr T.fa55_0 rfl) ?_
    refine Wl.q rfl (Qy.load 2 T.one3 rfl rfl rfl) ?_
    refine Wl.done ?_
    refine Ar.next ?_
    refine Wc.block ?_
    refine Wc.seq ?_
    refine Wc.region rfl ?_
    refine Wl.q rfl (Qy.eql rfl rfl) ?_
    refine Wl.q rfl (Qy.assign rfl) ?_
    refine Wl.done ?_
    refine Ar.next ?_
    refine Wc.condN rfl (by first | assumption | omega) ?_
    refine Wc.seq ?_
    refine Wc.region rfl ?_
    refine Wl.q rfl (Qy.eql rfl rfl) ?_
    refine Wl.q rfl (Qy.assign rfl) ?_
    refine Wl.done ?_
    refine Ar.next ?_
    refine Wc.condN rfl (by first | assumption | omega) ?_
    refine Wc.seq ?_
    refine Wc.region rfl ?_
    refine Wl.q rfl (Qy.eql rfl rfl) ?_
    refine Wl.q rfl (Qy.assign rfl) ?_
    refine Wl.done ?_
    refine Ar.next ?_
    refine Wc.condN rfl (by first | assumption | omega) ?_
    refine Wc.seq ?_
    refine Wc.region rfl ?_
    refine Wl.q rfl (Qy.eql rfl rfl) ?_
    refine Wl.q rfl (Qy.assign rfl) ?_
    refine Wl.done ?_
    refine Ar.next ?_
    refine Wc.condN rfl (by first | assumption | omega) ?_
    refine Wc.seq ?_
    refine Wc.region rfl ?_
    refine Wl.q rfl (Qy.eql rfl rfl) ?_
    refine Wl.q rfl (Qy.assign rfl) ?_
    refine Wl.done ?_
    refine Ar.next ?_
    refine Wc.condN rfl (by first | assumption | omega) ?_
    refine Wc.seq ?_
    refine Wc.region rfl ?_
    refine Wl.q rfl (Qy.eql rfl rfl) ?_
    refine Wl.q rfl (Qy.assign rfl) ?_
    refine Wl.done ?_
    refine Ar.next ?_
    refine Wc.condP rfl (by first | assumption | omega) ?_
    refine Wc.seq ?_
    refine Wc.draw [0, 1, 2, 3, 61, 60] [(3, 9), (60, 6), (61, 6), (3, 6), (2, 6), (1, 6), (0, 6)] T.mixed rfl ?_
    refine Gm.q 0 [] (by kernel_rfl) rfl rfl (Qy.fieldAddr T.fa72_4 rfl) ?_
    refine Gm.q 1 [1] (by kernel_rfl) rfl rfl (Qy.load 1 T.one70 rfl rfl rfl) ?_
    refine Gm.q 2 [60] (by kernel_rfl) rfl rfl (Qy.loadAll 60 T.agg67 rfl rfl rfl) ?_
    refine Gm.q 3 [] (by kernel_rfl) rfl rfl (Qy.fieldAddr T.fa55_4 rfl) ?_
    refine Gm.one 4 ⟨rfl, rfl, rfl, rfl, rfl, rfl, trivial⟩ (by first | exact Imm.le_refl _ | assumption | (refine Imm.le_trans ?_ (by assumption); first | assumption | (refine Imm.le_trans ?_ (by assumption); assumption))) (by kernel_rfl) rfl ?_
    refine Wl.q rfl (Qy.load 2 T.one3 rfl rfl rfl) ?_
    refine Wl.on0 ?_
    refine Gm.one 5 ⟨rfl, rfl, rfl, rfl, rfl, rfl, trivial⟩ (by first | exact Imm.le_refl _ | assumption | (refine Imm.le_trans ?_ (by assumption); first | assumption | (refine Imm.le_trans ?_ (by assumption); assumption))) (by kernel_rfl) rfl ?_
    refine Wl.call 62 rfl T.fn38 rfl (c38 _ i.c hc9) (tags_of trivial) (fun v1 G1 Ho1 hle1 hp => ?_)
    obtain ⟨rk, rfl, hrk, rfl⟩ := hp
    replace hg := hg.up hle1
    replace haR := haR.up hle1
    replace hbR := hbR.up hle1
    refine Wl.on0 ?_
    refine Gm.one 6 ⟨rfl, rfl, rfl, rfl, rfl, rfl, trivial⟩ (by first | exact Imm.le_refl _ | assumption | (refine Imm.le_trans ?_ (by assumption); first | assumption | (refine Imm.le_trans ?_ (by assumption); assumption))) (by kernel_rfl) rfl ?_
    refine Wl.callV (fst := []) (cap := []) 62 rfl T.fn70 rfl rfl (c70 _ _ _ _ _ haR hrk hA2 (Nat.le_trans (Big.len hrk hk3) (by decide)) hk0) (tags_of trivial) (fun v2 G2 Ho2 hle2 hp => ?_)
    obtain ⟨rs, rfl, hrs, rfl⟩ := hp
    replace hrk := hrk.up hle2
    replace hg := hg.up hle2
    replace haR := haR.up hle2
    replace hbR := hbR.up hle2
    refine Wl.on0 ?_
    refine Gm.q 7 [] (by kernel_rfl) rfl rfl (Qy.extract rfl rfl) ?_
    refine Gm.q 8 [] (by kernel_rfl) rfl rfl (Qy.extract rfl rfl) ?_
    refine Gm.one 9 trivial (by first | exact Imm.le_refl _ | assumption | (refine Imm.le_trans ?_ (by assumption); first | assumption | (refine Imm.le_trans ?_ (by assumption); assumption))) (by kernel_rfl) rfl ?_
    refine Wl.storeAll 3 T.size67 rfl rfl rfl rfl rfl rfl ?_
    refine Wl.on0 ?_
    refine Gm.q 10 [] (by kernel_rfl) rfl rfl (Qy.assign rfl) ?_
    refine Gm.doneA (by kernel_rfl) trivial (by first | exact Imm.le_refl _ | assumption | (refine Imm.le_trans ?_ (by assumption); first | assumption | (refine Imm.le_trans ?_ (by assumption); assumption))) ?_
    refine Ar.next ?_
    refine Wc.ret ?_
    refine Ar.outRet ?_
    refine Ar.passRet ?_
    refine Ar.out2 (.inr rfl) (Ho := Hp.only _ [0]) rfl (.agg 3 rfl rfl T.agg67) (.tmp rfl) (Hp.sub_only _ _) ?_
    all_goals exact do_over (by unfold doZ; simp only [h6, if_true, true_or]; rw [e5]; rfl) hrs
  have hc64 := hc2 (fun h => h.elim h5 h6)
  have e5 : cst i = p2 i.c.toNat := cst_p (fun h => h.elim h5 h6)
  rw [e5] at hk3 hk0
  by_cases h7 : i.op = 7
  · refine Wc.seq ?_
    refine Wc.seq ?_
    refine Wc.region rfl ?_
    refine Wl.q rfl (Qy.fieldAddr T.fa55_0 rfl) ?_
    refine Wl.q rfl (Qy.load 2 T.one3 rfl rfl rfl) ?_
    refine Wl.done ?_
    refine Ar.next ?_
    refine Wc.block ?_
    refine Wc.seq ?_
    refine Wc.region rfl ?_
    refine Wl.q rfl (Qy.eql rfl rfl) ?_
    refine Wl.q rfl (Qy.assign rfl) ?_
    refine Wl.done ?_
    refine Ar.next ?_
    refine Wc.condN rfl (by first | assumption | omega) ?_
    refine Wc.seq ?_
    refine Wc.region rfl ?_
    refine Wl.q rfl (Qy.eql rfl rfl) ?_
    refine Wl.q rfl (Qy.assign rfl) ?_
    refine Wl.done ?_
    refine Ar.next ?_
    refine Wc.condN rfl (by first | assumption | omega) ?_
    refine Wc.seq ?_
    refine Wc.region rfl ?_
    refine Wl.q rfl (Qy.eql rfl rfl) ?_
    refine Wl.q rfl (Qy.assign rfl) ?_
    refine Wl.done ?_
    refine Ar.next ?_
    refine Wc.condN rfl (by first | assumption | omega) ?_
    refine Wc.seq ?_
    refine Wc.region rfl ?_
    refine Wl.q rfl (Qy.eql rfl rfl) ?_
    refine Wl.q rfl (Qy.assign rfl) ?_
    refine Wl.done ?_
    refine Ar.next ?_
    refine Wc.condN rfl (by first | assumption | omega) ?_
    refine Wc.seq ?_
    refine Wc.region rfl ?_
    refine Wl.q rfl (Qy.eql rfl rfl) ?_
    refine Wl.q rfl (Qy.assign rfl) ?_
    refine Wl.done ?_
    refine Ar.next ?_
    refine Wc.condP rfl (by first | assumption | omega) ?_
    refine Wc.seq ?_
    refine Wc.draw [0, 1, 2, 3, 61, 60] [(3, 7), (60, 6), (61, 6), (3, 6), (2, 6), (1, 6), (0, 6)] T.mixed rfl ?_
    refine Gm.q 0 [] (by kernel_rfl) rfl rfl (Qy.fieldAddr T.fa72_3 rfl) ?_
    refine Gm.q 1 [1] (by kernel_rfl) rfl rfl (Qy.load 1 T.one69 rfl rfl rfl) ?_
    refine Gm.q 2 [60] (by kernel_rfl) rfl rfl (Qy.loadAll 60 T.agg67 rfl rfl rfl) ?_
    refine Gm.q 3 [] (by kernel_rfl) rfl rfl (Qy.fieldAddr T.fa55_4 rfl) ?_
    refine Gm.one 4 ⟨rfl, rfl, rfl, rfl, rfl, rfl, trivial⟩ (by first | exact Imm.le_refl _ | assumption | (refine Imm.le_trans ?_ (by assumption); first | assumption | (refine Imm.le_trans ?_ (by assumption); assumption))) (by kernel_rfl) rfl ?_
    refine Wl.q rfl (Qy.load 2 T.one3 rfl rfl rfl) ?_
    refine Wl.on0 ?_
    refine Gm.one 5 ⟨rfl, rfl, rfl, rfl, rfl, rfl, trivial⟩ (by first | exact Imm.le_refl _ | assumption | (refine Imm.le_trans ?_ (by assumption); first | assumption | (refine Imm.le_trans ?_ (by assumption); assumption))) (by kernel_rfl) rfl ?_
    refine Wl.call 62 rfl T.fn88 rfl (c88i _ i.c hc64) (tags_of trivial) (fun v1 G1 Ho1 hle1 hp => ?_)
    obtain ⟨rk, rfl, hrk, rfl⟩ := hp
    replace hg := hg.up hle1
    replace haR := haR.up hle1
    replace hbR := hbR.up hle1
    refine Wl.on0 ?_
    refine Gm.one 6 ⟨rfl, rfl, rfl, rfl, rfl, rfl, trivial⟩ (by first | exact Imm.le_refl _ | assumption | (refine Imm.le_trans ?_ (by assumption); first | assumption | (refine Imm.le_trans ?_ (by assumption); assumption))) (by kernel_rfl) rfl ?_
    refine Wl.callV (fst := []) (cap := []) 62 rfl T.fn69 rfl rfl (c69 _ _ _ _ _ haR hrk hA5 (Nat.le_trans (Big.len hrk hk3) (by decide))) (tags_of trivial) (fun v2 G2 Ho2 hle2 hp => ?_)
    obtain ⟨rs, rfl, hrs, rfl⟩ := hp
    replace hrk := hrk.up hle2
    replace hg := hg.up hle2
    replace haR := haR.up hle2
    replace hbR := hbR.up hle2
    refine Wl.on0 ?_
    refine Gm.one 7 trivial (by first | exact Imm.le_refl _ | assumption | (refine Imm.le_trans ?_ (by assumption); first | assumption | (refine Imm.le_trans ?_ (by assumption); assumption))) (by kernel_rfl) rfl ?_
    refine Wl.storeAll 3 T.size67 rfl rfl rfl rfl rfl rfl ?_
    refine Wl.on0 ?_
    refine Gm.q 8 [] (by kernel_rfl) rfl rfl (Qy.assign rfl) ?_
    refine Gm.doneA (by kernel_rfl) trivial (by first | exact Imm.le_refl _ | assumption | (refine Imm.le_trans ?_ (by assumption); first | assumption | (refine Imm.le_trans ?_ (by assumption); assumption))) ?_
    refine Ar.next ?_
    refine Wc.ret ?_
    refine Ar.outRet ?_
    refine Ar.passRet ?_
    refine Ar.out2 (.inr rfl) (Ho := Hp.only _ [0]) rfl (.agg 3 rfl rfl T.agg67) (.tmp rfl) (Hp.sub_only _ _) ?_
    all_goals exact do_some (by unfold doZ; simp only [h7, if_true, or_true]; rfl) (Big.out hrs (by rw [e5]))
  · have h8 : i.op = 8 := by omega
    refine Wc.seq ?_
    refine Wc.seq ?_
    refine Wc.region rfl ?_
    refine Wl.q rfl (Qy.fieldAddr T.fa55_0 rfl) ?_
    refine Wl.q rfl (Qy.load 2 T.one3 rfl rfl rfl) ?_
    refine Wl.done ?_
    refine Ar.next ?_
    refine Wc.block ?_
    refine Wc.seq ?_
    refine Wc.region rfl ?_
    refine Wl.q rfl (Qy.eql rfl rfl) ?_
    refine Wl.q rfl (Qy.assign rfl) ?_
    refine Wl.done ?_
    refine Ar.next ?_
    refine Wc.condN rfl (by first | assumption | omega) ?_
    refine Wc.seq ?_
    refine Wc.region rfl ?_
    refine Wl.q rfl (Qy.eql rfl rfl) ?_
    refine Wl.q rfl (Qy.assign rfl) ?_
    refine Wl.done ?_
    refine Ar.next ?_
    refine Wc.condN rfl (by first | assumption | omega) ?_
    refine Wc.seq ?_
    refine Wc.region rfl ?_
    refine Wl.q rfl (Qy.eql rfl rfl) ?_
    refine Wl.q rfl (Qy.assign rfl) ?_
    refine Wl.done ?_
    refine Ar.next ?_
    refine Wc.condN rfl (by first | assumption | omega) ?_
    refine Wc.seq ?_
    refine Wc.region rfl ?_
    refine Wl.q rfl (Qy.eql rfl rfl) ?_
    refine Wl.q rfl (Qy.assign rfl) ?_
    refine Wl.done ?_
    refine Ar.next ?_
    refine Wc.condN rfl (by first | assumption | omega) ?_
    refine Wc.seq ?_
    refine Wc.region rfl ?_
    refine Wl.q rfl (Qy.eql rfl rfl) ?_
    refine Wl.q rfl (Qy.assign rfl) ?_
    refine Wl.done ?_
    refine Ar.next ?_
    refine Wc.condN rfl (by first | assumption | omega) ?_
    refine Wc.seq ?_
    refine Wc.region rfl ?_
    refine Wl.q rfl (Qy.eql rfl rfl) ?_
    refine Wl.q rfl (Qy.assign rfl) ?_
    refine Wl.done ?_
    refine Ar.next ?_
    refine Wc.condN rfl (by first | assumption | omega) ?_
    refine Wc.seq ?_
    refine Wc.region rfl ?_
    refine Wl.q rfl (Qy.eql rfl rfl) ?_
    refine Wl.q rfl (Qy.assign rfl) ?_
    refine Wl.done ?_
    refine Ar.next ?_
    refine Wc.condP rfl (by first | assumption | omega) ?_
    refine Wc.seq ?_
    refine Wc.draw [0, 1, 2, 3, 61, 60] [(3, 9), (60, 6), (61, 6), (3, 6), (2, 6), (1, 6), (0, 6)] T.mixed rfl ?_
    refine Gm.q 0 [] (by kernel_rfl) rfl rfl (Qy.fieldAddr T.fa72_4 rfl) ?_
    refine Gm.q 1 [1] (by kernel_rfl) rfl rfl (Qy.load 1 T.one70 rfl rfl rfl) ?_
    refine Gm.q 2 [60] (by kernel_rfl) rfl rfl (Qy.loadAll 60 T.agg67 rfl rfl rfl) ?_
    refine Gm.q 3 [] (by kernel_rfl) rfl rfl (Qy.fieldAddr T.fa55_4 rfl) ?_
    refine Gm.one 4 ⟨rfl, rfl, rfl, rfl, rfl, rfl, trivial⟩ (by first | exact Imm.le_refl _ | assumption | (refine Imm.le_trans ?_ (by assumption); first | assumption | (refine Imm.le_trans ?_ (by assumption); assumption))) (by kernel_rfl) rfl ?_
    refine Wl.q rfl (Qy.load 2 T.one3 rfl rfl rfl) ?_
    refine Wl.on0 ?_
    refine Gm.one 5 ⟨rfl, rfl, rfl, rfl, rfl, rfl, trivial⟩ (by first | exact Imm.le_refl _ | assumption | (refine Imm.le_trans ?_ (by assumption); first | assumption | (refine Imm.le_trans ?_ (by assumption); assumption))) (by kernel_rfl) rfl ?_
    refine Wl.call 62 rfl T.fn88 rfl (c88i _ i.c hc64) (tags_of trivial) (fun v1 G1 Ho1 hle1 hp => ?_)
    obtain ⟨rk, rfl, hrk, rfl⟩ := hp
    replace hg := hg.up hle1
    replace haR := haR.up hle1
    replace hbR := hbR.up hle1
    refine Wl.on0 ?_
    refine Gm.one 6 ⟨rfl, rfl, rfl, rfl, rfl, rfl, trivial⟩ (by first | exact Imm.le_refl _ | assumption | (refine Imm.le_trans ?_ (by assumption); first | assumption | (refine Imm.le_trans ?_ (by assumption); assumption))) (by kernel_rfl) rfl ?_
    refine Wl.callV (fst := []) (cap := []) 62 rfl T.fn70 rfl rfl (c70 _ _ _ _ _ haR hrk hA2 (Nat.le_trans (Big.len hrk hk3) (by decide)) hk0) (tags_of trivial) (fun v2 G2 Ho2 hle2 hp => ?_)
    obtain ⟨rs, rfl, hrs, rfl⟩ := hp
    replace hrk := hrk.up hle2
    replace hg := hg.up hle2
    replace haR := haR.up hle2
    replace hbR := hbR.up hle2
    refine Wl.on0 ?_
    refine Gm.q 7 [] (by kernel_rfl) rfl rfl (Qy.extract rfl rfl) ?_
    refine Gm.q 8 [] (by kernel_rfl) rfl rfl (Qy.extract rfl rfl) ?_
    refine Gm.one 9 trivial (by first | exact Imm.le_refl _ | assumption | (refine Imm.le_trans ?_ (by assumption); first | assumption | (refine Imm.le_trans ?_ (by assumption); assumption))) (by kernel_rfl) rfl ?_
    refine Wl.storeAll 3 T.size67 rfl rfl rfl rfl rfl rfl ?_
    refine Wl.on0 ?_
    refine Gm.q 10 [] (by kernel_rfl) rfl rfl (Qy.assign rfl) ?_
    refine Gm.doneA (by kernel_rfl) trivial (by first | exact Imm.le_refl _ | assumption | (refine Imm.le_trans ?_ (by assumption); first | assumption | (refine Imm.le_trans ?_ (by assumption); assumption))) ?_
    refine Ar.next ?_
    refine Wc.ret ?_
    refine Ar.outRet ?_
    refine Ar.passRet ?_
    refine Ar.out2 (.inr rfl) (Ho := Hp.only _ [0]) rfl (.agg 3 rfl rfl T.agg67) (.tmp rfl) (Hp.sub_only _ _) ?_
    all_goals exact do_over (by unfold doZ; simp only [h8, if_true, or_true]; rw [e5]; rfl) hrs
end Go.Proofs.YtbppmiimeccclaaDoor
namespace Go.Proofs.YtbppmiimeccclaaDoor
open Go Go.Sl
set_option maxRecDepth 100000
set_option maxHeartbeats 2000000
theorem right_facts {p : PV} (h : rightP p = true) : 1 ≤ p.ins ∧ p.ins ≤ p.regs ∧ p.regs ≤ 128 ∧ p.code.length ≤ 16384 ∧ 1 ≤ p.outs.length ∧ p.outs.length ≤ 128 ∧ (∀ r ∈ p.outs, 0 ≤ r ∧ r < p.regs) ∧ (∀ i ∈ p.code, mayOk i p.regs = true) := by
  unfold rightP checkP at h
  by_cases hh : headOk p = false
  · rw [if_pos hh] at h; cases h
  · rw [if_neg hh] at h
    have hb : badAt p = none := by
      cases hb : badAt p with
      | none => rfl
      | some k => rw [hb] at h; cases h
    have hh' : headOk p = true := by simpa using hh
    unfold headOk at hh'
    rw [Bool.and_eq_true, decide_eq_true_eq, List.all_eq_true] at hh'
    unfold badAt at hb
    rw [List.findIdx?_eq_none_iff] at hb
    obtain ⟨⟨g1, g2, g3, g4, g5, g6⟩, g7⟩ := hh'
    refine ⟨g1, g2, g3, g4, g5, g6, fun r hr => ?_, fun i hi => ?_⟩
    · have := g7 r hr; rw [decide_eq_true_eq] at this; exact this
    · simpa using hb i hi
section
variable {t : Tab} {out : List Sl.Instr} {n : Int} {i : Sl.Instr}
end
end Go.Proofs.YtbppmiimeccclaaDoor
namespace Go.Proofs.YtbppmiimeccclaaDoor
open Go Go.Sl
set_option maxRecDepth 100000
set_option maxHeartbeats 2000000
def Yes : Prop := True
instance : Decidable Yes := .isTrue trivial
theorem yes : Yes := trivial
end Go.Proofs.YtbppmiimeccclaaDoor
namespace Go.Proofs.YtbppmiimeccclaaDoor
open Go Go.Sl
set_option linter.unusedVariables false
theorem get_mem {l : List Int} {r : Int} (h : 0 ≤ r ∧ r < l.length) : l[r.toNat]?.getD default ∈ l := by
  have hlt : r.toNat < l.length := by omega
  rw [List.getElem?_eq_getElem hlt]; exact List.getElem_mem hlt
end Go.Proofs.YtbppmiimeccclaaDoor
set_option linter.unusedVariables false
namespace Go.Proofs.YtbppmiimeccclaaDoor
open Go Go.Sl
def AllDiv (y : Int) (xs : List Int) : Prop := ∀ i : Nat, i < xs.length → xs[i]?.getD 0 % y = 0
instance (y : Int) (xs : List Int) : Decidable (AllDiv y xs) := by unfold AllDiv; infer_instance
theorem p2_64_lt : ∀ c : Nat, c ≤ 64 → ((p2 c).natAbs : Int) < pw 5 := fun c hc => by
  have h1 := p2_le hc
  have h2 := p2_pos c
  have h3 : p2 64 < pw 5 := by unfold p2 pw; decide
  omega
theorem may_facts {i : Sl.Instr} {regs : Int} (h : mayOk i regs = true) : (1 ≤ i.op ∧ i.op ≤ 8) ∧ (0 ≤ i.to ∧ i.to < regs) ∧ (0 ≤ i.a ∧ i.a < regs) ∧ (i.op = 3 ∨ i.op = 4 → 0 ≤ i.b ∧ i.b < regs) ∧ constOk i.op i.c = true ∧
    (i.op ≠ 1 → i.op ≠ 2 → i.op ≠ 3 → i.op ≠ 4 → cst i ≠ 0 ∧ ((cst i).natAbs : Int) < pw 5) ∧ (i.op = 5 ∨ i.op = 6 → -9223372036854775808 ≤ i.c ∧ i.c ≤ 9223372036854775807) ∧ (¬ (i.op = 5 ∨ i.op = 6) → 0 ≤ i.c ∧ i.c ≤ 64) := by
  unfold mayOk at h
  rw [Bool.and_eq_true, Bool.and_eq_true, decide_eq_true_eq, List.all_eq_true] at h
  obtain ⟨⟨⟨g1, g2, g3, g4, g5⟩, g6⟩, g7⟩ := h
  have hA : ∀ r ∈ asks i, 0 ≤ r ∧ r < regs := fun r hr => by have := g7 r hr; rwa [decide_eq_true_eq] at this
  have ha : i.a ∈ asks i := by
    unfold asks
    split
    · exact List.mem_cons_self
    · rw [if_pos ⟨g1, g2⟩]; exact List.mem_cons_self
  have hc := g6
  unfold constOk at g6
  have k1 : i.op = 5 ∨ i.op = 6 → i.c ≠ 0 ∧ -512 ≤ i.c ∧ i.c ≤ 512 := fun h => by rw [if_pos h, decide_eq_true_eq] at g6; exact g6
  have k2 : ¬ (i.op = 5 ∨ i.op = 6) → (i.op = 7 ∨ i.op = 8 → 1 ≤ i.c ∧ i.c ≤ 64) ∧ (¬ (i.op = 7 ∨ i.op = 8) → i.c = 0) := fun h => by
    rw [if_neg h] at g6
    refine ⟨fun h2 => ?_, fun h2 => ?_⟩
    · rw [if_pos h2, decide_eq_true_eq] at g6; exact g6
    · rw [if_neg h2, decide_eq_true_eq] at g6; exact g6
  refine ⟨⟨g1, g2⟩, ⟨g3, g4⟩, hA _ ha, fun h34 => hA _ (by unfold asks; rw [if_pos h34]; exact List.mem_cons_of_mem _ List.mem_cons_self), hc, fun n1 n2 n3 n4 => ?_, fun h56 => by have := k1 h56; omega, fun h56 => ?_⟩
  · by_cases h56 : i.op = 5 ∨ i.op = 6
    · rw [cst_c h56]
      have := k1 h56
      have h3 : (65536 : Int) < pw 5 := by unfold pw; decide
      exact ⟨this.1, by omega⟩
    · rw [cst_p h56]
      have h2 := (k2 h56).1 (by omega)
      have := p2_pos i.c.toNat
      exact ⟨by omega, p2_64_lt _ (by omega)⟩
  · by_cases h78 : i.op = 7 ∨ i.op = 8
    · have := (k2 h56).1 h78; omega
    · have := (k2 h56).2 h78; omega
end Go.Proofs.YtbppmiimeccclaaDoor
set_option maxRecDepth 100000
set_option linter.unusedVariables false
namespace Go.Proofs.YtbppmiimeccclaaDoor
open Go Go.Sl
set_option maxHeartbeats 4000000
theorem pw5_pb3 : pw 5 ≤ pb 3 := by unfold pw pb; decide
theorem mul_lt_pb {m k : Nat} {x y : Int} (hx : (x.natAbs : Int) < pb m) (hy : (y.natAbs : Int) < pb k) : ((x * y).natAbs : Int) < pb (m + k) := by
  rw [Int.natAbs_mul, Int.natCast_mul, pb_add]
  have h1 := Int.mul_le_mul_of_nonneg_left (Int.le_of_lt hy) (show (0 : Int) ≤ x.natAbs by omega)
  have h2 := Int.mul_lt_mul_of_pos_right hx (pb_pos k)
  omega
theorem doZ_small {i : Sl.Instr} {zs : List Int} {m : Nat} {z : Int} (hm : Below m zs) (hk : i.op = 5 ∨ i.op = 7 → ((cst i).natAbs : Int) < pb 3) (h : doZ i zs = some z) : (z.natAbs : Int) < pb (m + 3) := by
  have ha := hm.at i.a.toNat
  have hb := hm.at i.b.toNat
  have hp := pb_pos m
  have h4 : 4294967296 * pb m ≤ pb (m + 3) := by rw [← pb_succ]; exact pb_le (by omega)
  unfold doZ at h
  simp only at h
  split at h
  · cases h; omega
  · split at h
    · cases h; omega
    · split at h
      · cases h; omega
      · split at h
        · rename_i h57
          cases h
          exact mul_lt_pb ha (hk h57)
        · split at h
          · split at h
            · cases h
              have h1 : (zs[i.a.toNat]?.getD 0 / cst i).natAbs ≤ (zs[i.a.toNat]?.getD 0).natAbs := Int.natAbs_ediv_le_natAbs _ _
              omega
            · cases h
          · cases h
            omega
/-- the registers' numbers after k instructions -/
def stepsZ (p : PV) (zs : List Int) : Nat → Option (List Int)
  | 0 => some zs
  | k + 1 => (stepsZ p zs k).bind fun rs => (doZ (p.code[((k : Nat) : Int).toNat]?.getD default) rs).map fun x => rs.set (p.code[((k : Nat) : Int).toNat]?.getD default).to.toNat x
theorem stepsZ_succ {p : PV} {zs rs : List Int} {k : Nat} {y : Int} (h : stepsZ p zs k = some rs) (hd : doZ (p.code[((k : Nat) : Int).toNat]?.getD default) rs = some y) :
    stepsZ p zs (k + 1) = some (rs.set (p.code[((k : Nat) : Int).toNat]?.getD default).to.toNat y) := by
  unfold stepsZ; rw [h]; simp only [Option.bind_some, hd, Option.map_some]
theorem stepsZ_none {p : PV} {zs : List Int} {k : Nat} (h : stepsZ p zs k = none) (j : Nat) : stepsZ p zs (k + j) = none := by
  induction j with
  | zero => exact h
  | succ j ih => rw [← Nat.add_assoc]; unfold stepsZ; rw [ih]; rfl
theorem stepsZ_stop {p : PV} {zs rs : List Int} {k : Nat} (h : stepsZ p zs k = some rs) (hd : doZ (p.code[((k : Nat) : Int).toNat]?.getD default) rs = none) (hk : k < p.code.length) : stepsZ p zs p.code.length = none := by
  have h1 : stepsZ p zs (k + 1) = none := by unfold stepsZ; rw [h]; simp only [Option.bind_some, hd, Option.map_none]
  have h2 := stepsZ_none h1 (p.code.length - (k + 1))
  rw [show k + 1 + (p.code.length - (k + 1)) = p.code.length by omega] at h2
  exact h2
theorem below_set {m : Nat} {zs : List Int} {z : Int} (h : Below m zs) (hz : (z.natAbs : Int) < pb m) (k : Nat) : Below m (zs.set k z) := fun x hx => by
  rcases List.mem_or_eq_of_mem_set hx with h1 | h1
  · exact h x h1
  · rw [h1]; exact hz
theorem Below.mono {m k : Nat} {zs : List Int} (h : Below m zs) (hk : m ≤ k) : Below k zs := fun z hz => Int.lt_of_lt_of_le (h z hz) (pb_le hk)
attribute [local irreducible] valB pb cmpZ lstWp p2 cst doZ
theorem c37 (G : Imm) (k : Int) (x : IV) : Does Tryd.prog 37 [.int .i64 k, .agg (Cells.enc x).toArray] G [] (fun v G' Ho => v = .bool true ∧ G' = G ∧ Ho = []) := by
  refine Does.enter Tryd.func37 rfl Tryd.ntmps37 rfl (fun w => ?_)
  refine Wc.seq ?_
  refine Wc.region rfl ?_
  refine Wl.box 0 rfl rfl rfl (fun b1 => ?_)
  refine Wl.q rfl (Qy.assign rfl) ?_
  refine Wl.done ?_
  refine Ar.next ?_
  refine Wc.seq ?_
  refine Wc.region rfl ?_
  refine Wl.q rfl (Qy.assign rfl) ?_
  refine Wl.done ?_
  refine Ar.next ?_
  refine Wc.ret ?_
  refine Ar.out1 (.inr rfl) (Ho := Hp.only _ []) rfl (.tmp rfl) (Hp.sub_only _ _) ?_
  exact ⟨rfl, rfl, rfl⟩
/-- the run of a program: its registers behind it, or that it fails -/
def RunPost (p : PV) (zs : List Int) (o : Option Addr) (d : Nat) (r : List IV) (j : List Value) (v : Value) (G' : Imm) (Ho : Hp) : Prop :=
  ∃ (r' : List IV) (k : Int), v = .int .i64 k ∧ Ho = [(0, o.map (·.block), Row 67 r' j)] ∧ r'.length = r.length ∧ OwnA o d r' j ∧
    ((∃ zs', stepsZ p zs p.code.length = some zs' ∧ k = -1 ∧ Bigs G' r' zs') ∨ (stepsZ p zs p.code.length = none ∧ 0 ≤ k))
theorem c35 (G : Imm) (p : PV) (ac ao : Option Addr) (cc co : Nat) (o : Option Addr) (d : Nat) (r : List IV) (j : List Value) (zs : List Int) (m : Nat) (hc : Arr G ac p.code) (hob : OwnA o d r j) (hg : Bigs G r zs) (hm : Below m zs)
    (hmm : m + 3 * p.code.length ≤ 268435456) (hlen : p.code.length ≤ 16384) (hr : (r.length : Int) = p.regs) (hrr : r.length ≤ 128) (hmay : ∀ i ∈ p.code, mayOk i p.regs = true) :
    Does Tryd.prog 35 [waysV, .agg #[.int .i64 p.ins, .int .i64 p.regs, .slice ac p.code.length cc, .slice ao p.outs.length co], .slice o r.length d, .func (.func 37) #[] #[]] G [(0, o.map (·.block), Row 67 r j)] (RunPost p zs o d r j) := by
  refine Does.enter Tryd.func35 rfl Tryd.ntmps35 rfl (fun w => ?_)
  refine Wc.seq ?_
  refine Wc.region rfl ?_
  refine Wl.box 1 rfl rfl rfl (fun b1 => ?_)
  refine Wl.box 2 rfl rfl rfl (fun b2 => ?_)
  refine Wl.q rfl (Qy.assign rfl) ?_
  refine Wl.done ?_
  refine Ar.next ?_
  refine Wc.scope ?_
  refine Wc.seq ?_
  refine Wc.label ?_
  refine Ar.next ?_
  refine Wc.seq ?_
  refine Wc.seq ?_
  refine Wc.region rfl ?_
  refine Wl.q rfl (Qy.fieldAddr T.fa25_2 rfl) ?_
  refine Wl.q rfl (Qy.load 2 T.one22 rfl rfl rfl) ?_
  refine Wl.q rfl (Qy.len T.sl22 rfl) ?_
  refine Wl.q rfl (Qy.move rfl) ?_
  refine Wl.done ?_
  refine Ar.next ?_
  refine Wc.block ?_
  refine Wc.loopG (ι := Nat × Imm × List IV × List Int) (fun (i, Gx, r2, rs) => ([(16, .int .i64 (i : Int)), (2, .slice o r2.length d), (15, Go.Value.int Go.IntKind.i64 (↑(List.length (Go.Proofs.YtbppmiimeccclaaDoor.PV.code p)) : Int)), (14, Go.Value.slice ac (List.length (Go.Proofs.YtbppmiimeccclaaDoor.PV.code p)) cc), (4, Go.Value.pointer (Option.some (Go.Addr.mk b1 0 Option.none))), (3, Go.Value.func (Go.Fn.func 37) #[] #[])], [(0, o.map (·.block), Row 67 r2 j), (2, Option.some b2, Go.Obj.cells #[Go.Value.int Go.IntKind.i64 (Go.Proofs.YtbppmiimeccclaaDoor.PV.ins p), Go.Value.int Go.IntKind.i64 (Go.Proofs.YtbppmiimeccclaaDoor.PV.regs p), Go.Value.slice ac (List.length (Go.Proofs.YtbppmiimeccclaaDoor.PV.code p)) cc, Go.Value.slice ao (List.length (Go.Proofs.YtbppmiimeccclaaDoor.PV.outs p)) co] 25), (1, Option.some b1, Go.Obj.cells #[Go.Value.func (Go.Fn.func 66) #[] #[], Go.Value.func (Go.Fn.func 67) #[] #[], Go.Value.func (Go.Fn.func 68) #[] #[], Go.Value.func (Go.Fn.func 69) #[] #[], Go.Value.func (Go.Fn.func 70) #[] #[]] 72)])) (fun (i, Gx, r2, rs) => Gx) (fun (i, Gx, r2, rs) => i ≤ p.code.length ∧ G.le Gx ∧ r2.length = r.length ∧ OwnA o d r2 j ∧ Bigs Gx r2 rs ∧ Below (m + 3 * i) rs ∧ stepsZ p zs i = some rs) (fun (i, Gx, r2, rs) => p.code.length - i) ((0, G, r, zs)) (⟨Nat.zero_le _, Imm.le_refl _, rfl, hob, hg, hm, rfl⟩) rfl ⟨rfl, rfl, rfl, rfl, rfl, rfl, trivial⟩ ⟨rfl, rfl, rfl, trivial⟩ (fun ⟨i, Gx, r2, rs⟩ => fun (hk : i ≤ p.code.length ∧ G.le Gx ∧ r2.length = r.length ∧ OwnA o d r2 j ∧ Bigs Gx r2 rs ∧ Below (m + 3 * i) rs ∧ stepsZ p zs i = some rs) => ?_)
  obtain ⟨hi0, hgx, hr2, ho2, hg2, hb2, hrun⟩ := hk
  replace hc := hc.up hgx
  rcases Nat.lt_or_ge i p.code.length with hic | hic
  · have hmem : (p.code[((i : Nat) : Int).toNat]?.getD default) ∈ p.code := by
      rw [Int.toNat_natCast, List.getElem?_eq_getElem hic]; exact List.getElem_mem hic
    have hmi := hmay _ hmem
    obtain ⟨m1, m2, m3, m4, m5, m6, m7, m8⟩ := may_facts hmi
    have hbz : (p.code[((i : Nat) : Int).toNat]?.getD default).op = 3 ∨ (p.code[((i : Nat) : Int).toNat]?.getD default).op = 4 ∨ (p.code[((i : Nat) : Int).toNat]?.getD default).b = 0 := by
      unfold mayOk at hmi
      rw [Bool.and_eq_true, Bool.and_eq_true, decide_eq_true_eq] at hmi
      exact hmi.1.1.2.2.2.2
    have mb : 0 ≤ (p.code[((i : Nat) : Int).toNat]?.getD default).b ∧ (p.code[((i : Nat) : Int).toNat]?.getD default).b < r2.length := by
      rcases hbz with h | h | h
      · have := m4 (.inl h); omega
      · have := m4 (.inr h); omega
      · omega
    have mt : 0 ≤ (p.code[((i : Nat) : Int).toNat]?.getD default).to ∧ (p.code[((i : Nat) : Int).toNat]?.getD default).to < r2.length := by omega
    have hk3 : (p.code[((i : Nat) : Int).toNat]?.getD default).op ≠ 1 → (p.code[((i : Nat) : Int).toNat]?.getD default).op ≠ 2 → (p.code[((i : Nat) : Int).toNat]?.getD default).op ≠ 3 → (p.code[((i : Nat) : Int).toNat]?.getD default).op ≠ 4 → cst (p.code[((i : Nat) : Int).toNat]?.getD default) ≠ 0 ∧ ((cst (p.code[((i : Nat) : Int).toNat]?.getD default)).natAbs : Int) < pb 3 := fun a b c d => ⟨(m6 a b c d).1, Int.lt_of_lt_of_le (m6 a b c d).2 pw5_pb3⟩
    refine Wc.seq ?_
    refine Wc.region rfl ?_
    refine Wl.q rfl (Qy.lss rfl rfl) ?_
    refine Wl.done ?_
    refine Ar.next ?_
    refine Wc.seq ?_
    refine Wc.condP rfl (by first | assumption | omega) ?_
    refine Wc.skip ?_
    refine Ar.next ?_
    refine Wc.seq ?_
    refine Wc.block ?_
    refine Wc.seq ?_
    refine Wc.region rfl ?_
    refine Wl.q rfl (Qy.move rfl) ?_
    refine Wl.q rfl (Qy.at (α := Sl.Instr) T.sl22 rfl rfl (by assumption) (by omega)) ?_
    refine Wl.q rfl (Qy.loadsG T.agg55 rfl (Arr.elem (by assumption) (by omega)) rfl) ?_
    refine Wl.alloc 3 rfl T.zero55 (fun b3 => ?_)
    refine Wl.q rfl (Qy.assign rfl) ?_
    refine Wl.storeAll 3 T.size55 rfl rfl rfl rfl rfl rfl ?_
    refine Wl.done ?_
    refine Ar.next ?_
    refine Wc.seq ?_
    refine Wc.region rfl ?_
    refine Wl.q rfl (Qy.loadAll 1 T.agg72 rfl rfl rfl) ?_
    refine Wl.q rfl (Qy.move rfl) ?_
    refine Wl.q rfl (Qy.loadAll 3 T.agg55 rfl rfl rfl) ?_
    refine Wl.call 0 rfl T.fn65 rfl (c65 _ (p.code[((i : Nat) : Int).toNat]?.getD default) o d r2 j rs (m + 3 * i) ho2 hg2 hb2 (by omega) m1 (by omega) mb hk3 m7 m8) (tags_of ⟨rfl, trivial⟩) (fun v1 G1 Ho1 hle1 hp => ?_)
    obtain ⟨x, rfl, hx, rfl⟩ := hp
    replace hc := hc.up hle1
    replace hg2 := hg2.up hle1
    by_cases hd : doZ (p.code[((i : Nat) : Int).toNat]?.getD default) rs = none
    · have hd2 : ¬ doZ (p.code[((i : Nat) : Int).toNat]?.getD default) rs ≠ none := fun h => h hd
      refine Wl.q rfl (Qy.move rfl) ?_
      refine Wl.q rfl (Qy.extract rfl rfl) ?_
      refine Wl.q rfl (Qy.extract rfl rfl) ?_
      refine Wl.alloc 4 rfl T.zero67 (fun b4 => ?_)
      refine Wl.storeAll 4 T.size67 rfl rfl rfl rfl rfl rfl ?_
      refine Wl.q rfl (Qy.assign rfl) ?_
      refine Wl.done ?_
      refine Ar.next ?_
      refine Wc.seq ?_
      refine Wc.seq ?_
      refine Wc.region rfl ?_
      refine Wl.q rfl (Qy.move rfl) ?_
      refine Wl.q rfl (Qy.notD rfl) ?_
      refine Wl.done ?_
      refine Ar.next ?_
      refine Wc.condP rfl (by first | assumption | omega) ?_
      refine Wc.seq ?_
      refine Wc.region rfl ?_
      refine Wl.q rfl (Qy.move rfl) ?_
      refine Wl.q rfl (Qy.assign rfl) ?_
      refine Wl.done ?_
      refine Ar.next ?_
      refine Wc.ret ?_
      refine Ar.passRet ?_
      refine Ar.outRet ?_
      refine Ar.passRet ?_
      refine Ar.passRet ?_
      refine Ar.outRet ?_
      refine Ar.passRet ?_
      refine Ar.scopeR ?_
      refine Ar.out1 (.inr rfl) (Ho := Hp.only _ [0]) rfl (.tmp rfl) (Hp.sub_only _ _) ?_
      exact ⟨r2, (i : Int), rfl, rfl, hr2, ho2, .inr ⟨stepsZ_stop hrun hd hic, by omega⟩⟩
    · obtain ⟨z, hz⟩ := Option.ne_none_iff_exists'.1 hd
      have hxz := hx z hz
      have hok : doZ (p.code[((i : Nat) : Int).toNat]?.getD default) rs ≠ none := hd
      refine Wl.q rfl (Qy.move rfl) ?_
      refine Wl.q rfl (Qy.extract rfl rfl) ?_
      refine Wl.q rfl (Qy.extract rfl rfl) ?_
      refine Wl.alloc 4 rfl T.zero67 (fun b4 => ?_)
      refine Wl.storeAll 4 T.size67 rfl rfl rfl rfl rfl rfl ?_
      refine Wl.q rfl (Qy.assign rfl) ?_
      refine Wl.done ?_
      refine Ar.next ?_
      refine Wc.seq ?_
      refine Wc.seq ?_
      refine Wc.region rfl ?_
      refine Wl.q rfl (Qy.move rfl) ?_
      refine Wl.q rfl (Qy.notD rfl) ?_
      refine Wl.done ?_
      refine Ar.next ?_
      refine Wc.cond rfl (fun hc1 => ?_) (fun hc1 => ?_)
      refine Wc.seq ?_
      refine Wc.region rfl ?_
      refine Wl.q rfl (Qy.move rfl) ?_
      refine Wl.q rfl (Qy.assign rfl) ?_
      refine Wl.done ?_
      refine Ar.next ?_
      refine Wc.ret ?_
      refine Ar.passRet ?_
      refine Ar.outRet ?_
      refine Ar.passRet ?_
      refine Ar.passRet ?_
      refine Ar.outRet ?_
      refine Ar.passRet ?_
      refine Ar.scopeR ?_
      refine Ar.out1 (.inr rfl) (Ho := Hp.only _ [0]) rfl (.tmp rfl) (Hp.sub_only _ _) ?_
      rotate_left
      refine Wc.skip ?_
      refine Ar.next ?_
      refine Wc.seq ?_
      refine Wc.region rfl ?_
      refine Wl.q rfl (Qy.move rfl) ?_
      refine Wl.q rfl (Qy.fieldAddr T.fa55_1 rfl) ?_
      refine Wl.q rfl (Qy.load 3 T.one3 rfl rfl rfl) ?_
      refine Wl.q rfl (Qy.loadAll 4 T.agg67 rfl rfl rfl) ?_
      refine Wl.q rfl (Qy.indexAddrO (α := IV) T.sl34 rfl rfl (by assumption) (by omega)) ?_
      rotate_left
      · exact absurd hok hc1
      refine Wl.setO (z := x) 0 T.size67 rfl rfl rfl (by assumption) (by omega) rfl (fun ho9 => ?_)
      refine Wl.done ?_
      refine Ar.next ?_
      refine Wc.seq ?_
      refine Wc.region rfl ?_
      refine Wl.q rfl (Qy.move rfl) ?_
      refine Wl.q rfl (Qy.move rfl) ?_
      refine Wl.q rfl (Qy.loadAll 4 T.agg67 rfl rfl rfl) ?_
      refine Wl.callV (fst := []) (cap := []) 5 rfl T.fn37 rfl rfl (c37 _ _ _) (tags_of trivial) (fun v2 G2 Ho2 hle2 hp => ?_)
      obtain ⟨rfl, rfl, rfl⟩ := hp
      refine Wl.q rfl (Qy.not rfl) ?_
      refine Wl.done ?_
      refine Ar.next ?_
      refine Wc.condF rfl ?_
      refine Wc.skip ?_
      refine Ar.outNormal ?_
      refine Ar.next ?_
      refine Wc.region rfl ?_
      refine Wl.q rfl (Qy.add rfl rfl (by omega)) ?_
      refine Wl.q rfl (Qy.move rfl) ?_
      refine Wl.done ?_
      refine Ar.re 2 rfl (show _ = Value.slice o (r2.set (p.code[((i : Nat) : Int).toNat]?.getD default).to.toNat x).length d by rw [List.length_set]) ?_
      refine Ar.again ((i + 1, _, r2.set (p.code[((i : Nat) : Int).toNat]?.getD default).to.toNat x, rs.set (p.code[((i : Nat) : Int).toNat]?.getD default).to.toNat z)) ?_ ?_ rfl ⟨rfl, rfl, rfl, rfl, rfl, rfl, trivial⟩ ⟨rfl, rfl, rfl, trivial⟩
      · refine ⟨by omega, Imm.le_trans hgx hle1, by rw [List.length_set]; exact hr2, ho9, hg2.set _ hxz, ?_, stepsZ_succ hrun hz⟩
        have hs := doZ_small hb2 (fun h => (hk3 (by omega) (by omega) (by omega) (by omega)).2) hz
        rw [show m + 3 * (i + 1) = m + 3 * i + 3 by omega]
        exact below_set (hb2.mono (by omega)) hs _
      · show p.code.length - (i + 1) < p.code.length - i
        omega
  · have hii : i = p.code.length := by omega
    subst hii
    refine Wc.seq ?_
    refine Wc.region rfl ?_
    refine Wl.q rfl (Qy.lss rfl rfl) ?_
    refine Wl.done ?_
    refine Ar.next ?_
    refine Wc.seq ?_
    refine Wc.condN rfl (by first | assumption | omega) ?_
    refine Wc.exit ?_
    refine Ar.passExit ?_
    refine Ar.passExit ?_
    refine Ar.here ?_
    refine Ar.next ?_
    refine Wc.seq ?_
    refine Wc.region rfl ?_
    refine Wl.q rfl (Qy.assign rfl) ?_
    refine Wl.done ?_
    refine Ar.next ?_
    refine Wc.ret ?_
    refine Ar.scopeR ?_
    refine Ar.out1 (.inr rfl) (Ho := Hp.only _ [0]) rfl (.tmp rfl) (Hp.sub_only _ _) ?_
    exact ⟨r2, -1, rfl, rfl, hr2, ho2, .inl ⟨rs, hrun, rfl, hg2⟩⟩
end Go.Proofs.YtbppmiimeccclaaDoor
set_option maxRecDepth 100000
set_option linter.unusedVariables false
namespace Go.Proofs.YtbppmiimeccclaaDoor
open Go Go.Sl
set_option maxHeartbeats 4000000
theorem c8R (G : Imm) (p : PV) (ac ao : Option Addr) (cc co : Nat) (hc : Arr G ac p.code) (ho : Arr G ao p.outs) (h1 : p.code.length ≤ 1099511627776) (h2 : p.outs.length ≤ 1099511627776) (hR : rightP p = true) :
    Does Tryd.prog 8 [.agg #[.int .i64 p.ins, .int .i64 p.regs, .slice ac p.code.length cc, .slice ao p.outs.length co]] G [] (fun v G' Ho => v = .tuple #[.int .i64 (checkP p).1, .int .i64 0] ∧ G' = G ∧ Ho = []) := by
  have hf : (checkP p).2 = false := by unfold rightP at hR; simpa using hR
  have h := c8 G p ac ao cc co hc ho h1 h2
  rw [hf] at h
  exact h
theorem cmpZ_zero {x y : Int} (h : cmpZ x y = 0) : x = y := by
  unfold cmpZ at h
  split at h
  · omega
  · split at h <;> omega
theorem take_next {za zb : List Int} {i : Nat} (h : za.take i = zb.take i) (h1 : i < za.length) (h2 : i < zb.length) (he : za[i]?.getD 0 = zb[i]?.getD 0) : za.take (i + 1) = zb.take (i + 1) := by
  rw [List.getElem?_eq_getElem h1, List.getElem?_eq_getElem h2] at he
  rw [List.take_add_one, List.take_add_one, h, List.getElem?_eq_getElem h1, List.getElem?_eq_getElem h2]
  have e : za[i] = zb[i] := he
  rw [e]
/-- the registers at first -/
def regs0Z (p : PV) (zs : List Int) : List Int := zs ++ List.replicate (p.regs.toNat - zs.length) 0
def outsZ (p : PV) (rs : List Int) : List Int := p.outs.map fun r => rs[r.toNat]?.getD 0
/-- the run on numbers -/
def ansZ (p : PV) (zs : List Int) : Option (List Int) := (stepsZ p (regs0Z p zs) p.code.length).map (outsZ p)
theorem bigs_append {G : Imm} {l m : List IV} {zs ys : List Int} (h : Bigs G l zs) (h2 : Bigs G m ys) : Bigs G (l ++ m) (zs ++ ys) := by
  have e1 := h.1
  have e2 := h2.1
  refine ⟨by rw [List.length_append, List.length_append]; omega, fun i hi => ?_⟩
  rw [List.length_append] at hi
  rcases Nat.lt_or_ge i l.length with h3 | h3
  · rw [List.getElem?_append_left h3, List.getElem?_append_left (by omega)]; exact h.2 i h3
  · rw [List.getElem?_append_right h3, List.getElem?_append_right (by omega), ← e1]; exact h2.2 _ (by omega)
theorem below_append {m : Nat} {zs ys : List Int} (h : Below m zs) (h2 : Below m ys) : Below m (zs ++ ys) := fun z hz => by
  rcases List.mem_append.1 hz with h1 | h1
  · exact h z h1
  · exact h2 z h1
theorem below_zeros (m n : Nat) : Below m (List.replicate n 0) := fun z hz => by rw [List.eq_of_mem_replicate hz]; exact pb_pos m
attribute [local irreducible] valB pb cmpZ lstWp p2 cst doZ checkP
theorem c34 (G : Imm) (p : PV) (ac ao : Option Addr) (cc co : Nat) (hc : Arr G ac p.code) (ho : Arr G ao p.outs) (h1 : p.code.length ≤ 1099511627776) (h2 : p.outs.length ≤ 1099511627776) (hR : rightP p = true) (n : Int) (hn : n = p.ins) :
    Does Tryd.prog 34 [.agg #[.int .i64 p.ins, .int .i64 p.regs, .slice ac p.code.length cc, .slice ao p.outs.length co], .int .i64 n] G [] (fun v G' Ho => v = .int .i64 0 ∧ G' = G ∧ Ho = []) := by
  refine Does.enter Tryd.func34 rfl Tryd.ntmps34 rfl (fun w => ?_)
  refine Wc.seq ?_
  refine Wc.region rfl ?_
  refine Wl.box 0 rfl rfl rfl (fun b1 => ?_)
  refine Wl.q rfl (Qy.assign rfl) ?_
  refine Wl.done ?_
  refine Ar.next ?_
  refine Wc.seq ?_
  refine Wc.region rfl ?_
  refine Wl.q rfl (Qy.loadAll 0 T.agg25 rfl rfl rfl) ?_
  refine Wl.call0 rfl T.fn8 rfl (c8R _ p _ _ _ _ hc ho h1 h2 hR) ?_
  refine Wl.q rfl (Qy.move rfl) ?_
  refine Wl.q rfl (Qy.extract rfl rfl) ?_
  refine Wl.q rfl (Qy.extract rfl rfl) ?_
  refine Wl.q rfl (Qy.assign rfl) ?_
  refine Wl.q rfl (Qy.assign rfl) ?_
  refine Wl.done ?_
  refine Ar.next ?_
  refine Wc.seq ?_
  refine Wc.block ?_
  refine Wc.seq ?_
  refine Wc.region rfl ?_
  refine Wl.q rfl (Qy.move rfl) ?_
  refine Wl.q rfl (Qy.neq rfl rfl) ?_
  refine Wl.q rfl (Qy.assign rfl) ?_
  refine Wl.done ?_
  refine Ar.next ?_
  refine Wc.condN rfl (by first | assumption | omega) ?_
  refine Wc.seq ?_
  refine Wc.region rfl ?_
  refine Wl.q rfl (Qy.move rfl) ?_
  refine Wl.q rfl (Qy.fieldAddr T.fa25_0 rfl) ?_
  refine Wl.q rfl (Qy.load 0 T.one3 rfl rfl rfl) ?_
  refine Wl.q rfl (Qy.neq rfl rfl) ?_
  refine Wl.q rfl (Qy.assign rfl) ?_
  refine Wl.done ?_
  refine Ar.next ?_
  refine Wc.condN rfl (by first | assumption | omega) ?_
  refine Wc.skip ?_
  refine Ar.outNormal ?_
  refine Ar.next ?_
  refine Wc.seq ?_
  refine Wc.region rfl ?_
  refine Wl.q rfl (Qy.assign rfl) ?_
  refine Wl.done ?_
  refine Ar.next ?_
  refine Wc.ret ?_
  refine Ar.out1 (.inr rfl) (Ho := Hp.only _ []) rfl (.tmp rfl) (Hp.sub_only _ _) ?_
  exact ⟨rfl, rfl, rfl⟩
theorem c36 (G : Imm) : Does Tryd.prog 36 [] G [] (fun v G' Ho => v = waysV ∧ G' = G ∧ Ho = []) := by
  refine Does.enter Tryd.func36 rfl Tryd.ntmps36 rfl (fun w => ?_)
  refine Wc.seq ?_
  refine Wc.region rfl ?_
  refine Wl.alloc 0 rfl T.zero72 (fun b1 => ?_)
  refine Wl.done ?_
  refine Ar.next ?_
  refine Wc.seq ?_
  refine Wc.region rfl ?_
  refine Wl.q rfl (Qy.build (cs := [_, _, _, _, _]) T.st72 rfl rfl rfl) ?_
  refine Wl.storeAll 0 T.size72 rfl rfl rfl rfl rfl rfl ?_
  refine Wl.done ?_
  refine Ar.next ?_
  refine Wc.ret ?_
  refine Ar.out1 (.inr rfl) (Ho := Hp.only _ []) rfl (.agg 0 rfl rfl T.agg72) (Hp.sub_only _ _) ?_
  exact ⟨rfl, rfl, rfl⟩
/-- what Run answers -/
def RunsPost (p : PV) (zs : List Int) (v : Value) (G' : Imm) (Ho : Hp) : Prop :=
  Ho = [] ∧ ((∃ os b r c', ansZ p zs = some os ∧ v = .tuple #[.slice b (List.length r) c', .int .i64 0, .int .i64 0] ∧ Arr G' b r ∧ Bigs G' r os ∧ List.length r = p.outs.length) ∨ (ansZ p zs = none ∧ ∃ k, v = .tuple #[.slice none 0 0, .int .i64 k, .int .i64 20]))
theorem c9 (G : Imm) (p : PV) (ac ao ai : Option Addr) (cc co ci : Nat) (li : List IV) (zs : List Int) (m : Nat) (hc : Arr G ac p.code) (ho : Arr G ao p.outs) (hi : Arr G ai li) (hb : Bigs G li zs) (hm : Below m zs) (hmm : m ≤ 1048576) (hR : rightP p = true) (hn : (li.length : Int) = p.ins) :
    Does Tryd.prog 9 [.agg #[.int .i64 p.ins, .int .i64 p.regs, .slice ac p.code.length cc, .slice ao p.outs.length co], .slice ai li.length ci] G [] (RunsPost p zs) := by
  obtain ⟨f1, f2, f3, f4, f5, f6, f7, f8⟩ := right_facts hR
  have h1 : p.code.length ≤ 1099511627776 := by omega
  have h2 : p.outs.length ≤ 1099511627776 := by omega
  obtain ⟨R, hRg⟩ : ∃ R, R = p.regs.toNat := ⟨_, rfl⟩
  have hb1 := hb.1
  obtain ⟨r0, hr0⟩ : ∃ r0, r0 = li ++ List.replicate (R - li.length) (default : IV) := ⟨_, rfl⟩
  have lr0 : r0.length = R := by rw [hr0, List.length_append, List.length_replicate]; omega
  have hg0 : Bigs G r0 (regs0Z p zs) := by
    unfold regs0Z
    rw [hr0, ← hb1, ← hRg]; exact bigs_append hb (Bigs.zeros G _)
  have hm0 : Below m (regs0Z p zs) := below_append hm (below_zeros m _)
  refine Does.enter Tryd.func9 rfl Tryd.ntmps9 rfl (fun w => ?_)
  refine Wc.nilRow 0 (Row 67 ([] : List IV) []) ?_
  refine Wc.seq ?_
  refine Wc.region rfl ?_
  refine Wl.box 1 rfl rfl rfl (fun b1 => ?_)
  refine Wl.q rfl (Qy.assign rfl) ?_
  refine Wl.q rfl (Qy.assign rfl) ?_
  refine Wl.q rfl (Qy.assign rfl) ?_
  refine Wl.done ?_
  refine Ar.next ?_
  refine Wc.seq ?_
  refine Wc.seq ?_
  refine Wc.region rfl ?_
  refine Wl.q rfl (Qy.loadAll 1 T.agg25 rfl rfl rfl) ?_
  refine Wl.q rfl (Qy.move rfl) ?_
  refine Wl.q rfl (Qy.len T.sl34 rfl) ?_
  refine Wl.call0 rfl T.fn34 rfl (c34 _ p _ _ _ _ (by assumption) (by assumption) h1 h2 hR _ hn) ?_
  refine Wl.q rfl (Qy.assign rfl) ?_
  refine Wl.done ?_
  refine Ar.next ?_
  refine Wc.seq ?_
  refine Wc.region rfl ?_
  refine Wl.q rfl (Qy.move rfl) ?_
  refine Wl.q rfl (Qy.neq rfl rfl) ?_
  refine Wl.done ?_
  refine Ar.next ?_
  refine Wc.condN rfl (by first | assumption | omega) ?_
  refine Wc.skip ?_
  refine Ar.next ?_
  refine Wc.seq ?_
  refine Wc.region rfl ?_
  refine Wl.q rfl (Qy.fieldAddr T.fa25_1 rfl) ?_
  refine Wl.q rfl (Qy.load 1 T.one3 rfl rfl rfl) ?_
  refine Wl.make (α := IV) 2 rfl T.sl34 T.el67 rfl rfl (by omega) (by omega) (fun b2 => ?_)
  refine Wl.q rfl (Qy.assign rfl) ?_
  refine Wl.done ?_
  refine Ar.next ?_
  refine Wc.seq ?_
  refine Wc.region rfl ?_
  refine Wl.q rfl (Qy.move rfl) ?_
  refine Wl.q rfl (Qy.move rfl) ?_
  refine Wl.copyRow (α := IV) 2 rfl T.sl34 rfl rfl rfl (Src.arr (by assumption)) (by first | omega | (simp only [List.length_append, List.length_cons, List.length_nil, List.length_replicate]; omega)) ?_
  refine Wl.done ?_
  refine Ar.next ?_
  refine Wc.seq ?_
  refine Wc.seq ?_
  refine Wc.draw [0, 1, 2] [(2, 3), (1, 3), (0, 3)] T.mixed rfl ?_
  refine Gm.q 1 [1] (by kernel_rfl) rfl rfl (Qy.loadAll 1 T.agg25 rfl rfl rfl) ?_
  refine Gm.q 2 [] (by kernel_rfl) rfl rfl (Qy.move rfl) ?_
  refine Gm.one 0 ⟨rfl, rfl, rfl, trivial⟩ (by first | exact Imm.le_refl _ | assumption | (refine Imm.le_trans ?_ (by assumption); first | assumption | (refine Imm.le_trans ?_ (by assumption); assumption))) (by kernel_rfl) rfl ?_
  refine Wl.call0 rfl T.fn36 rfl (c36 _) ?_
  refine Wl.on0 ?_
  refine Gm.one 3 ⟨rfl, rfl, rfl, trivial⟩ (by first | exact Imm.le_refl _ | assumption | (refine Imm.le_trans ?_ (by assumption); first | assumption | (refine Imm.le_trans ?_ (by assumption); assumption))) (by kernel_rfl) rfl ?_
  refine Wl.reH 2 (Row 67 r0 []) rfl (by rw [hr0, List.drop_replicate, ← hRg]) ?_
  refine Wl.re 28 rfl (show _ = Value.slice (some ⟨b2, 0, none⟩) r0.length R by rw [List.length_replicate, lr0, ← hRg]) ?_
  refine Wl.re 8 rfl (show _ = Value.slice (some ⟨b2, 0, none⟩) r0.length R by rw [List.length_replicate, lr0, ← hRg]) ?_
  refine Wl.call 2 rfl T.fn35 rfl (c35 _ p ac ao cc co (some ⟨b2, 0, none⟩) R r0 [] (regs0Z p zs) m hc (.inr ⟨b2, rfl, by rw [lr0]; rfl, by omega, by simp only [maxLen]; omega⟩) hg0 hm0 (by omega) f4 (by omega) (by omega) f8) (tags_of ⟨rfl, trivial⟩) (fun v9 G9 Ho9 hle9 hp => ?_)
  obtain ⟨r9, k9, rfl, rfl, hr9, ho9, hcase⟩ := hp
  replace ho := ho.up hle9
  rcases hcase with ⟨rs, hrs, rfl, hg9⟩ | ⟨hno, hk9⟩
  · have hrs1 := hg9.1
    refine Wl.on0 ?_
    refine Gm.q 4 [] (by kernel_rfl) rfl rfl (Qy.assign rfl) ?_
    refine Gm.doneA (by kernel_rfl) trivial (by first | exact Imm.le_refl _ | assumption | (refine Imm.le_trans ?_ (by assumption); first | assumption | (refine Imm.le_trans ?_ (by assumption); assumption))) ?_
    refine Ar.next ?_
    refine Wc.seq ?_
    refine Wc.region rfl ?_
    refine Wl.q rfl (Qy.move rfl) ?_
    refine Wl.q rfl (Qy.geq rfl rfl) ?_
    refine Wl.done ?_
    refine Ar.next ?_
    refine Wc.condN rfl (by first | assumption | omega) ?_
    refine Wc.skip ?_
    refine Ar.next ?_
    refine Wc.seq ?_
    refine Wc.region rfl ?_
    refine Wl.q rfl (Qy.assign rfl) ?_
    refine Wl.done ?_
    refine Ar.next ?_
    refine Wc.seq ?_
    refine Wc.seq ?_
    refine Wc.region rfl ?_
    refine Wl.q rfl (Qy.fieldAddr T.fa25_3 rfl) ?_
    refine Wl.q rfl (Qy.load 1 T.one23 rfl rfl rfl) ?_
    refine Wl.q rfl (Qy.len T.sl23 rfl) ?_
    refine Wl.q rfl (Qy.move rfl) ?_
    refine Wl.done ?_
    refine Ar.next ?_
    refine Wc.block ?_
    have lr9 : r9.length = R := by omega
    refine Wc.re 8 rfl (show _ = Value.slice (some ⟨b2, 0, none⟩) r9.length R by rw [lr9, lr0]) ?_
    refine Wc.loop (ι := Nat × List IV × (Option Addr × Nat × List Value)) (fun (i, q, (o, d, j)) => ([(36, .int .i64 (i : Int)), (10, .slice o q.length d), (8, Go.Value.slice (Option.some (Go.Addr.mk b2 0 Option.none)) (List.length r9) R), (35, Go.Value.int Go.IntKind.i64 (↑(List.length (Go.Proofs.YtbppmiimeccclaaDoor.PV.outs p)) : Int)), (34, Go.Value.slice ao (List.length (Go.Proofs.YtbppmiimeccclaaDoor.PV.outs p)) co), (6, Go.Value.int Go.IntKind.i64 0), (5, Go.Value.int Go.IntKind.i64 0), (4, Go.Value.slice Option.none 0 0)], [(0, o.map (·.block), Row 67 q j), (2, some b2, Row 67 r9 []), (1, Option.some b1, Go.Obj.cells #[Go.Value.int Go.IntKind.i64 (Go.Proofs.YtbppmiimeccclaaDoor.PV.ins p), Go.Value.int Go.IntKind.i64 (Go.Proofs.YtbppmiimeccclaaDoor.PV.regs p), Go.Value.slice ac (List.length (Go.Proofs.YtbppmiimeccclaaDoor.PV.code p)) cc, Go.Value.slice ao (List.length (Go.Proofs.YtbppmiimeccclaaDoor.PV.outs p)) co] 25)])) (fun (i, q, (o, d, j)) => i ≤ p.outs.length ∧ q.length = i ∧ Bigs G9 q ((outsZ p rs).take i) ∧ OwnA o d q j) (fun (i, q, (o, d, j)) => p.outs.length - i) ((0, [], (none, 0, []))) (⟨Nat.zero_le _, rfl, by rw [List.take_zero]; exact Bigs.nil _, OwnA.nil⟩) ⟨rfl, rfl, rfl, rfl, rfl, rfl, rfl, rfl, trivial⟩ ⟨rfl, rfl, rfl, trivial⟩ (fun ⟨i, q, (o, d, j)⟩ => fun (hk : i ≤ p.outs.length ∧ q.length = i ∧ Bigs G9 q ((outsZ p rs).take i) ∧ OwnA o d q j) => ?_)
    obtain ⟨hi0, hqi, hbq, hoq⟩ := hk
    rcases Nat.lt_or_ge i p.outs.length with hio | hio
    · have hmem : p.outs[((i : Nat) : Int).toNat]?.getD default ∈ p.outs := by
        rw [Int.toNat_natCast, List.getElem?_eq_getElem hio]; exact List.getElem_mem hio
      have hrg := f7 _ hmem
      refine Wc.seq ?_
      refine Wc.region rfl ?_
      refine Wl.q rfl (Qy.lss rfl rfl) ?_
      refine Wl.done ?_
      refine Ar.next ?_
      refine Wc.seq ?_
      refine Wc.condP rfl (by first | assumption | omega) ?_
      refine Wc.skip ?_
      refine Ar.next ?_
      refine Wc.seq ?_
      refine Wc.block ?_
      refine Wc.seq ?_
      refine Wc.region rfl ?_
      refine Wl.q rfl (Qy.at (α := Int) T.sl23 rfl rfl (by assumption) (by omega)) ?_
      refine Wl.q rfl (Qy.loadG T.one3 rfl (Arr.cell (by assumption) (by omega) 0 rfl rfl)) ?_
      refine Wl.q rfl (Qy.assign rfl) ?_
      refine Wl.done ?_
      refine Ar.next ?_
      refine Wc.region rfl ?_
      refine Wl.q rfl (Qy.move rfl) ?_
      refine Wl.q rfl (Qy.move rfl) ?_
      refine Wl.q rfl (Qy.move rfl) ?_
      refine Wl.q rfl (Qy.indexAddrO (α := IV) T.sl34 rfl rfl (by assumption) (by omega)) ?_
      refine Wl.q rfl (Qy.loadsO 2 T.agg67 rfl rfl (by assumption) (by omega)) ?_
      refine Wl.lit (α := IV) 3 [(Option.getD r9[Int.toNat (Option.getD (Go.Proofs.YtbppmiimeccclaaDoor.PV.outs p)[Int.toNat (↑i : Int)]? Inhabited.default)]? Inhabited.default)] rfl T.sl34 T.el67 rfl rfl rfl rfl rfl (fun b3 => ?_)
      refine Wl.append (α := IV) 0 rfl T.sl34 T.el67 rfl rfl rfl (by first | assumption | exact OwnA.nil | exact OwnA.made (by simp)) (Src.row 3 rfl) (by first | omega | (simp only [List.length_append, List.length_cons, List.length_nil, maxLen]; omega)) (by first | omega | (simp only [List.length_append, List.length_cons, List.length_nil, maxLen]; omega)) (fun a1 c1 junk1 ho1 => ?_)
      refine Wl.q rfl (Qy.assign rfl) ?_
      refine Wl.done ?_
      refine Ar.outNormal ?_
      refine Ar.next ?_
      refine Wc.region rfl ?_
      refine Wl.q rfl (Qy.add rfl rfl (by omega)) ?_
      refine Wl.q rfl (Qy.move rfl) ?_
      refine Wl.done ?_
      refine Ar.again ((i + 1, q ++ [r9[(p.outs[((i : Nat) : Int).toNat]?.getD default).toNat]?.getD default], (a1, c1, junk1))) ?_ ?_ rfl ⟨rfl, rfl, rfl, rfl, rfl, rfl, rfl, rfl, trivial⟩ ⟨rfl, rfl, rfl, trivial⟩
      · refine ⟨by omega, by rw [List.length_append, hqi]; rfl, ?_, ho1⟩
        have e : (outsZ p rs).take (i + 1) = (outsZ p rs).take i ++ [rs[(p.outs[((i : Nat) : Int).toNat]?.getD default).toNat]?.getD 0] := by
          rw [List.take_add_one]
          congr 1
          unfold outsZ
          rw [List.getElem?_map, Int.toNat_natCast, List.getElem?_eq_getElem hio]; rfl
        rw [e]
        exact Bigs.snoc hbq (hg9.at (by omega))
      · show p.outs.length - (i + 1) < p.outs.length - i
        omega
    · have hii : i = p.outs.length := by omega
      subst hii
      refine Wc.seq ?_
      refine Wc.region rfl ?_
      refine Wl.q rfl (Qy.lss rfl rfl) ?_
      refine Wl.done ?_
      refine Ar.next ?_
      refine Wc.seq ?_
      refine Wc.condN rfl (by first | assumption | omega) ?_
      refine Wc.exit ?_
      refine Ar.passExit ?_
      refine Ar.passExit ?_
      refine Ar.here ?_
      refine Ar.next ?_
      refine Wc.seq ?_
      refine Wc.region rfl ?_
      refine Wl.q rfl (Qy.move rfl) ?_
      refine Wl.q rfl (Qy.assign rfl) ?_
      refine Wl.q rfl (Qy.assign rfl) ?_
      refine Wl.q rfl (Qy.assign rfl) ?_
      refine Wl.done ?_
      refine Ar.next ?_
      refine Wc.ret ?_
      refine Ar.freezeRow 0 rfl hoq (fun G8 hle8 hA => ?_)
      refine Ar.out3 (.inr rfl) (Ho := []) rfl (.tmp rfl) (.tmp rfl) (.tmp rfl) trivial ?_
      have hol : (outsZ p rs).length = p.outs.length := by unfold outsZ; rw [List.length_map]
      rw [List.take_of_length_le (by omega)] at hbq
      exact ⟨rfl, .inl ⟨outsZ p rs, o, q, d, by unfold ansZ; rw [hrs]; rfl, rfl, hA, hbq.up hle8, hqi⟩⟩
  · refine Wl.on0 ?_
    refine Gm.q 4 [] (by kernel_rfl) rfl rfl (Qy.assign rfl) ?_
    refine Gm.doneA (by kernel_rfl) trivial (by first | exact Imm.le_refl _ | assumption | (refine Imm.le_trans ?_ (by assumption); first | assumption | (refine Imm.le_trans ?_ (by assumption); assumption))) ?_
    refine Ar.next ?_
    refine Wc.seq ?_
    refine Wc.region rfl ?_
    refine Wl.q rfl (Qy.move rfl) ?_
    refine Wl.q rfl (Qy.geq rfl rfl) ?_
    refine Wl.done ?_
    refine Ar.next ?_
    refine Wc.condP rfl (by first | assumption | omega) ?_
    refine Wc.seq ?_
    refine Wc.region rfl ?_
    refine Wl.q rfl (Qy.move rfl) ?_
    refine Wl.q rfl (Qy.assign rfl) ?_
    refine Wl.q rfl (Qy.assign rfl) ?_
    refine Wl.q rfl (Qy.assign rfl) ?_
    refine Wl.done ?_
    refine Ar.next ?_
    refine Wc.ret ?_
    refine Ar.passRet ?_
    refine Ar.out3 (.inr rfl) (Ho := []) rfl (.tmp rfl) (.tmp rfl) (.tmp rfl) trivial ?_
    exact ⟨rfl, .inr ⟨by unfold ansZ; rw [hno]; rfl, k9, rfl⟩⟩
end Go.Proofs.YtbppmiimeccclaaDoor
set_option linter.unusedVariables false
namespace Go.Proofs.YtbppmiimeccclaaDoor
open Go Go.Sl
/-- code run over numbers -/
def runZ : List Sl.Instr → List Int → Option (List Int)
  | [], rs => some rs
  | i :: l, rs => (doZ i rs).bind fun x => runZ l (rs.set i.to.toNat x)
theorem runZ_snoc (l : List Sl.Instr) (i : Sl.Instr) (rs : List Int) : runZ (l ++ [i]) rs = (runZ l rs).bind fun r => (doZ i r).map fun x => r.set i.to.toNat x := by
  induction l generalizing rs with
  | nil =>
    show (doZ i rs).bind (fun x => some (rs.set i.to.toNat x)) = (doZ i rs).map _
    cases doZ i rs <;> rfl
  | cons j l ih =>
    show (doZ j rs).bind (fun x => runZ (l ++ [i]) (rs.set j.to.toNat x)) = ((doZ j rs).bind fun x => runZ l (rs.set j.to.toNat x)).bind _
    cases doZ j rs with
    | none => rfl
    | some x => exact ih _
theorem stepsZ_runZ (p : PV) (zs : List Int) : ∀ k, k ≤ p.code.length → stepsZ p zs k = runZ (p.code.take k) zs
  | 0, _ => by rw [List.take_zero]; rfl
  | k + 1, hk => by
    have htk : p.code.take (k + 1) = p.code.take k ++ [p.code[((k : Nat) : Int).toNat]?.getD default] := by
      rw [List.take_add_one, Int.toNat_natCast, List.getElem?_eq_getElem (by omega)]; rfl
    rw [htk, runZ_snoc, ← stepsZ_runZ p zs k (by omega)]
    rfl
theorem get_set (r : List Int) (n k : Nat) (x : Int) : (r.set n x)[k]?.getD 0 = if n = k ∧ k < r.length then x else r[k]?.getD 0 := by
  rw [List.getElem?_set]
  by_cases h : n = k
  · subst h
    by_cases h2 : n < r.length
    · rw [if_pos rfl, if_pos h2, if_pos ⟨rfl, h2⟩]; rfl
    · rw [if_pos rfl, if_neg h2, if_neg (fun h => h2 h.2), List.getElem?_eq_none (by omega)]
  · rw [if_neg h, if_neg (fun h2 => h h2.1)]
/-- what an operation multiplies or divides by -/
def ucst (op c : Int) : Int := if op = 5 ∨ op = 6 then c else p2 c.toNat
/-- what an operation of one register does -/
def uZ (op c x : Int) : Option Int :=
  if op = 2 then some (-x) else if op = 5 ∨ op = 7 then some (x * ucst op c) else if op = 6 ∨ op = 8 then (if x % ucst op c = 0 then some (x / ucst op c) else none) else some x
/-- .. as a relation -/
def uR (op c x q : Int) : Prop := if op = 2 then q = -x else if op = 5 ∨ op = 7 then q = x * ucst op c else if op = 6 ∨ op = 8 then q * ucst op c = x else q = x
theorem uR1 (c x q : Int) : uR 1 c x q ↔ q = x := by unfold uR; simp
theorem uR2 (c x q : Int) : uR 2 c x q ↔ q = -x := by unfold uR; simp
theorem uR5 (c x q : Int) : uR 5 c x q ↔ q = x * c := by unfold uR ucst; simp
theorem uR6 (c x q : Int) : uR 6 c x q ↔ q * c = x := by unfold uR ucst; simp
theorem uR7 (c x q : Int) : uR 7 c x q ↔ q = x * p2 c.toNat := by unfold uR ucst; simp
theorem uR8 (c x q : Int) : uR 8 c x q ↔ q * p2 c.toNat = x := by unfold uR ucst; simp
theorem ex_iff {x y q : Int} (hy : y ≠ 0) : (if x % y = 0 then some (x / y) else none) = some q ↔ q * y = x := by
  by_cases h : x % y = 0
  · rw [if_pos h, Option.some.injEq]
    have e := Int.ediv_mul_cancel (Int.dvd_of_emod_eq_zero h)
    constructor
    · rintro rfl; exact e
    · intro h2
      rw [← h2, Int.mul_ediv_cancel _ hy]
  · rw [if_neg h]
    constructor
    · intro h2; cases h2
    · intro h2
      exact absurd (by rw [← h2]; exact Int.mul_emod_left q y) h
theorem uZ_iff {op c x q : Int} (h : op = 6 ∨ op = 8 → ucst op c ≠ 0) : uZ op c x = some q ↔ uR op c x q := by
  unfold uZ uR
  by_cases h2 : op = 2
  · rw [if_pos h2, if_pos h2, Option.some.injEq]; exact eq_comm
  · rw [if_neg h2, if_neg h2]
    by_cases h5 : op = 5 ∨ op = 7
    · rw [if_pos h5, if_pos h5, Option.some.injEq]; exact eq_comm
    · rw [if_neg h5, if_neg h5]
      by_cases h6 : op = 6 ∨ op = 8
      · rw [if_pos h6, if_pos h6]; exact ex_iff (h h6)
      · rw [if_neg h6, if_neg h6, Option.some.injEq]; exact eq_comm
theorem const_ucst {op c : Int} (h : constOk op c = true) : op = 6 ∨ op = 8 → ucst op c ≠ 0 := by
  intro ho
  unfold ucst
  split
  · rename_i h5
    exact const_zero h h5
  · have := p2_pos c.toNat; omega
theorem p2_toNat {c d : Int} (hc : 0 ≤ c) (hd : 0 ≤ d) : p2 (c + d).toNat = p2 c.toNat * p2 d.toNat := by
  rw [Int.toNat_add hc hd, p2_add]
theorem mul_right_cancel' {a b c : Int} (hc : c ≠ 0) (h : a * c = b * c) : a = b := Int.eq_of_mul_eq_mul_right hc h
/-- two operations that are made one -/
theorem tog_sem {f c s d o e : Int} (h : togP f c s d = (o, e, true)) (hc : constOk f c = true) (hd : constOk s d = true) (x q : Int) : (∃ y, uR f c x y ∧ uR s d y q) ↔ uR o e x q := by
  unfold togP at h
  by_cases f1 : f = 1
  · subst f1
    rw [if_pos rfl] at h
    cases h
    simp only [uR1]
    exact ⟨fun ⟨y, h1, h2⟩ => h1 ▸ h2, fun h2 => ⟨x, rfl, h2⟩⟩
  rw [if_neg f1] at h
  by_cases f2 : f = 2
  · subst f2
    rw [if_pos rfl] at h
    simp only [uR2]
    by_cases s1 : s = 1
    · subst s1
      rw [if_pos rfl] at h; cases h
      simp only [uR1, uR2]
      exact ⟨fun ⟨y, h1, h2⟩ => by rw [h2, h1], fun h2 => ⟨_, rfl, h2⟩⟩
    rw [if_neg s1] at h
    by_cases s2 : s = 2
    · subst s2
      rw [if_pos rfl] at h; cases h
      simp only [uR1, uR2]
      exact ⟨fun ⟨y, h1, h2⟩ => by omega, fun h2 => ⟨_, rfl, by omega⟩⟩
    rw [if_neg s2] at h
    by_cases s5 : s = 5 ∨ s = 6
    · rw [if_pos s5] at h
      rcases s5 with rfl | rfl
      · cases h
        simp only [uR5]
        exact ⟨fun ⟨y, h1, h2⟩ => by rw [h2, h1, Int.neg_mul, Int.mul_neg], fun h2 => ⟨_, rfl, by rw [h2, Int.neg_mul, Int.mul_neg]⟩⟩
      · cases h
        simp only [uR6]
        exact ⟨fun ⟨y, h1, h2⟩ => by rw [Int.mul_neg, h2, h1, Int.neg_neg], fun h2 => ⟨_, rfl, by rw [← h2, Int.mul_neg, Int.neg_neg]⟩⟩
    · rw [if_neg s5] at h; cases h
  rw [if_neg f2] at h
  by_cases f5 : f = 5
  · subst f5
    rw [if_pos rfl] at h
    have hc0 := const_zero hc (.inl rfl)
    simp only [uR5]
    by_cases s2 : s = 2
    · subst s2
      rw [if_pos rfl] at h; cases h
      simp only [uR2, uR5]
      exact ⟨fun ⟨y, h1, h2⟩ => by rw [h2, h1, Int.mul_neg], fun h2 => ⟨_, rfl, by rw [h2, Int.mul_neg]⟩⟩
    rw [if_neg s2] at h
    by_cases s5 : s = 5 ∧ -512 ≤ c * d ∧ c * d ≤ 512
    · rw [if_pos s5] at h
      obtain ⟨rfl, _⟩ := s5
      cases h
      simp only [uR5]
      exact ⟨fun ⟨y, h1, h2⟩ => by rw [h2, h1, Int.mul_assoc], fun h2 => ⟨_, rfl, by rw [h2, Int.mul_assoc]⟩⟩
    rw [if_neg s5] at h
    by_cases s6 : s = 6 ∧ c.tmod d = 0
    · rw [if_pos s6] at h
      obtain ⟨rfl, hm⟩ := s6
      have hd0 := const_zero hd (.inr rfl)
      cases h
      have hcd : c.tdiv d * d = c := Int.tdiv_mul_cancel (Int.dvd_of_tmod_eq_zero hm)
      simp only [uR5, uR6]
      constructor
      · rintro ⟨y, h1, h2⟩
        refine mul_right_cancel' hd0 ?_
        rw [h2, h1, Int.mul_assoc, hcd]
      · intro h2
        exact ⟨_, rfl, by rw [h2, Int.mul_assoc, hcd]⟩
    rw [if_neg s6] at h
    by_cases s7 : s = 6 ∧ d.tmod c = 0
    · rw [if_pos s7] at h
      obtain ⟨rfl, hm⟩ := s7
      cases h
      have hcd : d.tdiv c * c = d := Int.tdiv_mul_cancel (Int.dvd_of_tmod_eq_zero hm)
      simp only [uR6]
      constructor
      · rintro ⟨y, h1, h2⟩
        refine mul_right_cancel' hc0 ?_
        rw [Int.mul_assoc, hcd, h2, h1]
      · intro h2
        refine ⟨_, rfl, ?_⟩
        rw [← h2, Int.mul_assoc, hcd]
    · rw [if_neg s7] at h; cases h
  rw [if_neg f5] at h
  by_cases f6 : f = 6
  · subst f6
    rw [if_pos rfl] at h
    simp only [uR6]
    by_cases s2 : s = 2
    · subst s2
      rw [if_pos rfl] at h; cases h
      simp only [uR2, uR6]
      exact ⟨fun ⟨y, h1, h2⟩ => by rw [h2, Int.neg_mul_neg, h1], fun h2 => ⟨-q, by rw [← h2, Int.mul_neg, Int.neg_mul], by omega⟩⟩
    rw [if_neg s2] at h
    by_cases s6 : s = 6 ∧ -512 ≤ c * d ∧ c * d ≤ 512
    · rw [if_pos s6] at h
      obtain ⟨rfl, _⟩ := s6
      cases h
      simp only [uR6]
      exact ⟨fun ⟨y, h1, h2⟩ => by rw [← h1, ← h2, Int.mul_assoc, Int.mul_comm d c], fun h2 => ⟨q * d, by rw [← h2, Int.mul_assoc, Int.mul_comm d c], rfl⟩⟩
    · rw [if_neg s6] at h; cases h
  rw [if_neg f6] at h
  by_cases f7 : f = 7
  · subst f7
    rw [if_pos rfl] at h
    have hc1 := const_shift hc (.inl rfl)
    simp only [uR7]
    by_cases s7 : s = 7 ∧ c + d ≤ 64
    · rw [if_pos s7] at h
      obtain ⟨rfl, _⟩ := s7
      have hd1 := const_shift hd (.inl rfl)
      cases h
      simp only [uR7]
      rw [p2_toNat (by omega) (by omega)]
      exact ⟨fun ⟨y, h1, h2⟩ => by rw [h2, h1, Int.mul_assoc], fun h2 => ⟨_, rfl, by rw [h2, Int.mul_assoc]⟩⟩
    rw [if_neg s7] at h
    by_cases s8 : s ≠ 8
    · rw [if_pos s8] at h; cases h
    rw [if_neg s8] at h
    have s8' : s = 8 := by omega
    subst s8'
    have hd1 := const_shift hd (.inr rfl)
    have pc := p2_pos c.toNat
    have pd := p2_pos d.toNat
    simp only [uR8]
    by_cases e1 : c = d
    · rw [if_pos e1] at h; cases h
      subst e1
      simp only [uR1]
      exact ⟨fun ⟨y, h1, h2⟩ => mul_right_cancel' (show p2 c.toNat ≠ 0 by omega) (by rw [h2, h1]), fun h2 => ⟨_, rfl, by rw [h2]⟩⟩
    rw [if_neg e1] at h
    by_cases e2 : d < c
    · rw [if_pos e2] at h; cases h
      simp only [uR7]
      have hp : p2 c.toNat = p2 (c - d).toNat * p2 d.toNat := by
        rw [← p2_toNat (by omega) (by omega)]
        congr 2; omega
      constructor
      · rintro ⟨y, h1, h2⟩
        refine mul_right_cancel' (show p2 d.toNat ≠ 0 by omega) ?_
        rw [h2, h1, Int.mul_assoc, ← hp]
      · intro h2
        exact ⟨_, rfl, by rw [h2, Int.mul_assoc, ← hp]⟩
    · rw [if_neg e2] at h; cases h
      simp only [uR8]
      have hp : p2 d.toNat = p2 (d - c).toNat * p2 c.toNat := by
        rw [← p2_toNat (by omega) (by omega)]
        congr 2; omega
      constructor
      · rintro ⟨y, h1, h2⟩
        refine mul_right_cancel' (show p2 c.toNat ≠ 0 by omega) ?_
        rw [Int.mul_assoc, ← hp, h2, h1]
      · intro h2
        exact ⟨_, rfl, by rw [← h2, Int.mul_assoc, ← hp]⟩
  rw [if_neg f7] at h
  by_cases f8 : f = 8
  · subst f8
    rw [if_pos rfl] at h
    have hc1 := const_shift hc (.inr rfl)
    by_cases s8 : s = 8 ∧ c + d ≤ 64
    · rw [if_pos s8] at h
      obtain ⟨rfl, _⟩ := s8
      have hd1 := const_shift hd (.inr rfl)
      cases h
      simp only [uR8]
      rw [p2_toNat (by omega) (by omega)]
      exact ⟨fun ⟨y, h1, h2⟩ => by rw [← h1, ← h2, Int.mul_assoc, Int.mul_comm (p2 d.toNat)], fun h2 => ⟨q * p2 d.toNat, by rw [← h2, Int.mul_assoc, Int.mul_comm (p2 d.toNat)], rfl⟩⟩
    · rw [if_neg s8] at h; cases h
  · rw [if_neg f8] at h; cases h
/-- the plain form does the same -/
theorem doZ_plain (i : Sl.Instr) (rs : List Int) : doZ (plainP i) rs = doZ i rs := by
  obtain ⟨op, t, a, b, c⟩ := i
  unfold plainP
  simp only
  by_cases h3 : op = 3
  · subst h3
    rw [if_pos rfl]
    by_cases hab : a = b
    · subst hab
      rw [if_pos rfl]
      have e2 : p2 1 = 2 := by unfold p2; decide
      simp [doZ, cst, e2]
      omega
    · rw [if_neg hab]
  rw [if_neg h3]
  by_cases h5 : op = 5 ∨ op = 6
  · rw [if_pos h5]
    by_cases c1 : c = 1
    · subst c1
      rw [if_pos rfl]
      rcases h5 with rfl | rfl <;> simp [doZ, cst]
    rw [if_neg c1]
    by_cases c2 : c = -1
    · subst c2
      rw [if_pos rfl]
      rcases h5 with rfl | rfl
      · simp [doZ, cst]
      · simp [doZ, cst]
    rw [if_neg c2]
    by_cases hp : powC c ≠ 0
    · rw [if_pos hp]
      obtain ⟨m, m1, m2, m3, m4⟩ := pow_tw hp
      have ht : p2 (powC c).toNat = c := by rw [m4, Int.toNat_natCast, m3]; rfl
      rcases h5 with rfl | rfl
      · rw [if_pos rfl]
        simp [doZ, cst, ht]
      · rw [if_neg (by decide)]
        simp [doZ, cst, ht]
    · rw [if_neg hp]
  · rw [if_neg h5]
theorem plain_to (i : Sl.Instr) : (plainP i).to = i.to := by
  unfold plainP
  repeat' split
  all_goals rfl
theorem doZ_one {i : Sl.Instr} (h : ¬ (i.op = 3 ∨ i.op = 4)) (rs : List Int) : doZ i rs = uZ i.op i.c (rs[i.a.toNat]?.getD 0) := by
  unfold doZ uZ
  have h3 : ¬ i.op = 3 := fun e => h (.inl e)
  have h4 : ¬ i.op = 4 := fun e => h (.inr e)
  simp only [h3, h4, if_false]
  rfl
theorem tog_two {f c s d : Int} (h : (togP f c s d).2.2 = true) : ¬ (f = 3 ∨ f = 4) := by
  rintro (rfl | rfl) <;> simp [togP] at h
theorem tog_one {f c s d : Int} (hs : ¬ (s = 3 ∨ s = 4)) (h : (togP f c s d).2.2 = true) : ¬ ((togP f c s d).1 = 3 ∨ (togP f c s d).1 = 4) := by
  unfold togP at h ⊢
  repeat' split
  all_goals first
    | (simp; done)
    | (intro h9; simp at h9; omega)
    | simp_all
/-- .. and two that are made one -/
theorem melt_run {a b : Sl.Instr} {rs : List Int} (hm : (meltP a b).2 = true) (ha : okC a) (hb : okC b) (ht : a.to.toNat < rs.length) : runZ [meltP a b |>.1] rs = runZ [a, b] rs := by
  unfold meltP at hm ⊢
  by_cases h : b.op = 3 ∨ b.op = 4 ∨ b.a ≠ a.to ∨ b.to ≠ a.to
  · rw [if_pos h] at hm; cases hm
  rw [if_neg h] at hm ⊢
  by_cases hk : (togP a.op a.c b.op b.c).2.2 = true
  · rw [if_pos hk]
    have b34 : ¬ (b.op = 3 ∨ b.op = 4) := by omega
    have a34 := tog_two hk
    have o34 := tog_one b34 hk
    have hba : b.a = a.to := by omega
    have hbt : b.to = a.to := by omega
    have hok : constOk (togP a.op a.c b.op b.c).1 (togP a.op a.c b.op b.c).2.1 = true := (tog_const ha hb).resolve_right (by rw [hk]; decide)
    have hsem := fun x q => tog_sem (o := (togP a.op a.c b.op b.c).1) (e := (togP a.op a.c b.op b.c).2.1) (by rw [← hk]) ha hb x q
    generalize (togP a.op a.c b.op b.c).1 = o at *
    generalize (togP a.op a.c b.op b.c).2.1 = e at *
    show (doZ (plainP ⟨o, b.to, a.a, 0, e⟩) rs).bind (fun x => some (rs.set (plainP ⟨o, b.to, a.a, 0, e⟩).to.toNat x)) = (doZ a rs).bind fun x => (doZ b (rs.set a.to.toNat x)).bind fun y => some ((rs.set a.to.toNat x).set b.to.toNat y)
    rw [doZ_plain, plain_to, doZ_one o34, doZ_one a34]
    simp only [doZ_one b34, hba, hbt]
    generalize rs[a.a.toNat]?.getD 0 = x
    have hget : ∀ y : Int, (rs.set a.to.toNat y)[a.to.toNat]?.getD 0 = y := fun y => by rw [get_set, if_pos ⟨rfl, ht⟩]
    simp only [hget, List.set_set]
    have key : ∀ q, uZ o e x = some q ↔ ∃ y, uZ a.op a.c x = some y ∧ uZ b.op b.c y = some q := fun q => by
      rw [uZ_iff (const_ucst hok), ← hsem x q]
      constructor
      · rintro ⟨y, k1, k2⟩
        exact ⟨y, (uZ_iff (const_ucst ha)).2 k1, (uZ_iff (const_ucst hb)).2 k2⟩
      · rintro ⟨y, k1, k2⟩
        exact ⟨y, (uZ_iff (const_ucst ha)).1 k1, (uZ_iff (const_ucst hb)).1 k2⟩
    cases h1 : uZ o e x with
    | some q =>
      obtain ⟨y, k1, k2⟩ := (key q).1 h1
      rw [k1]
      simp only [Option.bind_some, k2]
    | none =>
      cases h2 : uZ a.op a.c x with
      | none => rfl
      | some y =>
        cases h3 : uZ b.op b.c y with
        | none => simp only [Option.bind_some, h3]
        | some q =>
          have := (key q).2 ⟨y, h2, h3⟩
          rw [h1] at this; cases this
  · rw [if_neg hk] at hm; cases hm
theorem runZ_len : ∀ (l : List Sl.Instr) (rs r : List Int), runZ l rs = some r → r.length = rs.length
  | [], rs, r, h => by cases h; rfl
  | i :: l, rs, r, h => by
    unfold runZ at h
    obtain ⟨x, hx, h⟩ := Option.bind_eq_some_iff.1 h
    rw [runZ_len l _ _ h, List.length_set]
theorem runZ_append (l m : List Sl.Instr) (rs : List Int) : runZ (l ++ m) rs = (runZ l rs).bind (runZ m) := by
  induction l generalizing rs with
  | nil => rfl
  | cons i l ih =>
    show (doZ i rs).bind (fun x => runZ (l ++ m) (rs.set i.to.toNat x)) = ((doZ i rs).bind fun x => runZ l (rs.set i.to.toNat x)).bind (runZ m)
    cases doZ i rs with
    | none => rfl
    | some x => exact ih _
theorem set_self {l : List Int} {k : Nat} : l.set k (l[k]?.getD 0) = l := by
  apply List.ext_getElem?
  intro j
  rw [List.getElem?_set]
  by_cases h : k = j
  · subst h
    rw [if_pos rfl]
    by_cases hk : k < l.length
    · rw [if_pos hk, List.getElem?_eq_getElem hk]; rfl
    · rw [if_neg hk, List.getElem?_eq_none (by omega)]
  · rw [if_neg h]
theorem idle_run {i : Sl.Instr} (h : idle1 i = true) (rs : List Int) : runZ [i] rs = some rs := by
  unfold idle1 at h
  rw [decide_eq_true_eq] at h
  show (doZ i rs).bind (fun x => some (rs.set i.to.toNat x)) = some rs
  have e : doZ i rs = some (rs[i.a.toNat]?.getD 0) := by
    unfold doZ
    simp [h.1]
  rw [e, Option.bind_some, h.2, set_self]
/-- what is good about an instruction, on the way -/
def tame (n : Nat) (i : Sl.Instr) : Prop := okC i ∧ i.to.toNat < n
theorem tame_plain {n : Nat} {i : Sl.Instr} (h : tame n i) : tame n (plainP i) := ⟨plain_const h.1, by rw [plain_to]; exact h.2⟩
theorem melt_to {a b : Sl.Instr} (h : (meltP a b).2 = true) : (meltP a b).1.to = a.to := by
  unfold meltP at h ⊢
  by_cases h1 : b.op = 3 ∨ b.op = 4 ∨ b.a ≠ a.to ∨ b.to ≠ a.to
  · rw [if_pos h1] at h; cases h
  rw [if_neg h1] at h ⊢
  by_cases hk : (togP a.op a.c b.op b.c).2.2 = true
  · rw [if_pos hk]
    show (plainP _).to = _
    rw [plain_to]
    show b.to = a.to
    omega
  · rw [if_neg hk] at h; cases h
theorem tame_melt {n : Nat} {a b : Sl.Instr} (ha : tame n a) (hb : tame n b) (h : (meltP a b).2 = true) : tame n (meltP a b).1 := ⟨melt_okC ha.1 hb.1 h, by rw [melt_to h]; exact ha.2⟩
/-- one instruction more -/
theorem push_run {n : Nat} : ∀ (s : List Sl.Instr) (b : Sl.Instr) (rs : List Int), rs.length = n → (∀ i ∈ s, tame n i) → tame n b → runZ (pushP s b).reverse rs = runZ (s.reverse ++ [b]) rs
  | [], b, rs, hn, hs, hb => by
    unfold pushP
    by_cases hi : idle1 b = true
    · rw [if_pos hi]
      exact (idle_run hi rs).symm
    · rw [if_neg hi]; rfl
  | a :: s, b, rs, hn, hs, hb => by
    unfold pushP
    by_cases hi : idle1 b = true
    · rw [if_pos hi, runZ_append]
      cases h : runZ (a :: s).reverse rs with
      | none => rfl
      | some r => exact (idle_run hi r).symm
    rw [if_neg hi]
    by_cases hm : (meltP a b).2 = true
    · rw [if_pos hm, push_run s _ rs hn (fun i h => hs i (by simp [h])) (tame_melt (hs a (by simp)) hb hm)]
      rw [List.reverse_cons, List.append_assoc, runZ_append, runZ_append]
      cases h : runZ s.reverse rs with
      | none => rfl
      | some r =>
        rw [Option.bind_some, Option.bind_some]
        exact melt_run hm (hs a (by simp)).1 hb.1 (by rw [runZ_len _ _ _ h, hn]; exact (hs a (by simp)).2)
    · rw [if_neg hm, List.reverse_cons]
theorem push_tame {n : Nat} (s : List Sl.Instr) (b : Sl.Instr) (hs : ∀ i ∈ s, tame n i) (hb : tame n b) : ∀ i ∈ pushP s b, tame n i :=
  push_all (q := tame n) (fun a b ha hb h => tame_melt ha hb h) s b hs hb
theorem fold_run_aux {n : Nat} : ∀ (l s : List Sl.Instr) (rs : List Int), rs.length = n → (∀ i ∈ l, tame n i) → (∀ i ∈ s, tame n i) → runZ (l.foldl (fun s i => pushP s (plainP i)) s).reverse rs = runZ (s.reverse ++ l) rs
  | [], s, rs, hn, hl, hs => by rw [List.append_nil]; rfl
  | i :: l, s, rs, hn, hl, hs => by
    have hti := tame_plain (hl i (by simp))
    rw [List.foldl_cons, fold_run_aux l _ rs hn (fun j h => hl j (by simp [h])) (push_tame s _ hs hti)]
    rw [runZ_append, push_run s _ rs hn hs hti, runZ_append, runZ_append]
    cases h : runZ s.reverse rs with
    | none => rfl
    | some r =>
      rw [Option.bind_some, Option.bind_some]
      show (runZ [plainP i] r).bind (runZ l) = runZ (i :: l) r
      show ((doZ (plainP i) r).bind fun x => some (r.set (plainP i).to.toNat x)).bind (runZ l) = (doZ i r).bind fun x => runZ l (r.set i.to.toNat x)
      rw [doZ_plain, plain_to]
      cases doZ i r <;> rfl
/-- the pass's program answers the same, or both fail -/
theorem fold_ans {p : PV} {zs : List Int} (hR : rightP p = true) (hz : (zs.length : Int) = p.ins) : ansZ (foldP p) zs = ansZ p zs := by
  obtain ⟨f1, f2, f3, f4, f5, f6, f7, f8⟩ := right_facts hR
  have hl : (regs0Z p zs).length = p.regs.toNat := by unfold regs0Z; rw [List.length_append, List.length_replicate]; omega
  unfold ansZ
  rw [stepsZ_runZ (foldP p) _ _ (Nat.le_refl _), stepsZ_runZ p _ _ (Nat.le_refl _), List.take_length, List.take_length]
  have ht : ∀ i ∈ p.code, tame p.regs.toNat i := fun i hi => by
    have hm := right_codes hR i hi
    have := (may_facts hm).2.1
    exact ⟨may_const hm, by omega⟩
  have h := fold_run_aux p.code [] (regs0Z p zs) hl ht (fun i h => by cases h)
  rw [List.reverse_nil, List.nil_append] at h
  show (runZ (foldS p.code).reverse (regs0Z p zs)).map (outsZ p) = _
  unfold foldS
  rw [h]
theorem steps_below {p : PV} {zs : List Int} {m : Nat} (hm : Below m zs) (hmay : ∀ i ∈ p.code, mayOk i p.regs = true) : ∀ {k : Nat} {rs : List Int}, k ≤ p.code.length → stepsZ p zs k = some rs → Below (m + 3 * k) rs
  | 0, rs, _, h => by unfold stepsZ at h; cases h; exact hm
  | k + 1, rs, hk, h => by
    unfold stepsZ at h
    cases h1 : stepsZ p zs k with
    | none => rw [h1] at h; cases h
    | some r1 =>
      rw [h1] at h
      simp only [Option.bind_some] at h
      obtain ⟨x, hx, rfl⟩ := Option.map_eq_some_iff.1 h
      have ih := steps_below hm hmay (by omega) h1
      have hmem : (p.code[((k : Nat) : Int).toNat]?.getD default) ∈ p.code := by
        rw [Int.toNat_natCast, List.getElem?_eq_getElem (by omega)]; exact List.getElem_mem _
      obtain ⟨m1, m2, m3, m4, m5, m6, m7, m8⟩ := may_facts (hmay _ hmem)
      have hs := doZ_small ih (fun h => Int.lt_of_lt_of_le (m6 (by omega) (by omega) (by omega) (by omega)).2 pw5_pb3) hx
      rw [show m + 3 * (k + 1) = m + 3 * k + 3 by omega]
      exact below_set (ih.mono (by omega)) hs _
theorem ans_below {p : PV} {zs os : List Int} {m : Nat} (hR : rightP p = true) (hm : Below m zs) (h : ansZ p zs = some os) : Below (m + 49152) os := by
  obtain ⟨f1, f2, f3, f4, f5, f6, f7, f8⟩ := right_facts hR
  unfold ansZ at h
  obtain ⟨rs, hrs, rfl⟩ := Option.map_eq_some_iff.1 h
  have hb := (steps_below (below_append hm (below_zeros m _)) f8 (Nat.le_refl _) hrs).mono (show m + 3 * p.code.length ≤ m + 49152 by omega)
  intro z hz
  unfold outsZ at hz
  obtain ⟨r, _, rfl⟩ := List.mem_map.1 hz
  exact hb.at _
end Go.Proofs.YtbppmiimeccclaaDoor
