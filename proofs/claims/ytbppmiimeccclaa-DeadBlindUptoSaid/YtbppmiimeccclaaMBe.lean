/- Parts of the proof (part 5): what the rows' text needs of the texts that lead to it. -/
import Derived.Test.YtbppmiimeccclaaMBd
set_option linter.unusedVariables false
namespace Go.Proofs.Ytbppmiimeccclaa
open Go Go.Sl
theorem steps_below {p : PV} {zs : List Int} {m : Nat} (hm : Below m zs) (hmay : ∀ i ∈ p.code, mayOk i p.regs = true) : ∀ {k : Nat} {rs : List Int}, k ≤ p.code.length → stepsZ p zs k = some rs → Below (m + 3 * k) rs
  | 0, rs, _, h => by unfold stepsZ at h; cases h; exact hm
  | k + 1, rs, hk, h => by
    unfold stepsZ at h
    cases h1 : stepsZ p zs k with
    | none => rw [h1] at h; cases h
    | some r1 =>
      rw [h1] at h
      simp only [Option.bind_some] at h
      obtain ⟨x, hx, rfl⟩ := Option.map_eq_some_iff.1 h
      have ih := steps_below hm hmay (by omega) h1
      have hmem : (p.code[((k : Nat) : Int).toNat]?.getD default) ∈ p.code := by
        rw [Int.toNat_natCast, List.getElem?_eq_getElem (by omega)]; exact List.getElem_mem _
      obtain ⟨m1, m2, m3, m4, m5, m6, m7, m8⟩ := may_facts (hmay _ hmem)
      have hs := doZ_small ih (fun h => Int.lt_of_lt_of_le (m6 (by omega) (by omega) (by omega) (by omega)).2 pw5_pb3) hx
      rw [show m + 3 * (k + 1) = m + 3 * k + 3 by omega]
      exact below_set (ih.mono (by omega)) hs _
theorem ans_below {p : PV} {zs os : List Int} {m : Nat} (hR : rightP p = true) (hm : Below m zs) (h : ansZ p zs = some os) : Below (m + 49152) os := by
  obtain ⟨f1, f2, f3, f4, f5, f6, f7, f8⟩ := right_facts hR
  unfold ansZ at h
  obtain ⟨rs, hrs, rfl⟩ := Option.map_eq_some_iff.1 h
  have hb := (steps_below (below_append hm (below_zeros m _)) f8 (Nat.le_refl _) hrs).mono (show m + 3 * p.code.length ≤ m + 49152 by omega)
  intro z hz
  unfold outsZ at hz
  obtain ⟨r, _, rfl⟩ := List.mem_map.1 hz
  exact hb.at _
end Go.Proofs.Ytbppmiimeccclaa
set_option linter.unusedVariables false
namespace Go.Proofs.Ytbppmiimeccclaa
open Go Go.Sl
/-- code run over numbers -/
def runZ : List Sl.Instr → List Int → Option (List Int)
  | [], rs => some rs
  | i :: l, rs => (doZ i rs).bind fun x => runZ l (rs.set i.to.toNat x)
theorem runZ_snoc (l : List Sl.Instr) (i : Sl.Instr) (rs : List Int) : runZ (l ++ [i]) rs = (runZ l rs).bind fun r => (doZ i r).map fun x => r.set i.to.toNat x := by
  induction l generalizing rs with
  | nil =>
    show (doZ i rs).bind (fun x => some (rs.set i.to.toNat x)) = (doZ i rs).map _
    cases doZ i rs <;> rfl
  | cons j l ih =>
    show (doZ j rs).bind (fun x => runZ (l ++ [i]) (rs.set j.to.toNat x)) = ((doZ j rs).bind fun x => runZ l (rs.set j.to.toNat x)).bind _
    cases doZ j rs with
    | none => rfl
    | some x => exact ih _
theorem stepsZ_runZ (p : PV) (zs : List Int) : ∀ k, k ≤ p.code.length → stepsZ p zs k = runZ (p.code.take k) zs
  | 0, _ => by rw [List.take_zero]; rfl
  | k + 1, hk => by
    have htk : p.code.take (k + 1) = p.code.take k ++ [p.code[((k : Nat) : Int).toNat]?.getD default] := by
      rw [List.take_add_one, Int.toNat_natCast, List.getElem?_eq_getElem (by omega)]; rfl
    rw [htk, runZ_snoc, ← stepsZ_runZ p zs k (by omega)]
    rfl
/-- the same where it is asked -/
def Agree (A : List Bool) (r s : List Int) : Prop := r.length = s.length ∧ ∀ k : Nat, A[k]?.getD default = true → r[k]?.getD 0 = s[k]?.getD 0
theorem doZ_agree {i : Sl.Instr} {r s : List Int} (ha : r[i.a.toNat]?.getD 0 = s[i.a.toNat]?.getD 0) (hb : i.op = 3 ∨ i.op = 4 → r[i.b.toNat]?.getD 0 = s[i.b.toNat]?.getD 0) : doZ i r = doZ i s := by
  unfold doZ
  simp only [ha]
  by_cases h34 : i.op = 3 ∨ i.op = 4
  · rw [hb h34]
  · have h3 : ¬ i.op = 3 := fun e => h34 (.inl e)
    have h4 : ¬ i.op = 4 := fun e => h34 (.inr e)
    simp only [h3, h4, if_false]
theorem get_set (r : List Int) (n k : Nat) (x : Int) : (r.set n x)[k]?.getD 0 = if n = k ∧ k < r.length then x else r[k]?.getD 0 := by
  rw [List.getElem?_set]
  by_cases h : n = k
  · subst h
    by_cases h2 : n < r.length
    · rw [if_pos rfl, if_pos h2, if_pos ⟨rfl, h2⟩]; rfl
    · rw [if_pos rfl, if_neg h2, if_neg (fun h => h2 h.2), List.getElem?_eq_none (by omega)]
  · rw [if_neg h, if_neg (fun h2 => h h2.1)]
theorem run_agree {p : PV} (hm : ∀ i ∈ p.code, mayOk i p.regs = true) : ∀ (l : List Sl.Instr), (∀ i ∈ l, i ∈ p.code) → ∀ (r s r' s' : List Int), (r.length : Int) = p.regs → Agree (nf p l).1 r s → runZ l r = some r' → runZ l s = some s' → Agree (nf p []).1 r' s'
  | [], _, r, s, r', s', _, h, h1, h2 => by
    cases h1; cases h2; exact h
  | i :: l, hl, r, s, r', s', hlen, h, h1, h2 => by
    have hmi := hm i (hl i (by simp))
    obtain ⟨m1, m2, m3, m4, m5, m6, m7, m8⟩ := may_facts hmi
    have hA : ((nf p l).1.length : Int) = p.regs := by rw [(nf_len p l).1]; omega
    unfold runZ at h1 h2
    obtain ⟨x, hx, h1⟩ := Option.bind_eq_some_iff.1 h1
    obtain ⟨y, hy, h2⟩ := Option.bind_eq_some_iff.1 h2
    refine run_agree hm l (fun j hj => hl j (by simp [hj])) _ _ _ _ (by rw [List.length_set]; exact hlen) ?_ h1 h2
    obtain ⟨hl1, hag⟩ := h
    refine ⟨by rw [List.length_set, List.length_set]; exact hl1, fun k hk => ?_⟩
    rw [get_set, get_set]
    have hkA : k < (nf p l).1.length := by
      rcases Nat.lt_or_ge k (nf p l).1.length with h | h
      · exact h
      · rw [List.getElem?_eq_none h] at hk; cases hk
    by_cases hto : i.to.toNat = k
    · have hasked : (nf p l).1[i.to.toNat]?.getD default = true := by rw [hto]; exact hk
      have e : (nf p (i :: l)).1 = setAll ((nf p l).1.set i.to.toNat false) (asks i) := by simp only [nf]; rw [if_pos hasked]
      rw [e] at hag
      have hin : ∀ q ∈ asks i, r[q.toNat]?.getD 0 = s[q.toNat]?.getD 0 := fun q hq => by
        have hqr := asks_in hmi q hq
        refine hag q.toNat ?_
        rw [step_get hA hmi hqr, decide_eq_true hq, Bool.true_or]
      have haa : i.a ∈ asks i := by
        unfold asks
        split
        · exact List.mem_cons_self
        · first | exact List.mem_cons_self | (rw [if_pos m1]; exact List.mem_cons_self)
      have hd := doZ_agree (hin _ haa) (fun h34 => hin _ (by unfold asks; rw [if_pos h34]; exact List.mem_cons_of_mem _ List.mem_cons_self))
      rw [hx, hy] at hd
      cases hd
      rw [if_pos ⟨hto, by omega⟩, if_pos ⟨hto, by omega⟩]
    · rw [if_neg (fun h => hto h.1), if_neg (fun h => hto h.1)]
      refine hag k ?_
      by_cases hasked : (nf p l).1[i.to.toNat]?.getD default = true
      · have e : (nf p (i :: l)).1 = setAll ((nf p l).1.set i.to.toNat false) (asks i) := by simp only [nf]; rw [if_pos hasked]
        rw [e]
        have hg := step_get hA hmi (r := (k : Int)) (by omega)
        rw [Int.toNat_natCast] at hg
        rw [hg, hk, decide_eq_false (show ¬ i.to = (k : Int) by omega)]
        simp
      · have e : (nf p (i :: l)).1 = (nf p l).1 := by simp only [nf]; rw [if_neg hasked]
        rw [e]; exact hk
theorem nf_aT (p : PV) (l : List Sl.Instr) (h : (nf p l).2 = List.replicate l.length true) : (nf p l).1 = aT p l := by
  induction l with
  | nil => rfl
  | cons i l ih =>
    simp only [nf] at h ⊢
    split at h
    · rename_i hc
      rw [if_pos hc]
      simp only [List.length_cons, List.replicate_succ, List.cons.injEq, true_and] at h
      show setAll _ _ = askStep (aT p l) i
      rw [← ih h]; rfl
    · simp only [List.length_cons, List.replicate_succ, List.cons.injEq] at h
      exact absurd h.1 (by decide)
theorem ask_nf {p : PV} (hR : rightP p = true) : askE p = (nf p p.code).1 := by
  unfold askE
  rw [if_pos hR]
  unfold askAll
  rw [askTo_aT _ _ (Nat.le_refl _), Nat.sub_self, List.drop_zero]
  have hk := nf_keep p p.code
  have hs := nf_same (p := p) (q := deadP p) rfl rfl (deadP p).code
  rw [← nf_aT (deadP p) (deadP p).code (by rw [hs, dead_code]; exact hk.2), hs, dead_code]
  exact hk.1
/-- what is not asked may hold whatever it will -/
theorem blind {p : PV} {zs ys os ps : List Int} (hR : rightP p = true) (hz : (zs.length : Int) = p.ins) (hy : ys.length = zs.length) (hag : ∀ k : Nat, (askE p)[k]?.getD default = true → zs[k]?.getD 0 = ys[k]?.getD 0) (h1 : ansZ p zs = some os) (h2 : ansZ p ys = some ps) : os = ps := by
  obtain ⟨f1, f2, f3, f4, f5, f6, f7, f8⟩ := right_facts hR
  unfold ansZ at h1 h2
  rw [stepsZ_runZ p _ _ (Nat.le_refl _), List.take_length] at h1 h2
  obtain ⟨r1, hr1, rfl⟩ := Option.map_eq_some_iff.1 h1
  obtain ⟨s1, hs1, rfl⟩ := Option.map_eq_some_iff.1 h2
  have hl : (regs0Z p zs).length = p.regs.toNat := by unfold regs0Z; rw [List.length_append, List.length_replicate]; omega
  have hl2 : (regs0Z p ys).length = p.regs.toNat := by unfold regs0Z; rw [List.length_append, List.length_replicate]; omega
  have h0 : Agree (nf p p.code).1 (regs0Z p zs) (regs0Z p ys) := by
    refine ⟨by omega, fun k hk => ?_⟩
    rw [← ask_nf hR] at hk
    have h3 := hag k hk
    unfold regs0Z
    rcases Nat.lt_or_ge k zs.length with h4 | h4
    · rw [List.getElem?_append_left h4, List.getElem?_append_left (by omega)]; exact h3
    · rw [List.getElem?_append_right h4, List.getElem?_append_right (by omega), hy]
  obtain ⟨g1, g2⟩ := run_agree f8 p.code (fun i hi => hi) _ _ _ _ (by omega) h0 hr1 hs1
  unfold outsZ
  refine List.map_congr_left fun r hr => ?_
  have hrr := f7 r hr
  refine g2 r.toNat ?_
  show (setAll (List.replicate p.regs.toNat false) p.outs)[r.toNat]?.getD default = true
  rw [start_get (by omega) f7 hrr]
  exact decide_eq_true hr
end Go.Proofs.Ytbppmiimeccclaa
namespace Go.Proofs.Ytbppmiimeccclaa
open Go Go.Sl
set_option maxRecDepth 100000
set_option maxHeartbeats 2000000
theorem c54F (G : Imm) : Does Try.prog 54 [] G [] (fun v G' Ho => ∃ a b c d, v = .agg #[.int .i64 exD.ins, .int .i64 exD.regs, .slice a exD.code.length c, .slice b exD.outs.length d] ∧ Arr G' a exD.code ∧ Arr G' b exD.outs ∧ Ho = []) := by
  refine (Does.frz2 (α := Sl.Instr) (β := Int) (E := 72) (E' := 3) (q := fun v a c xs b d ys => v = .agg #[.int .i64 exD.ins, .int .i64 exD.regs, .slice a xs.length c, .slice b ys.length d] ∧ xs = exD.code ∧ ys = exD.outs)
    ((c54 G).mono fun v G' Ho _ ⟨b, d, h1, h2, h3⟩ => ⟨_, _, exD.code, [], _, _, exD.outs, [], ⟨h1, rfl, rfl⟩, OwnA.made (by simp [maxLen, exD]), OwnA.made (by simp [maxLen, exD]), h2, h3⟩)).mono
    fun v G' Ho _ ⟨a, c, xs, b, d, ys, ⟨h1, hx, hy⟩, h2, h3, h4⟩ => ?_
  subst hx hy
  exact ⟨a, b, c, d, h1, h2, h3, h4⟩
theorem c53F (G : Imm) (p : PV) (ac ao : Option Addr) (cc co : Nat) (hc : Arr G ac p.code) (ho : Arr G ao p.outs) (h1 : p.code.length ≤ 1099511627776) (h2 : p.outs.length ≤ 1099511627776) :
    Does Try.prog 53 [.agg #[.int .i64 p.ins, .int .i64 p.regs, .slice ac p.code.length cc, .slice ao p.outs.length co]] G [] (fun v G' Ho =>
      ∃ q e bc bo dc do_, v = .tuple #[.agg #[.int .i64 q.ins, .int .i64 q.regs, .slice bc q.code.length dc, .slice bo q.outs.length do_], .int .i64 e] ∧ (q = deadE p ∧ e = errP p) ∧ Arr G' bc q.code ∧ Arr G' bo q.outs ∧ Ho = []) := by
  refine (Does.frz2 (α := Sl.Instr) (β := Int) (E := 72) (E' := 3) (q := fun v a c xs b d ys => ∃ q e, v = .tuple #[.agg #[.int .i64 q.ins, .int .i64 q.regs, .slice a q.code.length c, .slice b q.outs.length d], .int .i64 e] ∧ (q = deadE p ∧ e = errP p) ∧ xs = q.code ∧ ys = q.outs)
    ((c53 G p ac ao cc co hc ho h1 h2).mono fun v G' Ho _ ⟨q, e, bc, bo, dc, do_, j1, j2, g1, g2, g3, g4, g5, g6⟩ => ⟨bc, dc, q.code, j1, bo, do_, q.outs, j2, ⟨q, e, g1, g2, rfl, rfl⟩, g3, g4, g5, g6⟩)).mono
    fun v G' Ho _ ⟨a, c, xs, b, d, ys, ⟨q, e, g1, g2, hx, hy⟩, h2, h3, h4⟩ => ?_
  subst hx hy
  exact ⟨q, e, a, b, c, d, g1, g2, h2, h3, h4⟩
theorem c20F (G : Imm) (p : PV) (ac ao : Option Addr) (cc co : Nat) (hc : Arr G ac p.code) (ho : Arr G ao p.outs) (h1 : p.code.length ≤ 1099511627776) (h2 : p.outs.length ≤ 1099511627776) :
    Does Try.prog 20 [.agg #[.int .i64 p.ins, .int .i64 p.regs, .slice ac p.code.length cc, .slice ao p.outs.length co]] G [] (fun v G' Ho => ∃ l e b c, v = .tuple #[.slice b l.length c, .int .i64 e] ∧ (l = askE p ∧ e = errP p) ∧ (rightP p ≠ true → b = none) ∧
      Arr G' b l ∧ Ho = []) := by
  refine (Does.frz1 (α := Bool) (E := 4) (q := fun v a c xs => ∃ e, v = .tuple #[.slice a xs.length c, .int .i64 e] ∧ (xs = askE p ∧ e = errP p) ∧ (rightP p ≠ true → a = none))
    ((c20 G p ac ao cc co hc ho h1 h2).mono fun v G' Ho _ ⟨l, e, b, c, j, g1, ⟨g2, g3, g4⟩, g5, g6, g7⟩ => ⟨b, c, l, j, ⟨e, g1, ⟨g2, g3⟩, g4⟩, g5, g6, g7⟩)).mono
    fun v G' Ho _ ⟨a, c, xs, ⟨e, g1, g2, g3⟩, h2, h3⟩ => ⟨xs, e, a, c, g1, g2, g3, h2, h3⟩
theorem c57F (G : Imm) (p : PV) (ac ao : Option Addr) (cc co : Nat) (hc : Arr G ac p.code) (ho : Arr G ao p.outs) (h1 : p.code.length ≤ 1048576) (h2 : p.outs.length ≤ 1048576) :
    Does Try.prog 57 [.agg #[.int .i64 p.ins, .int .i64 p.regs, .slice ac p.code.length cc, .slice ao p.outs.length co]] G [] (fun v G' Ho => ∃ l b d, v = .slice b l.length d ∧ (l = idleP p ∧ (l = [] ↔ b = none)) ∧ Arr G' b l ∧ Ho = []) := by
  refine (Does.frz1 (α := Int) (E := 3) (q := fun v a c xs => v = .slice a xs.length c ∧ xs = idleP p ∧ (xs = [] ↔ a = none))
    ((c57 G p ac ao cc co hc ho h1 h2).mono fun v G' Ho _ ⟨b, d, j, g1, g2, g3, g4, g5⟩ => ⟨b, d, idleP p, j, ⟨g1, rfl, g2, fun hb => ?_⟩, g3, g4, g5⟩)).mono
    fun v G' Ho _ ⟨a, c, xs, ⟨g1, g2⟩, h2, h3⟩ => ⟨xs, a, c, g1, g2, h2, h3⟩
  rcases g3 with ⟨_, h, _⟩ | ⟨b', h, _⟩
  · exact h
  · rw [hb] at h; cases h
def exD2 : PV := ⟨2, 4, [⟨4, 2, 0, 1, 0⟩], [2, 0]⟩
theorem exD_right : rightP exD = true := by decide
theorem exD_dead : deadE exD = exD2 := by rw [deadE, if_pos exD_right]; rfl
theorem exD_err : errP exD = 0 := if_pos exD_right
theorem exD_ask : askE exD = [true, true, false, false] := by unfold askE; rw [if_pos exD_right]; rfl
theorem exD_idle : idleP exD = [0, 1, 3] := by unfold idleP; rw [if_pos exD_right]; rfl
attribute [local irreducible] deadE errP askE idleP
theorem c18 (G : Imm) : Does Try.prog 18 [] G [] (fun v G' Ho => v = .bool true ∧ G' = G ∧ Ho = []) := by
  have hd := exD_dead
  have he := exD_err
  have ha := exD_ask
  have hi := exD_idle
  refine Does.enter Try.func18 rfl Try.ntmps18 rfl (fun w => ?_)
  refine Wc.seq ?_
  refine Wc.region rfl ?_
  refine Wl.q rfl (Qy.assign rfl) ?_
  refine Wl.done ?_
  refine Ar.next ?_
  refine Wc.seq ?_
  refine Wc.region rfl ?_
  refine Wl.call 0 rfl T.fn54 rfl (c54F _) (tags_of trivial) (fun v1 G1 Ho1 hle1 hp => ?_)
  obtain ⟨xa1, xo1, xc1, xd1, rfl, hxa1, hxo1, rfl⟩ := hp
  refine Wl.call 0 rfl T.fn53 rfl (c53F _ exD _ _ _ _ (by assumption) (by assumption) (by decide) (by decide)) (tags_of trivial) (fun v2 G2 Ho2 hle2 hp => ?_)
  obtain ⟨_, _, qc2, qo2, qcc2, qoc2, rfl, ⟨rfl, rfl⟩, hqc2, hqo2, rfl⟩ := hp
  replace hxa1 := hxa1.up hle2
  replace hxo1 := hxo1.up hle2
  refine Wl.q rfl (Qy.move rfl) ?_
  refine Wl.q rfl (Qy.extract rfl rfl) ?_
  refine Wl.q rfl (Qy.extract rfl rfl) ?_
  refine Wl.alloc 0 rfl T.zero25 (fun b1 => ?_)
  refine Wl.storeAll 0 T.size25 rfl rfl rfl rfl rfl rfl ?_
  refine Wl.q rfl (Qy.assign rfl) ?_
  refine Wl.done ?_
  refine Ar.next ?_
  refine Wc.seq ?_
  refine Wc.region rfl ?_
  refine Wl.call 1 rfl T.fn54 rfl (c54F _) (tags_of trivial) (fun v3 G3 Ho3 hle3 hp => ?_)
  obtain ⟨xa3, xo3, xc3, xd3, rfl, hxa3, hxo3, rfl⟩ := hp
  replace hqc2 := hqc2.up hle3
  replace hqo2 := hqo2.up hle3
  replace hxa1 := hxa1.up hle3
  replace hxo1 := hxo1.up hle3
  refine Wl.call 1 rfl T.fn20 rfl (c20F _ exD _ _ _ _ (by assumption) (by assumption) (by decide) (by decide)) (tags_of trivial) (fun v4 G4 Ho4 hle4 hp => ?_)
  obtain ⟨_, _, lb4, lc4, rfl, ⟨rfl, rfl⟩, hln4, hla4, rfl⟩ := hp
  replace hxa3 := hxa3.up hle4
  replace hxo3 := hxo3.up hle4
  replace hqc2 := hqc2.up hle4
  replace hqo2 := hqo2.up hle4
  replace hxa1 := hxa1.up hle4
  replace hxo1 := hxo1.up hle4
  refine Wl.q rfl (Qy.move rfl) ?_
  refine Wl.q rfl (Qy.extract rfl rfl) ?_
  refine Wl.q rfl (Qy.extract rfl rfl) ?_
  refine Wl.q rfl (Qy.assign rfl) ?_
  refine Wl.q rfl (Qy.assign rfl) ?_
  refine Wl.done ?_
  refine Ar.next ?_
  refine Wc.seq ?_
  refine Wc.region rfl ?_
  refine Wl.q rfl (Qy.move rfl) ?_
  refine Wl.q rfl (Qy.eql rfl rfl) ?_
  refine Wl.q rfl (Qy.move rfl) ?_
  refine Wl.yes 17 rfl (by first | assumption | omega) ?_
  refine Wl.want rfl rfl ?_
  refine Wl.q rfl (Qy.move rfl) ?_
  refine Wl.want rfl rfl ?_
  refine Wl.q rfl (Qy.eql rfl rfl) ?_
  refine Wl.q rfl (Qy.pick rfl rfl) ?_
  refine Wl.q rfl (Qy.move rfl) ?_
  refine Wl.yes 21 rfl (by first | assumption | omega) ?_
  refine Wl.want rfl rfl ?_
  refine Wl.q rfl (Qy.loadAll 0 T.agg25 rfl rfl rfl) ?_
  refine Wl.want rfl rfl ?_
  refine Wl.q rfl (Qy.build (cs := [_, _, _, _, _]) T.st72 rfl rfl rfl) ?_
  refine Wl.want rfl rfl ?_
  refine Wl.lit (α := Instr) 1 [⟨4, 2, 0, 1, 0⟩] rfl T.sl22 T.el72 rfl rfl rfl rfl rfl (fun b2 => ?_)
  refine Wl.want rfl rfl ?_
  refine Wl.lit (α := Int) 2 [(2), (0)] rfl T.sl23 T.el3 rfl rfl rfl rfl rfl (fun b3 => ?_)
  refine Wl.want rfl rfl ?_
  refine Wl.q rfl (Qy.build (cs := [_, _, _, _]) T.st25 rfl rfl rfl) ?_
  refine Wl.want rfl rfl ?_
  refine Wl.callB 5 rfl T.fn39 rfl (fun Gx hGx hgx => c39 Gx (deadE exD) exD2 _ _ _ _ _ _ _ _ (hqc2.up hGx) (hqo2.up hGx) (Arr.own hgx 1 rfl (OwnA.made (by simp [maxLen, exD2]))) (Arr.own hgx 2 rfl (OwnA.made (by simp [maxLen, exD2]))) (by rw [hd]; decide) (by rw [hd]; decide)) (fun v5 Gx5 G5 Ho5 hlx5 hp => ?_)
  obtain ⟨rfl, rfl, rfl⟩ := hp
  refine Wl.q rfl (Qy.pick rfl rfl) ?_
  refine Wl.q rfl (Qy.move rfl) ?_
  refine Wl.yes 29 rfl (by first | assumption | omega) ?_
  refine Wl.want rfl rfl ?_
  refine Wl.q rfl (Qy.move rfl) ?_
  refine Wl.want rfl rfl ?_
  refine Wl.lit (α := Bool) 3 [(Bool.true), (Bool.true), (Bool.false), (Bool.false)] rfl T.sl41 T.el4 rfl rfl rfl rfl rfl (fun b4 => ?_)
  refine Wl.want rfl rfl ?_
  refine Wl.callB 6 rfl T.fn55 rfl (fun Gx hGx hgx => c55 Gx (askE exD) [true, true, false, false] _ _ _ _ (hla4.up hGx) (Arr.own hgx 3 rfl (OwnA.made (by simp [maxLen]))) (by rw [ha]; decide) (by decide)) (fun v6 Gx6 G6 Ho6 hlx6 hp => ?_)
  obtain ⟨rfl, rfl, rfl⟩ := hp
  refine Wl.q rfl (Qy.pick rfl rfl) ?_
  refine Wl.q rfl (Qy.move rfl) ?_
  refine Wl.yes 34 rfl (by first | assumption | omega) ?_
  refine Wl.want rfl rfl ?_
  refine Wl.call 4 rfl T.fn54 rfl (c54F _) (tags_of trivial) (fun v5 G5 Ho5 hle5 hp => ?_)
  obtain ⟨xa5, xo5, xc5, xd5, rfl, hxa5, hxo5, rfl⟩ := hp
  replace hla4 := hla4.up hle5
  replace hxa3 := hxa3.up hle5
  replace hxo3 := hxo3.up hle5
  replace hqc2 := hqc2.up hle5
  replace hqo2 := hqo2.up hle5
  replace hxa1 := hxa1.up hle5
  replace hxo1 := hxo1.up hle5
  refine Wl.want rfl rfl ?_
  refine Wl.call 4 rfl T.fn57 rfl (c57F _ exD _ _ _ _ (by assumption) (by assumption) (by decide) (by decide)) (tags_of trivial) (fun v6 G6 Ho6 hle6 hp => ?_)
  obtain ⟨_, ib6, id6, rfl, ⟨rfl, hin6⟩, hia6, rfl⟩ := hp
  replace hxa5 := hxa5.up hle6
  replace hxo5 := hxo5.up hle6
  replace hla4 := hla4.up hle6
  replace hxa3 := hxa3.up hle6
  replace hxo3 := hxo3.up hle6
  replace hqc2 := hqc2.up hle6
  replace hqo2 := hqo2.up hle6
  replace hxa1 := hxa1.up hle6
  replace hxo1 := hxo1.up hle6
  refine Wl.want rfl rfl ?_
  refine Wl.lit (α := Int) 4 [(0), (1), (3)] rfl T.sl23 T.el3 rfl rfl rfl rfl rfl (fun b5 => ?_)
  refine Wl.want rfl rfl ?_
  refine Wl.callB 8 rfl T.fn56 rfl (fun Gx hGx hgx => c56 Gx (idleP exD) [0, 1, 3] _ _ _ _ (Arr.up (by assumption) hGx) (Arr.own hgx 4 rfl (OwnA.made (by simp [maxLen]))) (by rw [hi]; decide) (by decide)) (fun v9 Gx9 G9 Ho9 hlx9 hp => ?_)
  obtain ⟨rfl, rfl, rfl⟩ := hp
  refine Wl.q rfl (Qy.pick rfl rfl) ?_
  refine Wl.q rfl (Qy.assign rfl) ?_
  refine Wl.done ?_
  refine Ar.next ?_
  refine Wc.ret ?_
  refine Ar.base (Ar.out1 (.inr rfl) (Ho := []) rfl (.tmp rfl) trivial ?_)
  exact ⟨by simp [hi], rfl, rfl⟩
end Go.Proofs.Ytbppmiimeccclaa
set_option maxRecDepth 100000
set_option linter.unusedVariables false
namespace Go.Proofs.Ytbppmiimeccclaa
open Go Go.Sl
set_option maxHeartbeats 4000000
attribute [local irreducible] valB pb cmpZ lstWp p2 cst doZ checkP rightP ansZ askE
theorem c19 (G : Imm) (p : PV) (ac ao : Option Addr) (cc co : Nat) (h1 : p.code.length ≤ 1099511627776) (h2 : p.outs.length ≤ 1099511627776) :
    Does Try.prog 19 [.agg #[.int .i64 p.ins, .int .i64 p.regs, .slice ac p.code.length cc, .slice ao p.outs.length co]] G [] (fun v G' Ho => v = .bool (decide (300 < (p.code.length : Int) ∧ (p.code.length : Int) ≤ 16384)) ∧ G' = G ∧ Ho = []) := by
  refine Does.enter Try.func19 rfl Try.ntmps19 rfl (fun w => ?_)
  refine Wc.seq ?_
  refine Wc.region rfl ?_
  refine Wl.box 0 rfl rfl rfl (fun b1 => ?_)
  refine Wl.q rfl (Qy.assign rfl) ?_
  refine Wl.done ?_
  refine Ar.next ?_
  refine Wc.seq ?_
  refine Wc.region rfl ?_
  refine Wl.q rfl (Qy.fieldAddr T.fa25_2 rfl) ?_
  refine Wl.q rfl (Qy.load 0 T.one22 rfl rfl rfl) ?_
  refine Wl.q rfl (Qy.len T.sl22 rfl) ?_
  refine Wl.q rfl (Qy.gtr rfl rfl) ?_
  refine Wl.q rfl (Qy.move rfl) ?_
  apply Wl.joinAnd 5 7 12 rfl
  intro hg1
  refine Wl.want rfl rfl ?_
  refine Wl.q rfl (Qy.fieldAddr T.fa25_2 rfl) ?_
  refine Wl.want rfl rfl ?_
  refine Wl.q rfl (Qy.load 0 T.one22 rfl rfl rfl) ?_
  refine Wl.want rfl rfl ?_
  refine Wl.q rfl (Qy.len T.sl22 rfl) ?_
  refine Wl.want rfl rfl ?_
  refine Wl.q rfl (Qy.leq rfl rfl) ?_
  refine Wl.q rfl (Qy.pick rfl rfl) ?_
  exact Wl.back 5 0 rfl rfl rfl rfl rfl
  intro hg1
  refine Wl.pass rfl rfl rfl ?_
  refine Wl.pass rfl rfl rfl ?_
  refine Wl.pass rfl rfl rfl ?_
  refine Wl.pass rfl rfl rfl ?_
  refine Wl.q rfl (Qy.pick rfl rfl) ?_
  exact Wl.back 5 0 rfl rfl rfl rfl rfl
  refine Wl.q rfl (Qy.assign rfl) ?_
  refine Wl.done ?_
  refine Ar.next ?_
  refine Wc.ret ?_
  refine Ar.out1 (.inr rfl) (Ho := Hp.only _ []) rfl (.tmp rfl) (Hp.sub_only _ _) ?_
  exact ⟨rfl, rfl, rfl⟩
theorem c23Y (G : Imm) (a b : Option Addr) (ca cb : Nat) (la lb : List IV) (os : List Int) (ha : Arr G a la) (hb : Arr G b lb) (hA : Bigs G la os) (hB : Bigs G lb os) (h1 : la.length ≤ 1048576) (h2 : lb.length ≤ 1048576) (m : Nat) (hm : m ≤ 268435456) (bb : Below m os) :
    Does Try.prog 23 [.slice a la.length ca, .slice b lb.length cb] G [] (fun v G' Ho => v = .bool (decide Yes) ∧ G' = G ∧ Ho = []) :=
  (c23 G a b ca cb la lb os os ha hb hA hB h1 h2 m hm bb bb).mono fun v G' Ho _ ⟨e1, e2, e3⟩ => ⟨by rw [e1, decide_eq_true rfl, decide_eq_true yes], e2, e3⟩
theorem c22E (G : Imm) (a : Option Addr) (c : Nat) (l : List Int) (ha : Arr G a l) (h1 : l.length ≤ 1048576) (hl : ∀ x ∈ l, -9223372036854775808 ≤ x ∧ x ≤ 9223372036854775807) :
    Does Try.prog 22 [.slice a l.length c] G [] (fun v G' Ho => ∃ (b : Option Addr) (r : List IV) (c' : Nat), v = .slice b r.length c' ∧ Arr G' b r ∧ Bigs G' r l ∧ r.length = l.length ∧ Ho = []) :=
  (c22 G a c l ha h1 hl).mono fun v G' Ho _ ⟨b, r, c', e1, e2, e3, e4, e5⟩ => ⟨b, r, c', e1, e2, e3, e3.1, e5⟩
theorem c14U (G : Imm) (p : PV) (ac ao ai : Option Addr) (cc co ci : Nat) (li : List IV) (zs : List Int) (m : Nat) (hc : Arr G ac p.code) (ho : Arr G ao p.outs) (hi : Arr G ai li) (hb : Bigs G li zs) (hm : Below m zs) (hmm : m ≤ 1048576) (hR : rightP p = true) (hn : (li.length : Int) = p.ins) :
    Does Try.prog 14 [.agg #[.int .i64 p.ins, .int .i64 p.regs, .slice ac p.code.length cc, .slice ao p.outs.length co], .slice ai li.length ci] G [] (fun v G' Ho => ∃ (b : Option Addr) (r : List IV) (c' : Nat) (k e : Int), v = .tuple #[.slice b r.length c', .int .i64 k, .int .i64 e] ∧ Arr G' b r ∧ (e = 0 → ∃ os, ansZ p zs = some os ∧ Bigs G' r os ∧ r.length = p.outs.length) ∧ Ho = []) :=
  (c14 G p ac ao ai cc co ci li zs m hc ho hi hb hm hmm hR hn).mono fun v G' Ho _ ⟨e0, h⟩ => by
    rcases h with ⟨os, b, r, c', e1, e2, e3, e4, e5⟩ | ⟨e1, k, e2⟩
    · exact ⟨b, r, c', 0, 0, e2, e3, fun _ => ⟨os, e1, e4, e5⟩, e0⟩
    · exact ⟨none, [], 0, k, 20, e2, Arr.nil _, fun h => absurd h (by decide), e0⟩
theorem askE_len {p : PV} (hR : rightP p = true) : (askE p).length = p.regs.toNat := by rw [ask_nf hR]; exact (nf_len p _).1
theorem c4 (G : Imm) (p : PV) (ac ao al' : Option Addr) (cc co cl : Nat) (l : List Int) (other : Int) (hc : Arr G ac p.code) (ho : Arr G ao p.outs) (hl : Arr G al' l) (h1 : p.code.length ≤ 1099511627776) (h2 : p.outs.length ≤ 1099511627776) (h3 : l.length ≤ 1048576) (hl2 : ∀ x ∈ l, -9223372036854775808 ≤ x ∧ x ≤ 9223372036854775807) (hot : -9223372036854775808 ≤ other ∧ other ≤ 9223372036854775807) :
    Does Try.prog 4 [.agg #[.int .i64 p.ins, .int .i64 p.regs, .slice ac p.code.length cc, .slice ao p.outs.length co], .slice al' l.length cl, .int .i64 other] G [] (fun v G' Ho => v = .bool true ∧ Ho = []) := by
  have hll : l.length ≤ 1099511627776 := by omega
  by_cases hgo : rightP p = true ∧ (l.length : Int) = p.ins
  · obtain ⟨hR, hn⟩ := hgo
    have he0 : errP p = 0 := by unfold errP; rw [if_pos hR]
    have hlen := askE_len hR
    obtain ⟨f1, f2, f3, f4, f5, f6, f7, f8⟩ := right_facts hR
    refine Does.enter Try.func4 rfl Try.ntmps4 rfl (fun w => ?_)
    refine Wc.seq ?_
    refine Wc.region rfl ?_
    refine Wl.box 0 rfl rfl rfl (fun b1 => ?_)
    refine Wl.q rfl (Qy.assign rfl) ?_
    refine Wl.done ?_
    refine Ar.next ?_
    refine Wc.seq ?_
    refine Wc.seq ?_
    refine Wc.region rfl ?_
    refine Wl.call0 rfl T.fn18 rfl (c18 _) ?_
    refine Wl.q rfl (Qy.not rfl) ?_
    refine Wl.done ?_
    refine Ar.next ?_
    refine Wc.condF rfl ?_
    refine Wc.skip ?_
    refine Ar.next ?_
    refine Wc.seq ?_
    refine Wc.seq ?_
    refine Wc.region rfl ?_
    refine Wl.q rfl (Qy.loadAll 0 T.agg25 rfl rfl rfl) ?_
    refine Wl.call0 rfl T.fn19 rfl (c19 _ p _ _ _ _ h1 h2) ?_
    refine Wl.q rfl (Qy.move rfl) ?_
    apply Wl.joinOr 4 21 25 rfl
    intro hg1
    refine Wl.want rfl rfl ?_
    refine Wl.q rfl (Qy.move rfl) ?_
    refine Wl.want rfl rfl ?_
    refine Wl.q rfl (Qy.len T.sl26 rfl) ?_
    refine Wl.want rfl rfl ?_
    refine Wl.q rfl (Qy.gtr rfl rfl) ?_
    refine Wl.q rfl (Qy.pick rfl rfl) ?_
    exact Wl.back 4 0 rfl rfl rfl rfl rfl
    intro hg1
    refine Wl.pass rfl rfl rfl ?_
    refine Wl.pass rfl rfl rfl ?_
    refine Wl.pass rfl rfl rfl ?_
    refine Wl.q rfl (Qy.pick rfl rfl) ?_
    exact Wl.back 4 0 rfl rfl rfl rfl rfl
    refine Wl.done ?_
    refine Ar.next ?_
    refine Wc.cond rfl (fun hc1 => ?_) (fun hc1 => ?_)
    refine Wc.seq ?_
    refine Wc.region rfl ?_
    refine Wl.q rfl (Qy.assign rfl) ?_
    refine Wl.done ?_
    refine Ar.next ?_
    refine Wc.ret ?_
    refine Ar.passRet ?_
    refine Ar.out1 (.inr rfl) (Ho := Hp.only _ []) rfl (.tmp rfl) (Hp.sub_only _ _) ?_
    rotate_left
    refine Wc.skip ?_
    refine Ar.next ?_
    refine Wc.seq ?_
    refine Wc.region rfl ?_
    refine Wl.q rfl (Qy.loadAll 0 T.agg25 rfl rfl rfl) ?_
    refine Wl.call 1 rfl T.fn20 rfl (c20F _ p _ _ _ _ hc ho h1 h2) (tags_of trivial) (fun v1 G1 Ho1 hle1 hp => ?_)
    obtain ⟨al, ae, ab, aq, rfl, ⟨hal, hae⟩, hab, haA, rfl⟩ := hp
    replace hc := hc.up hle1
    replace ho := ho.up hle1
    replace hl := hl.up hle1
    refine Wl.q rfl (Qy.move rfl) ?_
    refine Wl.q rfl (Qy.extract rfl rfl) ?_
    refine Wl.q rfl (Qy.extract rfl rfl) ?_
    refine Wl.q rfl (Qy.assign rfl) ?_
    refine Wl.q rfl (Qy.assign rfl) ?_
    refine Wl.done ?_
    refine Ar.next ?_
    rotate_left
    · exact ⟨rfl, rfl⟩
    rw [he0] at hae
    subst hae
    subst hal
    refine Wc.seq ?_
    refine Wc.seq ?_
    refine Wc.region rfl ?_
    refine Wl.q rfl (Qy.move rfl) ?_
    refine Wl.q rfl (Qy.neq rfl rfl) ?_
    refine Wl.q rfl (Qy.move rfl) ?_
    refine Wl.no 33 rfl (by first | assumption | omega) ?_
    refine Wl.want rfl rfl ?_
    refine Wl.q rfl (Qy.move rfl) ?_
    refine Wl.want rfl rfl ?_
    refine Wl.q rfl (Qy.len T.sl26 rfl) ?_
    refine Wl.want rfl rfl ?_
    refine Wl.q rfl (Qy.fieldAddr T.fa25_0 rfl) ?_
    refine Wl.want rfl rfl ?_
    refine Wl.q rfl (Qy.load 0 T.one3 rfl rfl rfl) ?_
    refine Wl.want rfl rfl ?_
    refine Wl.q rfl (Qy.neq rfl rfl) ?_
    refine Wl.q rfl (Qy.pick rfl rfl) ?_
    refine Wl.done ?_
    refine Ar.next ?_
    refine Wc.condN rfl (by first | assumption | omega) ?_
    refine Wc.skip ?_
    refine Ar.next ?_
    refine Wc.seq ?_
    refine Wc.seq ?_
    refine Wc.region rfl ?_
    refine Wl.q rfl (Qy.move rfl) ?_
    refine Wl.q rfl (Qy.len T.sl41 rfl) ?_
    refine Wl.q rfl (Qy.fieldAddr T.fa25_1 rfl) ?_
    refine Wl.q rfl (Qy.load 0 T.one3 rfl rfl rfl) ?_
    refine Wl.q rfl (Qy.neq rfl rfl) ?_
    refine Wl.done ?_
    refine Ar.next ?_
    refine Wc.condN rfl (by first | assumption | omega) ?_
    refine Wc.skip ?_
    refine Ar.next ?_
    refine Wc.seq ?_
    refine Wc.region rfl ?_
    refine Wl.q rfl (Qy.move rfl) ?_
    refine Wl.call 1 rfl T.fn21 rfl (c21 _ _ _ l (by assumption) (by omega)) (tags_of trivial) (fun v2 G2 Ho2 hle2 hp => ?_)
    obtain ⟨lb, ld, lj, rfl, hlb, rfl, rfl⟩ := hp
    refine Wl.q rfl (Qy.assign rfl) ?_
    refine Wl.done ?_
    refine Ar.next ?_
    refine Wc.seq ?_
    refine Wc.seq ?_
    refine Wc.region rfl ?_
    refine Wl.q rfl (Qy.move rfl) ?_
    refine Wl.q rfl (Qy.len T.sl26 rfl) ?_
    refine Wl.q rfl (Qy.move rfl) ?_
    refine Wl.done ?_
    refine Ar.next ?_
    refine Wc.block ?_
    refine Wc.loop (ι := Nat × List Int) (fun (i, x) => ([(49, .int .i64 (i : Int)), (9, .slice lb x.length ld), (48, Go.Value.int Go.IntKind.i64 (↑(List.length l) : Int)), (7, Go.Value.slice ab (List.length (Go.Proofs.Ytbppmiimeccclaa.askE p)) aq), (6, Go.Value.bool Bool.false), (3, Go.Value.pointer (Option.some (Go.Addr.mk b1 0 Option.none))), (1, Go.Value.slice al' (List.length l) cl), (2, Go.Value.int Go.IntKind.i64 other)], [(1, lb.map (·.block), Row 2 x lj), (0, Option.some b1, Go.Obj.cells #[Go.Value.int Go.IntKind.i64 (Go.Proofs.Ytbppmiimeccclaa.PV.ins p), Go.Value.int Go.IntKind.i64 (Go.Proofs.Ytbppmiimeccclaa.PV.regs p), Go.Value.slice ac (List.length (Go.Proofs.Ytbppmiimeccclaa.PV.code p)) cc, Go.Value.slice ao (List.length (Go.Proofs.Ytbppmiimeccclaa.PV.outs p)) co] 25)])) (fun (i, x) => i ≤ l.length ∧ x.length = l.length ∧ OwnA lb ld x lj ∧ (∀ k : Nat, (askE p)[k]?.getD default = true → x[k]?.getD 0 = l[k]?.getD 0) ∧ ∀ y ∈ x, -9223372036854775808 ≤ y ∧ y ≤ 9223372036854775807) (fun (i, x) => l.length - i) ((0, l)) (⟨Nat.zero_le _, rfl, hlb, fun _ _ => rfl, hl2⟩) ⟨rfl, rfl, rfl, rfl, rfl, rfl, rfl, rfl, trivial⟩ ⟨rfl, rfl, trivial⟩ (fun ⟨i, x⟩ => fun (hk : i ≤ l.length ∧ x.length = l.length ∧ OwnA lb ld x lj ∧ (∀ k : Nat, (askE p)[k]?.getD default = true → x[k]?.getD 0 = l[k]?.getD 0) ∧ ∀ y ∈ x, -9223372036854775808 ≤ y ∧ y ≤ 9223372036854775807) => ?_)
    obtain ⟨hi, hxl, hox, hxa, hxr⟩ := hk
    rcases Nat.lt_or_ge i l.length with hil | hil
    · have hown : ∀ r : List Int, r.length = x.length → OwnA lb ld r lj := fun r hr => by
        rcases hox with ⟨q1, q2, q3, q4⟩ | ⟨b', q1, q5, q6, q7⟩
        · exact .inl ⟨q1, List.eq_nil_of_length_eq_zero (by rw [hr, q2]; rfl), q3, q4⟩
        · exact .inr ⟨b', q1, by rw [hr]; exact q5, by rw [hr]; exact q6, q7⟩
      refine Wc.seq ?_
      refine Wc.region rfl ?_
      refine Wl.q rfl (Qy.lss rfl rfl) ?_
      refine Wl.done ?_
      refine Ar.next ?_
      refine Wc.seq ?_
      refine Wc.condP rfl (by first | assumption | omega) ?_
      refine Wc.skip ?_
      refine Ar.next ?_
      refine Wc.seq ?_
      refine Wc.block ?_
      refine Wc.seq ?_
      refine Wc.region rfl ?_
      refine Wl.q rfl (Qy.move rfl) ?_
      refine Wl.q rfl (Qy.assign rfl) ?_
      refine Wl.done ?_
      refine Ar.next ?_
      refine Wc.seq ?_
      refine Wc.region rfl ?_
      refine Wl.q rfl (Qy.move rfl) ?_
      refine Wl.q rfl (Qy.move rfl) ?_
      refine Wl.q rfl (Qy.at (α := Bool) T.sl41 rfl rfl (by assumption) (by omega)) ?_
      refine Wl.q rfl (Qy.loadG T.one4 rfl (Arr.cell (by assumption) (by omega) 0 rfl rfl)) ?_
      refine Wl.q rfl (Qy.not rfl) ?_
      refine Wl.done ?_
      refine Ar.next ?_
      refine Wc.ite rfl (fun hc2 => ?_) (fun hc2 => ?_)
      refine Wc.region rfl ?_
      refine Wl.q rfl (Qy.move rfl) ?_
      refine Wl.q rfl (Qy.move rfl) ?_
      refine Wl.q rfl (Qy.move rfl) ?_
      refine Wl.q rfl (Qy.indexAddrO (α := Int) T.sl26 rfl rfl (by assumption) (by omega)) ?_
      refine Wl.setO (z := _) 1 T.size2 rfl rfl rfl (by assumption) (by omega) rfl (fun ho1 => ?_)
      refine Wl.done ?_
      refine Ar.outNormal ?_
      refine Ar.next ?_
      refine Wc.region rfl ?_
      refine Wl.q rfl (Qy.add rfl rfl (by omega)) ?_
      refine Wl.q rfl (Qy.move rfl) ?_
      refine Wl.done ?_
      rotate_left
      refine Wc.skip ?_
      refine Ar.outNormal ?_
      refine Ar.next ?_
      refine Wc.region rfl ?_
      refine Wl.q rfl (Qy.add rfl rfl (by omega)) ?_
      refine Wl.q rfl (Qy.move rfl) ?_
      refine Wl.done ?_
      rotate_left
      · refine Ar.reH 1 (Row 2 (x.set i other) lj) rfl (by rw [Int.toNat_natCast]) ?_
        refine Ar.re 9 rfl (show _ = Value.slice lb (x.set i other).length ld by rw [List.length_set]) ?_
        refine Ar.again ((i + 1, x.set i other)) ?_ ?_ rfl ⟨rfl, rfl, rfl, rfl, rfl, rfl, rfl, rfl, trivial⟩ ⟨rfl, rfl, trivial⟩
        · refine ⟨by omega, by rw [List.length_set]; exact hxl, hown _ List.length_set, fun k hk => ?_, fun y hy => ?_⟩
          · rw [get_set, if_neg ?_]
            · exact hxa k hk
            · rintro ⟨rfl, _⟩
              have hk' : (askE p)[((i : Nat) : Int).toNat]?.getD default = true := hk
              rw [hk'] at hc2
              cases hc2
          · rcases List.mem_or_eq_of_mem_set hy with h | h
            · exact hxr y h
            · rw [h]; exact hot
        · show l.length - (i + 1) < l.length - i
          omega
      · refine Ar.again ((i + 1, x)) ?_ ?_ rfl ⟨rfl, rfl, rfl, rfl, rfl, rfl, rfl, rfl, trivial⟩ ⟨rfl, rfl, trivial⟩
        · exact ⟨by omega, hxl, hox, hxa, hxr⟩
        · show l.length - (i + 1) < l.length - i
          omega
    · have hlow : ∀ y : List Int, (∀ z ∈ y, -9223372036854775808 ≤ z ∧ z ≤ 9223372036854775807) → Below 2 y := fun y hy z hz => by
        have := hy z hz
        have h64 : pb 2 = 18446744073709551616 := by unfold pb; decide
        omega
      have hb1 := hlow l hl2
      have hb2 := hlow x hxr
      refine Wc.seq ?_
      refine Wc.region rfl ?_
      refine Wl.q rfl (Qy.lss rfl rfl) ?_
      refine Wl.done ?_
      refine Ar.next ?_
      refine Wc.seq ?_
      refine Wc.condN rfl (by first | assumption | omega) ?_
      refine Wc.exit ?_
      refine Ar.passExit ?_
      refine Ar.passExit ?_
      refine Ar.here ?_
      refine Ar.next ?_
      refine Wc.freezeRow 1 rfl hox (fun G9 hle9 hAx => ?_)
      replace hc := hc.up hle9
      replace ho := ho.up hle9
      replace hl := hl.up hle9
      refine Wc.seq ?_
      refine Wc.draw [0] [] T.mixed rfl ?_
      refine Gm.q 0 [0] (by kernel_rfl) rfl rfl (Qy.loadAll 0 T.agg25 rfl rfl rfl) ?_
      refine Gm.q 1 [] (by kernel_rfl) rfl rfl (Qy.move rfl) ?_
      refine Gm.one 2 ⟨rfl, trivial⟩ (by first | exact Imm.le_refl _ | assumption | (refine Imm.le_trans ?_ (by assumption); first | assumption | (refine Imm.le_trans ?_ (by assumption); assumption))) (by kernel_rfl) rfl ?_
      refine Wl.call 2 rfl T.fn22 rfl (c22E _ _ _ _ (by assumption) (by omega) (by assumption)) (tags_of trivial) (fun v3 G3 Ho3 hle3 hp => ?_)
      obtain ⟨ob3, or3, oc3, rfl, hoA3, hoB3, hoL3, rfl⟩ := hp
      replace hAx := hAx.up hle3
      replace hc := hc.up hle3
      replace ho := ho.up hle3
      replace hl := hl.up hle3
      refine Wl.on0 ?_
      refine Gm.one 3 ⟨rfl, trivial⟩ (by first | exact Imm.le_refl _ | assumption | (refine Imm.le_trans ?_ (by assumption); first | assumption | (refine Imm.le_trans ?_ (by assumption); assumption))) (by kernel_rfl) rfl ?_
      refine Wl.call 2 rfl T.fn14 rfl (c14U _ p _ _ _ _ _ _ _ _ 2 (by assumption) (by assumption) (by assumption) (by assumption) (by assumption) (by decide) hR (by omega)) (tags_of trivial) (fun v4 G4 Ho4 hle4 hp => ?_)
      obtain ⟨qb4, qr4, qc4, qk4, qe4, rfl, hqA4, hqd4, rfl⟩ := hp
      replace hoA3 := hoA3.up hle4
      replace hoB3 := hoB3.up hle4
      replace hAx := hAx.up hle4
      replace hc := hc.up hle4
      replace ho := ho.up hle4
      replace hl := hl.up hle4
      refine Wl.on0 ?_
      refine Gm.q 4 [] (by kernel_rfl) rfl rfl (Qy.move rfl) ?_
      refine Gm.q 5 [] (by kernel_rfl) rfl rfl (Qy.extract rfl rfl) ?_
      refine Gm.q 6 [] (by kernel_rfl) rfl rfl (Qy.extract rfl rfl) ?_
      refine Gm.q 7 [] (by kernel_rfl) rfl rfl (Qy.extract rfl rfl) ?_
      refine Gm.q 8 [] (by kernel_rfl) rfl rfl (Qy.assign rfl) ?_
      refine Gm.q 9 [] (by kernel_rfl) rfl rfl (Qy.assign rfl) ?_
      refine Gm.q 10 [] (by kernel_rfl) rfl rfl (Qy.assign rfl) ?_
      refine Gm.doneA (by kernel_rfl) ⟨rfl, trivial⟩ (by first | exact Imm.le_refl _ | assumption | (refine Imm.le_trans ?_ (by assumption); first | assumption | (refine Imm.le_trans ?_ (by assumption); assumption))) ?_
      refine Ar.next ?_
      refine Wc.seq ?_
      refine Wc.draw [0] [] T.mixed rfl ?_
      refine Gm.q 0 [0] (by kernel_rfl) rfl rfl (Qy.loadAll 0 T.agg25 rfl rfl rfl) ?_
      refine Gm.q 1 [] (by kernel_rfl) rfl rfl (Qy.move rfl) ?_
      refine Gm.one 2 ⟨rfl, trivial⟩ (by first | exact Imm.le_refl _ | assumption | (refine Imm.le_trans ?_ (by assumption); first | assumption | (refine Imm.le_trans ?_ (by assumption); assumption))) (by kernel_rfl) rfl ?_
      refine Wl.call 2 rfl T.fn22 rfl (c22E _ _ _ _ (by assumption) (by omega) (by assumption)) (tags_of trivial) (fun v5 G5 Ho5 hle5 hp => ?_)
      obtain ⟨ob5, or5, oc5, rfl, hoA5, hoB5, hoL5, rfl⟩ := hp
      replace hqA4 := hqA4.up hle5
      replace hoA3 := hoA3.up hle5
      replace hoB3 := hoB3.up hle5
      replace hAx := hAx.up hle5
      replace hc := hc.up hle5
      replace ho := ho.up hle5
      replace hl := hl.up hle5
      refine Wl.on0 ?_
      refine Gm.one 3 ⟨rfl, trivial⟩ (by first | exact Imm.le_refl _ | assumption | (refine Imm.le_trans ?_ (by assumption); first | assumption | (refine Imm.le_trans ?_ (by assumption); assumption))) (by kernel_rfl) rfl ?_
      refine Wl.call 2 rfl T.fn14 rfl (c14U _ p _ _ _ _ _ _ _ _ 2 (by assumption) (by assumption) (by assumption) (by assumption) (by assumption) (by decide) hR (by omega)) (tags_of trivial) (fun v6 G6 Ho6 hle6 hp => ?_)
      obtain ⟨qb6, qr6, qc6, qk6, qe6, rfl, hqA6, hqd6, rfl⟩ := hp
      replace hoA5 := hoA5.up hle6
      replace hoB5 := hoB5.up hle6
      replace hqA4 := hqA4.up hle6
      replace hoA3 := hoA3.up hle6
      replace hoB3 := hoB3.up hle6
      replace hAx := hAx.up hle6
      replace hc := hc.up hle6
      replace ho := ho.up hle6
      replace hl := hl.up hle6
      refine Wl.on0 ?_
      refine Gm.q 4 [] (by kernel_rfl) rfl rfl (Qy.move rfl) ?_
      refine Gm.q 5 [] (by kernel_rfl) rfl rfl (Qy.extract rfl rfl) ?_
      refine Gm.q 6 [] (by kernel_rfl) rfl rfl (Qy.extract rfl rfl) ?_
      refine Gm.q 7 [] (by kernel_rfl) rfl rfl (Qy.extract rfl rfl) ?_
      refine Gm.q 8 [] (by kernel_rfl) rfl rfl (Qy.assign rfl) ?_
      refine Gm.q 9 [] (by kernel_rfl) rfl rfl (Qy.assign rfl) ?_
      refine Gm.q 10 [] (by kernel_rfl) rfl rfl (Qy.assign rfl) ?_
      refine Gm.doneA (by kernel_rfl) ⟨rfl, trivial⟩ (by first | exact Imm.le_refl _ | assumption | (refine Imm.le_trans ?_ (by assumption); first | assumption | (refine Imm.le_trans ?_ (by assumption); assumption))) ?_
      refine Ar.next ?_
      refine Wc.seq ?_
      refine Wc.region rfl ?_
      refine Wl.q rfl (Qy.move rfl) ?_
      refine Wl.q rfl (Qy.neq rfl rfl) ?_
      refine Wl.q rfl (Qy.move rfl) ?_
      apply Wl.joinOr 3 80 83 rfl
      intro hg1
      refine Wl.want rfl rfl ?_
      refine Wl.q rfl (Qy.move rfl) ?_
      refine Wl.want rfl rfl ?_
      refine Wl.q rfl (Qy.neq rfl rfl) ?_
      refine Wl.q rfl (Qy.pick rfl rfl) ?_
      exact Wl.back 3 0 rfl rfl rfl rfl rfl
      intro hg1
      refine Wl.pass rfl rfl rfl ?_
      refine Wl.pass rfl rfl rfl ?_
      refine Wl.q rfl (Qy.pick rfl rfl) ?_
      exact Wl.back 3 0 rfl rfl rfl rfl rfl
      refine Wl.q rfl (Qy.move rfl) ?_
      apply Wl.joinOr 4 84 88 rfl
      intro hg1
      refine Wl.want rfl rfl ?_
      refine Wl.q rfl (Qy.move rfl) ?_
      refine Wl.want rfl rfl ?_
      refine Wl.q rfl (Qy.move rfl) ?_
      refine Wl.want rfl rfl ?_
      rotate_left
      intro hg1
      refine Wl.pass rfl rfl rfl ?_
      refine Wl.pass rfl rfl rfl ?_
      refine Wl.pass rfl rfl rfl ?_
      refine Wl.q rfl (Qy.pick rfl rfl) ?_
      exact Wl.back 4 0 rfl rfl rfl rfl rfl
      refine Wl.q rfl (Qy.assign rfl) ?_
      refine Wl.done ?_
      refine Ar.next ?_
      refine Wc.ret ?_
      refine Ar.out1 (.inr rfl) (Ho := Hp.only _ []) rfl (.tmp rfl) (Hp.sub_only _ _) ?_
      rotate_left
      rotate_left
      rotate_left
      · have e4 : qe4 = 0 := by omega
        have e6 : qe6 = 0 := by omega
        obtain ⟨os, hos, hB4, hl4⟩ := hqd4 e4
        obtain ⟨ps, hps, hB6, hl6⟩ := hqd6 e6
        have hsame := blind hR hn hxl (fun k hk => (hxa k hk).symm) hos hps
        subst hsame
        have hosb := ans_below hR hb1 hos
        refine Wl.call0 rfl T.fn23 rfl (c23Y _ _ _ _ _ _ _ os (by assumption) (by assumption) ((hB4.up hle5).up hle6) hB6 (by omega) (by omega) 49154 (by decide) hosb) ?_
        refine Wl.q rfl (Qy.pick rfl rfl) ?_
        exact Wl.back 4 0 rfl rfl rfl rfl rfl
      · skip
        exact ⟨by rw [decide_eq_true (.inr yes)], rfl⟩
  · have he0 : rightP p = true → errP p = 0 := fun hR => by unfold errP; rw [if_pos hR]
    have he1 : ¬ rightP p = true → errP p = 80 := fun hR => by unfold errP; rw [if_neg hR]
    refine Does.enter Try.func4 rfl Try.ntmps4 rfl (fun w => ?_)
    refine Wc.seq ?_
    refine Wc.region rfl ?_
    refine Wl.box 0 rfl rfl rfl (fun b1 => ?_)
    refine Wl.q rfl (Qy.assign rfl) ?_
    refine Wl.done ?_
    refine Ar.next ?_
    refine Wc.seq ?_
    refine Wc.seq ?_
    refine Wc.region rfl ?_
    refine Wl.call0 rfl T.fn18 rfl (c18 _) ?_
    refine Wl.q rfl (Qy.not rfl) ?_
    refine Wl.done ?_
    refine Ar.next ?_
    refine Wc.condF rfl ?_
    refine Wc.skip ?_
    refine Ar.next ?_
    refine Wc.seq ?_
    refine Wc.seq ?_
    refine Wc.region rfl ?_
    refine Wl.q rfl (Qy.loadAll 0 T.agg25 rfl rfl rfl) ?_
    refine Wl.call0 rfl T.fn19 rfl (c19 _ p _ _ _ _ h1 h2) ?_
    refine Wl.q rfl (Qy.move rfl) ?_
    apply Wl.joinOr 4 21 25 rfl
    intro hg1
    refine Wl.want rfl rfl ?_
    refine Wl.q rfl (Qy.move rfl) ?_
    refine Wl.want rfl rfl ?_
    refine Wl.q rfl (Qy.len T.sl26 rfl) ?_
    refine Wl.want rfl rfl ?_
    refine Wl.q rfl (Qy.gtr rfl rfl) ?_
    refine Wl.q rfl (Qy.pick rfl rfl) ?_
    exact Wl.back 4 0 rfl rfl rfl rfl rfl
    intro hg1
    refine Wl.pass rfl rfl rfl ?_
    refine Wl.pass rfl rfl rfl ?_
    refine Wl.pass rfl rfl rfl ?_
    refine Wl.q rfl (Qy.pick rfl rfl) ?_
    exact Wl.back 4 0 rfl rfl rfl rfl rfl
    refine Wl.done ?_
    refine Ar.next ?_
    refine Wc.cond rfl (fun hc1 => ?_) (fun hc1 => ?_)
    refine Wc.seq ?_
    refine Wc.region rfl ?_
    refine Wl.q rfl (Qy.assign rfl) ?_
    refine Wl.done ?_
    refine Ar.next ?_
    refine Wc.ret ?_
    refine Ar.passRet ?_
    refine Ar.out1 (.inr rfl) (Ho := Hp.only _ []) rfl (.tmp rfl) (Hp.sub_only _ _) ?_
    rotate_left
    refine Wc.skip ?_
    refine Ar.next ?_
    refine Wc.seq ?_
    refine Wc.region rfl ?_
    refine Wl.q rfl (Qy.loadAll 0 T.agg25 rfl rfl rfl) ?_
    refine Wl.call 1 rfl T.fn20 rfl (c20F _ p _ _ _ _ hc ho h1 h2) (tags_of trivial) (fun v1 G1 Ho1 hle1 hp => ?_)
    obtain ⟨al, ae, ab, aq, rfl, ⟨hal, hae⟩, hab, haA, rfl⟩ := hp
    replace hc := hc.up hle1
    replace ho := ho.up hle1
    replace hl := hl.up hle1
    refine Wl.q rfl (Qy.move rfl) ?_
    refine Wl.q rfl (Qy.extract rfl rfl) ?_
    refine Wl.q rfl (Qy.extract rfl rfl) ?_
    refine Wl.q rfl (Qy.assign rfl) ?_
    refine Wl.q rfl (Qy.assign rfl) ?_
    refine Wl.done ?_
    refine Ar.next ?_
    rotate_left
    · exact ⟨rfl, rfl⟩
    by_cases hR : rightP p = true
    · rw [he0 hR] at hae
      subst hae
      have hn : ¬ (l.length : Int) = p.ins := fun h => hgo ⟨hR, h⟩
      refine Wc.seq ?_
      refine Wc.seq ?_
      refine Wc.region rfl ?_
      refine Wl.q rfl (Qy.move rfl) ?_
      refine Wl.q rfl (Qy.neq rfl rfl) ?_
      refine Wl.q rfl (Qy.move rfl) ?_
      refine Wl.no 33 rfl (by first | assumption | omega) ?_
      refine Wl.want rfl rfl ?_
      refine Wl.q rfl (Qy.move rfl) ?_
      refine Wl.want rfl rfl ?_
      refine Wl.q rfl (Qy.len T.sl26 rfl) ?_
      refine Wl.want rfl rfl ?_
      refine Wl.q rfl (Qy.fieldAddr T.fa25_0 rfl) ?_
      refine Wl.want rfl rfl ?_
      refine Wl.q rfl (Qy.load 0 T.one3 rfl rfl rfl) ?_
      refine Wl.want rfl rfl ?_
      refine Wl.q rfl (Qy.neq rfl rfl) ?_
      refine Wl.q rfl (Qy.pick rfl rfl) ?_
      refine Wl.done ?_
      refine Ar.next ?_
      refine Wc.condP rfl (by first | assumption | omega) ?_
      refine Wc.seq ?_
      refine Wc.region rfl ?_
      refine Wl.q rfl (Qy.assign rfl) ?_
      refine Wl.done ?_
      refine Ar.next ?_
      refine Wc.ret ?_
      refine Ar.passRet ?_
      refine Ar.out1 (.inr rfl) (Ho := Hp.only _ []) rfl (.tmp rfl) (Hp.sub_only _ _) ?_
      exact ⟨rfl, rfl⟩
    · rw [he1 hR] at hae
      subst hae
      refine Wc.seq ?_
      refine Wc.seq ?_
      refine Wc.region rfl ?_
      refine Wl.q rfl (Qy.move rfl) ?_
      refine Wl.q rfl (Qy.neq rfl rfl) ?_
      refine Wl.q rfl (Qy.move rfl) ?_
      refine Wl.yes 33 rfl (by first | assumption | omega) ?_
      refine Wl.pass rfl rfl rfl ?_
      refine Wl.pass rfl rfl rfl ?_
      refine Wl.pass rfl rfl rfl ?_
      refine Wl.pass rfl rfl rfl ?_
      refine Wl.pass rfl rfl rfl ?_
      refine Wl.q rfl (Qy.pick rfl rfl) ?_
      refine Wl.done ?_
      refine Ar.next ?_
      refine Wc.condT rfl ?_
      refine Wc.seq ?_
      refine Wc.region rfl ?_
      refine Wl.q rfl (Qy.assign rfl) ?_
      refine Wl.done ?_
      refine Ar.next ?_
      refine Wc.ret ?_
      refine Ar.passRet ?_
      refine Ar.out1 (.inr rfl) (Ho := Hp.only _ []) rfl (.tmp rfl) (Hp.sub_only _ _) ?_
      exact ⟨rfl, rfl⟩
end Go.Proofs.Ytbppmiimeccclaa
