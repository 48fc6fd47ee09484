/- Parts of the proof (part 5): what the rows' text needs of the texts that lead to it. -/
import Derived.Test.YtelbhbbiejalhaaGreatMUd
set_option linter.unusedVariables false
set_option linter.unusedSimpArgs false
set_option linter.unusedSectionVars false
set_option maxRecDepth 100000
set_option linter.unusedVariables false
namespace Go.Proofs.YtelbhbbiejalhaaGreat
open Go Go.Sl
set_option maxHeartbeats 4000000
theorem rStep_eq {n u v : Int} {ti : List Bool} {m : Nat} {low own : Bool} (hl : (decide (0 < m) && ti[m - 1]?.getD false && decide (u ≠ 0)) = low) (ho : (ti[m]?.getD false && decide (v ≠ 0)) = own) :
    rStep n u v ti m = (ti.set m (own || low), (if low then timesI (3 * n) (2 * n + (m - 1)) u else []) ++ (if own && low then timesI (2 * n + m) (2 * n + m) v ++ [⟨3, 2 * n + m, 2 * n + m, 3 * n, 0⟩] else if own then timesI (2 * n + m) (2 * n + m) v else if low then timesI (2 * n + m) (3 * n) 1 else [])) := by
  subst hl ho; rfl
theorem c122 (G : Imm) (b : Nat) (ac : Option Addr) (cc : Nat) (code : List Sl.Instr) (j : List Value) (wa : Option Addr) (wc : Nat) (wh : List R2) (k : Int) (e : Nat) (ho : OwnA ac cc code j) (hw : Arr G wa wh)
    (hwl : wh.length ≤ 15) (hk : 0 ≤ k ∧ k < wh.length) (he : e < wh.length) (hok : okP (wh[k.toNat]?.getD default)) (hl : (code ++ raisedI wh.length (bezS (wh[k.toNat]?.getD default).a (wh[k.toNat]?.getD default).b) (bezT (wh[k.toNat]?.getD default).a (wh[k.toNat]?.getD default).b) k e).length ≤ 1048576) :
    Does Tryz.prog 122 [.pointer (some ⟨b, 0, none⟩), .int .i64 k, .int .i64 e] G [(0, some b, .cells #[.int .i64 wh.length, .slice ac code.length cc, .slice wa wh.length wc] 139), (1, ac.map (·.block), Row 50 code j)]
      (fun v G' Ho => G' = G ∧ ∃ (a' : Option Addr) (c' : Nat) (j' : List Value) (th : List Bool) (cd : List Sl.Instr) (tb : Nat), th = raisedT wh.length (bezS (wh[k.toNat]?.getD default).a (wh[k.toNat]?.getD default).b) (bezT (wh[k.toNat]?.getD default).a (wh[k.toNat]?.getD default).b) e ∧
        cd = code ++ raisedI wh.length (bezS (wh[k.toNat]?.getD default).a (wh[k.toNat]?.getD default).b) (bezT (wh[k.toNat]?.getD default).a (wh[k.toNat]?.getD default).b) k e ∧ v = .slice (some ⟨tb, 0, none⟩) th.length th.length ∧ OwnA a' c' cd j' ∧ OwnA (some ⟨tb, 0, none⟩) th.length th [] ∧
        Ho = [(0, some b, .cells #[.int .i64 wh.length, .slice a' cd.length c', .slice wa wh.length wc] 139), (1, a'.map (·.block), Row 50 cd j'), (2, some tb, Row 4 th [])]) := by
  have hl0 : code.length ≤ 1048576 := by rw [List.length_append] at hl; omega
  obtain ⟨hnk, hzk⟩ := hok
  obtain ⟨_, b2, _, _⟩ := bez_facts hnk hzk
  refine Does.enter Tryz.func122 rfl Tryz.ntmps122 rfl (fun w => ?_)
  refine Wc.gl 12 [0] ?_
  refine Wl.q rfl (Qy.at (α := R2) T.sl22 rfl rfl (by assumption) (by omega)) ?_
  refine Wl.q rfl (Qy.loadsG T.agg34 rfl (Arr.elem (by assumption) (by omega)) rfl) ?_
  refine Wl.call0 rfl T.fn83 rfl (c83 _ _ _ (by assumption) (by assumption)) ?_
  refine Wl.gl 15 [] ?_
  refine Wl.make (α := Bool) 2 rfl T.sl170 T.el4 rfl rfl (by omega) (by omega) (fun b1 => ?_)
  refine Wl.gl 6 [] ?_
  generalize hu : bezS (wh[k.toNat]?.getD default).a (wh[k.toNat]?.getD default).b = u at *
  generalize hv : bezT (wh[k.toNat]?.getD default).a (wh[k.toNat]?.getD default).b = v at *
  have hR1 : List.replicate ((e : Int) + 1).toNat (default : Bool) = List.replicate (e + 1) false := by rw [show ((e : Int) + 1).toNat = e + 1 by omega]; rfl
  generalize hR0 : List.replicate ((e : Int) + 1).toNat (default : Bool) = R0 at *
  have hR0l : R0.length = e + 1 := by rw [hR1, List.length_replicate]
  have hoR : OwnA (some ⟨b1, 0, none⟩) R0.length R0 [] := OwnA.made (by simp only [maxLen]; omega)
  refine Wl.q rfl (Qy.indexAddrO (α := Bool) T.sl170 rfl rfl (by assumption) (by omega)) ?_
  refine Wl.setO (z := _) 2 T.size4 rfl rfl rfl (by assumption) (by omega) rfl (fun ho1 => ?_)
  refine Wl.gl 6 [] ?_
  refine Wl.call1 0 rfl T.fn123 rfl (c123 _ b _ _ _ _ (by omega) (by omega)) (tags_of ⟨rfl, trivial⟩) ?_
  refine Wl.q rfl (Qy.move rfl) ?_
  refine Wl.call 0 rfl T.fn86 rfl (c86 _ b _ ac cc code j wa _ wc _ _ _ ho hl0) (tags_of ⟨rfl, rfl, trivial⟩) (fun v1 G1 Ho1 hle1 hp => ?_)
  obtain ⟨rfl, rfl, a1, d1, j1, ho1, rfl⟩ := hp
  refine Wl.gc 9 [] ?_
  have hTg : code ++ raisedI wh.length u v k e = (code ++ timesI (2 * (wh.length : Int) + 0) k 1) ++ (rOut wh.length u v e 1 (R0.set (Int.toNat 0) true)).2 := by
    unfold raisedI
    rw [Int.add_zero, hR1, List.append_assoc]; rfl
  have hTh : raisedT wh.length u v e = (rOut wh.length u v e 1 (R0.set (Int.toNat 0) true)).1 := by unfold raisedT; rw [hR1]; rfl
  generalize code ++ raisedI wh.length u v k e = Tg at *
  generalize raisedT wh.length u v e = Th at *
  refine Wc.re 11 rfl (show _ = Value.slice (some ⟨b1, 0, none⟩) (R0.set (Int.toNat 0) true).length (e + 1) by rw [List.length_set, hR0l]) ?_
  refine Wc.loop (ι := Nat × List Bool × List Sl.Instr × (Option Addr × Nat × List Value)) (fun (d, th, cd, (o, dd, q)) => ([(12, .int .i64 (d : Int)), (11, .slice (some ⟨b1, 0, none⟩) th.length (e + 1)), (9, Go.Value.int Go.IntKind.i64 v), (8, Go.Value.int Go.IntKind.i64 u), (6, Go.Value.slice Option.none 0 0), (0, Go.Value.pointer (Option.some (Go.Addr.mk b 0 Option.none))), (2, Go.Value.int Go.IntKind.i64 (↑e : Int))], [(0, some b, .cells #[.int .i64 wh.length, .slice o cd.length dd, .slice wa wh.length wc] 139), (1, o.map (·.block), Row 50 cd q), (2, some b1, Row 4 th [])])) (fun (d, th, cd, (o, dd, q)) => (1 ≤ d ∧ d ≤ e + 1) ∧ th.length = e + 1 ∧ (rOut wh.length u v (e + 1 - d) d th).1 = Th ∧ cd ++ (rOut wh.length u v (e + 1 - d) d th).2 = Tg ∧ OwnA (some ⟨b1, 0, none⟩) (e + 1) th [] ∧ OwnA o dd cd q) (fun (d, th, cd, (o, dd, q)) => e + 1 - d) ((1, _, code ++ timesI (2 * (wh.length : Int) + 0) k 1, (a1, d1, j1))) (⟨by omega, by rw [List.length_set, hR0l], hTh.symm, hTg.symm, by rw [← hR0l]; assumption, ho1⟩) ⟨rfl, rfl, rfl, rfl, rfl, rfl, rfl, trivial⟩ ⟨rfl, rfl, rfl, trivial⟩ (fun ⟨d, th, cd, (o, dd, q)⟩ => fun (hk : (1 ≤ d ∧ d ≤ e + 1) ∧ th.length = e + 1 ∧ (rOut wh.length u v (e + 1 - d) d th).1 = Th ∧ cd ++ (rOut wh.length u v (e + 1 - d) d th).2 = Tg ∧ OwnA (some ⟨b1, 0, none⟩) (e + 1) th [] ∧ OwnA o dd cd q) => ?_)
  obtain ⟨⟨hd1, hd2⟩, hth, hT1, hT2, hoT, hoC⟩ := hk
  have hcl : cd.length ≤ 1048576 := by rw [← hT2, List.length_append] at hl; omega
  rcases Nat.lt_or_ge d (e + 1) with hde | hde
  · have e1 : e + 1 - d = (e + 1 - (d + 1)) + 1 := by omega
    rw [e1] at hT1 hT2
    unfold rOut at hT1 hT2
    simp only at hT1 hT2
    refine Wc.gc 20 [1] ?_
    generalize hA1 : (rIn wh.length u v (d + 1) th).1 = A1 at *
    generalize hB1 : (rIn wh.length u v (d + 1) th).2 = B1 at *
    have hcb : (cd ++ B1).length ≤ 1048576 := by rw [← hT2, ← List.append_assoc, List.length_append] at hl; omega
    refine Wc.re 13 rfl (show _ = Value.int .i64 (((d + 1 : Nat) : Int) - 1) by congr 1; omega) ?_
    refine Wc.loop (ι := Nat × List Bool × List Sl.Instr × (Option Addr × Nat × List Value)) (fun (m, ti, ci, (o, dd, q)) => ([(13, .int .i64 ((m : Int) - 1)), (2, .int .i64 (e : Int)), (12, .int .i64 (d : Int)), (11, .slice (some ⟨b1, 0, none⟩) ti.length (e + 1)), (9, Go.Value.int Go.IntKind.i64 v), (8, Go.Value.int Go.IntKind.i64 u), (6, Go.Value.slice Option.none 0 0), (0, Go.Value.pointer (Option.some (Go.Addr.mk b 0 Option.none)))], [(0, some b, .cells #[.int .i64 wh.length, .slice o ci.length dd, .slice wa wh.length wc] 139), (1, o.map (·.block), Row 50 ci q), (2, some b1, Row 4 ti [])])) (fun (m, ti, ci, (o, dd, q)) => m ≤ d + 1 ∧ ti.length = e + 1 ∧ (rIn wh.length u v m ti).1 = A1 ∧ ci ++ (rIn wh.length u v m ti).2 = cd ++ B1 ∧ OwnA (some ⟨b1, 0, none⟩) (e + 1) ti [] ∧ OwnA o dd ci q) (fun (m, ti, ci, (o, dd, q)) => m) ((d + 1, th, cd, (o, dd, q))) (⟨Nat.le_refl _, hth, hA1, by rw [hB1], hoT, hoC⟩) ⟨rfl, rfl, rfl, rfl, rfl, rfl, rfl, rfl, trivial⟩ ⟨rfl, rfl, rfl, trivial⟩ (fun ⟨m, ti, ci, (o, dd, q)⟩ => fun (hk : m ≤ d + 1 ∧ ti.length = e + 1 ∧ (rIn wh.length u v m ti).1 = A1 ∧ ci ++ (rIn wh.length u v m ti).2 = cd ++ B1 ∧ OwnA (some ⟨b1, 0, none⟩) (e + 1) ti [] ∧ OwnA o dd ci q) => ?_)
    obtain ⟨hm1, hti, hS1, hS2, hoTi, hoCi⟩ := hk
    have hcil : ci.length ≤ 1048576 := by rw [← hS2, List.length_append] at hcb; omega
    match m, hm1, hS1, hS2 with
    | 0, hm1, hS1, hS2 =>
      have hS1 : ti = A1 := hS1
      have hS2 : ci = cd ++ B1 := by rw [← hS2]; exact (List.append_nil _).symm
      refine Wc.ga 19 [0] ?_
      refine Ar.re 12 rfl (show _ = Value.int .i64 ((d + 1 : Nat) : Int) from rfl) ?_
      refine Ar.again ((d + 1, ti, ci, (o, dd, q))) ?_ ?_ rfl ⟨rfl, rfl, rfl, rfl, rfl, rfl, rfl, trivial⟩ ⟨rfl, rfl, rfl, trivial⟩
      · refine ⟨by omega, hti, ?_, ?_, hoTi, hoCi⟩
        · rw [hS1]; exact hT1
        · rw [hS1, hS2, List.append_assoc]; exact hT2
      · show e + 1 - (d + 1) < e + 1 - d
        omega
    | m + 1, hm1, hS1, hS2 =>
      refine Wc.re 13 rfl (show _ = Value.int .i64 (m : Int) by congr 1; omega) ?_
      unfold rIn at hS1 hS2
      simp only at hS1 hS2
      have hdf : ∀ z : Nat, ti[z]?.getD default = ti[z]?.getD false := fun z => rfl
      have hlowF : (¬ (0 < m ∧ ti[m - 1]?.getD false = true ∧ u ≠ 0)) → (decide (0 < m) && ti[m - 1]?.getD false && decide (u ≠ 0)) = false := fun h => by
        cases hx : ti[m - 1]?.getD false <;> by_cases h1 : 0 < m <;> by_cases h2 : u ≠ 0 <;> simp [h1, h2]
        exact h ⟨h1, hx, h2⟩
      have hownF : (¬ (ti[m]?.getD false = true ∧ v ≠ 0)) → (ti[m]?.getD false && decide (v ≠ 0)) = false := fun h => by
        cases hx : ti[m]?.getD false <;> by_cases h2 : v ≠ 0 <;> simp [h2]
        exact h ⟨hx, h2⟩
      have hownT : (ti[m]?.getD false = true ∧ v ≠ 0) → (ti[m]?.getD false && decide (v ≠ 0)) = true := fun h => by rw [h.1, decide_eq_true h.2]; rfl
      have hlowT : (0 < m ∧ ti[m - 1]?.getD false = true ∧ u ≠ 0) → (decide (0 < m) && ti[m - 1]?.getD false && decide (u ≠ 0)) = true := fun h => by rw [h.2.1, decide_eq_true h.1, decide_eq_true h.2.2]; rfl
      have hbd : (ci ++ (rStep wh.length u v ti m).2).length ≤ 1048576 := by
        have : (ci ++ ((rStep wh.length u v ti m).2 ++ (rIn wh.length u v m (rStep wh.length u v ti m).1).2)).length ≤ 1048576 := by rw [hS2]; exact hcb
        rw [List.length_append, List.length_append] at this
        rw [List.length_append]; omega
      have hoN : ∀ {x : Bool}, OwnA (some ⟨b1, 0, none⟩) (e + 1) (ti.set m x) [] := hoTi.elim (fun h => by cases h.1) (fun ⟨b, h1, h2, h3, h4⟩ => .inr ⟨b, h1, by rw [List.length_set]; exact h2, by rw [List.length_set]; exact h3, h4⟩)
      rcases Nat.eq_zero_or_pos m with hm0 | hm0
      · by_cases hO : ti[(m : Int).toNat]?.getD default = true ∧ v ≠ 0
        · have hrs := rStep_eq (n := wh.length) (hlowF (fun h => by omega)) (hownT hO)
          rw [hrs] at hbd
          refine Wc.gl 17 [1] ?_
          refine Wl.no 51 rfl (by first | assumption | omega) ?_
          refine Wl.gl 17 [] ?_
          refine Wl.q rfl (Qy.indexAddrO (α := Bool) T.sl170 rfl rfl (by assumption) (by omega)) ?_
          refine Wl.q rfl (Qy.loadO 2 0 T.one4 rfl rfl (by assumption) (by omega) rfl rfl) ?_
          refine Wl.q rfl (Qy.move rfl) ?_
          refine Wl.re 66 rfl (Go.Sl.boolDec _) ?_
          apply Wl.joinAnd 3 66 69 rfl
          intro hg1
          refine Wl.ll0 5 [] ?_
          exact Wl.back 3 0 rfl rfl rfl rfl rfl
          intro hg1
          refine Wl.ll0 3 [] ?_
          exact Wl.back 3 0 rfl rfl rfl rfl rfl
          refine Wl.gl 18 [0] ?_
          refine Wl.yes 82 rfl (by first | assumption | omega) ?_
          refine Wl.gl 18 [0, 1] ?_
          refine Wl.call1 0 rfl T.fn123 rfl (c123 _ b _ _ _ _ (by omega) (by omega)) (tags_of ⟨rfl, trivial⟩) ?_
          refine Wl.ll0 2 [] ?_
          refine Wl.call1 0 rfl T.fn123 rfl (c123 _ b _ _ _ _ (by omega) (by omega)) (tags_of ⟨rfl, trivial⟩) ?_
          refine Wl.q rfl (Qy.move rfl) ?_
          refine Wl.call 0 rfl T.fn86 rfl (c86 _ b _ o dd ci q wa _ wc _ _ _ hoCi hcil) (tags_of ⟨rfl, rfl, trivial⟩) (fun v2 G2 Ho2 hle2 hp => ?_)
          obtain ⟨rfl, rfl, a2, d2, j2, ho2, rfl⟩ := hp
          refine Wl.gl 8 [] ?_
          refine Wl.yes 127 rfl (by first | assumption | omega) ?_
          refine Wl.ll0 2 [] ?_
          refine Wl.q rfl (Qy.indexAddrO (α := Bool) T.sl170 rfl rfl (by assumption) (by omega)) ?_
          refine Wl.setO (z := _) 2 T.size4 rfl rfl rfl (by assumption) (by omega) rfl (fun ho3 => ?_)
          refine Wl.ga 8 [] ?_
          refine Ar.reH 2 (Row 4 (ti.set m (true || false)) []) rfl (by first | rfl | (rw [Int.toNat_natCast]; first | rfl | (rw [decide_eq_false hL]; rfl) | (rw [decide_eq_true hL]; rfl) | (rw [decide_eq_false hO]; rfl) | (rw [decide_eq_true hO]; rfl))) ?_
          refine Ar.re 13 rfl (show _ = Value.int .i64 ((m : Int) - 1) from rfl) ?_
          refine Ar.re 11 rfl (show _ = Value.slice (some ⟨b1, 0, none⟩) (ti.set m (true || false)).length (e + 1) by rw [List.length_set]) ?_
          refine Ar.again ((m, ti.set m (true || false), ci ++ timesI (2 * (wh.length : Int) + (m : Int)) (2 * (wh.length : Int) + (m : Int)) v, (a2, d2, j2))) ?_ ?_ rfl ⟨rfl, rfl, rfl, rfl, rfl, rfl, rfl, rfl, trivial⟩ ⟨rfl, rfl, rfl, trivial⟩
          · refine ⟨by omega, by rw [List.length_set]; exact hti, ?_, ?_, hoN, ho2⟩
            · rw [← hS1, hrs]
            · rw [← hS2, hrs]
              simp
          · show m < m + 1
            omega
        · have hrs := rStep_eq (n := wh.length) (hlowF (fun h => by omega)) (hownF hO)
          refine Wc.gl 17 [1] ?_
          refine Wl.no 51 rfl (by first | assumption | omega) ?_
          refine Wl.gl 17 [] ?_
          refine Wl.q rfl (Qy.indexAddrO (α := Bool) T.sl170 rfl rfl (by assumption) (by omega)) ?_
          refine Wl.q rfl (Qy.loadO 2 0 T.one4 rfl rfl (by assumption) (by omega) rfl rfl) ?_
          refine Wl.q rfl (Qy.move rfl) ?_
          refine Wl.re 66 rfl (Go.Sl.boolDec _) ?_
          apply Wl.joinAnd 3 66 69 rfl
          intro hg1
          refine Wl.ll0 5 [] ?_
          exact Wl.back 3 0 rfl rfl rfl rfl rfl
          intro hg1
          refine Wl.ll0 3 [] ?_
          exact Wl.back 3 0 rfl rfl rfl rfl rfl
          refine Wl.gl 18 [0] ?_
          refine Wl.no 82 rfl (by first | assumption | omega) ?_
          refine Wl.gl 28 [0, 0, 0] ?_
          refine Wl.no 127 rfl (by first | assumption | omega) ?_
          refine Wl.ll0 3 [] ?_
          refine Wl.q rfl (Qy.indexAddrO (α := Bool) T.sl170 rfl rfl (by assumption) (by omega)) ?_
          refine Wl.setO (z := _) 2 T.size4 rfl rfl rfl (by assumption) (by omega) rfl (fun ho2 => ?_)
          refine Wl.ga 8 [] ?_
          refine Ar.reH 2 (Row 4 (ti.set m (false || false)) []) rfl (by first | rfl | (rw [Int.toNat_natCast]; first | rfl | (rw [decide_eq_false hL]; rfl) | (rw [decide_eq_true hL]; rfl) | (rw [decide_eq_false hO]; rfl) | (rw [decide_eq_true hO]; rfl))) ?_
          refine Ar.re 13 rfl (show _ = Value.int .i64 ((m : Int) - 1) from rfl) ?_
          refine Ar.re 11 rfl (show _ = Value.slice (some ⟨b1, 0, none⟩) (ti.set m (false || false)).length (e + 1) by rw [List.length_set]) ?_
          refine Ar.again ((m, ti.set m (false || false), ci, (o, dd, q))) ?_ ?_ rfl ⟨rfl, rfl, rfl, rfl, rfl, rfl, rfl, rfl, trivial⟩ ⟨rfl, rfl, rfl, trivial⟩
          · refine ⟨by omega, by rw [List.length_set]; exact hti, ?_, ?_, hoN, hoCi⟩
            · rw [← hS1, hrs]
            · rw [← hS2, hrs]
              simp
          · show m < m + 1
            omega
      · have hm1e : ((m : Int) - 1).toNat = m - 1 := by omega
        by_cases hL : ti[((m : Int) - 1).toNat]?.getD default = true ∧ u ≠ 0
        · have hlow := hlowT ⟨hm0, by rw [← hm1e]; exact hL.1, hL.2⟩
          by_cases hO : ti[(m : Int).toNat]?.getD default = true ∧ v ≠ 0
          · have hOL : (ti[(m : Int).toNat]?.getD default = true ∧ v ≠ 0) ∧ ti[((m : Int) - 1).toNat]?.getD default = true ∧ u ≠ 0 := ⟨hO, hL⟩
            have hrs := rStep_eq (n := wh.length) hlow (hownT hO)
            rw [hrs] at hbd
            have hb1 : ((ci ++ timesI (3 * (wh.length : Int)) (2 * (wh.length : Int) + ((m : Int) - 1)) u) ++ timesI (2 * (wh.length : Int) + (m : Int)) (2 * (wh.length : Int) + (m : Int)) v).length ≤ 1048576 := by
              simp only [Bool.and_self, if_true, List.length_append, List.length_singleton] at hbd
              simp only [List.length_append]
              omega
            have hb0 : (ci ++ timesI (3 * (wh.length : Int)) (2 * (wh.length : Int) + ((m : Int) - 1)) u).length ≤ 1048576 := by rw [List.length_append] at hb1; omega
            refine Wc.gl 17 [1] ?_
            refine Wl.yes 51 rfl (by first | assumption | omega) ?_
            refine Wl.ll0 7 [] ?_
            refine Wl.q rfl (Qy.indexAddrO (α := Bool) T.sl170 rfl rfl (by assumption) (by omega)) ?_
            refine Wl.want rfl rfl ?_
            refine Wl.q rfl (Qy.loadO 2 0 T.one4 rfl rfl (by assumption) (by omega) rfl rfl) ?_
            refine Wl.ll0 2 [] ?_
            refine Wl.re 58 rfl (Go.Sl.boolDec _) ?_
            apply Wl.joinAnd 3 58 61 rfl
            intro hg1
            refine Wl.ll0 5 [] ?_
            exact Wl.back 3 0 rfl rfl rfl rfl rfl
            intro hg1
            refine Wl.ll0 3 [] ?_
            exact Wl.back 3 0 rfl rfl rfl rfl rfl
            refine Wl.gl 7 [] ?_
            refine Wl.q rfl (Qy.indexAddrO (α := Bool) T.sl170 rfl rfl (by assumption) (by omega)) ?_
            refine Wl.q rfl (Qy.loadO 2 0 T.one4 rfl rfl (by assumption) (by omega) rfl rfl) ?_
            refine Wl.q rfl (Qy.move rfl) ?_
            refine Wl.re 66 rfl (Go.Sl.boolDec _) ?_
            apply Wl.joinAnd 3 66 69 rfl
            intro hg1
            refine Wl.ll0 5 [] ?_
            exact Wl.back 3 0 rfl rfl rfl rfl rfl
            intro hg1
            refine Wl.ll0 3 [] ?_
            exact Wl.back 3 0 rfl rfl rfl rfl rfl
            refine Wl.gl 13 [1] ?_
            refine Wl.call1 0 rfl T.fn121 rfl (c121 _ b _ _ _ (by omega)) (tags_of ⟨rfl, trivial⟩) ?_
            refine Wl.ll0 3 [] ?_
            refine Wl.call1 0 rfl T.fn123 rfl (c123 _ b _ _ _ _ (by omega) (by omega)) (tags_of ⟨rfl, trivial⟩) ?_
            refine Wl.q rfl (Qy.move rfl) ?_
            refine Wl.call 0 rfl T.fn86 rfl (c86 _ b _ o dd ci q wa _ wc _ _ _ hoCi hcil) (tags_of ⟨rfl, rfl, trivial⟩) (fun v2 G2 Ho2 hle2 hp => ?_)
            obtain ⟨rfl, rfl, a2, d2, j2, ho2, rfl⟩ := hp
            refine Wl.gl 8 [] ?_
            refine Wl.yes 82 rfl (by first | assumption | omega) ?_
            refine Wl.gl 12 [1] ?_
            refine Wl.call1 0 rfl T.fn123 rfl (c123 _ b _ _ _ _ (by omega) (by omega)) (tags_of ⟨rfl, trivial⟩) ?_
            refine Wl.ll0 2 [] ?_
            refine Wl.call1 0 rfl T.fn123 rfl (c123 _ b _ _ _ _ (by omega) (by omega)) (tags_of ⟨rfl, trivial⟩) ?_
            refine Wl.q rfl (Qy.move rfl) ?_
            refine Wl.call 0 rfl T.fn86 rfl (c86 _ b _ a2 d2 (ci ++ timesI (3 * (wh.length : Int)) (2 * (wh.length : Int) + ((m : Int) - 1)) u) j2 wa _ wc _ _ _ ho2 hb0) (tags_of ⟨rfl, rfl, trivial⟩) (fun v3 G3 Ho3 hle3 hp => ?_)
            obtain ⟨rfl, rfl, a3, d3, j3, ho3, rfl⟩ := hp
            refine Wl.gl 6 [] ?_
            refine Wl.call1 0 rfl T.fn123 rfl (c123 _ b _ _ _ _ (by omega) (by omega)) (tags_of ⟨rfl, trivial⟩) ?_
            refine Wl.ll0 2 [] ?_
            refine Wl.call1 0 rfl T.fn123 rfl (c123 _ b _ _ _ _ (by omega) (by omega)) (tags_of ⟨rfl, trivial⟩) ?_
            refine Wl.q rfl (Qy.move rfl) ?_
            refine Wl.call1 0 rfl T.fn121 rfl (c121 _ b _ _ _ (by omega)) (tags_of ⟨rfl, trivial⟩) ?_
            refine Wl.call 0 rfl T.fn118 rfl (c118 _ b _ a3 d3 ((ci ++ timesI (3 * (wh.length : Int)) (2 * (wh.length : Int) + ((m : Int) - 1)) u) ++ timesI (2 * (wh.length : Int) + (m : Int)) (2 * (wh.length : Int) + (m : Int)) v) j3 wa _ wc _ _ _ _ _ ho3 hb1) (tags_of ⟨rfl, rfl, trivial⟩) (fun v4 G4 Ho4 hle4 hp => ?_)
            obtain ⟨rfl, rfl, a4, d4, j4, ho4, rfl⟩ := hp
            refine Wl.gl 8 [] ?_
            refine Wl.yes 127 rfl (by first | assumption | omega) ?_
            refine Wl.ll0 2 [] ?_
            refine Wl.q rfl (Qy.indexAddrO (α := Bool) T.sl170 rfl rfl (by assumption) (by omega)) ?_
            refine Wl.setO (z := _) 2 T.size4 rfl rfl rfl (by assumption) (by omega) rfl (fun ho5 => ?_)
            refine Wl.ga 8 [] ?_
            refine Ar.reH 2 (Row 4 (ti.set m (true || true)) []) rfl (by first | rfl | (rw [Int.toNat_natCast]; first | rfl | (rw [decide_eq_false hL]; rfl) | (rw [decide_eq_true hL]; rfl) | (rw [decide_eq_false hO]; rfl) | (rw [decide_eq_true hO]; rfl))) ?_
            refine Ar.re 13 rfl (show _ = Value.int .i64 ((m : Int) - 1) from rfl) ?_
            refine Ar.re 11 rfl (show _ = Value.slice (some ⟨b1, 0, none⟩) (ti.set m (true || true)).length (e + 1) by rw [List.length_set]) ?_
            refine Ar.again ((m, ti.set m (true || true), ((ci ++ timesI (3 * (wh.length : Int)) (2 * (wh.length : Int) + ((m : Int) - 1)) u) ++ timesI (2 * (wh.length : Int) + (m : Int)) (2 * (wh.length : Int) + (m : Int)) v) ++ [(⟨3, 2 * (wh.length : Int) + (m : Int), 2 * (wh.length : Int) + (m : Int), 3 * (wh.length : Int), 0⟩ : Sl.Instr)], (a4, d4, j4))) ?_ ?_ rfl ⟨rfl, rfl, rfl, rfl, rfl, rfl, rfl, rfl, trivial⟩ ⟨rfl, rfl, rfl, trivial⟩
            · refine ⟨by omega, by rw [List.length_set]; exact hti, ?_, ?_, hoN, ho4⟩
              · rw [← hS1, hrs]
              · rw [← hS2, hrs]
                simp
            · show m < m + 1
              omega
          · have hOL : ¬ ((ti[(m : Int).toNat]?.getD default = true ∧ v ≠ 0) ∧ ti[((m : Int) - 1).toNat]?.getD default = true ∧ u ≠ 0) := fun h => hO h.1
            have hrs := rStep_eq (n := wh.length) hlow (hownF hO)
            rw [hrs] at hbd
            have hb0 : (ci ++ timesI (3 * (wh.length : Int)) (2 * (wh.length : Int) + ((m : Int) - 1)) u).length ≤ 1048576 := by
              simp only [if_true, List.length_append] at hbd
              simp only [List.length_append]
              omega
            refine Wc.gl 17 [1] ?_
            refine Wl.yes 51 rfl (by first | assumption | omega) ?_
            refine Wl.ll0 7 [] ?_
            refine Wl.q rfl (Qy.indexAddrO (α := Bool) T.sl170 rfl rfl (by assumption) (by omega)) ?_
            refine Wl.want rfl rfl ?_
            refine Wl.q rfl (Qy.loadO 2 0 T.one4 rfl rfl (by assumption) (by omega) rfl rfl) ?_
            refine Wl.ll0 2 [] ?_
            refine Wl.re 58 rfl (Go.Sl.boolDec _) ?_
            apply Wl.joinAnd 3 58 61 rfl
            intro hg1
            refine Wl.ll0 5 [] ?_
            exact Wl.back 3 0 rfl rfl rfl rfl rfl
            intro hg1
            refine Wl.ll0 3 [] ?_
            exact Wl.back 3 0 rfl rfl rfl rfl rfl
            refine Wl.gl 7 [] ?_
            refine Wl.q rfl (Qy.indexAddrO (α := Bool) T.sl170 rfl rfl (by assumption) (by omega)) ?_
            refine Wl.q rfl (Qy.loadO 2 0 T.one4 rfl rfl (by assumption) (by omega) rfl rfl) ?_
            refine Wl.q rfl (Qy.move rfl) ?_
            refine Wl.re 66 rfl (Go.Sl.boolDec _) ?_
            apply Wl.joinAnd 3 66 69 rfl
            intro hg1
            refine Wl.ll0 5 [] ?_
            exact Wl.back 3 0 rfl rfl rfl rfl rfl
            intro hg1
            refine Wl.ll0 3 [] ?_
            exact Wl.back 3 0 rfl rfl rfl rfl rfl
            refine Wl.gl 13 [1] ?_
            refine Wl.call1 0 rfl T.fn121 rfl (c121 _ b _ _ _ (by omega)) (tags_of ⟨rfl, trivial⟩) ?_
            refine Wl.ll0 3 [] ?_
            refine Wl.call1 0 rfl T.fn123 rfl (c123 _ b _ _ _ _ (by omega) (by omega)) (tags_of ⟨rfl, trivial⟩) ?_
            refine Wl.q rfl (Qy.move rfl) ?_
            refine Wl.call 0 rfl T.fn86 rfl (c86 _ b _ o dd ci q wa _ wc _ _ _ hoCi hcil) (tags_of ⟨rfl, rfl, trivial⟩) (fun v2 G2 Ho2 hle2 hp => ?_)
            obtain ⟨rfl, rfl, a2, d2, j2, ho2, rfl⟩ := hp
            refine Wl.gl 8 [] ?_
            refine Wl.no 82 rfl (by first | assumption | omega) ?_
            refine Wl.gl 24 [0, 0, 1] ?_
            refine Wl.call1 0 rfl T.fn123 rfl (c123 _ b _ _ _ _ (by omega) (by omega)) (tags_of ⟨rfl, trivial⟩) ?_
            refine Wl.q rfl (Qy.move rfl) ?_
            refine Wl.call1 0 rfl T.fn121 rfl (c121 _ b _ _ _ (by omega)) (tags_of ⟨rfl, trivial⟩) ?_
            refine Wl.call 0 rfl T.fn86 rfl (c86 _ b _ a2 d2 (ci ++ timesI (3 * (wh.length : Int)) (2 * (wh.length : Int) + ((m : Int) - 1)) u) j2 wa _ wc _ _ _ ho2 hb0) (tags_of ⟨rfl, rfl, trivial⟩) (fun v3 G3 Ho3 hle3 hp => ?_)
            obtain ⟨rfl, rfl, a3, d3, j3, ho3, rfl⟩ := hp
            refine Wl.gl 8 [] ?_
            refine Wl.no 127 rfl (by first | assumption | omega) ?_
            refine Wl.ll0 3 [] ?_
            refine Wl.q rfl (Qy.indexAddrO (α := Bool) T.sl170 rfl rfl (by assumption) (by omega)) ?_
            refine Wl.setO (z := _) 2 T.size4 rfl rfl rfl (by assumption) (by omega) rfl (fun ho4 => ?_)
            refine Wl.ga 8 [] ?_
            refine Ar.reH 2 (Row 4 (ti.set m (false || true)) []) rfl (by first | rfl | (rw [Int.toNat_natCast]; first | rfl | (rw [decide_eq_false hL]; rfl) | (rw [decide_eq_true hL]; rfl) | (rw [decide_eq_false hO]; rfl) | (rw [decide_eq_true hO]; rfl))) ?_
            refine Ar.re 13 rfl (show _ = Value.int .i64 ((m : Int) - 1) from rfl) ?_
            refine Ar.re 11 rfl (show _ = Value.slice (some ⟨b1, 0, none⟩) (ti.set m (false || true)).length (e + 1) by rw [List.length_set]) ?_
            refine Ar.again ((m, ti.set m (false || true), (ci ++ timesI (3 * (wh.length : Int)) (2 * (wh.length : Int) + ((m : Int) - 1)) u) ++ timesI (2 * (wh.length : Int) + (m : Int)) (3 * (wh.length : Int)) 1, (a3, d3, j3))) ?_ ?_ rfl ⟨rfl, rfl, rfl, rfl, rfl, rfl, rfl, rfl, trivial⟩ ⟨rfl, rfl, rfl, trivial⟩
            · refine ⟨by omega, by rw [List.length_set]; exact hti, ?_, ?_, hoN, ho3⟩
              · rw [← hS1, hrs]
              · rw [← hS2, hrs]
                simp
            · show m < m + 1
              omega
        · have hOL : ¬ ((ti[(m : Int).toNat]?.getD default = true ∧ v ≠ 0) ∧ ti[((m : Int) - 1).toNat]?.getD default = true ∧ u ≠ 0) := fun h => hL h.2
          have hlow := hlowF (fun h => hL ⟨by rw [hm1e]; exact h.2.1, h.2.2⟩)
          by_cases hO : ti[(m : Int).toNat]?.getD default = true ∧ v ≠ 0
          · have hrs := rStep_eq (n := wh.length) hlow (hownT hO)
            rw [hrs] at hbd
            refine Wc.gl 17 [1] ?_
            refine Wl.yes 51 rfl (by first | assumption | omega) ?_
            refine Wl.ll0 7 [] ?_
            refine Wl.q rfl (Qy.indexAddrO (α := Bool) T.sl170 rfl rfl (by assumption) (by omega)) ?_
            refine Wl.want rfl rfl ?_
            refine Wl.q rfl (Qy.loadO 2 0 T.one4 rfl rfl (by assumption) (by omega) rfl rfl) ?_
            refine Wl.ll0 2 [] ?_
            refine Wl.re 58 rfl (Go.Sl.boolDec _) ?_
            apply Wl.joinAnd 3 58 61 rfl
            intro hg1
            refine Wl.ll0 5 [] ?_
            exact Wl.back 3 0 rfl rfl rfl rfl rfl
            intro hg1
            refine Wl.ll0 3 [] ?_
            exact Wl.back 3 0 rfl rfl rfl rfl rfl
            refine Wl.gl 7 [] ?_
            refine Wl.q rfl (Qy.indexAddrO (α := Bool) T.sl170 rfl rfl (by assumption) (by omega)) ?_
            refine Wl.q rfl (Qy.loadO 2 0 T.one4 rfl rfl (by assumption) (by omega) rfl rfl) ?_
            refine Wl.q rfl (Qy.move rfl) ?_
            refine Wl.re 66 rfl (Go.Sl.boolDec _) ?_
            apply Wl.joinAnd 3 66 69 rfl
            intro hg1
            refine Wl.ll0 5 [] ?_
            exact Wl.back 3 0 rfl rfl rfl rfl rfl
            intro hg1
            refine Wl.ll0 3 [] ?_
            exact Wl.back 3 0 rfl rfl rfl rfl rfl
            refine Wl.gl 18 [0] ?_
            refine Wl.yes 82 rfl (by first | assumption | omega) ?_
            refine Wl.gl 18 [0, 1] ?_
            refine Wl.call1 0 rfl T.fn123 rfl (c123 _ b _ _ _ _ (by omega) (by omega)) (tags_of ⟨rfl, trivial⟩) ?_
            refine Wl.ll0 2 [] ?_
            refine Wl.call1 0 rfl T.fn123 rfl (c123 _ b _ _ _ _ (by omega) (by omega)) (tags_of ⟨rfl, trivial⟩) ?_
            refine Wl.q rfl (Qy.move rfl) ?_
            refine Wl.call 0 rfl T.fn86 rfl (c86 _ b _ o dd ci q wa _ wc _ _ _ hoCi hcil) (tags_of ⟨rfl, rfl, trivial⟩) (fun v2 G2 Ho2 hle2 hp => ?_)
            obtain ⟨rfl, rfl, a2, d2, j2, ho2, rfl⟩ := hp
            refine Wl.gl 8 [] ?_
            refine Wl.yes 127 rfl (by first | assumption | omega) ?_
            refine Wl.ll0 2 [] ?_
            refine Wl.q rfl (Qy.indexAddrO (α := Bool) T.sl170 rfl rfl (by assumption) (by omega)) ?_
            refine Wl.setO (z := _) 2 T.size4 rfl rfl rfl (by assumption) (by omega) rfl (fun ho3 => ?_)
            refine Wl.ga 8 [] ?_
            refine Ar.reH 2 (Row 4 (ti.set m (true || false)) []) rfl (by first | rfl | (rw [Int.toNat_natCast]; first | rfl | (rw [decide_eq_false hL]; rfl) | (rw [decide_eq_true hL]; rfl) | (rw [decide_eq_false hO]; rfl) | (rw [decide_eq_true hO]; rfl))) ?_
            refine Ar.re 13 rfl (show _ = Value.int .i64 ((m : Int) - 1) from rfl) ?_
            refine Ar.re 11 rfl (show _ = Value.slice (some ⟨b1, 0, none⟩) (ti.set m (true || false)).length (e + 1) by rw [List.length_set]) ?_
            refine Ar.again ((m, ti.set m (true || false), ci ++ timesI (2 * (wh.length : Int) + (m : Int)) (2 * (wh.length : Int) + (m : Int)) v, (a2, d2, j2))) ?_ ?_ rfl ⟨rfl, rfl, rfl, rfl, rfl, rfl, rfl, rfl, trivial⟩ ⟨rfl, rfl, rfl, trivial⟩
            · refine ⟨by omega, by rw [List.length_set]; exact hti, ?_, ?_, hoN, ho2⟩
              · rw [← hS1, hrs]
              · rw [← hS2, hrs]
                simp
            · show m < m + 1
              omega
          · have hrs := rStep_eq (n := wh.length) hlow (hownF hO)
            refine Wc.gl 17 [1] ?_
            refine Wl.yes 51 rfl (by first | assumption | omega) ?_
            refine Wl.ll0 7 [] ?_
            refine Wl.q rfl (Qy.indexAddrO (α := Bool) T.sl170 rfl rfl (by assumption) (by omega)) ?_
            refine Wl.want rfl rfl ?_
            refine Wl.q rfl (Qy.loadO 2 0 T.one4 rfl rfl (by assumption) (by omega) rfl rfl) ?_
            refine Wl.ll0 2 [] ?_
            refine Wl.re 58 rfl (Go.Sl.boolDec _) ?_
            apply Wl.joinAnd 3 58 61 rfl
            intro hg1
            refine Wl.ll0 5 [] ?_
            exact Wl.back 3 0 rfl rfl rfl rfl rfl
            intro hg1
            refine Wl.ll0 3 [] ?_
            exact Wl.back 3 0 rfl rfl rfl rfl rfl
            refine Wl.gl 7 [] ?_
            refine Wl.q rfl (Qy.indexAddrO (α := Bool) T.sl170 rfl rfl (by assumption) (by omega)) ?_
            refine Wl.q rfl (Qy.loadO 2 0 T.one4 rfl rfl (by assumption) (by omega) rfl rfl) ?_
            refine Wl.q rfl (Qy.move rfl) ?_
            refine Wl.re 66 rfl (Go.Sl.boolDec _) ?_
            apply Wl.joinAnd 3 66 69 rfl
            intro hg1
            refine Wl.ll0 5 [] ?_
            exact Wl.back 3 0 rfl rfl rfl rfl rfl
            intro hg1
            refine Wl.ll0 3 [] ?_
            exact Wl.back 3 0 rfl rfl rfl rfl rfl
            refine Wl.gl 18 [0] ?_
            refine Wl.no 82 rfl (by first | assumption | omega) ?_
            refine Wl.gl 28 [0, 0, 0] ?_
            refine Wl.no 127 rfl (by first | assumption | omega) ?_
            refine Wl.ll0 3 [] ?_
            refine Wl.q rfl (Qy.indexAddrO (α := Bool) T.sl170 rfl rfl (by assumption) (by omega)) ?_
            refine Wl.setO (z := _) 2 T.size4 rfl rfl rfl (by assumption) (by omega) rfl (fun ho2 => ?_)
            refine Wl.ga 8 [] ?_
            refine Ar.reH 2 (Row 4 (ti.set m (false || false)) []) rfl (by first | rfl | (rw [Int.toNat_natCast]; first | rfl | (rw [decide_eq_false hL]; rfl) | (rw [decide_eq_true hL]; rfl) | (rw [decide_eq_false hO]; rfl) | (rw [decide_eq_true hO]; rfl))) ?_
            refine Ar.re 13 rfl (show _ = Value.int .i64 ((m : Int) - 1) from rfl) ?_
            refine Ar.re 11 rfl (show _ = Value.slice (some ⟨b1, 0, none⟩) (ti.set m (false || false)).length (e + 1) by rw [List.length_set]) ?_
            refine Ar.again ((m, ti.set m (false || false), ci, (o, dd, q))) ?_ ?_ rfl ⟨rfl, rfl, rfl, rfl, rfl, rfl, rfl, rfl, trivial⟩ ⟨rfl, rfl, rfl, trivial⟩
            · refine ⟨by omega, by rw [List.length_set]; exact hti, ?_, ?_, hoN, hoCi⟩
              · rw [← hS1, hrs]
              · rw [← hS2, hrs]
                simp
            · show m < m + 1
              omega
  · have hde : d = e + 1 := by omega
    subst hde
    rw [Nat.sub_self] at hT1 hT2
    have hT1 : th = Th := hT1
    have hT2 : cd = Tg := by rw [← hT2]; exact (List.append_nil _).symm
    subst hT1 hT2
    refine Wc.ga 21 [0] ?_
    refine Ar.out1 (by first | exact .inl rfl | exact .inr rfl) (Ho := [(0, some b, .cells #[.int .i64 wh.length, .slice o cd.length dd, .slice wa wh.length wc] 139), (1, o.map (·.block), Row 50 cd q), (2, some b1, Row 4 th [])]) rfl (.tmp rfl) ⟨rfl, rfl, rfl, trivial⟩ ?_
    exact ⟨rfl, o, dd, q, th, cd, b1, rfl, rfl, by rw [hth], hoC, by rw [hth]; exact hoT, rfl⟩
end Go.Proofs.YtelbhbbiejalhaaGreat
set_option maxRecDepth 100000
set_option linter.unusedVariables false
namespace Go.Proofs.YtelbhbbiejalhaaGreat
open Go Go.Sl
set_option maxHeartbeats 4000000
/-- what comes from the place m - 1 on -/
def bkM (n : Int) (p : R2) (e m : Nat) : List Sl.Instr := if m = e + 1 then backA n p e else bkIn n p m
theorem addAll_drop (n : Int) (th : List Bool) {t : Nat} (h : t < th.length) : addAll n (th.drop t) t = (if th[((t : Nat) : Int).toNat]?.getD default = true then [(⟨3, n + t, n + t, 2 * n + t, 0⟩ : Sl.Instr)] else []) ++ addAll n (th.drop (t + 1)) (t + 1) := by
  rw [List.drop_eq_getElem_cons h, Int.toNat_natCast, List.getElem?_eq_getElem h]; rfl
theorem c88 (G : Imm) (b : Nat) (ac : Option Addr) (cc : Nat) (code : List Sl.Instr) (j : List Value) (wa : Option Addr) (wc : Nat) (wh : List R2) (k : Int) (e : Nat) (ho : OwnA ac cc code j) (hw : Arr G wa wh)
    (hwl : wh.length ≤ 15) (hk : 0 ≤ k ∧ k < wh.length) (he1 : 1 ≤ e) (he : e < wh.length) (hok : okP (wh[k.toNat]?.getD default)) (hl : (code ++ backI wh.length wh k e).length ≤ 1048576) :
    Does Tryz.prog 88 [.pointer (some ⟨b, 0, none⟩), .int .i64 k, .int .i64 e] G [(0, some b, .cells #[.int .i64 wh.length, .slice ac code.length cc, .slice wa wh.length wc] 139), (1, ac.map (·.block), Row 50 code j)]
      (fun v G' Ho => v = .tuple #[] ∧ G' = G ∧ ∃ (a' : Option Addr) (c' : Nat) (j' : List Value), OwnA a' c' (code ++ backI wh.length wh k e) j' ∧ Ho = [(0, some b, .cells #[.int .i64 wh.length, .slice a' (code ++ backI wh.length wh k e).length c', .slice wa wh.length wc] 139), (1, a'.map (·.block), Row 50 (code ++ backI wh.length wh k e) j')]) := by
  have hl0 : code.length ≤ 1048576 := by rw [List.length_append] at hl; omega
  obtain ⟨hnk, hzk⟩ := hok
  have hnk2 := hnk
  unfold near at hnk2
  refine Does.enter Tryz.func88 rfl Tryz.ntmps88 rfl (fun w => ?_)
  refine Wc.gl 7 [0] ?_
  refine Wl.q rfl (Qy.at (α := R2) T.sl22 rfl rfl (by assumption) (by omega)) ?_
  refine Wl.q rfl (Qy.loadsG T.agg34 rfl (Arr.elem (by assumption) (by omega)) rfl) ?_
  refine Wl.alloc 2 rfl T.zero34 (fun b1 => ?_)
  refine Wl.gc 11 [2] ?_
  generalize hp : wh[k.toNat]?.getD default = p at *
  have hbI : backI wh.length wh k e = backA wh.length p e ++ (raisedI wh.length (bezS p.a p.b) (bezT p.a p.b) k e ++ addAll wh.length (raisedT wh.length (bezS p.a p.b) (bezT p.a p.b) e) 0) := by unfold backI ptW; rw [hp]
  rw [hbI] at hl
  have hlA : (code ++ backA wh.length p e).length ≤ 1048576 := by rw [← List.append_assoc, List.length_append] at hl; omega
  refine Wc.re 7 rfl (show _ = Value.int .i64 (((e + 1 : Nat) : Int) - 1) by congr 1; omega) ?_
  refine Wc.loop (ι := Nat × List Sl.Instr × (Option Addr × Nat × List Value)) (fun (m, cd, (o, d, q)) => ([(7, .int .i64 ((m : Int) - 1)), (1, .int .i64 k), (6, Go.Value.pointer (Option.some (Go.Addr.mk b1 0 Option.none))), (0, Go.Value.pointer (Option.some (Go.Addr.mk b 0 Option.none))), (2, Go.Value.int Go.IntKind.i64 (↑e : Int))], [(0, some b, .cells #[.int .i64 wh.length, .slice o cd.length d, .slice wa wh.length wc] 139), (1, o.map (·.block), Row 50 cd q), (2, Option.some b1, Go.Obj.cells (List.toArray (Go.Sl.Cells.enc p)) 34)])) (fun (m, cd, (o, d, q)) => m ≤ e + 1 ∧ cd ++ bkM wh.length p e m = code ++ backA wh.length p e ∧ OwnA o d cd q) (fun (m, cd, (o, d, q)) => m) ((e + 1, code, (ac, cc, j))) (⟨Nat.le_refl _, by unfold bkM; rw [if_pos rfl], ho⟩) ⟨rfl, rfl, rfl, rfl, rfl, trivial⟩ ⟨rfl, rfl, rfl, trivial⟩ (fun ⟨m, cd, (o, d, q)⟩ => fun (hk : m ≤ e + 1 ∧ cd ++ bkM wh.length p e m = code ++ backA wh.length p e ∧ OwnA o d cd q) => ?_)
  obtain ⟨hm1, hm2, hm3⟩ := hk
  have hcl : cd.length ≤ 1048576 := by rw [← hm2, List.length_append] at hlA; omega
  rcases Nat.eq_zero_or_pos m with hm0 | hm0
  · have hm2 : cd = code ++ backA wh.length p e := by
      rw [← hm2]; unfold bkM; rw [if_neg (by omega), hm0]; exact (List.append_nil _).symm
    have hl1 : (cd ++ raisedI wh.length (bezS (wh[k.toNat]?.getD default).a (wh[k.toNat]?.getD default).b) (bezT (wh[k.toNat]?.getD default).a (wh[k.toNat]?.getD default).b) k e).length ≤ 1048576 := by
      rw [hp, hm2, List.length_append, List.length_append]
      rw [List.length_append, List.length_append, List.length_append] at hl
      omega
    refine Wc.gl 18 [0] ?_
    refine Wl.call 0 rfl T.fn122 rfl (c122 _ b o d cd q wa wc wh k e hm3 (by assumption) hwl hk he (by rw [hp]; exact ⟨hnk, hzk⟩) hl1) (tags_of ⟨rfl, rfl, trivial⟩) (fun v1 G1 Ho1 hle1 hp => ?_)
    obtain ⟨rfl, ra1, rd1, rj1, th1, rc1, tb1, hth1, hrc1, rfl, hro1, hto1, rfl⟩ := hp
    refine Wl.gc 5 [] ?_
    rw [hp] at hth1 hrc1
    rw [hm2] at hrc1
    have hthl : th1.length = e + 1 := by rw [hth1, raisedT_len]
    rw [← List.append_assoc, ← List.append_assoc, ← hrc1, ← hth1] at hl
    refine Wc.loop (ι := Nat × List Sl.Instr × (Option Addr × Nat × List Value)) (fun (t, ce, (o, d, q)) => ([(76, .int .i64 (t : Int)), (75, Go.Value.int Go.IntKind.i64 (↑(List.length th1) : Int)), (74, Go.Value.slice (Option.some (Go.Addr.mk tb1 0 Option.none)) (List.length th1) (List.length th1)), (0, Go.Value.pointer (Option.some (Go.Addr.mk b 0 Option.none)))], [(0, some b, .cells #[.int .i64 wh.length, .slice o ce.length d, .slice wa wh.length wc] 139), (1, o.map (·.block), Row 50 ce q), (2, Option.some tb1, Go.Sl.Row (α := Bool) 4 (th1) ([]))])) (fun (t, ce, (o, d, q)) => t ≤ th1.length ∧ ce ++ addAll wh.length (th1.drop t) t = rc1 ++ addAll wh.length th1 0 ∧ OwnA o d ce q) (fun (t, ce, (o, d, q)) => th1.length - t) ((0, rc1, (ra1, rd1, rj1))) (⟨Nat.zero_le _, rfl, hro1⟩) ⟨rfl, rfl, rfl, rfl, trivial⟩ ⟨rfl, rfl, rfl, trivial⟩ (fun ⟨t, ce, (o, d, q)⟩ => fun (hk : t ≤ th1.length ∧ ce ++ addAll wh.length (th1.drop t) t = rc1 ++ addAll wh.length th1 0 ∧ OwnA o d ce q) => ?_)
    obtain ⟨ht1, ht2, ht3⟩ := hk
    have hel : ce.length ≤ 1048576 := by rw [← ht2, List.length_append] at hl; omega
    rcases Nat.lt_or_ge t th1.length with hte | hte
    · rw [addAll_drop _ _ hte] at ht2
      refine Wc.gl 14 [1] ?_
      refine Wl.q rfl (Qy.indexAddrO (α := Bool) T.sl170 rfl rfl (by assumption) (by omega)) ?_
      refine Wl.q rfl (Qy.loadO 2 0 T.one4 rfl rfl (by assumption) (by omega) rfl rfl) ?_
      refine Wl.gc 9 [] ?_
      refine Wc.ite rfl (fun hc1 => ?_) (fun hc1 => ?_)
      refine Wc.gl 4 [] ?_
      refine Wl.call1 0 rfl T.fn87 rfl (c87 _ b _ _ _ _ (by omega) (by omega)) (tags_of ⟨rfl, trivial⟩) ?_
      refine Wl.ll0 2 [] ?_
      refine Wl.call1 0 rfl T.fn87 rfl (c87 _ b _ _ _ _ (by omega) (by omega)) (tags_of ⟨rfl, trivial⟩) ?_
      refine Wl.ll0 2 [] ?_
      refine Wl.call1 0 rfl T.fn123 rfl (c123 _ b _ _ _ _ (by omega) (by omega)) (tags_of ⟨rfl, trivial⟩) ?_
      refine Wl.call 0 rfl T.fn118 rfl (c118 _ b _ o d ce q wa _ wc _ _ _ _ _ ht3 hel) (tags_of ⟨rfl, rfl, trivial⟩) (fun v2 G2 Ho2 hle2 hp => ?_)
      obtain ⟨rfl, rfl, a2, d2, j2, ho2, rfl⟩ := hp
      refine Wl.ga 7 [] ?_
      rotate_left
      refine Wc.ga 7 [] ?_
      rotate_left
      · rw [if_pos hc1] at ht2
        refine Ar.re 76 rfl (show _ = Value.int .i64 ((t + 1 : Nat) : Int) from rfl) ?_
        refine Ar.again ((t + 1, _, (a2, d2, j2))) ?_ ?_ rfl ⟨rfl, rfl, rfl, rfl, trivial⟩ ⟨rfl, rfl, rfl, trivial⟩
        · refine ⟨hte, ?_, ho2⟩
          rw [← ht2]; simp only [List.append_assoc]
        · show th1.length - (t + 1) < th1.length - t
          omega
      · rw [if_neg (by rw [hc1]; decide), List.nil_append] at ht2
        refine Ar.re 76 rfl (show _ = Value.int .i64 ((t + 1 : Nat) : Int) from rfl) ?_
        refine Ar.again ((t + 1, ce, (o, d, q))) ?_ ?_ rfl ⟨rfl, rfl, rfl, rfl, trivial⟩ ⟨rfl, rfl, rfl, trivial⟩
        · exact ⟨hte, ht2, ht3⟩
        · show th1.length - (t + 1) < th1.length - t
          omega
    · have hte : t = th1.length := by omega
      have ht2 : ce = rc1 ++ addAll wh.length th1 0 := by rw [← ht2, hte, List.drop_length]; exact (List.append_nil _).symm
      refine Wc.ga 11 [0] ?_
      have hce : ce = code ++ backI wh.length wh k e := by rw [ht2, hrc1, hbI, hth1]; simp only [List.append_assoc]
      rw [hce] at ht3
      refine Ar.out0 (by first | exact .inl rfl | exact .inr rfl) (Ho := [(0, some b, .cells #[.int .i64 wh.length, .slice o (code ++ backI wh.length wh k e).length d, .slice wa wh.length wc] 139), (1, o.map (·.block), Row 50 (code ++ backI wh.length wh k e) q)]) rfl ⟨by rw [← hce]; rfl, by rw [← hce]; rfl, trivial⟩ ?_
      exact ⟨rfl, rfl, o, d, q, ht3, rfl⟩
  · rcases Nat.lt_or_ge e m with hme | hme
    · have hme : m = e + 1 := by omega
      have hm2 : cd ++ (timesI (wh.length + e) (wh.length + ((e : Int) - 1)) (-p.b) ++ bkIn wh.length p e) = code ++ backA wh.length p e := by
        rw [← hm2]; unfold bkM; rw [if_pos hme]; rfl
      refine Wc.re 7 rfl (show _ = Value.int .i64 (e : Int) by congr 1; omega) ?_
      refine Wc.gc 22 [1, 1] ?_
      refine Wc.draw [2, 1, 0] [(1, 11), (0, 11)] T.mixed rfl ?_
      refine Gm.q 0 [] (by kernel_rfl) rfl rfl (Qy.move rfl) ?_
      refine Gm.q 1 [] (by kernel_rfl) rfl rfl (Qy.move rfl) ?_
      refine Gm.q 2 [] (by kernel_rfl) rfl rfl (Qy.move rfl) ?_
      refine Gm.q 4 [] (by kernel_rfl) rfl rfl (Qy.move rfl) ?_
      refine Gm.q 5 [] (by kernel_rfl) rfl rfl (Qy.move rfl) ?_
      refine Gm.q 6 [] (by kernel_rfl) rfl rfl (Qy.sub rfl rfl (by omega)) ?_
      refine Gm.q 8 [] (by kernel_rfl) rfl rfl (Qy.fieldAddr T.fa34_1 rfl) ?_
      refine Gm.q 9 [2] (by kernel_rfl) rfl rfl (Qy.load 2 T.one3 rfl rfl rfl) ?_
      refine Gm.q 10 [] (by kernel_rfl) rfl rfl (Qy.neg rfl (by omega)) ?_
      refine Gm.one 3 ⟨rfl, rfl, rfl, trivial⟩ (by first | exact Imm.le_refl _ | repeat (first | assumption | refine Imm.le_trans ?_ (by assumption))) (by kernel_rfl) rfl ?_
      refine Wl.call1 0 rfl T.fn87 rfl (c87 _ b _ _ _ _ (by omega) (by omega)) (tags_of ⟨rfl, trivial⟩) ?_
      refine Wl.on0 ?_
      refine Gm.one 7 ⟨rfl, rfl, rfl, trivial⟩ (by first | exact Imm.le_refl _ | repeat (first | assumption | refine Imm.le_trans ?_ (by assumption))) (by kernel_rfl) rfl ?_
      refine Wl.call1 0 rfl T.fn87 rfl (c87 _ b _ _ _ _ (by omega) (by omega)) (tags_of ⟨rfl, trivial⟩) ?_
      refine Wl.on0 ?_
      refine Gm.one 11 ⟨rfl, rfl, rfl, trivial⟩ (by first | exact Imm.le_refl _ | repeat (first | assumption | refine Imm.le_trans ?_ (by assumption))) (by kernel_rfl) rfl ?_
      refine Wl.call 0 rfl T.fn86 rfl (c86 _ b _ o d cd q wa _ wc _ _ _ hm3 hcl) (tags_of ⟨rfl, rfl, trivial⟩) (fun v1 G1 Ho1 hle1 hp => ?_)
      obtain ⟨rfl, rfl, a1, d1, j1, ho1, rfl⟩ := hp
      refine Wl.on0 ?_
      refine Gm.doneA (by kernel_rfl) ⟨rfl, trivial⟩ (by first | exact Imm.le_refl _ | repeat (first | assumption | refine Imm.le_trans ?_ (by assumption))) ?_
      refine Ar.ga 10 [] ?_
      refine Ar.re 7 rfl (show _ = Value.int .i64 ((e : Int) - 1) from rfl) ?_
      refine Ar.again ((e, _, (a1, d1, j1))) ?_ ?_ rfl ⟨rfl, rfl, rfl, rfl, rfl, trivial⟩ ⟨rfl, rfl, rfl, trivial⟩
      · refine ⟨by omega, ?_, ho1⟩
        rw [← hm2]; unfold bkM; rw [if_neg (by omega), List.append_assoc]
      · show e < m
        omega
    · obtain ⟨i, rfl⟩ : ∃ i, m = i + 1 := ⟨m - 1, by omega⟩
      refine Wc.re 7 rfl (show _ = Value.int .i64 (i : Int) by congr 1; omega) ?_
      have hm2 : cd ++ bkIn wh.length p (i + 1) = code ++ backA wh.length p e := by rw [← hm2]; unfold bkM; rw [if_neg (by omega)]
      unfold bkIn at hm2
      rcases Nat.eq_zero_or_pos i with hi0 | hi0
      · rw [if_neg (by omega), if_neg (by omega)] at hm2
        refine Wc.gc 34 [1, 0, 0] ?_
        refine Wc.draw [2, 1, 0] [(1, 9), (0, 9)] T.mixed rfl ?_
        refine Gm.q 0 [] (by kernel_rfl) rfl rfl (Qy.move rfl) ?_
        refine Gm.q 1 [] (by kernel_rfl) rfl rfl (Qy.move rfl) ?_
        refine Gm.q 2 [] (by kernel_rfl) rfl rfl (Qy.move rfl) ?_
        refine Gm.q 4 [] (by kernel_rfl) rfl rfl (Qy.move rfl) ?_
        refine Gm.q 5 [] (by kernel_rfl) rfl rfl (Qy.move rfl) ?_
        refine Gm.q 7 [] (by kernel_rfl) rfl rfl (Qy.fieldAddr T.fa34_0 rfl) ?_
        refine Gm.q 8 [2] (by kernel_rfl) rfl rfl (Qy.load 2 T.one3 rfl rfl rfl) ?_
        refine Gm.one 3 ⟨rfl, rfl, rfl, trivial⟩ (by first | exact Imm.le_refl _ | repeat (first | assumption | refine Imm.le_trans ?_ (by assumption))) (by kernel_rfl) rfl ?_
        refine Wl.call1 0 rfl T.fn87 rfl (c87 _ b _ _ _ _ (by omega) (by omega)) (tags_of ⟨rfl, trivial⟩) ?_
        refine Wl.on0 ?_
        refine Gm.one 6 ⟨rfl, rfl, rfl, trivial⟩ (by first | exact Imm.le_refl _ | repeat (first | assumption | refine Imm.le_trans ?_ (by assumption))) (by kernel_rfl) rfl ?_
        refine Wl.call1 0 rfl T.fn87 rfl (c87 _ b _ _ _ _ (by omega) (by omega)) (tags_of ⟨rfl, trivial⟩) ?_
        refine Wl.on0 ?_
        refine Gm.one 9 ⟨rfl, rfl, rfl, trivial⟩ (by first | exact Imm.le_refl _ | repeat (first | assumption | refine Imm.le_trans ?_ (by assumption))) (by kernel_rfl) rfl ?_
        refine Wl.call 0 rfl T.fn86 rfl (c86 _ b _ o d cd q wa _ wc _ _ _ hm3 hcl) (tags_of ⟨rfl, rfl, trivial⟩) (fun v1 G1 Ho1 hle1 hp => ?_)
        obtain ⟨rfl, rfl, a1, d1, j1, ho1, rfl⟩ := hp
        refine Wl.on0 ?_
        refine Gm.doneA (by kernel_rfl) ⟨rfl, trivial⟩ (by first | exact Imm.le_refl _ | repeat (first | assumption | refine Imm.le_trans ?_ (by assumption))) ?_
        refine Ar.ga 16 [0] ?_
        refine Ar.re 7 rfl (show _ = Value.int .i64 ((i : Int) - 1) from rfl) ?_
        refine Ar.again ((i, _, (a1, d1, j1))) ?_ ?_ rfl ⟨rfl, rfl, rfl, rfl, rfl, trivial⟩ ⟨rfl, rfl, rfl, trivial⟩
        · refine ⟨by omega, ?_, ho1⟩
          rw [← hm2]; unfold bkM; rw [if_neg (by omega)]; simp only [List.append_assoc, List.nil_append]
        · show i < i + 1
          omega
      · rw [if_pos hi0, if_pos hi0] at hm2
        have hb1 : ((cd ++ timesI (3 * (wh.length : Int)) ((wh.length : Int) + ((i : Int) - 1)) p.b) ++ timesI ((wh.length : Int) + (i : Int)) ((wh.length : Int) + (i : Int)) p.a).length ≤ 1048576 := by
          rw [← hm2] at hlA
          simp only [List.length_append] at hlA
          simp only [List.length_append]
          omega
        have hb0 : (cd ++ timesI (3 * (wh.length : Int)) ((wh.length : Int) + ((i : Int) - 1)) p.b).length ≤ 1048576 := by rw [List.length_append] at hb1; omega
        refine Wc.gc 31 [1, 0, 1] ?_
        refine Wc.draw [2, 1, 0] [(1, 9), (0, 9)] T.mixed rfl ?_
        refine Gm.q 0 [] (by kernel_rfl) rfl rfl (Qy.move rfl) ?_
        refine Gm.q 1 [] (by kernel_rfl) rfl rfl (Qy.move rfl) ?_
        refine Gm.q 3 [] (by kernel_rfl) rfl rfl (Qy.move rfl) ?_
        refine Gm.q 4 [] (by kernel_rfl) rfl rfl (Qy.move rfl) ?_
        refine Gm.q 5 [] (by kernel_rfl) rfl rfl (Qy.sub rfl rfl (by omega)) ?_
        refine Gm.q 7 [] (by kernel_rfl) rfl rfl (Qy.fieldAddr T.fa34_1 rfl) ?_
        refine Gm.q 8 [2] (by kernel_rfl) rfl rfl (Qy.load 2 T.one3 rfl rfl rfl) ?_
        refine Gm.one 2 ⟨rfl, rfl, rfl, trivial⟩ (by first | exact Imm.le_refl _ | repeat (first | assumption | refine Imm.le_trans ?_ (by assumption))) (by kernel_rfl) rfl ?_
        refine Wl.call1 0 rfl T.fn121 rfl (c121 _ b _ _ _ (by omega)) (tags_of ⟨rfl, trivial⟩) ?_
        refine Wl.on0 ?_
        refine Gm.one 6 ⟨rfl, rfl, rfl, trivial⟩ (by first | exact Imm.le_refl _ | repeat (first | assumption | refine Imm.le_trans ?_ (by assumption))) (by kernel_rfl) rfl ?_
        refine Wl.call1 0 rfl T.fn87 rfl (c87 _ b _ _ _ _ (by omega) (by omega)) (tags_of ⟨rfl, trivial⟩) ?_
        refine Wl.on0 ?_
        refine Gm.one 9 ⟨rfl, rfl, rfl, trivial⟩ (by first | exact Imm.le_refl _ | repeat (first | assumption | refine Imm.le_trans ?_ (by assumption))) (by kernel_rfl) rfl ?_
        refine Wl.call 0 rfl T.fn86 rfl (c86 _ b _ o d cd q wa _ wc _ _ _ hm3 hcl) (tags_of ⟨rfl, rfl, trivial⟩) (fun v1 G1 Ho1 hle1 hp => ?_)
        obtain ⟨rfl, rfl, a1, d1, j1, ho1, rfl⟩ := hp
        refine Wl.on0 ?_
        refine Gm.doneA (by kernel_rfl) ⟨rfl, trivial⟩ (by first | exact Imm.le_refl _ | repeat (first | assumption | refine Imm.le_trans ?_ (by assumption))) ?_
        refine Ar.gc 2 [] ?_
        refine Wc.draw [2, 1, 0] [(1, 9), (0, 9)] T.mixed rfl ?_
        refine Gm.q 0 [] (by kernel_rfl) rfl rfl (Qy.move rfl) ?_
        refine Gm.q 1 [] (by kernel_rfl) rfl rfl (Qy.move rfl) ?_
        refine Gm.q 2 [] (by kernel_rfl) rfl rfl (Qy.move rfl) ?_
        refine Gm.q 4 [] (by kernel_rfl) rfl rfl (Qy.move rfl) ?_
        refine Gm.q 5 [] (by kernel_rfl) rfl rfl (Qy.move rfl) ?_
        refine Gm.q 7 [] (by kernel_rfl) rfl rfl (Qy.fieldAddr T.fa34_0 rfl) ?_
        refine Gm.q 8 [2] (by kernel_rfl) rfl rfl (Qy.load 2 T.one3 rfl rfl rfl) ?_
        refine Gm.one 3 ⟨rfl, rfl, rfl, trivial⟩ (by first | exact Imm.le_refl _ | repeat (first | assumption | refine Imm.le_trans ?_ (by assumption))) (by kernel_rfl) rfl ?_
        refine Wl.call1 0 rfl T.fn87 rfl (c87 _ b _ _ _ _ (by omega) (by omega)) (tags_of ⟨rfl, trivial⟩) ?_
        refine Wl.on0 ?_
        refine Gm.one 6 ⟨rfl, rfl, rfl, trivial⟩ (by first | exact Imm.le_refl _ | repeat (first | assumption | refine Imm.le_trans ?_ (by assumption))) (by kernel_rfl) rfl ?_
        refine Wl.call1 0 rfl T.fn87 rfl (c87 _ b _ _ _ _ (by omega) (by omega)) (tags_of ⟨rfl, trivial⟩) ?_
        refine Wl.on0 ?_
        refine Gm.one 9 ⟨rfl, rfl, rfl, trivial⟩ (by first | exact Imm.le_refl _ | repeat (first | assumption | refine Imm.le_trans ?_ (by assumption))) (by kernel_rfl) rfl ?_
        refine Wl.call 0 rfl T.fn86 rfl (c86 _ b _ a1 d1 (cd ++ timesI (3 * (wh.length : Int)) ((wh.length : Int) + ((i : Int) - 1)) p.b) j1 wa _ wc _ _ _ ho1 hb0) (tags_of ⟨rfl, rfl, trivial⟩) (fun v2 G2 Ho2 hle2 hp => ?_)
        obtain ⟨rfl, rfl, a2, d2, j2, ho2, rfl⟩ := hp
        refine Wl.on0 ?_
        refine Gm.doneA (by kernel_rfl) ⟨rfl, trivial⟩ (by first | exact Imm.le_refl _ | repeat (first | assumption | refine Imm.le_trans ?_ (by assumption))) ?_
        refine Ar.gl 12 [1] ?_
        refine Wl.call1 0 rfl T.fn87 rfl (c87 _ b _ _ _ _ (by omega) (by omega)) (tags_of ⟨rfl, trivial⟩) ?_
        refine Wl.ll0 2 [] ?_
        refine Wl.call1 0 rfl T.fn87 rfl (c87 _ b _ _ _ _ (by omega) (by omega)) (tags_of ⟨rfl, trivial⟩) ?_
        refine Wl.q rfl (Qy.move rfl) ?_
        refine Wl.call1 0 rfl T.fn121 rfl (c121 _ b _ _ _ (by omega)) (tags_of ⟨rfl, trivial⟩) ?_
        refine Wl.call 0 rfl T.fn118 rfl (c118 _ b _ a2 d2 ((cd ++ timesI (3 * (wh.length : Int)) ((wh.length : Int) + ((i : Int) - 1)) p.b) ++ timesI ((wh.length : Int) + (i : Int)) ((wh.length : Int) + (i : Int)) p.a) j2 wa _ wc _ _ _ _ _ ho2 hb1) (tags_of ⟨rfl, rfl, trivial⟩) (fun v3 G3 Ho3 hle3 hp => ?_)
        obtain ⟨rfl, rfl, a3, d3, j3, ho3, rfl⟩ := hp
        refine Wl.ga 8 [] ?_
        refine Ar.re 7 rfl (show _ = Value.int .i64 ((i : Int) - 1) from rfl) ?_
        refine Ar.again ((i, _, (a3, d3, j3))) ?_ ?_ rfl ⟨rfl, rfl, rfl, rfl, rfl, trivial⟩ ⟨rfl, rfl, rfl, trivial⟩
        · refine ⟨by omega, ?_, ho3⟩
          rw [← hm2]; unfold bkM; rw [if_neg (by omega)]; simp only [List.append_assoc]
        · show i < i + 1
          omega
end Go.Proofs.YtelbhbbiejalhaaGreat
set_option maxRecDepth 100000
set_option linter.unusedVariables false
namespace Go.Proofs.YtelbhbbiejalhaaGreat
open Go Go.Sl
set_option maxHeartbeats 4000000
theorem backAll_le (n : Int) (wh : List R2) : ∀ (o : List Int) (t : Nat), (backAll n wh (o.drop t)).length ≤ (backAll n wh o).length
  | [], t => by rw [List.drop_nil]; exact Nat.le_refl _
  | k :: o, 0 => Nat.le_refl _
  | [k], t + 1 => by rw [List.drop_succ_cons, List.drop_nil]; exact Nat.zero_le _
  | k :: i :: left, t + 1 => by
    rw [List.drop_succ_cons]
    refine Nat.le_trans (backAll_le n wh (i :: left) t) ?_
    show _ ≤ (backAll n wh (i :: left) ++ _).length
    rw [List.length_append]; omega
theorem backAll_cons (n : Int) (wh : List R2) (k : Int) {rest : List Int} (h : 1 ≤ rest.length) : backAll n wh (k :: rest) = backAll n wh rest ++ backI n wh k rest.length := by
  cases rest with
  | nil => simp at h
  | cons i left => rfl
theorem arr_drop {α : Type} [Cells α] {G : Imm} {a : Option Addr} {c : Nat} {l : List α} (h : Arr G a l) (n : Nat) (hn : n ≤ l.length) (hc : l.length ≤ c) : Arr G (subA a c n (Cells.sz α)) (l.drop n) := by
  have h1 := SlG.sub h hn hc
  unfold Arr
  have e : flat l = flat (l.take n) ++ flat (l.drop n) := by rw [← flat_append, List.take_append_drop]
  have e2 : (flat l).drop (n * Cells.sz α) = flat (l.drop n) := by
    rw [e, List.drop_left' (by rw [flat_length, List.length_take, Nat.min_eq_left hn])]
  rw [← e2, List.length_drop]; exact h1
def outsP (n t : Nat) : List Int := (List.range t).map fun j : Nat => (n : Int) + j
theorem outsP_len (n t : Nat) : (outsP n t).length = t := by unfold outsP; rw [List.length_map, List.length_range]
theorem outsP_succ (n t : Nat) : outsP n (t + 1) = outsP n t ++ [(n : Int) + t] := by unfold outsP; rw [List.range_succ, List.map_append]; rfl
theorem c85n (G : Imm) (n b : Nat) (ac : Option Addr) (cc : Nat) (code : List Sl.Instr) (j : List Value) (wa : Option Addr) (wc : Nat) (wh : List R2) (k : Int) (la : Option Addr) (lc m : Nat) (left : List Int) (e : Nat) (hn : wh.length = n) (hm : left.length = m) (ho : OwnA ac cc code j) (hw : Arr G wa wh) (hla : Arr G la left)
    (hwl : n ≤ 15) (hk : 0 ≤ k ∧ k < n) (hll : m ≤ 15) (hleft : ∀ i ∈ left, 0 ≤ i ∧ i < n) (he : e ≤ 14) (hok : ∀ i, i < n → okP (wh[i]?.getD default)) (hl : (code ++ awayI n wh k e left).length ≤ 1048576) :
    Does Tryz.prog 85 [.pointer (some ⟨b, 0, none⟩), .int .i64 k, .slice la m lc, .int .i64 e] G [(0, some b, .cells #[.int .i64 n, .slice ac code.length cc, .slice wa n wc] 139), (1, ac.map (·.block), Row 50 code j)]
      (fun v G' Ho => v = .tuple #[] ∧ G' = G ∧ ∃ (a' : Option Addr) (c' : Nat) (j' : List Value), OwnA a' c' (code ++ awayI n wh k e left) j' ∧ Ho = [(0, some b, .cells #[.int .i64 n, .slice a' (code ++ awayI n wh k e left).length c', .slice wa n wc] 139), (1, a'.map (·.block), Row 50 (code ++ awayI n wh k e left) j')]) := by
  subst hn hm
  exact c85 G b ac cc code j wa wc wh k la lc left e ho hw hla hwl hk hll (fun i hi => hleft _ (by rw [List.getElem?_eq_getElem hi]; exact List.getElem_mem _)) he hok hl
theorem c88n (G : Imm) (n b : Nat) (ac : Option Addr) (cc : Nat) (code : List Sl.Instr) (j : List Value) (wa : Option Addr) (wc : Nat) (wh : List R2) (k : Int) (e : Nat) (hn : wh.length = n) (ho : OwnA ac cc code j) (hw : Arr G wa wh)
    (hwl : n ≤ 15) (hk : 0 ≤ k ∧ k < n) (he1 : 1 ≤ e) (he : e < n) (hok : okP (wh[k.toNat]?.getD default)) (hl : (code ++ backI n wh k e).length ≤ 1048576) :
    Does Tryz.prog 88 [.pointer (some ⟨b, 0, none⟩), .int .i64 k, .int .i64 e] G [(0, some b, .cells #[.int .i64 n, .slice ac code.length cc, .slice wa n wc] 139), (1, ac.map (·.block), Row 50 code j)]
      (fun v G' Ho => v = .tuple #[] ∧ G' = G ∧ ∃ (a' : Option Addr) (c' : Nat) (j' : List Value), OwnA a' c' (code ++ backI n wh k e) j' ∧ Ho = [(0, some b, .cells #[.int .i64 n, .slice a' (code ++ backI n wh k e).length c', .slice wa n wc] 139), (1, a'.map (·.block), Row 50 (code ++ backI n wh k e) j')]) := by
  subst hn
  exact c88 G b ac cc code j wa wc wh k e ho hw hwl hk he1 he hok hl
theorem c54 (G : Imm) (a : Option Addr) (c : Nat) (l : List R2) (oa : Option Addr) (oc : Nat) (o : List Int) (ha : Arr G a l) (hoa : Arr G oa o) (hac : l.length ≤ c) (hocc : o.length ≤ oc) (hR : RightL l) (hO : OrderP o l.length) :
    Does Tryz.prog 54 [.slice a l.length c, .slice oa o.length oc] G [] (fun v G' Ho => ∃ (bc bo : Option Addr) (dc do_ : Nat) (j1 j2 : List Value), v = .agg #[.int .i64 (madeP l o).ins, .int .i64 (madeP l o).regs, .slice bc (madeP l o).code.length dc, .slice bo (madeP l o).outs.length do_] ∧ OwnA bc dc (madeP l o).code j1 ∧ OwnA bo do_ (madeP l o).outs j2 ∧
      Ho = [(0, bc.map (·.block), Row 50 (madeP l o).code j1), (1, bo.map (·.block), Row 3 (madeP l o).outs j2)]) := by
  have hgood := code_good hR hO
  have hok : ∀ i, i < l.length → okP (l[i]?.getD default) := hR.2.2.1
  have hl1 := hR.1
  have hl15 := hR.2.1
  obtain ⟨o1, o2, o3⟩ := hO
  refine Does.enter Tryz.func54 rfl Tryz.ntmps54 rfl (fun w => ?_)
  refine Wc.gl 2 [] ?_
  refine Wl.alloc 0 rfl T.zero29 (fun b1 => ?_)
  refine Wl.gl 12 [] ?_
  refine Wl.q rfl (Qy.build (cs := [_, _, _]) T.st139 rfl rfl rfl) ?_
  refine Wl.box 1 rfl rfl rfl (fun b2 => ?_)
  refine Wl.gc 12 [] ?_
  refine Wc.nilRow 2 (Row 50 ([] : List Sl.Instr) []) (Wc.nilRow 3 (Row 34 ([] : List R2) []) ?_)
  generalize hN : normAll (l.length - 1) l 0 = N at *
  have hNl : N.length ≤ 16384 := by
    have := hgood.len
    unfold codeP at this
    rw [hN, List.length_append] at this; omega
  refine Wc.loop (ι := Nat × List Sl.Instr × (Option Addr × Nat × List Value) × List R2 × (Option Addr × Nat × List Value)) (fun (k, cd, (u, d, q), wh, (wa, wd, wq)) => ([(25, .int .i64 (k : Int)), (5, .int .i64 l.length), (6, .pointer (some ⟨b2, 0, none⟩)), (1, .slice oa o.length oc), (24, Go.Value.int Go.IntKind.i64 (↑(List.length l) : Int)), (23, Go.Value.slice a (List.length l) c), (4, Go.Value.pointer (Option.some (Go.Addr.mk b1 0 Option.none)))], [(1, some b2, .cells #[.int .i64 l.length, .slice u cd.length d, .slice wa wh.length wd] 139), (2, u.map (·.block), Row 50 cd q), (3, wa.map (·.block), Row 34 wh wq), (0, Option.some b1, Go.Obj.cells #[Go.Value.int Go.IntKind.i64 0, Go.Value.int Go.IntKind.i64 0, Go.Value.slice Option.none 0 0, Go.Value.slice Option.none 0 0] 29)])) (fun (k, cd, (u, d, q), wh, (wa, wd, wq)) => k ≤ l.length ∧ cd ++ normAll (l.length - 1) (l.drop k) k = N ∧ OwnA u d cd q ∧ wh = (l.take k).map wholeP ∧ OwnA wa wd wh wq) (fun (k, cd, (u, d, q), wh, (wa, wd, wq)) => l.length - k) ((0, [], (none, 0, []), [], (none, 0, []))) (⟨Nat.zero_le _, hN, OwnA.nil, rfl, OwnA.nil⟩) ⟨rfl, rfl, rfl, rfl, rfl, rfl, rfl, trivial⟩ ⟨rfl, rfl, rfl, rfl, trivial⟩ (fun ⟨k, cd, (u, d, q), wh, (wa, wd, wq)⟩ => fun (hk : k ≤ l.length ∧ cd ++ normAll (l.length - 1) (l.drop k) k = N ∧ OwnA u d cd q ∧ wh = (l.take k).map wholeP ∧ OwnA wa wd wh wq) => ?_)
  obtain ⟨hk1, hk2, hk3, hk4, hk5⟩ := hk
  have hcl : cd.length ≤ 16384 := by rw [← hk2, List.length_append] at hNl; omega
  rcases Nat.lt_or_ge k l.length with hkl | hkl
  · obtain ⟨hnk, hzk⟩ := hok k hkl
    have hgn := gcd_near ⟨hnk, hzk⟩
    have hdr : l.drop k = l[((k : Nat) : Int).toNat]?.getD default :: l.drop (k + 1) := by
      rw [List.drop_eq_getElem_cons hkl, Int.toNat_natCast, List.getElem?_eq_getElem hkl]; rfl
    rw [hdr] at hk2
    have hk2 : cd ++ ((List.replicate (l.length - 1) (overI (k : Int) (Int.gcd (l[((k : Nat) : Int).toNat]?.getD default).a (l[((k : Nat) : Int).toNat]?.getD default).b))).flatten ++ normAll (l.length - 1) (l.drop (k + 1)) (k + 1)) = N := hk2
    refine Wc.gl 14 [1] ?_
    refine Wl.q rfl (Qy.at (α := R2) T.sl22 rfl rfl (by assumption) (by omega)) ?_
    refine Wl.q rfl (Qy.loadsG T.agg34 rfl (Arr.elem (by assumption) (by omega)) rfl) ?_
    refine Wl.alloc 4 rfl T.zero34 (fun b3 => ?_)
    refine Wl.gl 7 [4, 4] ?_
    refine Wl.call0 rfl T.fn83 rfl (c83 _ _ _ (by assumption) (by assumption)) ?_
    refine Wl.gc 20 [] ?_
    generalize hpp : l[((k : Nat) : Int).toNat]?.getD default = p at *
    have hnk : near p.a p.b := by rw [← hpp]; exact hnk
    have hzk : ¬ (p.a = 0 ∧ p.b = 0) := by rw [← hpp]; exact hzk
    have hgn : 1 ≤ Int.gcd p.a p.b ∧ Int.gcd p.a p.b ≤ 16 := by rw [← hpp]; exact hgn
    refine Wc.loop (ι := Nat × List Sl.Instr × (Option Addr × Nat × List Value)) (fun (i, ce, (u, d, q)) => ([(39, .int .i64 (i : Int)), (25, .int .i64 (k : Int)), (5, .int .i64 l.length), (6, .pointer (some ⟨b2, 0, none⟩)), (1, .slice oa o.length oc), (24, .int .i64 l.length), (23, .slice a l.length c), (4, .pointer (some ⟨b1, 0, none⟩)), (7, .int .i64 (k : Int)), (8, .pointer (some ⟨b3, 0, none⟩)), (9, .int .i64 (Int.gcd p.a p.b)), (38, Go.Value.int Go.IntKind.i64 ((↑(List.length l) : Int) - 1))], [(1, some b2, .cells #[.int .i64 l.length, .slice u ce.length d, .slice wa wh.length wd] 139), (2, u.map (·.block), Row 50 ce q), (4, Option.some b3, Go.Obj.cells (List.toArray (Go.Sl.Cells.enc p)) 34), (3, Option.map (fun x => Go.Addr.block x) wa, Go.Sl.Row (α := Go.Sl.R2) 34 (wh) (wq)), (0, Option.some b1, Go.Obj.cells #[Go.Value.int Go.IntKind.i64 0, Go.Value.int Go.IntKind.i64 0, Go.Value.slice Option.none 0 0, Go.Value.slice Option.none 0 0] 29)])) (fun (i, ce, (u, d, q)) => i ≤ l.length - 1 ∧ ce ++ ((List.replicate (l.length - 1 - i) (overI (k : Int) (Int.gcd p.a p.b))).flatten ++ normAll (l.length - 1) (l.drop (k + 1)) (k + 1)) = N ∧ OwnA u d ce q) (fun (i, ce, (u, d, q)) => l.length - 1 - i) ((0, cd, (u, d, q))) (⟨Nat.zero_le _, hk2, hk3⟩) ⟨rfl, rfl, rfl, rfl, rfl, rfl, rfl, rfl, rfl, rfl, rfl, rfl, trivial⟩ ⟨rfl, rfl, rfl, rfl, rfl, trivial⟩ (fun ⟨i, ce, (u, d, q)⟩ => fun (hk : i ≤ l.length - 1 ∧ ce ++ ((List.replicate (l.length - 1 - i) (overI (k : Int) (Int.gcd p.a p.b))).flatten ++ normAll (l.length - 1) (l.drop (k + 1)) (k + 1)) = N ∧ OwnA u d ce q) => ?_)
    obtain ⟨hi1, hi2, hi3⟩ := hk
    have hel : ce.length ≤ 16384 := by rw [← hi2, List.length_append] at hNl; omega
    rcases Nat.lt_or_ge i (l.length - 1) with hil | hil
    · have er : l.length - 1 - i = (l.length - 1 - (i + 1)) + 1 := by omega
      rw [er, List.replicate_succ, List.flatten_cons] at hi2
      refine Wc.gl 15 [1] ?_
      refine Wl.call 1 rfl T.fn84 rfl (c84 _ b2 _ u d ce q wa _ wd _ _ hi3 (by omega)) (tags_of ⟨rfl, rfl, trivial⟩) (fun v1 G1 Ho1 hle1 hp => ?_)
      obtain ⟨rfl, rfl, a1, d1, j1, ho1, rfl⟩ := hp
      refine Wl.ga 7 [] ?_
      refine Ar.re 39 rfl (show _ = Value.int .i64 ((i + 1 : Nat) : Int) from rfl) ?_
      refine Ar.again ((i + 1, _, (a1, d1, j1))) ?_ ?_ rfl ⟨rfl, rfl, rfl, rfl, rfl, rfl, rfl, rfl, rfl, rfl, rfl, rfl, trivial⟩ ⟨rfl, rfl, rfl, rfl, rfl, trivial⟩
      · refine ⟨hil, ?_, ho1⟩
        rw [← hi2]; simp only [List.append_assoc]
      · show l.length - 1 - (i + 1) < l.length - 1 - i
        omega
    · have hil : i = l.length - 1 := by omega
      have hi2 : ce ++ normAll (l.length - 1) (l.drop (k + 1)) (k + 1) = N := by rw [← hi2, hil, Nat.sub_self]; rfl
      have hwl : wh.length = k := by rw [hk4, List.length_map, List.length_take]; omega
      have q1 := tdiv_rng p.a (Int.gcd p.a p.b)
      have q2 := tdiv_rng p.b (Int.gcd p.a p.b)
      have hnk2 := hnk
      unfold near at hnk2
      refine Wc.gc 12 [0] ?_
      refine Wc.draw [0, 3, 4, 2, 1] [(1, 18), (2, 15), (3, 15)] T.mixed rfl ?_
      refine Gm.q 0 [] (by kernel_rfl) rfl rfl (Qy.move rfl) ?_
      refine Gm.q 1 [] (by kernel_rfl) rfl rfl (Qy.move rfl) ?_
      refine Gm.q 2 [] (by kernel_rfl) rfl rfl (Qy.nilCheck rfl) ?_
      refine Gm.q 3 [] (by kernel_rfl) rfl rfl (Qy.fieldAddr T.fa139_2 rfl) ?_
      refine Gm.q 4 [1] (by kernel_rfl) rfl rfl (Qy.load 1 T.one22 rfl rfl rfl) ?_
      refine Gm.q 5 [] (by kernel_rfl) rfl rfl (Qy.fieldAddr T.fa34_0 rfl) ?_
      refine Gm.q 6 [4] (by kernel_rfl) rfl rfl (Qy.load 4 T.one3 rfl rfl rfl) ?_
      refine Gm.q 7 [] (by kernel_rfl) rfl rfl (Qy.move rfl) ?_
      refine Gm.q 8 [] (by kernel_rfl) rfl rfl (Qy.quo rfl rfl (by omega) (by omega)) ?_
      refine Gm.q 9 [] (by kernel_rfl) rfl rfl (Qy.fieldAddr T.fa34_1 rfl) ?_
      refine Gm.q 10 [4] (by kernel_rfl) rfl rfl (Qy.load 4 T.one3 rfl rfl rfl) ?_
      refine Gm.q 11 [] (by kernel_rfl) rfl rfl (Qy.move rfl) ?_
      refine Gm.q 12 [] (by kernel_rfl) rfl rfl (Qy.quo rfl rfl (by omega) (by omega)) ?_
      refine Gm.q 13 [] (by kernel_rfl) rfl rfl (Qy.build (cs := [_, _]) T.st34 rfl rfl rfl) ?_
      refine Gm.one 14 ⟨rfl, rfl, rfl, rfl, rfl, trivial⟩ (by first | exact Imm.le_refl _ | repeat (first | assumption | refine Imm.le_trans ?_ (by assumption))) (by kernel_rfl) rfl ?_
      refine Wl.lit (α := R2) 5 [⟨Int.tdiv (Go.Sl.R2.a p) (↑(Int.gcd (Go.Sl.R2.a p) (Go.Sl.R2.b p)) : Int), Int.tdiv (Go.Sl.R2.b p) (↑(Int.gcd (Go.Sl.R2.a p) (Go.Sl.R2.b p)) : Int)⟩] rfl T.sl22 T.el34 rfl rfl rfl rfl rfl (fun b4 => ?_)
      refine Wl.on0 ?_
      refine Gm.one 15 ⟨rfl, rfl, rfl, rfl, rfl, trivial⟩ (by first | exact Imm.le_refl _ | repeat (first | assumption | refine Imm.le_trans ?_ (by assumption))) (by kernel_rfl) rfl ?_
      refine Wl.append (α := R2) 3 rfl T.sl22 T.el34 rfl rfl rfl (by first | assumption | exact OwnA.nil | exact OwnA.made (by simp)) (Src.row 5 rfl) (by first | omega | (simp only [List.length_append, List.length_cons, List.length_nil, maxLen]; omega)) (by first | omega | (simp only [List.length_append, List.length_cons, List.length_nil, maxLen]; omega)) (fun a1 c1 junk1 ho1 => ?_)
      refine Wl.on0 ?_
      refine Gm.q 16 [] (by kernel_rfl) rfl rfl (Qy.nilCheck rfl) ?_
      refine Gm.q 17 [] (by kernel_rfl) rfl rfl (Qy.fieldAddr T.fa139_2 rfl) ?_
      refine Gm.one 18 ⟨rfl, rfl, rfl, trivial⟩ (by first | exact Imm.le_refl _ | repeat (first | assumption | refine Imm.le_trans ?_ (by assumption))) (by kernel_rfl) rfl ?_
      refine Wl.store 1 T.one22 rfl rfl rfl rfl rfl ?_
      refine Wl.on0 ?_
      refine Gm.doneA (by kernel_rfl) ⟨rfl, rfl, trivial⟩ (by first | exact Imm.le_refl _ | repeat (first | assumption | refine Imm.le_trans ?_ (by assumption))) ?_
      refine Ar.ga 6 [] ?_
      refine Ar.re 25 rfl (show _ = Value.int .i64 ((k + 1 : Nat) : Int) from rfl) ?_
      refine Ar.again ((k + 1, ce, (u, d, q), wh ++ [⟨p.a.tdiv (Int.gcd p.a p.b), p.b.tdiv (Int.gcd p.a p.b)⟩], (a1, c1, junk1))) ?_ ?_ rfl ⟨rfl, rfl, rfl, rfl, rfl, rfl, rfl, trivial⟩ ⟨rfl, rfl, rfl, rfl, trivial⟩
      · refine ⟨hkl, hi2, hi3, ?_, ho1⟩
        rw [hk4, List.take_add_one, List.map_append, List.getElem?_eq_getElem hkl]
        rw [Int.toNat_natCast, List.getElem?_eq_getElem hkl] at hpp
        have hpp : l[k] = p := hpp
        rw [hpp]; rfl
      · show l.length - (k + 1) < l.length - k
        omega
  · have hkl : k = l.length := by omega
    subst hkl
    rw [List.drop_length] at hk2
    have hk2 : cd = N := by rw [← hk2]; exact (List.append_nil _).symm
    rw [List.take_length] at hk4
    subst hk4
    have hwl : (l.map wholeP).length = l.length := List.length_map _
    have hwok : ∀ i, i < (l.map wholeP).length → okP ((l.map wholeP)[i]?.getD default) := fun i hi => by
      rw [hwl] at hi
      rw [List.getElem?_map]
      have := hok i hi
      rw [List.getElem?_eq_getElem hi] at this ⊢
      exact (whole_facts this).2.2.2
    refine Wc.freezeRow 3 rfl hk5 (fun G2 hle2 hw2 => ?_)
    replace ha := ha.up hle2
    replace hoa := hoa.up hle2
    generalize hWh : l.map wholeP = wh at *
    refine Wc.reH 1 (.cells #[.int .i64 l.length, .slice u cd.length d, .slice wa l.length wd] 139) rfl (by rw [hwl]) ?_
    rw [hwl] at hwok
    have hgl : (N ++ (awayAll l.length wh o ++ backAll l.length wh o)).length ≤ 16384 := by
      have := hgood.len
      unfold codeP at this
      rw [hN, hWh] at this; exact this
    generalize hA : awayAll l.length wh o = A at *
    have hgA : (N ++ A).length ≤ 16384 := by rw [← List.append_assoc, List.length_append] at hgl; omega
    refine Wc.gc 21 [0] ?_
    refine Wc.loop (ι := Nat × List Sl.Instr × (Option Addr × Nat × List Value)) (fun (t, ce, (u, d, q)) => ([(67, .int .i64 (t : Int)), (66, Go.Value.int Go.IntKind.i64 (↑(List.length o) : Int)), (65, Go.Value.slice oa (List.length o) oc), (5, Go.Value.int Go.IntKind.i64 (↑(List.length l) : Int)), (6, Go.Value.pointer (Option.some (Go.Addr.mk b2 0 Option.none))), (1, Go.Value.slice oa (List.length o) oc), (4, Go.Value.pointer (Option.some (Go.Addr.mk b1 0 Option.none)))], [(1, some b2, .cells #[.int .i64 l.length, .slice u ce.length d, .slice wa l.length wd] 139), (2, u.map (·.block), Row 50 ce q), (0, Option.some b1, Go.Obj.cells #[Go.Value.int Go.IntKind.i64 0, Go.Value.int Go.IntKind.i64 0, Go.Value.slice Option.none 0 0, Go.Value.slice Option.none 0 0] 29)])) (fun (t, ce, (u, d, q)) => t ≤ o.length ∧ ce ++ awayAll l.length wh (o.drop t) = N ++ A ∧ OwnA u d ce q) (fun (t, ce, (u, d, q)) => o.length - t) ((0, cd, (u, d, q))) (⟨Nat.zero_le _, by rw [hk2, ← hA]; rfl, hk3⟩) ⟨rfl, rfl, rfl, rfl, rfl, rfl, rfl, trivial⟩ ⟨rfl, rfl, rfl, trivial⟩ (fun ⟨t, ce, (u, d, q)⟩ => fun (hk : t ≤ o.length ∧ ce ++ awayAll l.length wh (o.drop t) = N ++ A ∧ OwnA u d ce q) => ?_)
    obtain ⟨ht1, ht2, ht3⟩ := hk
    have hel : ce.length ≤ 16384 := by rw [← ht2, List.length_append] at hgA; omega
    rcases Nat.lt_or_ge t o.length with hte | hte
    · have hdr : o.drop t = o[((t : Nat) : Int).toNat]?.getD default :: o.drop (t + 1) := by
        rw [List.drop_eq_getElem_cons hte, Int.toNat_natCast, List.getElem?_eq_getElem hte]; rfl
      rw [hdr] at ht2
      have hok2 := o2 (o[((t : Nat) : Int).toNat]?.getD default) (by rw [Int.toNat_natCast, List.getElem?_eq_getElem hte]; exact List.getElem_mem _)
      have hdl : (o.drop (t + 1)).length = o.length - ((t : Int) + 1).toNat := by rw [List.length_drop]; omega
      have hdA := arr_drop hoa (t + 1) (by omega) hocc
      have ht2 : ce ++ (awayI l.length wh (o[((t : Nat) : Int).toNat]?.getD default) (o.drop (t + 1)).length (o.drop (t + 1)) ++ awayAll l.length wh (o.drop (t + 1))) = N ++ A := ht2
      have hb : (ce ++ awayI l.length wh (o[((t : Nat) : Int).toNat]?.getD default) (o.drop (t + 1)).length (o.drop (t + 1))).length ≤ 1048576 := by
        rw [← ht2, ← List.append_assoc, List.length_append] at hgA; omega
      refine Wc.gl 14 [1] ?_
      refine Wl.q rfl (Qy.at (α := Int) T.sl27 rfl rfl (by assumption) (by omega)) ?_
      refine Wl.q rfl (Qy.loadG T.one3 rfl (Arr.cell (by assumption) (by omega) 0 rfl rfl)) ?_
      refine Wl.gl 10 [] ?_
      refine Wl.q rfl (Qy.cutL T.sl27 rfl rfl (by omega) (by omega)) ?_
      refine Wl.ll0 4 [] ?_
      have et : ((t : Int) + 1).toNat = t + 1 := by omega
      refine Wl.re 77 rfl (show _ = Value.slice (subA oa oc (t + 1) (Cells.sz Int)) (o.drop (t + 1)).length (oc - (t + 1)) by rw [hdl, et]; rfl) ?_
      refine Wl.re 81 rfl (show _ = Value.int .i64 ((o.drop (t + 1)).length : Nat) by congr 1; rw [hdl, et]; omega) ?_
      refine Wl.call 1 rfl T.fn85 rfl (c85n _ l.length b2 u d ce q wa wd wh _ (subA oa oc (t + 1) (Cells.sz Int)) _ (o.drop (t + 1)).length (o.drop (t + 1)) (o.drop (t + 1)).length hwl rfl ht3 hw2 hdA hl15 hok2 (by rw [hdl]; omega) (fun i hi => o2 i (List.mem_of_mem_drop hi)) (by rw [hdl]; omega) hwok hb) (tags_of ⟨rfl, rfl, trivial⟩) (fun v1 G1 Ho1 hle1 hp => ?_)
      obtain ⟨rfl, rfl, a1, d1, j1, ho1, rfl⟩ := hp
      refine Wl.ga 7 [] ?_
      refine Ar.re 67 rfl (show _ = Value.int .i64 ((t + 1 : Nat) : Int) from rfl) ?_
      refine Ar.again ((t + 1, _, (a1, d1, j1))) ?_ ?_ rfl ⟨rfl, rfl, rfl, rfl, rfl, rfl, rfl, trivial⟩ ⟨rfl, rfl, rfl, trivial⟩
      · refine ⟨hte, ?_, ho1⟩
        rw [← ht2]; simp only [List.append_assoc]
      · show o.length - (t + 1) < o.length - t
        omega
    · have hte : t = o.length := by omega
      subst hte
      rw [List.drop_length] at ht2
      have ht2 : ce = N ++ A := by rw [← ht2]; exact (List.append_nil _).symm
      refine Wc.gc 13 [0] ?_
      refine Wc.draw [0, 2, 1] [(2, 8), (1, 8)] T.mixed rfl ?_
      refine Gm.q 0 [] (by kernel_rfl) rfl rfl (Qy.move rfl) ?_
      refine Gm.q 1 [] (by kernel_rfl) rfl rfl (Qy.move rfl) ?_
      refine Gm.q 3 [] (by kernel_rfl) rfl rfl (Qy.move rfl) ?_
      refine Gm.q 4 [] (by kernel_rfl) rfl rfl (Qy.move rfl) ?_
      refine Gm.q 5 [] (by kernel_rfl) rfl rfl (Qy.sub rfl rfl (by omega)) ?_
      refine Gm.q 6 [] (by kernel_rfl) rfl rfl (Qy.at (α := Int) T.sl27 rfl rfl (by assumption) (by omega)) ?_
      refine Gm.q 7 [0] (by kernel_rfl) rfl rfl (Qy.loadG T.one3 rfl (Arr.cell (by assumption) (by omega) 0 rfl rfl)) ?_
      refine Gm.one 2 ⟨rfl, rfl, rfl, trivial⟩ (by first | exact Imm.le_refl _ | repeat (first | assumption | refine Imm.le_trans ?_ (by assumption))) (by kernel_rfl) rfl ?_
      refine Wl.call1 1 rfl T.fn87 rfl (c87 _ b2 _ _ _ _ (by omega) (by omega)) (tags_of ⟨rfl, trivial⟩) ?_
      refine Wl.on0 ?_
      refine Gm.one 8 ⟨rfl, rfl, rfl, trivial⟩ (by first | exact Imm.le_refl _ | repeat (first | assumption | refine Imm.le_trans ?_ (by assumption))) (by kernel_rfl) rfl ?_
      refine Wl.call 1 rfl T.fn86 rfl (c86 _ b2 _ u d ce q wa _ wd _ _ _ ht3 (by omega)) (tags_of ⟨rfl, rfl, trivial⟩) (fun v1 G1 Ho1 hle1 hp => ?_)
      obtain ⟨rfl, rfl, a1, d1, j1, ho1, rfl⟩ := hp
      refine Wl.on0 ?_
      refine Gm.doneA (by kernel_rfl) ⟨rfl, trivial⟩ (by first | exact Imm.le_refl _ | repeat (first | assumption | refine Imm.le_trans ?_ (by assumption))) ?_
      refine Ar.gc 10 [] ?_
      have hbl : ∀ m, (N ++ A ++ backAll l.length wh (o.drop m)).length ≤ 16384 := fun m => by
        have := backAll_le l.length wh o m
        rw [List.length_append, List.length_append] at hgl
        rw [List.length_append, List.length_append]; omega
      have hi0 : ce ++ timesI ((l.length : Int) + 0) (o[((l.length : Int) - 1).toNat]?.getD default) 1 = N ++ A ++ backAll l.length wh (o.drop (l.length - 1)) := by
        have e1 : o.drop (l.length - 1) = [o[l.length - 1]?.getD default] := by
          rw [List.drop_eq_getElem_cons (by omega), List.getElem?_eq_getElem (by omega), List.drop_eq_nil_of_le (by omega)]; rfl
        rw [e1, ht2, Int.add_zero, show ((l.length : Int) - 1).toNat = l.length - 1 by omega]; rfl
      refine Wc.re 15 rfl (show _ = Value.int .i64 (((l.length - 1 : Nat) : Int) - 1) by congr 1; omega) ?_
      refine Wc.loop (ι := Nat × List Sl.Instr × (Option Addr × Nat × List Value)) (fun (m, cf, (u, d, q)) => ([(15, .int .i64 ((m : Int) - 1)), (5, Go.Value.int Go.IntKind.i64 (↑(List.length l) : Int)), (6, Go.Value.pointer (Option.some (Go.Addr.mk b2 0 Option.none))), (1, Go.Value.slice oa (List.length o) oc), (4, Go.Value.pointer (Option.some (Go.Addr.mk b1 0 Option.none)))], [(1, some b2, .cells #[.int .i64 l.length, .slice u cf.length d, .slice wa l.length wd] 139), (2, u.map (·.block), Row 50 cf q), (0, Option.some b1, Go.Obj.cells #[Go.Value.int Go.IntKind.i64 0, Go.Value.int Go.IntKind.i64 0, Go.Value.slice Option.none 0 0, Go.Value.slice Option.none 0 0] 29)])) (fun (m, cf, (u, d, q)) => m ≤ l.length - 1 ∧ cf = N ++ A ++ backAll l.length wh (o.drop m) ∧ OwnA u d cf q) (fun (m, cf, (u, d, q)) => m) ((l.length - 1, _, (a1, d1, j1))) (⟨Nat.le_refl _, hi0, ho1⟩) ⟨rfl, rfl, rfl, rfl, rfl, trivial⟩ ⟨rfl, rfl, rfl, trivial⟩ (fun ⟨m, cf, (u, d, q)⟩ => fun (hk : m ≤ l.length - 1 ∧ cf = N ++ A ++ backAll l.length wh (o.drop m) ∧ OwnA u d cf q) => ?_)
      obtain ⟨hm1, hm2, hm3⟩ := hk
      rcases Nat.eq_zero_or_pos m with hm0 | hm0
      · subst hm0
        refine Wc.gl 17 [0] ?_
        refine Wl.q rfl (Qy.mul rfl rfl (by omega)) ?_
        refine Wl.ll0 5 [1] ?_
        refine Wl.q rfl (Qy.build (cs := [_, _, _, _]) T.st29 rfl rfl rfl) ?_
        refine Wl.alloc 3 rfl T.zero29 (fun b3 => ?_)
        refine Wl.gc 11 [3] ?_
        refine Wc.nilRow 4 (Row 3 ([] : List Int) []) ?_
        have hcf : cf = codeP l o := by
          rw [hm2, List.drop_zero]
          unfold codeP
          rw [hN, hWh, hA, List.append_assoc]
        refine Wc.loop (ι := Nat × (Option Addr × Nat × List Value)) (fun (t, (x, y, z)) => ([(119, .int .i64 (t : Int)), (118, Go.Value.int Go.IntKind.i64 (↑(List.length l) : Int)), (16, Go.Value.pointer (Option.some (Go.Addr.mk b3 0 Option.none))), (6, Go.Value.pointer (Option.some (Go.Addr.mk b2 0 Option.none))), (4, Go.Value.pointer (Option.some (Go.Addr.mk b1 0 Option.none)))], [(3, some b3, .cells #[.int .i64 l.length, .int .i64 (3 * (l.length : Int) + 1), .slice u cf.length d, .slice x (outsP l.length t).length y] 29), (4, x.map (·.block), Row 3 (outsP l.length t) z), (1, Option.some b2, Go.Obj.cells #[Go.Value.int Go.IntKind.i64 (↑(List.length l) : Int), Go.Value.slice u (List.length cf) d, Go.Value.slice wa (List.length l) wd] 139), (2, Option.map (fun x => Go.Addr.block x) u, Go.Sl.Row (α := Go.Sl.Instr) 50 (cf) (q)), (0, Option.some b1, Go.Obj.cells #[Go.Value.int Go.IntKind.i64 0, Go.Value.int Go.IntKind.i64 0, Go.Value.slice Option.none 0 0, Go.Value.slice Option.none 0 0] 29)])) (fun (t, (x, y, z)) => t ≤ l.length ∧ OwnA x y (outsP l.length t) z) (fun (t, (x, y, z)) => l.length - t) ((0, (none, 0, []))) (⟨Nat.zero_le _, OwnA.nil⟩) ⟨rfl, rfl, rfl, rfl, rfl, trivial⟩ ⟨rfl, rfl, rfl, rfl, rfl, trivial⟩ (fun ⟨t, (x, y, z)⟩ => fun (hk : t ≤ l.length ∧ OwnA x y (outsP l.length t) z) => ?_)
        obtain ⟨hx1, hx2⟩ := hk
        have hol : (outsP l.length t).length = t := outsP_len _ _
        rcases Nat.lt_or_ge t l.length with htl | htl
        · refine Wc.gc 17 [1] ?_
          refine Wc.draw [0, 2, 1, 4, 3] [(3, 8), (4, 6), (2, 6)] T.mixed rfl ?_
          refine Gm.q 0 [] (by kernel_rfl) rfl rfl (Qy.fieldAddr T.fa29_3 rfl) ?_
          refine Gm.q 1 [3] (by kernel_rfl) rfl rfl (Qy.load 3 T.one27 rfl rfl rfl) ?_
          refine Gm.q 2 [] (by kernel_rfl) rfl rfl (Qy.move rfl) ?_
          refine Gm.q 3 [] (by kernel_rfl) rfl rfl (Qy.move rfl) ?_
          refine Gm.one 4 ⟨rfl, rfl, rfl, rfl, rfl, trivial⟩ (by first | exact Imm.le_refl _ | repeat (first | assumption | refine Imm.le_trans ?_ (by assumption))) (by kernel_rfl) rfl ?_
          refine Wl.call1 1 rfl T.fn87 rfl (c87 _ b2 _ _ _ _ (by omega) (by omega)) (tags_of ⟨rfl, trivial⟩) ?_
          refine Wl.on0 ?_
          refine Gm.one 5 ⟨rfl, rfl, rfl, rfl, rfl, trivial⟩ (by first | exact Imm.le_refl _ | repeat (first | assumption | refine Imm.le_trans ?_ (by assumption))) (by kernel_rfl) rfl ?_
          refine Wl.lit (α := Int) 5 [((↑(List.length l) : Int) + (↑t : Int))] rfl T.sl27 T.el3 rfl rfl rfl rfl rfl (fun b4 => ?_)
          refine Wl.on0 ?_
          refine Gm.one 6 ⟨rfl, rfl, rfl, rfl, rfl, trivial⟩ (by first | exact Imm.le_refl _ | repeat (first | assumption | refine Imm.le_trans ?_ (by assumption))) (by kernel_rfl) rfl ?_
          refine Wl.append (α := Int) 4 rfl T.sl27 T.el3 rfl rfl rfl (by first | assumption | exact OwnA.nil | exact OwnA.made (by simp)) (Src.row 5 rfl) (by first | omega | (simp only [List.length_append, List.length_cons, List.length_nil, maxLen]; omega)) (by first | omega | (simp only [List.length_append, List.length_cons, List.length_nil, maxLen]; omega)) (fun a2 c2 junk2 ho2 => ?_)
          refine Wl.on0 ?_
          refine Gm.q 7 [] (by kernel_rfl) rfl rfl (Qy.fieldAddr T.fa29_3 rfl) ?_
          refine Gm.one 8 ⟨rfl, rfl, rfl, trivial⟩ (by first | exact Imm.le_refl _ | repeat (first | assumption | refine Imm.le_trans ?_ (by assumption))) (by kernel_rfl) rfl ?_
          refine Wl.store 3 T.one27 rfl rfl rfl rfl rfl ?_
          refine Wl.on0 ?_
          refine Gm.doneA (by kernel_rfl) ⟨rfl, rfl, trivial⟩ (by first | exact Imm.le_refl _ | repeat (first | assumption | refine Imm.le_trans ?_ (by assumption))) ?_
          refine Ar.ga 6 [] ?_
          refine Ar.re 119 rfl (show _ = Value.int .i64 ((t + 1 : Nat) : Int) from rfl) ?_
          refine Ar.reH 3 (.cells #[.int .i64 l.length, .int .i64 (3 * (l.length : Int) + 1), .slice u cf.length d, .slice a2 (outsP l.length (t + 1)).length c2] 29) rfl (by rw [outsP_succ]; rfl) ?_
          refine Ar.reH 4 (Row 3 (outsP l.length (t + 1)) junk2) rfl (by rw [outsP_succ]) ?_
          refine Ar.again ((t + 1, (a2, c2, junk2))) ?_ ?_ rfl ⟨rfl, rfl, rfl, rfl, rfl, trivial⟩ ⟨rfl, rfl, rfl, rfl, rfl, trivial⟩
          · exact ⟨htl, by rw [outsP_succ]; exact ho2⟩
          · show l.length - (t + 1) < l.length - t
            omega
        · have htl : t = l.length := by omega
          subst htl
          subst hcf
          refine Wc.ga 19 [0, 3, 0] ?_
          refine Ar.pick [2, 4, 0] (by decide) (Ar.out1 (.inr rfl) (Ho := Hp.only _ [0, 1]) rfl (.agg 2 rfl rfl T.agg29) (Hp.sub_only _ _) ?_)
          exact ⟨u, x, d, y, q, z, rfl, hm3, hx2, rfl⟩
      · obtain ⟨i, rfl⟩ : ∃ i, m = i + 1 := ⟨m - 1, by omega⟩
        refine Wc.re 15 rfl (show _ = Value.int .i64 (i : Int) by congr 1; omega) ?_
        have hin : i < o.length := by omega
        have hdr : o.drop i = o[((i : Nat) : Int).toNat]?.getD default :: o.drop (i + 1) := by
          rw [List.drop_eq_getElem_cons hin, Int.toNat_natCast, List.getElem?_eq_getElem hin]; rfl
        have hok2 := o2 (o[((i : Nat) : Int).toNat]?.getD default) (by rw [Int.toNat_natCast, List.getElem?_eq_getElem hin]; exact List.getElem_mem _)
        have hdl : (o.drop (i + 1)).length = o.length - (i + 1) := List.length_drop
        have hbk : cf ++ backI l.length wh (o[((i : Nat) : Int).toNat]?.getD default) (o.drop (i + 1)).length = N ++ A ++ backAll l.length wh (o.drop i) := by
          rw [hm2, hdr, backAll_cons _ _ _ (by omega)]; simp only [List.append_assoc]
        have hb : (cf ++ backI l.length wh (o[((i : Nat) : Int).toNat]?.getD default) (o.drop (i + 1)).length).length ≤ 1048576 := by
          rw [hbk]; have := hbl i; omega
        refine Wc.gl 16 [1] ?_
        refine Wl.q rfl (Qy.at (α := Int) T.sl27 rfl rfl (by assumption) (by omega)) ?_
        refine Wl.q rfl (Qy.loadG T.one3 rfl (Arr.cell (by assumption) (by omega) 0 rfl rfl)) ?_
        refine Wl.ll0 4 [] ?_
        refine Wl.re 107 rfl (show _ = Value.int .i64 ((o.drop (i + 1)).length : Nat) by congr 1; rw [hdl]; omega) ?_
        refine Wl.call 1 rfl T.fn88 rfl (c88n _ l.length b2 u d cf q wa wd wh _ (o.drop (i + 1)).length hwl hm3 hw2 hl15 hok2 (by rw [hdl]; omega) (by rw [hdl]; omega) (hwok _ (by omega)) hb) (tags_of ⟨rfl, rfl, trivial⟩) (fun v3 G3 Ho3 hle3 hp => ?_)
        obtain ⟨rfl, rfl, a3, d3, j3, ho3, rfl⟩ := hp
        refine Wl.ga 8 [] ?_
        refine Ar.re 15 rfl (show _ = Value.int .i64 ((i : Int) - 1) from rfl) ?_
        refine Ar.again ((i, _, (a3, d3, j3))) ?_ ?_ rfl ⟨rfl, rfl, rfl, rfl, rfl, trivial⟩ ⟨rfl, rfl, rfl, trivial⟩
        · exact ⟨by omega, hbk, ho3⟩
        · show i < i + 1
          omega
end Go.Proofs.YtelbhbbiejalhaaGreat
set_option maxRecDepth 100000
set_option linter.unusedVariables false
namespace Go.Proofs.YtelbhbbiejalhaaGreat
open Go Go.Sl
set_option maxHeartbeats 4000000
theorem cell_oneS {G : Imm} {b : Nat} {cs : List Value} {T : TypeId} {fz : Nat × Nat} (h : G b = some (.cells cs.toArray T fz)) (k : Nat) {v : Value} (hv : cs[k]? = some v) : G.cell b k = some v := by
  simp only [Imm.cell, h]; simpa using hv
/-- slices.Values -/
theorem c53 (G : Imm) (a : Option Addr) (n c : Nat) : Does Tryz.prog 53 [.slice a n c] G [] (fun v G' Ho => ∃ b, v = .func (.func 82) #[] #[.pointer (some ⟨b, 0, none⟩)] ∧ Ho = [] ∧ G' b = some (.cells [.slice a n c].toArray 27)) := by
  refine Does.enter Tryz.func53 rfl Tryz.ntmps53 rfl (fun w => ?_)
  refine Wc.gl 2 [] ?_
  refine Wl.box 0 rfl rfl rfl (fun b1 => ?_)
  refine Wl.gl 5 [] ?_
  refine Wl.q rfl (Qy.makeFunc rfl rfl) ?_
  refine Wl.ga 4 [] ?_
  refine Ar.freeze 0 rfl (fun G' hle hb => ?_)
  refine Ar.out1 (.inr rfl) (Ho := []) rfl (.tmp rfl) trivial ?_
  exact ⟨_, rfl, rfl, hb⟩
def encI (x : Int) : List Value := [.int .i64 x]
theorem c82 (G : Imm) (a : Option Addr) (c : Nat) (xs : List Int) (b : Nat) (hx : Arr G a xs) (hl : xs.length ≤ 1099511627776) (hb : G b = some (.cells [.slice a xs.length c].toArray 27)) :
    IterDoes Tryz.prog 82 [.pointer (some ⟨b, 0, none⟩)] G encI xs := by
  intro ι J inv stop ly i0 hi0 hY
  have hcell : G.cell b 0 = some (.slice a xs.length c) := cell_oneS hb 0 rfl
  refine Does.enter Tryz.func82 rfl Tryz.ntmps82 rfl (fun w => ?_)
  refine Wc.lift 1000 ?_
  refine Wc.gl 2 [] ?_
  refine Wl.q rfl (Qy.loadG T.one27 rfl (by assumption)) ?_
  refine Wl.gc 5 [] ?_
  refine Wc.loopT (ι := Nat × ι) 1000 (fun (m, s) => ([(7, .int .i64 (m : Int)), (6, Go.Value.int Go.IntKind.i64 (↑(List.length xs) : Int)), (5, Go.Value.slice a (List.length xs) c), (0, Go.Value.func (Go.Fn.yield ly) #[] #[])], [])) (fun (m, s) => J s) (fun (m, s) => m ≤ xs.length ∧ inv m s) (fun (m, s) => xs.length - m) ((0, i0)) (⟨Nat.zero_le _, hi0⟩) ⟨rfl, rfl, rfl, rfl, trivial⟩ trivial (by repeat (first | exact Hp.tl_self _ _ | refine Hp.tl_cons rfl ?_)) (fun ⟨m, s⟩ => fun (hk : m ≤ xs.length ∧ inv m s) => ?_)
  obtain ⟨hm1, hinv⟩ := hk
  refine Wc.gc 6 [] ?_
  refine Wc.cond rfl (fun hc1 => ?_) (fun hc1 => ?_)
  refine Wc.gl 6 [] ?_
  refine Wl.q rfl (Qy.at (α := Int) T.sl27 rfl rfl (by assumption) (by omega)) ?_
  refine Wl.q rfl (Qy.loadG T.one3 rfl (Arr.cell (by assumption) (by omega) 0 rfl rfl)) ?_
  refine Wl.gl 7 [] ?_
  rotate_left
  refine Wc.ga 4 [] ?_
  rotate_left
  · have hml : m < xs.length := by omega
    have hbx : xs[m]? = some (xs[((m : Nat) : Int).toNat]?.getD default) := by
      rw [Int.toNat_natCast, List.getElem?_eq_getElem hml]; rfl
    refine Wl.yieldT (A := []) 1000 rfl rfl rfl trivial (by repeat (first | exact Hp.tl_self _ _ | refine Hp.tl_cons rfl ?_)) rfl (hY m _ s hbx hinv) (fun vy Gy Hy hly hp => ?_)
    obtain ⟨rfl, s', rfl, hp⟩ := hp
    rcases hp with ⟨rfl, hinv'⟩ | ⟨rfl, hst⟩
    · refine Wl.ga 11 [0] ?_
      refine Ar.re 7 rfl (show _ = Value.int .i64 ((m + 1 : Nat) : Int) from rfl) ?_
      refine Ar.againGT ((m + 1, s')) ?_ ?_ rfl ⟨rfl, rfl, rfl, rfl, trivial⟩ trivial (by repeat (first | exact Hp.tl_self _ _ | refine Hp.tl_cons rfl ?_))
      · exact ⟨hml, hinv'⟩
      · show xs.length - (m + 1) < xs.length - m
        omega
    · refine Wl.ga 9 [1] ?_
      refine Ar.outT (k := 1000) (.inr rfl) rfl (by repeat (first | exact Hp.tl_self _ _ | refine Hp.tl_cons rfl ?_)) ⟨rfl, s', rfl, .inr hst⟩
  · have hm : m = xs.length := by omega
    subst hm
    refine Ar.outT (k := 1000) (.inl rfl) rfl (by repeat (first | exact Hp.tl_self _ _ | refine Hp.tl_cons rfl ?_)) ⟨rfl, s, rfl, .inl hinv⟩
theorem c114 (G : Imm) (a : Option Addr) (c : Nat) (xs : List Int) (b : Nat) (hx : Arr G a xs) (hl : xs.length ≤ 1048576) (hb : G b = some (.cells [.slice a xs.length c].toArray 27)) :
    Does Tryz.prog 114 [.slice none 0 0, .func (.func 82) #[] #[.pointer (some ⟨b, 0, none⟩)]] G [] (fun v G' Ho => ∃ (o : Option Addr) (d : Nat) (j : List Value), v = .slice o xs.length d ∧ OwnA o d xs j ∧ Ho = [(0, o.map (·.block), Row 3 xs j)] ∧ G' = G) := by
  refine Does.enterM Tryz.func114 rfl Tryz.ntmps114 rfl (fun w => ?_)
  refine Wc.gl 2 [] ?_
  refine Wl.box 0 rfl rfl rfl (fun b1 => ?_)
  refine Wl.gc 10 [] ?_
  refine Wc.nilRow 1 (Row 3 ([] : List Int) []) ?_
  refine Wc.rangeFunc (ι := List Int × (Option Addr × Nat × List Value)) 900 901 (fun (ys, (o, d, j)) => [(0, some b1, .cells #[.slice o ys.length d] 27), (1, o.map (·.block), Row 3 ys j)]) (fun k (ys, (o, d, j)) => ys = xs.take k ∧ OwnA o d ys j) (fun c (ys, (o, d, j)) => False) (([], (none, 0, []))) rfl T.fn82 (fun _ => rfl) rfl (c82 _ a c xs b hx (by omega) hb) (⟨rfl, OwnA.nil⟩) (Hp.got ⟨rfl, rfl, trivial⟩) ⟨rfl, fun _ => rfl⟩ (fun k x ⟨ys, (o, d, j)⟩ l dd q w0 hx hi => ?_) (fun ⟨ys, (o, d, j)⟩ dd hi => ?_) (fun ⟨ys, (o, d, j)⟩ dd c hi => ?_)
  · obtain ⟨hy, ho⟩ := hi
    have hkl : k < xs.length := (List.getElem?_eq_some_iff.1 hx).1
    have hyl : ys.length = k := by rw [hy, List.length_take]; omega
    refine Wc.ga 3 [] ?_
    refine Ar.begin 900 rfl ?_
    refine Wc.gl 4 [0] ?_
    refine Wl.lit (α := Int) 902 [(x)] rfl T.sl27 T.el3 rfl rfl rfl rfl rfl (fun b2 => ?_)
    refine Wl.append (α := Int) 1 rfl T.sl27 T.el3 rfl rfl rfl (by first | assumption | exact OwnA.nil | exact OwnA.made (by simp)) (Src.row 902 rfl) (by first | omega | (simp only [List.length_append, List.length_cons, List.length_nil, maxLen]; omega)) (by first | omega | (simp only [List.length_append, List.length_cons, List.length_nil, maxLen]; omega)) (fun a1 c1 junk1 ho1 => ?_)
    refine Wl.ga 3 [0] ?_
    refine Ar.roundEnd none (.inl ⟨rfl, rfl⟩) 900 rfl ⟨rfl, ((ys ++ [x], (a1, c1, junk1)), none), rfl, .inl ⟨rfl, rfl, ?_⟩⟩ (Hp.got ⟨rfl, rfl, rfl, rfl, trivial⟩)
    refine ⟨?_, ho1⟩
    rw [List.take_add_one, hx, hy]; rfl
  · obtain ⟨hy, ho⟩ := hi
    rw [List.take_length] at hy
    subst hy
    refine Ar.ga 9 [0] ?_
    refine Ar.collect (.inr rfl) 901 rfl ?_
    refine Ar.outOf (.inr rfl) ?_
    refine Ar.base (Ar.pick [1] (by decide) (Ar.out1 (.inr rfl) rfl (.tmp rfl) (Hp.sub_self 0 _) ?_))
    exact ⟨_, _, _, rfl, ho, rfl, rfl⟩
  · exact hi.elim
theorem c80 (G : Imm) (a : Option Addr) (c : Nat) (xs : List Int) (b : Nat) (hx : Arr G a xs) (hl : xs.length ≤ 1048576) (hb : G b = some (.cells [.slice a xs.length c].toArray 27)) :
    Does Tryz.prog 80 [.func (.func 82) #[] #[.pointer (some ⟨b, 0, none⟩)]] G [] (fun v G' Ho => ∃ (o : Option Addr) (d : Nat) (j : List Value), v = .slice o xs.length d ∧ OwnA o d xs j ∧ Ho = [(0, o.map (·.block), Row 3 xs j)] ∧ G' = G) := by
  refine Does.enter Tryz.func80 rfl Tryz.ntmps80 rfl (fun w => ?_)
  refine Wc.gl 8 [] ?_
  refine Wl.call 0 rfl T.fn114 rfl (c114 _ a c xs b hx hl hb) (tags_of trivial) (fun v1 G1 Ho1 hle1 hp => ?_)
  obtain ⟨o1, d1, j1, rfl, ho1, rfl, rfl⟩ := hp
  refine Wl.ga 4 [] ?_
  refine Ar.out1 (.inr rfl) (Ho := Hp.only _ [0]) rfl (.tmp rfl) (Hp.sub_only _ _) ?_
  exact ⟨_, _, _, rfl, ho1, rfl, rfl⟩
/-- slices.Sorted of slices.Values -/
def sortL (xs : List Int) : List Int := xs.mergeSort fun x y => decide (x ≤ y)
theorem sortL_len (xs : List Int) : (sortL xs).length = xs.length := List.length_mergeSort xs
theorem c52 (G : Imm) (a : Option Addr) (c : Nat) (xs : List Int) (b : Nat) (hx : Arr G a xs) (hl : xs.length ≤ 1048576) (hb : G b = some (.cells [.slice a xs.length c].toArray 27)) :
    Does Tryz.prog 52 [.func (.func 82) #[] #[.pointer (some ⟨b, 0, none⟩)]] G [] (fun v G' Ho => ∃ (o : Option Addr) (d : Nat), v = .slice o (sortL xs).length d ∧ Arr G' o (sortL xs) ∧ (sortL xs).length ≤ d ∧ Ho = []) := by
  refine Does.enter Tryz.func52 rfl Tryz.ntmps52 rfl (fun w => ?_)
  refine Wc.gl 8 [] ?_
  refine Wl.call 0 rfl T.fn80 rfl (c80 _ a c xs b hx hl hb) (tags_of trivial) (fun v1 G1 Ho1 hle1 hp => ?_)
  obtain ⟨o1, d1, j1, rfl, ho1, rfl, rfl⟩ := hp
  refine Wl.gl 6 [] ?_
  rcases ho1 with ⟨rfl, rfl, rfl, rfl⟩ | ⟨bb, rfl, h2, h3, h4⟩
  · refine Wl.call0 rfl T.fn81 rfl (c81N _ _) ?_
    refine Wl.ga 9 [] ?_
    refine Ar.out1 (.inr rfl) (Ho := []) rfl (.tmp rfl) trivial ?_
    exact ⟨none, 0, by rw [sortL_len], by rw [List.eq_nil_of_length_eq_zero (sortL_len [])]; exact Arr.nil _, Nat.le_of_eq (sortL_len []), rfl⟩
  · refine Wl.call 0 rfl T.fn81 rfl (c81 _ bb d1 xs j1 (by omega)) (tags_of ⟨rfl, trivial⟩) (fun v2 G2 Ho2 hle2 hp => ?_)
    obtain ⟨rfl, rfl, rfl⟩ := hp
    refine Wl.ga 9 [] ?_
    have hoS : OwnA (some ⟨bb, 0, none⟩) d1 (sortL xs) j1 := .inr ⟨bb, rfl, by rw [sortL_len]; exact h2, by rw [sortL_len]; exact h3, h4⟩
    refine Ar.freezeRow 0 rfl hoS (fun G8 hle8 hA8 => ?_)
    refine Ar.out1 (.inr rfl) (Ho := []) rfl (.tmp rfl) trivial ?_
    exact ⟨_, _, by rw [sortL_len], hA8, by rw [sortL_len]; exact h3, rfl⟩
theorem idx_nodup (n : Nat) : (idx n).Pairwise (· < ·) := by
  unfold idx
  rw [List.pairwise_map]
  exact List.Pairwise.imp (fun h => by omega) List.pairwise_lt_range
theorem idx_mem (n : Nat) (x : Int) : x ∈ idx n ↔ 0 ≤ x ∧ x < n := by
  unfold idx
  rw [List.mem_map]
  constructor
  · rintro ⟨k, hk, rfl⟩
    have := List.mem_range.1 hk
    omega
  · intro h
    exact ⟨x.toNat, List.mem_range.2 (by omega), by omega⟩
/-- sorted, they are the numbers themselves: an order -/
theorem sort_order (o : List Int) (n : Nat) : sortL o = idx n ↔ OrderP o n := by
  have hnd : (idx n).Nodup := (idx_nodup n).imp (fun h => by omega)
  have hp : (sortL o).Perm o := List.mergeSort_perm o _
  constructor
  · intro h
    rw [h] at hp
    refine ⟨by rw [← hp.length_eq, idx_len], fun x hx => (idx_mem n x).1 (hp.mem_iff.2 hx), hp.nodup_iff.1 hnd⟩
  · rintro ⟨h1, h2, h3⟩
    have hm : ∀ x, x ∈ o ↔ x ∈ idx n := fun x => by
      refine ⟨fun hx => (idx_mem n x).2 (h2 x hx), fun hx => Classical.byContradiction fun hno => ?_⟩
      have := List.Nodup.length_le_of_subset (List.nodup_cons.2 ⟨hno, h3⟩) (l₂ := idx n) (fun y hy => by
        rcases List.mem_cons.1 hy with rfl | hy
        · exact hx
        · exact (idx_mem n y).2 (h2 y hy))
      rw [List.length_cons, idx_len] at this; omega
    have hperm : (sortL o).Perm (idx n) := hp.trans ((List.perm_ext_iff_of_nodup h3 hnd).2 hm)
    exact List.Perm.eq_of_pairwise (le := fun a b : Int => a ≤ b) (fun a b _ _ h1 h2 => by omega) (sorted_le o) ((idx_nodup n).imp (fun h => by omega)) hperm
/-- slices.Equal of []int -/
theorem c51 (G : Imm) (a b : Option Addr) (c d : Nat) (xs ys : List Int) (hx : Arr G a xs) (hy : Arr G b ys) (hl : xs.length ≤ 1048576) :
    Does Tryz.prog 51 [.slice a xs.length c, .slice b ys.length d] G [] (fun v G' Ho => v = .bool (decide (xs = ys)) ∧ G' = G ∧ Ho = []) := by
  refine Does.enter Tryz.func51 rfl Tryz.ntmps51 rfl (fun w => ?_)
  refine Wc.gc 15 [] ?_
  refine Wc.cond rfl (fun hc1 => ?_) (fun hc1 => ?_)
  refine Wc.ga 7 [] ?_
  refine Ar.out1 (.inr rfl) (Ho := Hp.only _ []) rfl (.tmp rfl) (Hp.sub_only _ _) ?_
  rotate_left
  refine Wc.gc 11 [] ?_
  rotate_left
  · refine ⟨?_, rfl, rfl⟩
    congr 1
    refine (decide_eq_false fun h => hc1 ?_).symm
    rw [h]
  · have hle : xs.length = ys.length := Classical.byContradiction fun h => hc1 (by omega)
    refine Wc.loop (ι := Nat) (fun k => ([(13, .int .i64 (k : Int)), (12, Go.Value.int Go.IntKind.i64 (↑(List.length xs) : Int)), (0, Go.Value.slice a (List.length xs) c), (1, Go.Value.slice b (List.length ys) d)], [])) (fun k => k ≤ xs.length ∧ (∀ i, i < k → xs[i]?.getD default = ys[i]?.getD default)) (fun k => xs.length - k) (0) (⟨Nat.zero_le _, fun i h => absurd h (by omega)⟩) ⟨rfl, rfl, rfl, rfl, trivial⟩ trivial (fun k => fun (hk : k ≤ xs.length ∧ (∀ i, i < k → xs[i]?.getD default = ys[i]?.getD default)) => ?_)
    obtain ⟨hk1, hk2⟩ := hk
    rcases Nat.lt_or_ge k xs.length with hkl | hkl
    · refine Wc.gc 18 [1] ?_
      refine Wc.draw [] [] T.mixed rfl ?_
      refine Gm.q 0 [] (by kernel_rfl) rfl rfl (Qy.move rfl) ?_
      refine Gm.q 1 [] (by kernel_rfl) rfl rfl (Qy.move rfl) ?_
      refine Gm.q 2 [] (by kernel_rfl) rfl rfl (Qy.at (α := Int) T.sl27 rfl rfl (by assumption) (by omega)) ?_
      refine Gm.q 3 [] (by kernel_rfl) rfl rfl (Qy.loadG T.one3 rfl (Arr.cell (by assumption) (by omega) 0 rfl rfl)) ?_
      refine Gm.q 4 [] (by kernel_rfl) rfl rfl (Qy.move rfl) ?_
      refine Gm.q 5 [] (by kernel_rfl) rfl rfl (Qy.move rfl) ?_
      refine Gm.q 6 [] (by kernel_rfl) rfl rfl (Qy.at (α := Int) T.sl27 rfl rfl (by assumption) (by omega)) ?_
      refine Gm.q 7 [] (by kernel_rfl) rfl rfl (Qy.loadG T.one3 rfl (Arr.cell (by assumption) (by omega) 0 rfl rfl)) ?_
      refine Gm.q 8 [] (by kernel_rfl) rfl rfl (Qy.neq rfl rfl) ?_
      refine Gm.doneA (by kernel_rfl) trivial (by first | exact Imm.le_refl _ | repeat (first | assumption | refine Imm.le_trans ?_ (by assumption))) ?_
      refine Ar.next ?_
      refine Wc.cond rfl (fun hc2 => ?_) (fun hc2 => ?_)
      refine Wc.ga 11 [] ?_
      refine Ar.out1 (.inr rfl) (Ho := Hp.only _ []) rfl (.tmp rfl) (Hp.sub_only _ _) ?_
      rotate_left
      refine Wc.ga 7 [] ?_
      rotate_left
      · refine ⟨?_, rfl, rfl⟩
        congr 1
        refine (decide_eq_false fun h => hc2 ?_).symm
        rw [h]
      · refine Ar.re 13 rfl (show _ = Value.int .i64 ((k + 1 : Nat) : Int) from rfl) ?_
        refine Ar.again (k + 1) ?_ ?_ rfl ⟨rfl, rfl, rfl, rfl, trivial⟩ trivial
        · refine ⟨hkl, fun i hi => ?_⟩
          rcases Nat.lt_or_ge i k with h | h
          · exact hk2 i h
          · have e : i = k := by omega
            subst e
            exact Classical.byContradiction fun h => hc2 h
        · show xs.length - (k + 1) < xs.length - k
          omega
    · refine Wc.ga 18 [0] ?_
      refine Ar.out1 (.inr rfl) (Ho := Hp.only _ []) rfl (.tmp rfl) (Hp.sub_only _ _) ?_
      refine ⟨?_, rfl, rfl⟩
      congr 1
      refine (decide_eq_true ?_).symm
      apply List.ext_getElem hle
      intro i h1 h2
      have := hk2 i (by omega)
      rw [List.getElem?_eq_getElem h1, List.getElem?_eq_getElem h2] at this
      exact this
theorem c24Y (G : Imm) (a : Option Addr) (c : Nat) (l : List R2) (oa : Option Addr) (oc : Nat) (o : List Int) (ha : Arr G a l) (hoa : Arr G oa o) (hac : l.length ≤ c) (hocc : o.length ≤ oc) (hR : RightL l) (hO : OrderP o l.length) :
    Does Tryz.prog 24 [.slice a l.length c, .slice oa o.length oc] G [] (fun v G' Ho => ∃ (bc bo : Option Addr) (dc do_ : Nat) (j1 j2 : List Value), v = .tuple #[.agg #[.int .i64 (madeP l o).ins, .int .i64 (madeP l o).regs, .slice bc (madeP l o).code.length dc, .slice bo (madeP l o).outs.length do_], .int .i64 0] ∧ OwnA bc dc (madeP l o).code j1 ∧ OwnA bo do_ (madeP l o).outs j2 ∧
      Ho = [(0, bc.map (·.block), Row 50 (madeP l o).code j1), (1, bo.map (·.block), Row 3 (madeP l o).outs j2)]) := by
  have hl15 := hR.2.1
  have hol : o.length ≤ 1048576 := by rw [hO.1]; omega
  refine Does.enter Tryz.func24 rfl Tryz.ntmps24 rfl (fun w => ?_)
  refine Wc.gl 2 [] ?_
  refine Wl.alloc 0 rfl T.zero29 (fun b1 => ?_)
  refine Wl.gl 7 [] ?_
  refine Wl.call0 rfl T.fn20 rfl (c20Y _ _ _ l (by assumption) (by omega) hac hR) ?_
  refine Wl.ll0 5 [] ?_
  refine Wl.call 1 rfl T.fn53 rfl (c53 _ _ _ _) (tags_of trivial) (fun v1 G1 Ho1 hle1 hp => ?_)
  obtain ⟨vb1, rfl, rfl, hvb1⟩ := hp
  replace ha := ha.up hle1
  replace hoa := hoa.up hle1
  refine Wl.want rfl rfl ?_
  refine Wl.call 1 rfl T.fn52 rfl (c52 _ oa oc o vb1 hoa hol hvb1) (tags_of trivial) (fun v2 G2 Ho2 hle2 hp => ?_)
  obtain ⟨so2, sd2, rfl, hs2, hsd2, rfl⟩ := hp
  replace ha := ha.up hle2
  replace hoa := hoa.up hle2
  refine Wl.ll0 5 [] ?_
  refine Wl.call 1 rfl T.fn25 rfl (c25 _ l.length (by omega)) (tags_of trivial) (fun v3 G3 Ho3 hle3 hp => ?_)
  obtain ⟨na3, nc3, rfl, hna3, hnc3, rfl⟩ := hp
  replace hs2 := hs2.up hle3
  replace ha := ha.up hle3
  replace hoa := hoa.up hle3
  refine Wl.want rfl rfl ?_
  refine Wl.call0 rfl T.fn51 rfl (c51 _ so2 na3 _ _ (sortL o) (idx l.length) hs2 hna3 (by rw [sortL_len]; exact hol)) ?_
  refine Wl.want rfl rfl ?_
  refine Wl.q rfl (Qy.notD rfl) ?_
  refine Wl.gc 3 [] ?_
  refine Wc.cond rfl (fun hc1 => ?_) (fun hc1 => ?_)
  refine Wc.gl 2 [] ?_
  refine Wl.q rfl (Qy.build (cs := [_, _, _, _]) T.st29 rfl rfl rfl) ?_
  refine Wl.ga 6 [0] ?_
  rotate_left
  refine Wc.gl 6 [] ?_
  rotate_left
  skip
  have hso := sort_order o l.length
  have hne : sortL o = idx l.length := hso.2 hO
  skip
  · exact absurd hne hc1
  refine Wl.call 1 rfl T.fn54 rfl (c54 _ a c l oa oc o ha hoa hac hocc hR hO) (tags_of trivial) (fun v4 G4 Ho4 hle4 hp => ?_)
  obtain ⟨bc4, bo4, dc4, dd4, j4, z4, rfl, ho4, hp4, rfl⟩ := hp
  refine Wl.ga 5 [0] ?_
  refine Ar.pick [1, 2, 0] (by decide) (Ar.out2 (.inr rfl) (Ho := Hp.only _ [0, 1]) rfl (.agg 2 rfl rfl T.agg29) (.tmp rfl) (Hp.sub_only _ _) ?_)
  exact ⟨_, _, _, _, _, _, rfl, ho4, hp4, rfl⟩
theorem idx_order (n : Nat) : OrderP (idx n) n := ⟨idx_len n, fun x hx => (idx_mem n x).1 hx, (idx_nodup n).imp (fun h => by omega)⟩
theorem c8Y (G : Imm) (a : Option Addr) (c : Nat) (l : List R2) (ha : Arr G a l) (hac : l.length ≤ c) (hR : RightL l) :
    Does Tryz.prog 8 [.slice a l.length c] G [] (fun v G' Ho => ∃ (bc bo : Option Addr) (dc do_ : Nat) (j1 j2 : List Value), v = .tuple #[.agg #[.int .i64 (madeP l (idx l.length)).ins, .int .i64 (madeP l (idx l.length)).regs, .slice bc (madeP l (idx l.length)).code.length dc, .slice bo (madeP l (idx l.length)).outs.length do_], .int .i64 0] ∧ OwnA bc dc (madeP l (idx l.length)).code j1 ∧ OwnA bo do_ (madeP l (idx l.length)).outs j2 ∧
      Ho = [(0, bc.map (·.block), Row 50 (madeP l (idx l.length)).code j1), (1, bo.map (·.block), Row 3 (madeP l (idx l.length)).outs j2)]) := by
  have hl15 := hR.2.1
  refine Does.enter Tryz.func8 rfl Tryz.ntmps8 rfl (fun w => ?_)
  refine Wc.gl 2 [] ?_
  refine Wl.alloc 0 rfl T.zero29 (fun b1 => ?_)
  refine Wl.gl 8 [] ?_
  refine Wl.call 1 rfl T.fn25 rfl (c25 _ l.length (by omega)) (tags_of trivial) (fun v1 G1 Ho1 hle1 hp => ?_)
  obtain ⟨na1, nc1, rfl, hna1, hnc1, rfl⟩ := hp
  replace ha := ha.up hle1
  refine Wl.call 1 rfl T.fn24 rfl (c24Y _ a c l na1 nc1 (idx l.length) ha hna1 hac hnc1 hR (idx_order l.length)) (tags_of trivial) (fun v2 G2 Ho2 hle2 hp => ?_)
  obtain ⟨bc2, bo2, dc2, dd2, j2, z2, rfl, ho2, hp2, rfl⟩ := hp
  replace hna1 := hna1.up hle2
  replace ha := ha.up hle2
  refine Wl.ga 7 [0] ?_
  refine Ar.pick [1, 2, 0] (by decide) (Ar.out2 (.inr rfl) (Ho := Hp.only _ [0, 1]) rfl (.agg 2 rfl rfl T.agg29) (.tmp rfl) (Hp.sub_only _ _) ?_)
  exact ⟨_, _, _, _, _, _, rfl, ho2, hp2, rfl⟩
end Go.Proofs.YtelbhbbiejalhaaGreat
set_option maxRecDepth 100000
set_option linter.unusedVariables false
namespace Go.Proofs.YtelbhbbiejalhaaGreat
open Go Go.Sl
set_option maxHeartbeats 4000000
attribute [local irreducible] valB pb cmpZ lstWp p2 madeP codeP RightL OrderP
theorem okP_a {p : R2} (h : okP p) : p.a.natAbs ≤ 16 := by
  unfold okP near at h; omega
theorem okP_b {p : R2} (h : okP p) : p.b.natAbs ≤ 16 := by
  unfold okP near at h; omega
theorem i64_abs {f : List Int} (h : ∀ x ∈ f, -9223372036854775808 ≤ x ∧ x ≤ 9223372036854775807) : ∀ z ∈ f, z.natAbs ≤ 9223372036854775808 := fun z hz => by
  have := h z hz; omega
theorem big_val {G : Imm} {x : IV} {z : Int} {k : Nat} (h : Big G x z) (hz : z.natAbs ≤ k * (9223372036854775808 * 16 ^ 14)) (hk : k ≤ 15 := by omega) : x.n ≤ 4 := by
  refine Big.len h (m := 4) ?_
  have : k * (9223372036854775808 * 16 ^ 14) ≤ 15 * (9223372036854775808 * 16 ^ 14) := Nat.mul_le_mul_right _ hk
  have e : (15 * (9223372036854775808 * 16 ^ 14) : Nat) < 4294967296 ^ 4 := by decide
  unfold pb
  omega
end Go.Proofs.YtelbhbbiejalhaaGreat
set_option maxRecDepth 100000
set_option linter.unusedVariables false
namespace Go.Proofs.YtelbhbbiejalhaaGreat
open Go Go.Sl
set_option maxHeartbeats 4000000
attribute [local irreducible] valB pb cmpZ lstWp p2 madeP codeP RightL OrderP
theorem c9 (G : Imm) (b : Option Addr) (d : Nat) (f : List Int) (q : R2) (hb : Arr G b f) (hok : okP q) (h15 : f.length ≤ 15) (hf : ∀ x ∈ f, -9223372036854775808 ≤ x ∧ x ≤ 9223372036854775807) :
    Does Tryz.prog 9 [.slice b f.length d, .agg #[.int .i64 q.a, .int .i64 q.b]] G [] (fun v G' Ho => ∃ r : IV, v = .agg (Cells.enc r).toArray ∧ Big G' r (ev f q.a q.b) ∧ Ho = []) := by
  have hA9 : q.a.natAbs ≤ 16 := okP_a hok
  have hB9 : q.b.natAbs ≤ 16 := okP_b hok
  have hA8 : -9223372036854775808 ≤ q.a ∧ q.a ≤ 9223372036854775807 := by omega
  have hB8 : -9223372036854775808 ≤ q.b ∧ q.b ≤ 9223372036854775807 := by omega
  refine Does.enter Tryz.func9 rfl Tryz.ntmps9 rfl (fun w => ?_)
  refine Wc.gl 2 [] ?_
  refine Wl.box 0 rfl rfl rfl (fun b1 => ?_)
  refine Wl.alloc 1 rfl T.zero37 (fun b2 => ?_)
  refine Wl.gl 4 [] ?_
  refine Wl.k 2 rfl (c10 _ _ (by first | (exact hc9) | decide)) (fun v1 G1 Ho1 hle1 hp => ?_)
  obtain ⟨ro1, rfl, hro1, rfl⟩ := hp
  replace hb := hb.up hle1
  refine Wl.alloc 2 rfl T.zero37 (fun b3 => ?_)
  refine Wl.gc 10 [2] ?_

  refine Wc.reH 2 (.cells (Cells.enc ro1).toArray 37) rfl rfl ?_
  refine Wc.loopG (ι := Nat × Imm × IV) (fun (j, Gy, rv) => ([(6, .int .i64 (j : Int)), (3, .pointer (some ⟨b1, 0, none⟩)), (4, .pointer (some ⟨b2, 0, none⟩)), (5, .pointer (some ⟨b3, 0, none⟩)), (0, Go.Value.slice b (List.length f) d)], [(0, some b1, .cells #[.int .i64 q.a, .int .i64 q.b] 34), (1, some b2, .cells #[.bool false, .slice none 0 0] 37), (2, some b3, .cells (Cells.enc rv).toArray 37)])) (fun (j, Gy, rv) => Gy) (fun (j, Gy, rv) => j ≤ f.length ∧ G1.le Gy ∧ Big Gy rv (valTo f q.a q.b j)) (fun (j, Gy, rv) => f.length - j) ((0, G1, ro1)) (⟨Nat.zero_le _, Imm.le_refl _, hro1⟩) rfl ⟨rfl, rfl, rfl, rfl, rfl, trivial⟩ ⟨rfl, rfl, rfl, trivial⟩ (fun ⟨j, Gy, rv⟩ => fun (hk : j ≤ f.length ∧ G1.le Gy ∧ Big Gy rv (valTo f q.a q.b j)) => ?_)
  obtain ⟨hj, hgy, hrv⟩ := hk
  replace hb := hb.up hgy
  have hrvn : rv.n ≤ 536870912 := Nat.le_trans (big_val hrv (valTo_abs hA9 hB9 (i64_abs hf) (by omega) j hj)) (by decide)
  rcases Nat.lt_or_ge j f.length with hjf | hjf
  · have hc9 : -9223372036854775808 ≤ f[((j : Nat) : Int).toNat]?.getD default ∧ f[((j : Nat) : Int).toNat]?.getD default ≤ 9223372036854775807 := by
      rw [Int.toNat_natCast, List.getElem?_eq_getElem hjf]; exact hf _ (List.getElem_mem hjf)
    refine Wc.gl 18 [1] ?_
    refine Wl.q rfl (Qy.at (α := Int) T.sl23 rfl rfl (by assumption) (by omega)) ?_
    refine Wl.q rfl (Qy.loadG T.one2 rfl (Arr.cell (by assumption) (by omega) 0 rfl rfl)) ?_
    refine Wl.k 3 rfl (c10 _ _ (by first | (exact hc9) | decide)) (fun v2 G2 Ho2 hle2 hp => ?_)
    obtain ⟨ro2, rfl, hro2, rfl⟩ := hp
    replace hrv := hrv.up hle2
    replace hb := hb.up hle2
    refine Wl.alloc 3 rfl T.zero37 (fun b4 => ?_)
    refine Wl.gc 10 [3] ?_
    refine Wc.reH 3 (.cells (Cells.enc ro2).toArray 37) rfl rfl ?_
    refine Wc.loopG (ι := Nat × Imm × IV) (fun (k, Gz, rt) => ([(8, .int .i64 (k : Int)), (6, .int .i64 (j : Int)), (7, .pointer (some ⟨b4, 0, none⟩)), (3, .pointer (some ⟨b1, 0, none⟩)), (4, .pointer (some ⟨b2, 0, none⟩)), (5, .pointer (some ⟨b3, 0, none⟩)), (0, Go.Value.slice b (List.length f) d)], [(0, some b1, .cells #[.int .i64 q.a, .int .i64 q.b] 34), (1, some b2, .cells #[.bool false, .slice none 0 0] 37), (2, some b3, .cells (Cells.enc rv).toArray 37), (3, some b4, .cells (Cells.enc rt).toArray 37)])) (fun (k, Gz, rt) => Gz) (fun (k, Gz, rt) => k ≤ j ∧ G2.le Gz ∧ Big Gz rt (timesA q.a k (f[j]?.getD 0))) (fun (k, Gz, rt) => j - k) ((0, G2, ro2)) (⟨Nat.zero_le _, Imm.le_refl _, hro2⟩) rfl ⟨rfl, rfl, rfl, rfl, rfl, rfl, rfl, trivial⟩ ⟨rfl, rfl, rfl, rfl, trivial⟩ (fun ⟨k, Gz, rt⟩ => fun (hk : k ≤ j ∧ G2.le Gz ∧ Big Gz rt (timesA q.a k (f[j]?.getD 0))) => ?_)
    obtain ⟨hk0, hgz, hrt⟩ := hk
    replace hb := hb.up hgz
    replace hrv := hrv.up hgz
    have hfj : (f[j]?.getD 0).natAbs ≤ 9223372036854775808 := by
      rw [List.getElem?_eq_getElem hjf]; exact i64_abs hf _ (List.getElem_mem hjf)
    have hrtn : rt.n ≤ 536870912 := Nat.le_trans (big_val (k := 1) hrt (by rw [Nat.one_mul]; exact term_abs (m := 0) hA9 hA9 hfj (by omega))) (by decide)
    rcases Nat.lt_or_ge k j with hkj | hkj
    · refine Wc.gl 17 [1, 3, 0] ?_
      refine Wl.k 4 rfl (c11 _ _ _ _ (by assumption) hrtn (by first | exact hA8 | exact hB8)) (fun v3 G3 Ho3 hle3 hp => ?_)
      obtain ⟨ro3, rfl, hro3, rfl⟩ := hp
      replace hrt := hrt.up hle3
      replace hb := hb.up hle3
      replace hrv := hrv.up hle3
      refine Wl.ga 9 [3] ?_
      refine Ar.again ((k + 1, G3, ro3)) ?_ ?_ rfl ⟨rfl, rfl, rfl, rfl, rfl, rfl, rfl, trivial⟩ ⟨rfl, rfl, rfl, rfl, trivial⟩
      · exact ⟨by omega, Imm.le_trans hgz hle3, hro3⟩
      · show j - (k + 1) < j - k
        omega
    · have hkk : k = j := by omega
      subst hkk
      refine Wc.gc 23 [0] ?_
      refine Wc.loopG (ι := Nat × Imm × IV) (fun (m, Gw, rt2) => ([(9, .int .i64 ((k + 1 + m : Nat) : Int)), (6, .int .i64 (k : Int)), (7, .pointer (some ⟨b4, 0, none⟩)), (3, .pointer (some ⟨b1, 0, none⟩)), (4, .pointer (some ⟨b2, 0, none⟩)), (5, .pointer (some ⟨b3, 0, none⟩)), (0, Go.Value.slice b (List.length f) d)], [(0, some b1, .cells #[.int .i64 q.a, .int .i64 q.b] 34), (1, some b2, .cells #[.bool false, .slice none 0 0] 37), (2, some b3, .cells (Cells.enc rv).toArray 37), (3, some b4, .cells (Cells.enc rt2).toArray 37)])) (fun (m, Gw, rt2) => Gw) (fun (m, Gw, rt2) => k + 1 + m ≤ f.length ∧ Gz.le Gw ∧ Big Gw rt2 (timesA q.b m (timesA q.a k (f[k]?.getD 0)))) (fun (m, Gw, rt2) => f.length - m) ((0, Gz, rt)) (⟨by omega, Imm.le_refl _, hrt⟩) rfl ⟨rfl, rfl, rfl, rfl, rfl, rfl, rfl, trivial⟩ ⟨rfl, rfl, rfl, rfl, trivial⟩ (fun ⟨m, Gw, rt2⟩ => fun (hk : k + 1 + m ≤ f.length ∧ Gz.le Gw ∧ Big Gw rt2 (timesA q.b m (timesA q.a k (f[k]?.getD 0)))) => ?_)
      obtain ⟨hm0, hgw, hrt2⟩ := hk
      replace hb := hb.up hgw
      replace hrv := hrv.up hgw
      have hrtn : rt2.n ≤ 536870912 := Nat.le_trans (big_val (k := 1) hrt2 (by rw [Nat.one_mul]; exact term_abs hA9 hB9 hfj (by omega))) (by decide)
      rcases Nat.lt_or_ge (k + 1 + m) f.length with hmf | hmf
      · refine Wc.gl 18 [1, 3, 0] ?_
        refine Wl.k 4 rfl (c11 _ _ _ _ (by assumption) hrtn (by first | exact hA8 | exact hB8)) (fun v3 G3 Ho3 hle3 hp => ?_)
        obtain ⟨ro3, rfl, hro3, rfl⟩ := hp
        replace hrt2 := hrt2.up hle3
        replace hb := hb.up hle3
        replace hrv := hrv.up hle3
        refine Wl.ga 9 [3] ?_
        refine Ar.again ((m + 1, G3, ro3)) ?_ ?_ rfl ⟨rfl, rfl, rfl, rfl, rfl, rfl, rfl, trivial⟩ ⟨rfl, rfl, rfl, rfl, trivial⟩
        · exact ⟨by omega, Imm.le_trans hgw hle3, hro3⟩
        · show f.length - (m + 1) < f.length - m
          omega
      · have hmm : f.length - 1 - k = m := by omega
        have hT : timesA q.b m (timesA q.a k (f[k]?.getD 0)) = termV f q.a q.b k := by
          unfold termV; rw [hmm]
        rw [hT] at hrt2
        refine Wc.gl 18 [0, 2, 3] ?_
        refine Wl.k 4 rfl (c12 _ _ _ _ _ (by assumption) (by assumption) hrvn hrtn) (fun v3 G3 Ho3 hle3 hp => ?_)
        obtain ⟨ro3, rfl, hro3, rfl⟩ := hp
        replace hrt2 := hrt2.up hle3
        replace hb := hb.up hle3
        replace hrv := hrv.up hle3
        refine Wl.ga 9 [2] ?_
        refine Ar.again ((k + 1, G3, ro3)) ?_ ?_ rfl ⟨rfl, rfl, rfl, rfl, rfl, trivial⟩ ⟨rfl, rfl, rfl, trivial⟩
        · exact ⟨by omega, Imm.le_trans hgy (Imm.le_trans hle2 (Imm.le_trans hgz (Imm.le_trans hgw hle3))), hro3⟩
        · show f.length - (k + 1) < f.length - k
          omega
  · have hjj : j = f.length := by omega
    subst hjj
    rw [valTo_all] at hrv
    refine Wc.ga 22 [0, 2, 1] ?_
    refine Ar.out1 (.inr rfl) (Ho := []) rfl (.agg 1 rfl rfl T.agg37) trivial ?_
    exact ⟨rv, rfl, hrv, rfl⟩
end Go.Proofs.YtelbhbbiejalhaaGreat
set_option maxRecDepth 100000
set_option linter.unusedVariables false
set_option linter.unusedSectionVars false
namespace Go.Proofs.YtelbhbbiejalhaaGreat
open Go Go.Sl
set_option maxHeartbeats 4000000
theorem big_any {G : Imm} {x : IV} {z : Int} (h : Big G x z) (hz : z.natAbs < 4294967296 ^ 8) : x.n ≤ 536870912 :=
  Nat.le_trans (Big.len h (m := 8) (by unfold pb; omega)) (by decide)
attribute [local irreducible] valB pb cmpZ lstWp p2 madeP codeP RightL OrderP
section
variable (G : Imm) (a xa ya : Option Addr) (c xc yc : Nat) (l : List R2) (xs ys : List Int) (ha : Arr G a l) (hx : Arr G xa xs) (hy : Arr G ya ys) (hac : l.length ≤ c) (hl : l.length ≤ 1048576) (hxl : xs.length ≤ 1048576) (hyl : ys.length ≤ 1048576)
include ha hx hy hac hl hxl hyl
theorem c3N (hR : ¬ RightL l) : Does Tryz.prog 3 [.slice a l.length c, .slice xa xs.length xc, .slice ya ys.length yc] G [] LawTrue := by
  refine Does.enter Tryz.func3 rfl Tryz.ntmps3 rfl (fun w => ?_)
  refine Wc.gl 8 [] ?_
  refine Wl.k0 rfl (c6 _) ?_
  refine Wl.gl 9 [0] ?_
  refine Wl.k0 rfl (c7N _ a c l (by assumption) (by omega) hac hR) ?_
  refine Wl.gl 38 [1] ?_
  refine Wl.k0 rfl (c6 _) ?_
  refine Wl.ga 5 [] ?_
  refine Ar.e1 ?_
  all_goals exact ⟨rfl, rfl⟩
theorem c3L (hR : RightL l) (hn : ¬ (xs.length + ys.length = l.length + 1 ∧ 1 ≤ xs.length ∧ 1 ≤ ys.length)) : Does Tryz.prog 3 [.slice a l.length c, .slice xa xs.length xc, .slice ya ys.length yc] G [] LawTrue := by
  refine Does.enter Tryz.func3 rfl Tryz.ntmps3 rfl (fun w => ?_)
  by_cases h1 : xs.length + ys.length = l.length + 1
  · by_cases h2 : xs.length < 1
    · refine Wc.gl 8 [] ?_
      refine Wl.k0 rfl (c6 _) ?_
      refine Wl.gl 9 [0] ?_
      refine Wl.k0 rfl (c7Y _ a c l (by assumption) (by omega) hac hR) ?_
      refine Wl.gl 29 [] ?_
      refine Wl.no 36 rfl (by first | assumption | omega) ?_
      refine Wl.ll0 8 [] ?_
      refine Wl.yes 41 rfl (by first | assumption | omega) ?_
      refine Wl.gl 13 [1] ?_
      refine Wl.k0 rfl (c6 _) ?_
      refine Wl.ga 5 [] ?_
      refine Ar.e1 ?_
      all_goals exact ⟨rfl, rfl⟩
    · have h3 : ys.length < 1 := by omega
      refine Wc.gl 8 [] ?_
      refine Wl.k0 rfl (c6 _) ?_
      refine Wl.gl 9 [0] ?_
      refine Wl.k0 rfl (c7Y _ a c l (by assumption) (by omega) hac hR) ?_
      refine Wl.gl 29 [] ?_
      refine Wl.no 36 rfl (by first | assumption | omega) ?_
      refine Wl.ll0 8 [] ?_
      refine Wl.no 41 rfl (by first | assumption | omega) ?_
      refine Wl.ll0 8 [] ?_
      refine Wl.yes 46 rfl (by first | assumption | omega) ?_
      refine Wl.gl 8 [1] ?_
      refine Wl.k0 rfl (c6 _) ?_
      refine Wl.ga 5 [] ?_
      refine Ar.e1 ?_
      all_goals exact ⟨rfl, rfl⟩
  · refine Wc.gl 8 [] ?_
    refine Wl.k0 rfl (c6 _) ?_
    refine Wl.gl 9 [0] ?_
    refine Wl.k0 rfl (c7Y _ a c l (by assumption) (by omega) hac hR) ?_
    refine Wl.gl 29 [] ?_
    refine Wl.yes 36 rfl (by first | assumption | omega) ?_
    refine Wl.gl 18 [1] ?_
    refine Wl.k0 rfl (c6 _) ?_
    refine Wl.ga 5 [] ?_
    refine Ar.e1 ?_
    all_goals exact ⟨rfl, rfl⟩
theorem c3Y (hR : RightL l) (hn : xs.length + ys.length = l.length + 1) (hx1 : 1 ≤ xs.length) (hyp : 1 ≤ ys.length) (hxf : ∀ x ∈ xs, -9223372036854775808 ≤ x ∧ x ≤ 9223372036854775807) (hyf : ∀ x ∈ ys, -9223372036854775808 ≤ x ∧ x ≤ 9223372036854775807) : Does Tryz.prog 3 [.slice a l.length c, .slice xa xs.length xc, .slice ya ys.length yc] G [] LawTrue := by
  have hrr : 1 ≤ l.length ∧ l.length ≤ 15 ∧ (∀ i, i < l.length → okP (l[i]?.getD default)) := by
    unfold RightL at hR; exact ⟨hR.1, hR.2.1, hR.2.2.1⟩
  obtain ⟨hr1, hr15, hr2⟩ := hrr
  have hO : OrderP (idx l.length) l.length := idx_order _
  have hRr := made_right hR hO
  have hans := made_prod (xs := xs) (ys := ys) hR hO hn
  have hins : (madeP l (idx l.length)).ins = (l.length : Int) := by unfold madeP; rfl
  refine Does.enter Tryz.func3 rfl Tryz.ntmps3 rfl (fun w => ?_)
  refine Wc.nilRow 40 (Row 37 ([] : List IV) []) ?_
  refine Wc.gl 8 [] ?_
  refine Wl.k0 rfl (c6 _) ?_
  refine Wl.gl 9 [0] ?_
  refine Wl.k0 rfl (c7Y _ a c l (by assumption) (by omega) hac hR) ?_
  refine Wl.gl 29 [] ?_
  refine Wl.no 36 rfl (by first | assumption | omega) ?_
  refine Wl.ll0 8 [] ?_
  refine Wl.no 41 rfl (by first | assumption | omega) ?_
  refine Wl.ll0 8 [] ?_
  refine Wl.no 46 rfl (by first | assumption | omega) ?_
  refine Wl.ll0 1 [] ?_
  refine Wl.k0 rfl (c6 _) ?_
  refine Wl.gl 11 [0] ?_
  refine Wl.k 30 rfl (c8Y _ a c l ha hac hR) (fun v1 G1 Ho1 hle1 hp => ?_)
  obtain ⟨pc, po, pd, pe, y1, y2, rfl, hy1, hy2, rfl⟩ := hp
  replace ha := ha.up hle1
  replace hx := hx.up hle1
  replace hy := hy.up hle1
  generalize madeP l (idx l.length) = p at *
  refine Wl.freezeRow 30 rfl hy1 (fun G2 hle2 hA => ?_)
  refine Wl.freezeRow 31 rfl hy2 (fun G3 hle3 hB => ?_)
  replace hA := hA.up hle3
  replace ha := (ha.up hle2).up hle3
  replace hx := (hx.up hle2).up hle3
  replace hy := (hy.up hle2).up hle3
  refine Wl.ll0 3 [] ?_
  refine Wl.alloc 41 rfl T.zero29 (fun b1 => ?_)
  refine Wl.gc 31 [41, 0] ?_
  refine Wc.loopG (ι := Nat × Imm × List IV × (Option Addr × Nat × List Value)) (fun (i, Gx, r, (o, dd, jk)) => ([(12, .int .i64 (i : Int)), (11, .slice o r.length dd), (10, .func (.func 9) #[] #[]), (8, Go.Value.pointer (Option.some (Go.Addr.mk b1 0 Option.none))), (6, Go.Value.bool Bool.false), (0, Go.Value.slice a (List.length l) c), (1, Go.Value.slice xa (List.length xs) xc), (2, Go.Value.slice ya (List.length ys) yc)], [(40, o.map (·.block), Row 37 r jk), (41, Option.some b1, Go.Obj.cells #[Go.Value.int Go.IntKind.i64 (Go.Proofs.YtelbhbbiejalhaaGreat.PV.ins p), Go.Value.int Go.IntKind.i64 (Go.Proofs.YtelbhbbiejalhaaGreat.PV.regs p), Go.Value.slice pc (List.length (Go.Proofs.YtelbhbbiejalhaaGreat.PV.code p)) pd, Go.Value.slice po (List.length (Go.Proofs.YtelbhbbiejalhaaGreat.PV.outs p)) pe] 29)])) (fun (i, Gx, r, (o, dd, jk)) => Gx) (fun (i, Gx, r, (o, dd, jk)) => i ≤ l.length ∧ G3.le Gx ∧ r.length = i ∧ Bigs Gx r ((l.map fun p => ev xs p.a p.b * ev ys p.a p.b).take i) ∧ OwnA o dd r jk) (fun (i, Gx, r, (o, dd, jk)) => l.length - i) ((0, G3, [], (none, 0, []))) (⟨Nat.zero_le _, Imm.le_refl _, rfl, by rw [List.take_zero]; exact Bigs.nil _, OwnA.nil⟩) rfl ⟨rfl, rfl, rfl, rfl, rfl, rfl, rfl, rfl, trivial⟩ ⟨rfl, rfl, trivial⟩ (fun ⟨i, Gx, r, (o, dd, jk)⟩ => fun (hk : i ≤ l.length ∧ G3.le Gx ∧ r.length = i ∧ Bigs Gx r ((l.map fun p => ev xs p.a p.b * ev ys p.a p.b).take i) ∧ OwnA o dd r jk) => ?_)
  obtain ⟨hi, hgx, hri, hbs, hob⟩ := hk
  replace ha := ha.up hgx
  replace hx := hx.up hgx
  replace hy := hy.up hgx
  replace hA := hA.up hgx
  replace hB := hB.up hgx
  rcases Nat.lt_or_ge i l.length with hil | hil
  · have hok : okP (l[((i : Nat) : Int).toNat]?.getD default) := hr2 i hil
    have e8 : (15 * (9223372036854775808 * 16 ^ 14) : Nat) < 4294967296 ^ 8 := by decide
    have hevx : (ev xs (l[((i : Nat) : Int).toNat]?.getD default).a (l[((i : Nat) : Int).toNat]?.getD default).b).natAbs < 4294967296 ^ 8 := Nat.lt_of_le_of_lt (ev_abs (okP_a hok) (okP_b hok) (i64_abs hxf) (by omega)) e8
    have hevy : (ev ys (l[((i : Nat) : Int).toNat]?.getD default).a (l[((i : Nat) : Int).toNat]?.getD default).b).natAbs < 4294967296 ^ 8 := Nat.lt_of_le_of_lt (ev_abs (okP_a hok) (okP_b hok) (i64_abs hyf) (by omega)) e8
    refine Wc.gc 14 [1] ?_
    refine Wc.draw [41, 40] [(40, 17), (40, 14), (41, 14), (40, 7), (41, 7)] T.mixed rfl ?_
    refine Gm.c 0 [] [] ?_
    refine Gm.c 1 [] [] ?_
    refine Gm.c 2 [] [] ?_
    refine Gm.c 3 [] [] ?_
    refine Gm.c 4 [] [] ?_
    refine Gm.u 5 [] rfl (Qy.at (α := R2) T.sl22 rfl rfl (by assumption) (by omega)) ?_
    refine Gm.u 6 [] rfl (Qy.loadsG T.agg34 rfl (Arr.elem (by assumption) (by omega)) rfl) ?_
    refine Gm.c 8 [] [] ?_
    refine Gm.c 9 [] [] ?_
    refine Gm.c 10 [] [] ?_
    refine Gm.c 11 [] [] ?_
    refine Gm.u 12 [] rfl (Qy.at (α := R2) T.sl22 rfl rfl (by assumption) (by omega)) ?_
    refine Gm.u 13 [] rfl (Qy.loadsG T.agg34 rfl (Arr.elem (by assumption) (by omega)) rfl) ?_
    refine Gm.o1 7 ?_
    refine Wl.callV (fst := []) (cap := []) 42 rfl T.fn9 rfl rfl (c9 _ _ _ _ (l[((i : Nat) : Int).toNat]?.getD default) (by assumption) hok (by omega) (by assumption)) (tags_of trivial) (fun v4 G4 Ho4 hle4 hp => ?_)
    obtain ⟨rv4, rfl, hrv4, rfl⟩ := hp
    replace hbs := hbs.up hle4
    replace ha := ha.up hle4
    replace hx := hx.up hle4
    replace hy := hy.up hle4
    replace hA := hA.up hle4
    replace hB := hB.up hle4
    refine Wl.on0 ?_
    refine Gm.one 14 trivial (by first | exact Imm.le_refl _ | repeat (first | assumption | refine Imm.le_trans ?_ (by assumption))) (by kernel_rfl) rfl ?_
    refine Wl.callV (fst := []) (cap := []) 42 rfl T.fn9 rfl rfl (c9 _ _ _ _ (l[((i : Nat) : Int).toNat]?.getD default) (by assumption) hok (by omega) (by assumption)) (tags_of trivial) (fun v5 G5 Ho5 hle5 hp => ?_)
    obtain ⟨rv5, rfl, hrv5, rfl⟩ := hp
    replace hrv4 := hrv4.up hle5
    replace hbs := hbs.up hle5
    replace ha := ha.up hle5
    replace hx := hx.up hle5
    replace hy := hy.up hle5
    replace hA := hA.up hle5
    replace hB := hB.up hle5
    refine Wl.on0 ?_
    refine Gm.one 15 trivial (by first | exact Imm.le_refl _ | repeat (first | assumption | refine Imm.le_trans ?_ (by assumption))) (by kernel_rfl) rfl ?_
    refine Wl.k 42 rfl (c13 _ _ _ _ _ (by assumption) (by assumption) (big_any (by assumption) (by assumption)) (big_any (by assumption) (by assumption))) (fun v6 G6 Ho6 hle6 hp => ?_)
    obtain ⟨rm6, rfl, hrm6, rfl⟩ := hp
    replace hrv5 := hrv5.up hle6
    replace hrv4 := hrv4.up hle6
    replace hbs := hbs.up hle6
    replace ha := ha.up hle6
    replace hx := hx.up hle6
    replace hy := hy.up hle6
    replace hA := hA.up hle6
    replace hB := hB.up hle6
    refine Wl.on0 ?_
    refine Gm.one 16 trivial (by first | exact Imm.le_refl _ | repeat (first | assumption | refine Imm.le_trans ?_ (by assumption))) (by kernel_rfl) rfl ?_
    refine Wl.lit (α := IV) 42 [(rm6)] rfl T.sl42 T.el37 rfl rfl rfl rfl rfl (fun b2 => ?_)
    refine Wl.on0 ?_
    refine Gm.one 17 trivial (by first | exact Imm.le_refl _ | repeat (first | assumption | refine Imm.le_trans ?_ (by assumption))) (by kernel_rfl) rfl ?_
    refine Wl.append (α := IV) 40 rfl T.sl42 T.el37 rfl rfl rfl (by first | assumption | exact OwnA.nil | exact OwnA.made (by simp)) (Src.row 42 rfl) (by first | omega | (simp only [List.length_append, List.length_cons, List.length_nil, maxLen]; omega)) (by first | omega | (simp only [List.length_append, List.length_cons, List.length_nil, maxLen]; omega)) (fun a1 c1 junk1 ho1 => ?_)
    refine Wl.on0 ?_
    refine Gm.c 18 [] [] ?_
    refine Gm.doneA (by kernel_rfl) trivial (by first | exact Imm.le_refl _ | repeat (first | assumption | refine Imm.le_trans ?_ (by assumption))) ?_
    refine Ar.ga 7 [] ?_
    refine Ar.again ((i + 1, G6, r ++ [rm6], (a1, c1, junk1))) ?_ ?_ rfl ⟨rfl, rfl, rfl, rfl, rfl, rfl, rfl, rfl, trivial⟩ ⟨rfl, rfl, trivial⟩
    · refine ⟨by omega, Imm.le_trans hgx (Imm.le_trans hle4 (Imm.le_trans hle5 hle6)), by rw [List.length_append, hri]; rfl, ?_, ho1⟩
      have e : (l.map fun p => ev xs p.a p.b * ev ys p.a p.b).take (i + 1) = (l.map fun p => ev xs p.a p.b * ev ys p.a p.b).take i ++ [ev xs (l[i]?.getD default).a (l[i]?.getD default).b * ev ys (l[i]?.getD default).a (l[i]?.getD default).b] := by
        rw [List.take_add_one, List.getElem?_map, List.getElem?_eq_getElem hil]; rfl
      rw [e]
      exact Bigs.snoc hbs hrm6
    · show l.length - (i + 1) < l.length - i
      omega
  · have hii : i = l.length := by omega
    subst hii
    rw [List.take_of_length_le (by rw [List.length_map]; exact Nat.le_refl _)] at hbs
    have hm8 : Below 8 (l.map fun p => ev xs p.a p.b * ev ys p.a p.b) := fun z hz => by
      obtain ⟨q, hq, rfl⟩ := List.mem_map.1 hz
      obtain ⟨k, hk, rfl⟩ := List.mem_iff_getElem.1 hq
      have hok := hr2 k hk
      rw [List.getElem?_eq_getElem hk] at hok
      have h1 : (ev xs l[k].a l[k].b).natAbs ≤ 15 * (9223372036854775808 * 16 ^ 14) := ev_abs (okP_a hok) (okP_b hok) (i64_abs hxf) (by omega)
      have h2 : (ev ys l[k].a l[k].b).natAbs ≤ 15 * (9223372036854775808 * 16 ^ 14) := ev_abs (okP_a hok) (okP_b hok) (i64_abs hyf) (by omega)
      have e : (15 * (9223372036854775808 * 16 ^ 14) * (15 * (9223372036854775808 * 16 ^ 14)) : Nat) < 4294967296 ^ 8 := by decide
      have h3 : (ev xs l[k].a l[k].b * ev ys l[k].a l[k].b).natAbs < 4294967296 ^ 8 := by
        rw [Int.natAbs_mul]
        exact Nat.lt_of_le_of_lt (Nat.mul_le_mul h1 h2) e
      show ((ev xs l[k].a l[k].b * ev ys l[k].a l[k].b).natAbs : Int) < pb 8
      unfold pb
      omega
    refine Wc.gl 19 [0, 41] ?_
    refine Wl.freezeRow 40 rfl hob (fun G9 hle9 hAin => ?_)
    replace hA := hA.up hle9
    replace hB := hB.up hle9
    replace hx := hx.up hle9
    replace hy := hy.up hle9
    replace hbs := hbs.up hle9
    refine Wl.k 50 rfl (c14 _ p pc po o pd pe dd r _ 8 hA hB hAin hbs hm8 (by decide) hRr (by rw [hri, hins])) (fun v8 G8 Ho8 hle8 hp => ?_)
    obtain ⟨rfl, hp⟩ := hp
    rcases hp with ⟨os, ob, orr, oc, e1, rfl, hoA, hoB, hol⟩ | ⟨e1, _⟩
    · rw [hans] at e1
      obtain rfl := Option.some.inj e1
      replace hx := hx.up hle8
      replace hy := hy.up hle8
      refine Wl.gl 13 [] ?_
      refine Wl.make (α := IV) 42 rfl T.sl42 T.el37 rfl rfl (by omega) (by omega) (fun b2 => ?_)
      refine Wl.gc 10 [] ?_
      refine Wc.re 16 rfl (show _ = Value.slice (some ⟨b2, 0, none⟩) (List.replicate l.length (default : IV)).length l.length by rw [List.length_replicate, List.length_replicate, Int.toNat_natCast]) ?_
      refine Wc.reH 42 (Row 37 (List.replicate l.length (default : IV)) []) rfl (by rw [Int.toNat_natCast]) ?_
      have hown : ∀ q : List IV, q.length = l.length → OwnA (some ⟨b2, 0, none⟩) l.length q [] := fun q hq => .inr ⟨b2, rfl, by rw [hq]; rfl, by omega, by simp only [maxLen]; omega⟩
      refine Wc.loopG (ι := Nat × Imm × List IV) (fun (i, Gy, q) => ([(17, .int .i64 (i : Int)), (16, .slice (some ⟨b2, 0, none⟩) q.length l.length), (13, .slice ob orr.length oc), (15, .int .i64 0), (6, Go.Value.bool Bool.false), (1, Go.Value.slice xa (List.length xs) xc), (2, Go.Value.slice ya (List.length ys) yc)], [(42, some b2, Row 37 q []), (41, Option.some b1, Go.Obj.cells #[Go.Value.int Go.IntKind.i64 (Go.Proofs.YtelbhbbiejalhaaGreat.PV.ins p), Go.Value.int Go.IntKind.i64 (Go.Proofs.YtelbhbbiejalhaaGreat.PV.regs p), Go.Value.slice pc (List.length (Go.Proofs.YtelbhbbiejalhaaGreat.PV.code p)) pd, Go.Value.slice po (List.length (Go.Proofs.YtelbhbbiejalhaaGreat.PV.outs p)) pe] 29)])) (fun (i, Gy, q) => Gy) (fun (i, Gy, q) => i ≤ xs.length ∧ G8.le Gy ∧ q.length = l.length ∧ Bigs Gy q (prodTo xs ys l.length i)) (fun (i, Gy, q) => xs.length - i) ((0, G8, List.replicate l.length (default : IV))) (⟨Nat.zero_le _, Imm.le_refl _, List.length_replicate, Bigs.zeros _ _⟩) rfl ⟨rfl, rfl, rfl, rfl, rfl, rfl, rfl, trivial⟩ ⟨rfl, rfl, trivial⟩ (fun ⟨i, Gy, q⟩ => fun (hk : i ≤ xs.length ∧ G8.le Gy ∧ q.length = l.length ∧ Bigs Gy q (prodTo xs ys l.length i)) => ?_)
      obtain ⟨hi2, hgy, hql, hqb⟩ := hk
      replace hx := hx.up hgy
      replace hy := hy.up hgy
      replace hoA := hoA.up hgy
      replace hoB := hoB.up hgy
      rcases Nat.lt_or_ge i xs.length with hix | hix
      · have hx9 : -9223372036854775808 ≤ xs[((i : Nat) : Int).toNat]?.getD default ∧ xs[((i : Nat) : Int).toNat]?.getD default ≤ 9223372036854775807 := by
          rw [Int.toNat_natCast, List.getElem?_eq_getElem hix]; exact hxf _ (List.getElem_mem hix)
        refine Wc.gc 20 [1] ?_
        refine Wc.loopG (ι := Nat × Imm × List IV) (fun (j, Gz, q) => ([(18, .int .i64 (j : Int)), (17, .int .i64 (i : Int)), (16, .slice (some ⟨b2, 0, none⟩) q.length l.length), (13, .slice ob orr.length oc), (15, .int .i64 0), (6, Go.Value.bool Bool.false), (1, Go.Value.slice xa (List.length xs) xc), (2, Go.Value.slice ya (List.length ys) yc)], [(42, some b2, Row 37 q []), (41, Option.some b1, Go.Obj.cells #[Go.Value.int Go.IntKind.i64 (Go.Proofs.YtelbhbbiejalhaaGreat.PV.ins p), Go.Value.int Go.IntKind.i64 (Go.Proofs.YtelbhbbiejalhaaGreat.PV.regs p), Go.Value.slice pc (List.length (Go.Proofs.YtelbhbbiejalhaaGreat.PV.code p)) pd, Go.Value.slice po (List.length (Go.Proofs.YtelbhbbiejalhaaGreat.PV.outs p)) pe] 29)])) (fun (j, Gz, q) => Gz) (fun (j, Gz, q) => j ≤ ys.length ∧ Gy.le Gz ∧ q.length = l.length ∧ Bigs Gz q (rowTo xs ys i (prodTo xs ys l.length i) j)) (fun (j, Gz, q) => ys.length - j) ((0, Gy, q)) (⟨Nat.zero_le _, Imm.le_refl _, hql, hqb⟩) rfl ⟨rfl, rfl, rfl, rfl, rfl, rfl, rfl, rfl, trivial⟩ ⟨rfl, rfl, trivial⟩ (fun ⟨j, Gz, q⟩ => fun (hk : j ≤ ys.length ∧ Gy.le Gz ∧ q.length = l.length ∧ Bigs Gz q (rowTo xs ys i (prodTo xs ys l.length i) j)) => ?_)
        obtain ⟨hj2, hgz, hql, hqb⟩ := hk
        replace hx := hx.up hgz
        replace hy := hy.up hgz
        replace hoA := hoA.up hgz
        replace hoB := hoB.up hgz
        rcases Nat.lt_or_ge j ys.length with hjy | hjy
        · have hy9 : -9223372036854775808 ≤ ys[((j : Nat) : Int).toNat]?.getD default ∧ ys[((j : Nat) : Int).toNat]?.getD default ≤ 9223372036854775807 := by
            rw [Int.toNat_natCast, List.getElem?_eq_getElem hjy]; exact hyf _ (List.getElem_mem hjy)
          have hor := hown q hql
          have hxa : (xs[((i : Nat) : Int).toNat]?.getD default).natAbs < 4294967296 ^ 8 := by omega
          have hya : (ys[((j : Nat) : Int).toNat]?.getD default).natAbs < 4294967296 ^ 8 := by omega
          have hij : 0 ≤ ((i : Int) + (j : Int)) ∧ ((i : Int) + (j : Int)) < q.length := by omega
          have hqB := hqb.at hij
          have hxi : (xs[((i : Nat) : Int).toNat]?.getD default).natAbs ≤ 9223372036854775808 := by omega
          have hyj : (ys[((j : Nat) : Int).toNat]?.getD default).natAbs ≤ 9223372036854775808 := by omega
          have hxy : (xs[((i : Nat) : Int).toNat]?.getD default * ys[((j : Nat) : Int).toNat]?.getD default).natAbs < 4294967296 ^ 8 := by
            rw [Int.natAbs_mul]
            exact Nat.lt_of_le_of_lt (Nat.mul_le_mul hxi hyj) (by decide)
          have hqz : ((rowTo xs ys i (prodTo xs ys l.length i) j)[((i : Int) + (j : Int)).toNat]?.getD 0).natAbs < 4294967296 ^ 8 := by
            have h1 := (rowTo_abs (i64_abs hxf) (i64_abs hyf) hix (prodTo_abs (n := l.length) (i64_abs hxf) (i64_abs hyf) i (by omega)) j hj2 ((i : Int) + (j : Int)).toNat).1
            have h2 : i * (9223372036854775808 * 9223372036854775808) ≤ 15 * (9223372036854775808 * 9223372036854775808) := Nat.mul_le_mul_right _ (by omega)
            have h3 : (15 * (9223372036854775808 * 9223372036854775808) + 9223372036854775808 * 9223372036854775808 : Nat) < 4294967296 ^ 8 := by decide
            omega
          refine Wc.gc 14 [1] ?_
          refine Wc.draw [41, 42] [(42, 23), (41, 23)] T.mixed rfl ?_
          refine Gm.c 0 [] [] ?_
          refine Gm.c 1 [] [] ?_
          refine Gm.c 2 [] [] ?_
          refine Gm.c 3 [] [] ?_
          refine Gm.c 4 [] [] ?_
          refine Gm.c 5 [] [] ?_
          refine Gm.c 6 [] [] ?_
          refine Gm.c 7 [] [] ?_
          refine Gm.u 8 [] rfl (Qy.indexAddrO (α := IV) T.sl42 rfl rfl (by assumption) (by omega)) ?_
          refine Gm.u 9 [42] rfl (Qy.loadsO 42 T.agg37 rfl rfl (by assumption) (by omega)) ?_
          refine Gm.c 10 [] [] ?_
          refine Gm.c 11 [] [] ?_
          refine Gm.u 12 [] rfl (Qy.at (α := Int) T.sl23 rfl rfl (by assumption) (by omega)) ?_
          refine Gm.u 13 [] rfl (Qy.loadG T.one2 rfl (Arr.cell (by assumption) (by omega) 0 rfl rfl)) ?_
          refine Gm.c 15 [] [] ?_
          refine Gm.c 16 [] [] ?_
          refine Gm.u 17 [] rfl (Qy.at (α := Int) T.sl23 rfl rfl (by assumption) (by omega)) ?_
          refine Gm.u 18 [] rfl (Qy.loadG T.one2 rfl (Arr.cell (by assumption) (by omega) 0 rfl rfl)) ?_
          refine Gm.o1 14 ?_
          refine Wl.k 43 rfl (c10 _ _ (by first | exact hx9 | exact hy9)) (fun v4 G4 Ho4 hle4 hp => ?_)
          obtain ⟨ro4, rfl, hro4, rfl⟩ := hp
          replace hqb := hqb.up hle4
          replace hx := hx.up hle4
          replace hy := hy.up hle4
          replace hoA := hoA.up hle4
          replace hoB := hoB.up hle4
          replace hqB := hqB.up hle4
          refine Wl.on0 ?_
          refine Gm.o1 19 ?_
          refine Wl.k 43 rfl (c10 _ _ (by first | exact hx9 | exact hy9)) (fun v5 G5 Ho5 hle5 hp => ?_)
          obtain ⟨ro5, rfl, hro5, rfl⟩ := hp
          replace hro4 := hro4.up hle5
          replace hqb := hqb.up hle5
          replace hx := hx.up hle5
          replace hy := hy.up hle5
          replace hoA := hoA.up hle5
          replace hoB := hoB.up hle5
          replace hqB := hqB.up hle5
          refine Wl.on0 ?_
          refine Gm.o1 20 ?_
          refine Wl.k 43 rfl (c13 _ _ _ _ _ (by assumption) (by assumption) (big_any (by assumption) (by assumption)) (big_any (by assumption) (by assumption))) (fun v6 G6 Ho6 hle6 hp => ?_)
          obtain ⟨rm6, rfl, hrm6, rfl⟩ := hp
          replace hro5 := hro5.up hle6
          replace hro4 := hro4.up hle6
          replace hqb := hqb.up hle6
          replace hx := hx.up hle6
          replace hy := hy.up hle6
          replace hoA := hoA.up hle6
          replace hoB := hoB.up hle6
          replace hqB := hqB.up hle6
          refine Wl.on0 ?_
          refine Gm.o1 21 ?_
          refine Wl.k 43 rfl (c12 _ _ _ _ _ (by assumption) (by assumption) (big_any (by assumption) (by assumption)) (big_any (by assumption) (by assumption))) (fun v7 G7 Ho7 hle7 hp => ?_)
          obtain ⟨rs7, rfl, hrs7, rfl⟩ := hp
          replace hrm6 := hrm6.up hle7
          replace hro5 := hro5.up hle7
          replace hro4 := hro4.up hle7
          replace hqb := hqb.up hle7
          replace hx := hx.up hle7
          replace hy := hy.up hle7
          replace hoA := hoA.up hle7
          replace hoB := hoB.up hle7
          replace hqB := hqB.up hle7
          refine Wl.on0 ?_
          refine Gm.u 22 [] rfl (Qy.indexAddrO (α := IV) T.sl42 rfl rfl (by assumption) (by omega)) ?_
          refine Gm.o1 23 ?_
          refine Wl.setO (z := rs7) (m := (i : Int) + (j : Int)) 42 T.size37 rfl rfl rfl hor (by omega) rfl (fun ho1 => ?_)
          rw [show ((i : Int) + (j : Int)).toNat = i + j by omega] at *
          obtain ⟨r9, hr9⟩ : ∃ r9, r9 = q.set (i + j) rs7 := ⟨_, rfl⟩
          have hr9l : r9.length = q.length := by rw [hr9, List.length_set]
          have hq9 : Bigs G7 r9 (rowTo xs ys i (prodTo xs ys l.length i) (j + 1)) := by
            rw [hr9]; exact hqb.set (i + j) hrs7
          rw [← hr9] at ho1 ⊢
          refine Wl.on0 ?_
          refine Gm.doneA (by kernel_rfl) trivial (by first | exact Imm.le_refl _ | repeat (first | assumption | refine Imm.le_trans ?_ (by assumption))) ?_
          refine Ar.ga 7 [] ?_
          refine Ar.re 16 rfl (show _ = Value.slice (some ⟨b2, 0, none⟩) r9.length l.length by rw [hr9l]) ?_
          refine Ar.again ((j + 1, G7, r9)) ?_ ?_ rfl ⟨rfl, rfl, rfl, rfl, rfl, rfl, rfl, rfl, trivial⟩ ⟨rfl, rfl, trivial⟩
          · exact ⟨by omega, Imm.le_trans hgz (Imm.le_trans hle4 (Imm.le_trans hle5 (Imm.le_trans hle6 hle7))), by rw [hr9l]; exact hql, hq9⟩
          · show ys.length - (j + 1) < ys.length - j
            omega
        · have hjj : j = ys.length := by omega
          subst hjj
          refine Wc.ga 21 [0] ?_
          refine Ar.again ((i + 1, Gz, q)) ?_ ?_ rfl ⟨rfl, rfl, rfl, rfl, rfl, rfl, rfl, trivial⟩ ⟨rfl, rfl, trivial⟩
          · exact ⟨by omega, Imm.le_trans hgy hgz, hql, hqb⟩
          · show xs.length - (i + 1) < xs.length - i
            omega
      · have hii : i = xs.length := by omega
        subst hii
        have hor := hown q hql
        refine Wc.gl 20 [0] ?_
        refine Wl.yes 129 rfl (by first | assumption | omega) ?_
        refine Wl.ll0 5 [] ?_
        refine Wl.freezeRow 42 rfl hor (fun G10 hle10 hAq => ?_)
        have hqb9 := hqb.up hle10
        have hoA9 := hoA.up hle10
        have hoB9 := hoB.up hle10
        have hm8 : Below 8 (prodTo xs ys l.length xs.length) := fun z hz => by
          obtain ⟨k, hk, rfl⟩ := List.mem_iff_getElem.1 hz
          have h1 := prodTo_abs (n := l.length) (i64_abs hxf) (i64_abs hyf) xs.length (Nat.le_refl _) k
          rw [List.getElem?_eq_getElem hk] at h1
          have h2 : xs.length * (9223372036854775808 * 9223372036854775808) ≤ 15 * (9223372036854775808 * 9223372036854775808) := Nat.mul_le_mul_right _ (by omega)
          have h3 : (15 * (9223372036854775808 * 9223372036854775808) : Nat) < 4294967296 ^ 8 := by decide
          have h4 : ((prodTo xs ys l.length xs.length)[k]).natAbs ≤ xs.length * (9223372036854775808 * 9223372036854775808) := h1
          unfold pb
          omega
        refine Wl.k 50 rfl (c15 _ ob (some ⟨b2, 0, none⟩) oc l.length orr q _ _ hoA9 hAq hoB9 hqb9 (by have := hoB.1; rw [prodTo_len] at this; omega) (by omega) 8 (by decide) hm8 hm8) (fun v10 G11 Ho11 hle11 hp => ?_)
        obtain ⟨rfl, rfl, rfl⟩ := hp
        refine Wl.ga 5 [] ?_
        refine Ar.e1 ?_
        exact ⟨by simp, rfl⟩
    · rw [hans] at e1; cases e1
theorem c3 (hxf : ∀ x ∈ xs, -9223372036854775808 ≤ x ∧ x ≤ 9223372036854775807) (hyf : ∀ x ∈ ys, -9223372036854775808 ≤ x ∧ x ≤ 9223372036854775807) : Does Tryz.prog 3 [.slice a l.length c, .slice xa xs.length xc, .slice ya ys.length yc] G [] LawTrue := by
  by_cases hR : RightL l
  · by_cases hn : xs.length + ys.length = l.length + 1 ∧ 1 ≤ xs.length ∧ 1 ≤ ys.length
    · exact c3Y G a xa ya c xc yc l xs ys ha hx hy hac hl hxl hyl hR hn.1 hn.2.1 hn.2.2 hxf hyf
    · exact c3L G a xa ya c xc yc l xs ys ha hx hy hac hl hxl hyl hR hn
  · exact c3N G a xa ya c xc yc l xs ys ha hx hy hac hl hxl hyl hR
end
end Go.Proofs.YtelbhbbiejalhaaGreat
