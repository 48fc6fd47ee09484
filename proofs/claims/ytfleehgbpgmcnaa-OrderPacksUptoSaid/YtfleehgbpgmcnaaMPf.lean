/- Parts of the proof (part 6): what the rows' text needs of the texts that lead to it. -/
import Derived.Test.YtfleehgbpgmcnaaMPe
set_option maxRecDepth 100000
set_option linter.unusedVariables false
namespace Go.Proofs.Ytfleehgbpgmcnaa
open Go Go.Sl
set_option maxHeartbeats 4000000
attribute [local irreducible] neededP rightP untilR heldR
theorem mk2_snoc (l : List (Int × Int)) (a b : Int) : mk2 (l ++ [(a, b)]) = mk2 l ++ [⟨a, b⟩] := by unfold mk2; rw [List.map_append]; rfl
theorem refNow_yes {p : PV} {r : Nat} (h : 0 ≤ untilR p (-1 - (r : Int))) : mk2 (refNow p (r + 1)) = mk2 (refNow p r) ++ [⟨-1 - (r : Int), (r : Int)⟩] := by
  rw [show refNow p (r + 1) = refNow p r ++ [(-1 - (r : Int), (r : Int))] from if_pos h, mk2_snoc]
theorem refNow_no {p : PV} {r : Nat} (h : ¬ 0 ≤ untilR p (-1 - (r : Int))) : refNow p (r + 1) = refNow p r := if_neg h
theorem refNow_len (p : PV) : ∀ r : Nat, (refNow p r).length ≤ r
  | 0 => Nat.le_refl _
  | r + 1 => by
    have := refNow_len p r
    unfold refNow
    split
    · rw [List.length_append]; show _ + 1 ≤ _; omega
    · omega
theorem ref0_yes {p : PV} (h : 0 ≤ untilR p (-1000)) : mk2 (ref0 p).now = mk2 (refNow p p.ins.toNat) ++ [⟨-1000, p.ins⟩] ∧ (ref0 p).regs = p.ins + 1 ∧ (ref0 p).code = [] := by
  have e : ref0 p = ⟨refNow p p.ins.toNat ++ [(-1000, p.ins)], p.ins + 1, []⟩ := if_pos h
  rw [e]; exact ⟨mk2_snoc _ _ _, rfl, rfl⟩
theorem ref0_no {p : PV} (h : ¬ 0 ≤ untilR p (-1000)) : ref0 p = ⟨refNow p p.ins.toNat, p.ins, []⟩ := if_neg h
theorem ref0_len (p : PV) : (ref0 p).now.length ≤ p.ins.toNat + 1 := by
  have := refNow_len p p.ins.toNat
  unfold ref0
  split
  · show (_ ++ [_]).length ≤ _; rw [List.length_append]; show _ + 1 ≤ _; omega
  · show (refNow p p.ins.toNat).length ≤ _; omega
theorem refTo_len (p : PV) : ∀ k : Nat, (refTo p k).now.length ≤ p.ins.toNat + 1 + k ∧ (refTo p k).code.length ≤ k
  | 0 => ⟨ref0_len p, by show (ref0 p).code.length ≤ 0; unfold ref0; split <;> exact Nat.le_refl _⟩
  | k + 1 => by
    obtain ⟨h1, h2⟩ := refTo_len p k
    have h3 : (restR p k (refTo p k).now).length ≤ (refTo p k).now.length := List.length_filter_le _ _
    unfold refTo
    split
    · refine ⟨?_, ?_⟩
      · show (restR p k (refTo p k).now ++ [_]).length ≤ _
        rw [List.length_append]; show _ + 1 ≤ _; omega
      · show ((refTo p k).code ++ [_]).length ≤ _
        rw [List.length_append]; show _ + 1 ≤ _; omega
    · omega
theorem taken_yes {l : List (Int × Int)} {a : Nat} {r : Int} (ha : a < l.length) (h : (l[a]).2 = r) : takenR (l.take (a + 1)) r = true := by
  unfold takenR
  rw [List.take_succ_eq_append_getElem ha, List.any_append]
  show (_ || (decide ((l[a]).2 = r) || false)) = true
  rw [decide_eq_true h, Bool.true_or, Bool.or_true]
theorem taken_no {l : List (Int × Int)} {a : Nat} {r : Int} (ha : a < l.length) (h : ¬ (l[a]).2 = r) : takenR (l.take (a + 1)) r = takenR (l.take a) r := by
  unfold takenR
  rw [List.take_succ_eq_append_getElem ha, List.any_append]
  show (_ || (decide ((l[a]).2 = r) || false)) = _
  rw [decide_eq_false h, Bool.or_false, Bool.or_false]
theorem rest_len (p : PV) (k : Nat) (l : List (Int × Int)) : (restR p k l).length ≤ l.length := List.length_filter_le _ _
theorem rest_yes {p : PV} {k a : Nat} {l : List (Int × Int)} (ha : a < l.length) (h : untilR p (l[a]).1 ≠ (k : Int)) : mk2 (restR p k (l.take (a + 1))) = mk2 (restR p k (l.take a)) ++ [⟨(l[a]).1, (l[a]).2⟩] := by
  rw [← mk2_snoc]
  congr 1
  unfold restR
  rw [List.take_succ_eq_append_getElem ha, List.filter_append]
  congr 1
  rw [List.filter_cons, decide_eq_false h]; rfl
theorem rest_no {p : PV} {k a : Nat} {l : List (Int × Int)} (ha : a < l.length) (h : ¬ untilR p (l[a]).1 ≠ (k : Int)) : restR p k (l.take (a + 1)) = restR p k (l.take a) := by
  have h := Classical.not_not.1 h
  unfold restR
  rw [List.take_succ_eq_append_getElem ha, List.filter_append, List.filter_cons, decide_eq_true h]
  show _ ++ [] = _
  rw [List.append_nil]
theorem c49 (G : Imm) (p : PV) (ac ao : Option Addr) (cc co : Nat) (hc : Arr G ac p.code) (ho : Arr G ao p.outs) (hR : rightP p = true) :
    Does Try.prog 49 [.agg #[.int .i64 p.ins, .int .i64 p.regs, .slice ac p.code.length cc, .slice ao p.outs.length co]] G [] (fun v G' Ho =>
      ∃ bc bo dc do_ j1 j2, v = .agg #[.int .i64 (refP p).ins, .int .i64 (refP p).regs, .slice bc (refP p).code.length dc, .slice bo (refP p).outs.length do_] ∧
        OwnA bc dc (refP p).code j1 ∧ OwnA bo do_ (refP p).outs j2 ∧ Ho = [(0, bc.map (·.block), Row 34 (refP p).code j1), (1, bo.map (·.block), Row 3 (refP p).outs j2)] ∧ G' = G) := by
  obtain ⟨f1, f2, f3, f4, f5, f6, f7, f8⟩ := right_facts hR
  have hnl : (neededP p).length = p.code.length := needed_len9 p
  obtain ⟨I, hI⟩ : ∃ I : Nat, p.ins = (I : Int) := ⟨p.ins.toNat, by omega⟩
  have hIn : p.ins.toNat = I := by omega
  refine Does.enter Try.func49 rfl Try.ntmps49 rfl (fun w => ?_)
  refine Wc.seq ?_
  refine Wc.region rfl ?_
  refine Wl.box 0 rfl rfl rfl (fun b1 => ?_)
  refine Wl.alloc 1 rfl T.zero25 (fun b2 => ?_)
  refine Wl.done ?_
  refine Ar.next ?_
  refine Wc.seq ?_
  refine Wc.region rfl ?_
  refine Wl.q rfl (Qy.loadAll 0 T.agg25 rfl rfl rfl) ?_
  refine Wl.call 2 rfl T.fn51 rfl (c51 _ _ _ _ _ _ (by assumption) (by assumption) hR) (tags_of trivial) (fun v1 G1 Ho1 hle1 hp => ?_)
  obtain ⟨nb1, nc1, nj1, rfl, hon1, rfl, rfl⟩ := hp
  refine Wl.q rfl (Qy.assign rfl) ?_
  refine Wl.done ?_
  refine Ar.next ?_
  refine Wc.seq ?_
  refine Wc.region rfl ?_
  refine Wl.q rfl (Qy.fieldAddr T.fa25_0 rfl) ?_
  refine Wl.q rfl (Qy.load 0 T.one3 rfl rfl rfl) ?_
  refine Wl.q rfl (Qy.fieldAddr T.fa25_0 rfl) ?_
  refine Wl.q rfl (Qy.load 0 T.one3 rfl rfl rfl) ?_
  refine Wl.q rfl (Qy.build (cs := [_, _, _, _]) T.st25 rfl rfl rfl) ?_
  refine Wl.alloc 3 rfl T.zero25 (fun b3 => ?_)
  refine Wl.storeAll 3 T.size25 rfl rfl rfl rfl rfl rfl ?_
  refine Wl.done ?_
  refine Ar.next ?_
  refine Wc.seq ?_
  refine Wc.region rfl ?_
  refine Wl.q rfl (Qy.assign rfl) ?_
  refine Wl.done ?_
  refine Ar.next ?_
  refine Wc.seq ?_
  refine Wc.seq ?_
  refine Wc.region rfl ?_
  refine Wl.q rfl (Qy.assign rfl) ?_
  refine Wl.done ?_
  refine Ar.next ?_
  refine Wc.block ?_
  refine Wc.nilRow 30 (Row 123 (mk2 (refNow p 0)) []) ?_
  refine Wc.loop (ι := Nat × (Option Addr × Nat × List Value)) (fun (r, (a, c, j)) => ([(6, .int .i64 (r : Int)), (5, .slice a (mk2 (refNow p r)).length c), (4, Go.Value.pointer (Option.some (Go.Addr.mk b3 0 Option.none))), (3, Go.Value.slice nb1 (List.length (Go.Proofs.Ytfleehgbpgmcnaa.neededP p)) nc1), (2, Go.Value.pointer (Option.some (Go.Addr.mk b2 0 Option.none))), (1, Go.Value.pointer (Option.some (Go.Addr.mk b1 0 Option.none)))], [(30, a.map (·.block), Row 123 (mk2 (refNow p r)) j), (3, Option.some b3, Go.Obj.cells #[Go.Value.int Go.IntKind.i64 (Go.Proofs.Ytfleehgbpgmcnaa.PV.ins p), Go.Value.int Go.IntKind.i64 (Go.Proofs.Ytfleehgbpgmcnaa.PV.ins p), Go.Value.slice Option.none 0 0, Go.Value.slice Option.none 0 0] 25), (2, Option.map (fun x => Go.Addr.block x) nb1, Go.Sl.Row (α := Bool) 4 (Go.Proofs.Ytfleehgbpgmcnaa.neededP p) (nj1)), (1, Option.some b2, Go.Obj.cells #[Go.Value.int Go.IntKind.i64 0, Go.Value.int Go.IntKind.i64 0, Go.Value.slice Option.none 0 0, Go.Value.slice Option.none 0 0] 25), (0, Option.some b1, Go.Obj.cells #[Go.Value.int Go.IntKind.i64 (Go.Proofs.Ytfleehgbpgmcnaa.PV.ins p), Go.Value.int Go.IntKind.i64 (Go.Proofs.Ytfleehgbpgmcnaa.PV.regs p), Go.Value.slice ac (List.length (Go.Proofs.Ytfleehgbpgmcnaa.PV.code p)) cc, Go.Value.slice ao (List.length (Go.Proofs.Ytfleehgbpgmcnaa.PV.outs p)) co] 25)])) (fun (r, (a, c, j)) => r ≤ I ∧ OwnA a c (mk2 (refNow p r)) j) (fun (r, (a, c, j)) => I - r) ((0, (none, 0, []))) (⟨Nat.zero_le _, OwnA.nil⟩) ⟨rfl, rfl, rfl, rfl, rfl, rfl, trivial⟩ ⟨rfl, rfl, rfl, rfl, rfl, trivial⟩ (fun ⟨r, (a, c, j)⟩ => fun (hk : r ≤ I ∧ OwnA a c (mk2 (refNow p r)) j) => ?_)
  obtain ⟨hrI0, hoa⟩ := hk
  have hlen := refNow_len p r
  have hml := mk2_len (refNow p r)
  rcases Nat.lt_or_ge r I with hrI | hrI
  · refine Wc.seq ?_
    refine Wc.seq ?_
    refine Wc.region rfl ?_
    refine Wl.q rfl (Qy.move rfl) ?_
    refine Wl.q rfl (Qy.fieldAddr T.fa25_0 rfl) ?_
    refine Wl.q rfl (Qy.load 0 T.one3 rfl rfl rfl) ?_
    refine Wl.q rfl (Qy.lss rfl rfl) ?_
    refine Wl.done ?_
    refine Ar.next ?_
    refine Wc.condP rfl (by first | assumption | omega) ?_
    refine Wc.skip ?_
    refine Ar.next ?_
    refine Wc.seq ?_
    refine Wc.block ?_
    refine Wc.seq ?_
    refine Wc.region rfl ?_
    refine Wl.q rfl (Qy.loadAll 0 T.agg25 rfl rfl rfl) ?_
    refine Wl.q rfl (Qy.move rfl) ?_
    refine Wl.q rfl (Qy.move rfl) ?_
    refine Wl.q rfl (Qy.sub rfl rfl (by omega)) ?_
    refine Wl.callB 31 rfl T.fn79 rfl (fun Gx hGx hgx => (c79 _ _ _ _ _ _ _ _ _ (by first | exact Arr.up (by assumption) hGx | exact Arr.nil _ | exact Arr.own hgx 30 rfl (by first | assumption | exact OwnA.made (by simp [maxLen])) | exact Arr.own hgx 2 rfl (by first | assumption | exact OwnA.made (by simp [maxLen]))) (by first | exact Arr.up (by assumption) hGx | exact Arr.nil _ | exact Arr.own hgx 30 rfl (by first | assumption | exact OwnA.made (by simp [maxLen])) | exact Arr.own hgx 2 rfl (by first | assumption | exact OwnA.made (by simp [maxLen]))) (by first | exact Arr.up (by assumption) hGx | exact Arr.nil _ | exact Arr.own hgx 30 rfl (by first | assumption | exact OwnA.made (by simp [maxLen])) | exact Arr.own hgx 2 rfl (by first | assumption | exact OwnA.made (by simp [maxLen]))) hR)) (fun v1 Gx1 G1 Ho1 hlx1 hp => ?_)
    obtain ⟨rfl, rfl, rfl⟩ := hp
    refine Wl.q rfl (Qy.geq rfl rfl) ?_
    refine Wl.done ?_
    refine Ar.next ?_
    refine Wc.cond rfl (fun hc1 => ?_) (fun hc1 => ?_)
    refine Wc.region rfl ?_
    refine Wl.q rfl (Qy.move rfl) ?_
    refine Wl.q rfl (Qy.move rfl) ?_
    refine Wl.q rfl (Qy.sub rfl rfl (by omega)) ?_
    refine Wl.q rfl (Qy.move rfl) ?_
    refine Wl.q rfl (Qy.build (cs := [_, _]) T.st123 rfl rfl rfl) ?_
    refine Wl.lit (α := R2) 31 [⟨-1 - (↑r : Int), (↑r : Int)⟩] rfl T.sl120 T.el123 rfl rfl rfl rfl rfl (fun b4 => ?_)
    refine Wl.append (α := R2) 30 rfl T.sl120 T.el123 rfl rfl rfl (by first | assumption | exact OwnA.nil | exact OwnA.made (by simp)) (Src.row 31 rfl) (by first | omega | (simp only [List.length_append, List.length_cons, List.length_nil, maxLen]; omega)) (by first | omega | (simp only [List.length_append, List.length_cons, List.length_nil, maxLen]; omega)) (fun a1 c1 junk1 ho1 => ?_)
    refine Wl.q rfl (Qy.assign rfl) ?_
    refine Wl.done ?_
    refine Ar.outNormal ?_
    refine Ar.next ?_
    refine Wc.region rfl ?_
    refine Wl.q rfl (Qy.move rfl) ?_
    refine Wl.q rfl (Qy.add rfl rfl (by omega)) ?_
    refine Wl.q rfl (Qy.assign rfl) ?_
    refine Wl.done ?_
    rotate_left
    refine Wc.skip ?_
    refine Ar.outNormal ?_
    refine Ar.next ?_
    refine Wc.region rfl ?_
    refine Wl.q rfl (Qy.move rfl) ?_
    refine Wl.q rfl (Qy.add rfl rfl (by omega)) ?_
    refine Wl.q rfl (Qy.assign rfl) ?_
    refine Wl.done ?_
    rotate_left
    · have e := refNow_yes (p := p) (r := r) (by assumption)
      rw [← e]
      rw [← e] at ho1
      refine Ar.again ((r + 1, (a1, c1, junk1))) ?_ ?_ rfl ⟨rfl, rfl, rfl, rfl, rfl, rfl, trivial⟩ ⟨rfl, rfl, rfl, rfl, rfl, trivial⟩
      · exact ⟨hrI, ho1⟩
      · show I - (r + 1) < I - r
        omega
    · have e := refNow_no (p := p) (r := r) (by assumption)
      refine Ar.re 5 rfl (show _ = Value.slice a (mk2 (refNow p (r + 1))).length c by rw [e]) ?_
      refine Ar.reH 30 (Row 123 (mk2 (refNow p (r + 1))) j) rfl (by rw [e]) ?_
      rw [← e] at hoa
      refine Ar.again ((r + 1, (a, c, j))) ?_ ?_ rfl ⟨rfl, rfl, rfl, rfl, rfl, rfl, trivial⟩ ⟨rfl, rfl, rfl, rfl, rfl, trivial⟩
      · exact ⟨hrI, hoa⟩
      · show I - (r + 1) < I - r
        omega
  · have hrE : r = I := by omega
    subst hrE
    refine Wc.seq ?_
    refine Wc.seq ?_
    refine Wc.region rfl ?_
    refine Wl.q rfl (Qy.move rfl) ?_
    refine Wl.q rfl (Qy.fieldAddr T.fa25_0 rfl) ?_
    refine Wl.q rfl (Qy.load 0 T.one3 rfl rfl rfl) ?_
    refine Wl.q rfl (Qy.lss rfl rfl) ?_
    refine Wl.done ?_
    refine Ar.next ?_
    refine Wc.condN rfl (by first | assumption | omega) ?_
    refine Wc.exit ?_
    refine Ar.passExit ?_
    refine Ar.passExit ?_
    refine Ar.here ?_
    refine Ar.next ?_
    refine Wc.meet (ι := RefS × (Option Addr × Nat × List Value)) (fun (x0, (a0, c0, j0)) => ([(5, .slice a0 (mk2 x0.now).length c0), (4, Go.Value.pointer (Option.some (Go.Addr.mk b3 0 Option.none))), (3, Go.Value.slice nb1 (List.length (Go.Proofs.Ytfleehgbpgmcnaa.neededP p)) nc1), (2, Go.Value.pointer (Option.some (Go.Addr.mk b2 0 Option.none))), (1, Go.Value.pointer (Option.some (Go.Addr.mk b1 0 Option.none)))], [(30, a0.map (·.block), Row 123 (mk2 x0.now) j0), (3, some b3, .cells #[.int .i64 p.ins, .int .i64 x0.regs, .slice none 0 0, .slice none 0 0] 25), (2, Option.map (fun x => Go.Addr.block x) nb1, Go.Sl.Row (α := Bool) 4 (Go.Proofs.Ytfleehgbpgmcnaa.neededP p) (nj1)), (1, Option.some b2, Go.Obj.cells #[Go.Value.int Go.IntKind.i64 0, Go.Value.int Go.IntKind.i64 0, Go.Value.slice Option.none 0 0, Go.Value.slice Option.none 0 0] 25), (0, Option.some b1, Go.Obj.cells #[Go.Value.int Go.IntKind.i64 (Go.Proofs.Ytfleehgbpgmcnaa.PV.ins p), Go.Value.int Go.IntKind.i64 (Go.Proofs.Ytfleehgbpgmcnaa.PV.regs p), Go.Value.slice ac (List.length (Go.Proofs.Ytfleehgbpgmcnaa.PV.code p)) cc, Go.Value.slice ao (List.length (Go.Proofs.Ytfleehgbpgmcnaa.PV.outs p)) co] 25)])) (fun (x0, (a0, c0, j0)) => x0 = ref0 p ∧ OwnA a0 c0 (mk2 x0.now) j0) ?_ (fun ⟨x0, (a0, c0, j0)⟩ => fun (hk : x0 = ref0 p ∧ OwnA a0 c0 (mk2 x0.now) j0) => ?_)
    · refine Wc.seq ?_
      refine Wc.region rfl ?_
      refine Wl.q rfl (Qy.loadAll 0 T.agg25 rfl rfl rfl) ?_
      refine Wl.q rfl (Qy.move rfl) ?_
      refine Wl.callB 31 rfl T.fn79 rfl (fun Gx hGx hgx => (c79 _ _ _ _ _ _ _ _ _ (by first | exact Arr.up (by assumption) hGx | exact Arr.nil _ | exact Arr.own hgx 30 rfl (by first | assumption | exact OwnA.made (by simp [maxLen])) | exact Arr.own hgx 2 rfl (by first | assumption | exact OwnA.made (by simp [maxLen]))) (by first | exact Arr.up (by assumption) hGx | exact Arr.nil _ | exact Arr.own hgx 30 rfl (by first | assumption | exact OwnA.made (by simp [maxLen])) | exact Arr.own hgx 2 rfl (by first | assumption | exact OwnA.made (by simp [maxLen]))) (by first | exact Arr.up (by assumption) hGx | exact Arr.nil _ | exact Arr.own hgx 30 rfl (by first | assumption | exact OwnA.made (by simp [maxLen])) | exact Arr.own hgx 2 rfl (by first | assumption | exact OwnA.made (by simp [maxLen]))) hR)) (fun v1 Gx1 G1 Ho1 hlx1 hp => ?_)
      obtain ⟨rfl, rfl, rfl⟩ := hp
      refine Wl.q rfl (Qy.geq rfl rfl) ?_
      refine Wl.done ?_
      refine Ar.next ?_
      refine Wc.cond rfl (fun hc1 => ?_) (fun hc1 => ?_)
      refine Wc.seq ?_
      refine Wc.region rfl ?_
      refine Wl.q rfl (Qy.move rfl) ?_
      refine Wl.q rfl (Qy.fieldAddr T.fa25_0 rfl) ?_
      refine Wl.q rfl (Qy.load 0 T.one3 rfl rfl rfl) ?_
      refine Wl.q rfl (Qy.build (cs := [_, _]) T.st123 rfl rfl rfl) ?_
      refine Wl.lit (α := R2) 31 [⟨-1000, Go.Proofs.Ytfleehgbpgmcnaa.PV.ins p⟩] rfl T.sl120 T.el123 rfl rfl rfl rfl rfl (fun b4 => ?_)
      refine Wl.append (α := R2) 30 rfl T.sl120 T.el123 rfl rfl rfl (by first | assumption | exact OwnA.nil | exact OwnA.made (by simp)) (Src.row 31 rfl) (by first | omega | (simp only [List.length_append, List.length_cons, List.length_nil, maxLen]; omega)) (by first | omega | (simp only [List.length_append, List.length_cons, List.length_nil, maxLen]; omega)) (fun a1 c1 junk1 ho1 => ?_)
      refine Wl.q rfl (Qy.assign rfl) ?_
      refine Wl.done ?_
      refine Ar.next ?_
      refine Wc.region rfl ?_
      refine Wl.q rfl (Qy.fieldAddr T.fa25_0 rfl) ?_
      refine Wl.q rfl (Qy.load 0 T.one3 rfl rfl rfl) ?_
      refine Wl.q rfl (Qy.add rfl rfl (by omega)) ?_
      refine Wl.q rfl (Qy.fieldAddr T.fa25_1 rfl) ?_
      refine Wl.store 3 T.one3 rfl rfl rfl rfl rfl ?_
      refine Wl.done ?_
      rotate_left
      refine Wc.skip ?_
      rotate_left
      · obtain ⟨e1, e2, e3⟩ := ref0_yes (p := p) (by assumption)
        rw [hIn] at e1
        refine Ar.reH 3 (.cells #[.int .i64 p.ins, .int .i64 (ref0 p).regs, .slice none 0 0, .slice none 0 0] 25) rfl (by rw [e2]; rfl) ?_
        rw [← e1]
        rw [← e1] at ho1
        refine Ar.meet ((ref0 p, (a1, c1, junk1))) ?_ rfl ⟨rfl, rfl, rfl, rfl, rfl, trivial⟩ ⟨rfl, rfl, rfl, rfl, rfl, trivial⟩
        exact ⟨rfl, ho1⟩
      · have e1 := ref0_no (p := p) (by assumption)
        rw [hIn] at e1
        refine Ar.meet ((⟨refNow p r, p.ins, []⟩, (a, c, j))) ?_ rfl ⟨rfl, rfl, rfl, rfl, rfl, trivial⟩ ⟨rfl, rfl, rfl, rfl, rfl, trivial⟩
        exact ⟨e1.symm, hoa⟩
    · obtain ⟨hx0, hoa0⟩ := hk
      have hx0c : x0.code = [] := by
        rw [hx0]; unfold ref0; split <;> rfl
      refine Wc.seq ?_
      refine Wc.seq ?_
      refine Wc.region rfl ?_
      refine Wl.q rfl (Qy.assign rfl) ?_
      refine Wl.done ?_
      refine Ar.next ?_
      refine Wc.block ?_
      refine Wc.nilRow 32 (Row 34 x0.code []) ?_
      refine Wc.reH 3 (.cells #[.int .i64 p.ins, .int .i64 x0.regs, .slice none x0.code.length 0, .slice none 0 0] 25) rfl (by rw [hx0c]; rfl) ?_
      refine Wc.loop (ι := Nat × RefS × (Option Addr × Nat × List Value) × (Option Addr × Nat × List Value)) (fun (k, x, (oa, oc, oj), (a9, c9, j9)) => ([(7, .int .i64 (k : Int)), (5, .slice a9 (mk2 x.now).length c9), (4, Go.Value.pointer (Option.some (Go.Addr.mk b3 0 Option.none))), (3, Go.Value.slice nb1 (List.length (Go.Proofs.Ytfleehgbpgmcnaa.neededP p)) nc1), (2, Go.Value.pointer (Option.some (Go.Addr.mk b2 0 Option.none))), (1, Go.Value.pointer (Option.some (Go.Addr.mk b1 0 Option.none)))], [(3, some b3, .cells #[.int .i64 p.ins, .int .i64 x.regs, .slice oa x.code.length oc, .slice none 0 0] 25), (32, oa.map (·.block), Row 34 x.code oj), (30, a9.map (·.block), Row 123 (mk2 x.now) j9), (2, Option.map (fun x => Go.Addr.block x) nb1, Go.Sl.Row (α := Bool) 4 (Go.Proofs.Ytfleehgbpgmcnaa.neededP p) (nj1)), (1, Option.some b2, Go.Obj.cells #[Go.Value.int Go.IntKind.i64 0, Go.Value.int Go.IntKind.i64 0, Go.Value.slice Option.none 0 0, Go.Value.slice Option.none 0 0] 25), (0, Option.some b1, Go.Obj.cells #[Go.Value.int Go.IntKind.i64 (Go.Proofs.Ytfleehgbpgmcnaa.PV.ins p), Go.Value.int Go.IntKind.i64 (Go.Proofs.Ytfleehgbpgmcnaa.PV.regs p), Go.Value.slice ac (List.length (Go.Proofs.Ytfleehgbpgmcnaa.PV.code p)) cc, Go.Value.slice ao (List.length (Go.Proofs.Ytfleehgbpgmcnaa.PV.outs p)) co] 25)])) (fun (k, x, (oa, oc, oj), (a9, c9, j9)) => k ≤ p.code.length ∧ x = refTo p k ∧ OwnA oa oc x.code oj ∧ OwnA a9 c9 (mk2 x.now) j9) (fun (k, x, (oa, oc, oj), (a9, c9, j9)) => p.code.length - k) ((0, x0, (none, 0, []), (a0, c0, j0))) (⟨Nat.zero_le _, hx0, by rw [hx0c]; exact OwnA.nil, hoa0⟩) ⟨rfl, rfl, rfl, rfl, rfl, rfl, trivial⟩ ⟨rfl, rfl, rfl, rfl, rfl, rfl, trivial⟩ (fun ⟨k, x, (oa, oc, oj), (a9, c9, j9)⟩ => fun (hk : k ≤ p.code.length ∧ x = refTo p k ∧ OwnA oa oc x.code oj ∧ OwnA a9 c9 (mk2 x.now) j9) => ?_)
      obtain ⟨hk0, hx, hoc, hon⟩ := hk
      have hxl := refTo_len p k
      rw [← hx, hIn] at hxl
      obtain ⟨hxl1, hxl2⟩ := hxl
      have hml9 := mk2_len x.now
      rcases Nat.lt_or_ge k p.code.length with hkc | hkc
      · have hm := code_may hR hkc
        unfold cAt at hm
        obtain ⟨m1, m2, m3, m4, m5, m6, m7, m8⟩ := may_facts hm
        have m4' : 1 < ((asks (p.code[((k : Nat) : Int).toNat]?.getD default)).length : Int) → 0 ≤ (p.code[((k : Nat) : Int).toNat]?.getD default).b ∧ (p.code[((k : Nat) : Int).toNat]?.getD default).b < p.regs := fun h => m4 (two_op (by omega))
        refine Wc.seq ?_
        refine Wc.seq ?_
        refine Wc.region rfl ?_
        refine Wl.q rfl (Qy.move rfl) ?_
        refine Wl.q rfl (Qy.fieldAddr T.fa25_2 rfl) ?_
        refine Wl.q rfl (Qy.load 0 T.one22 rfl rfl rfl) ?_
        refine Wl.q rfl (Qy.len T.sl22 rfl) ?_
        refine Wl.q rfl (Qy.lss rfl rfl) ?_
        refine Wl.done ?_
        refine Ar.next ?_
        refine Wc.condP rfl (by first | assumption | omega) ?_
        refine Wc.skip ?_
        refine Ar.next ?_
        refine Wc.seq ?_
        refine Wc.block ?_
        refine Wc.seq ?_
        refine Wc.seq ?_
        refine Wc.region rfl ?_
        refine Wl.q rfl (Qy.move rfl) ?_
        refine Wl.q rfl (Qy.move rfl) ?_
        refine Wl.q rfl (Qy.indexAddrO (α := Bool) T.sl64 rfl rfl (by assumption) (by omega)) ?_
        refine Wl.q rfl (Qy.loadO 2 0 T.one4 rfl rfl (by assumption) (by omega) rfl rfl) ?_
        refine Wl.q rfl (Qy.not rfl) ?_
        refine Wl.done ?_
        refine Ar.next ?_
        refine Wc.ite rfl (fun hc1 => ?_) (fun hc1 => ?_)
        refine Wc.exit ?_
        refine Ar.passExit ?_
        refine Ar.here ?_
        refine Ar.next ?_
        refine Wc.region rfl ?_
        refine Wl.q rfl (Qy.move rfl) ?_
        refine Wl.q rfl (Qy.add rfl rfl (by omega)) ?_
        refine Wl.q rfl (Qy.assign rfl) ?_
        refine Wl.done ?_
        rotate_left
        refine Wc.skip ?_
        refine Ar.next ?_
        refine Wc.seq ?_
        refine Wc.region rfl ?_
        refine Wl.q rfl (Qy.fieldAddr T.fa25_2 rfl) ?_
        refine Wl.q rfl (Qy.load 0 T.one22 rfl rfl rfl) ?_
        refine Wl.q rfl (Qy.move rfl) ?_
        refine Wl.q rfl (Qy.at (α := Sl.Instr) T.sl22 rfl rfl (by assumption) (by omega)) ?_
        refine Wl.q rfl (Qy.loadsG T.agg34 rfl (Arr.elem (by assumption) (by omega)) rfl) ?_
        refine Wl.alloc 33 rfl T.zero34 (fun b4 => ?_)
        refine Wl.storeAll 33 T.size34 rfl rfl rfl rfl rfl rfl ?_
        refine Wl.done ?_
        refine Ar.next ?_
        refine Wc.seq ?_
        refine Wc.region rfl ?_
        refine Wl.q rfl (Qy.loadAll 33 T.agg34 rfl rfl rfl) ?_
        refine Wl.call 34 rfl T.fn72 rfl (c72 _ _) (tags_of trivial) (fun v2 G2 Ho2 hle2 hp => ?_)
        obtain ⟨ad2, cd2, junk2, rfl, hoa2, rfl, rfl⟩ := hp
        refine Wl.q rfl (Qy.assign rfl) ?_
        refine Wl.done ?_
        refine Ar.next ?_
        rotate_left
        · have hn : ¬ nAt p k = true := by unfold nAt; simp_all
          refine Ar.again ((k + 1, x, (oa, oc, oj), (a9, c9, j9))) ?_ ?_ rfl ⟨rfl, rfl, rfl, rfl, rfl, rfl, trivial⟩ ⟨rfl, rfl, rfl, rfl, rfl, rfl, trivial⟩
          · exact ⟨hkc, by rw [hx]; exact (if_neg hn).symm, hoc, hon⟩
          · show p.code.length - (k + 1) < p.code.length - k
            omega
        · have hn : nAt p k = true := by unfold nAt; simp_all
          refine Wc.meet (ι := Nat) (fun u => ([(10, .pointer (some ⟨u, 0, none⟩)), (9, Go.Value.slice ad2 (List.length (Go.Proofs.Ytfleehgbpgmcnaa.asks (Option.getD (Go.Proofs.Ytfleehgbpgmcnaa.PV.code p)[Int.toNat (↑k : Int)]? Inhabited.default))) cd2), (8, Go.Value.pointer (Option.some (Go.Addr.mk b4 0 Option.none))), (7, Go.Value.int Go.IntKind.i64 (↑k : Int)), (5, Go.Value.slice a9 (List.length (Go.Proofs.Ytfleehgbpgmcnaa.mk2 (Go.Proofs.Ytfleehgbpgmcnaa.RefS.now x))) c9), (4, Go.Value.pointer (Option.some (Go.Addr.mk b3 0 Option.none))), (3, Go.Value.slice nb1 (List.length (Go.Proofs.Ytfleehgbpgmcnaa.neededP p)) nc1), (2, Go.Value.pointer (Option.some (Go.Addr.mk b2 0 Option.none))), (1, Go.Value.pointer (Option.some (Go.Addr.mk b1 0 Option.none)))], [(36, some u, .cells #[.int .i64 (p.code[((k : Nat) : Int).toNat]?.getD default).op, .int .i64 0, .int .i64 (wh x.now (heldR p k (p.code[((k : Nat) : Int).toNat]?.getD default).a)), .int .i64 0, .int .i64 (p.code[((k : Nat) : Int).toNat]?.getD default).c] 34), (35, Option.map (fun x => Go.Addr.block x) ad2, Go.Sl.Row (α := Int) 3 (Go.Proofs.Ytfleehgbpgmcnaa.asks (Option.getD (Go.Proofs.Ytfleehgbpgmcnaa.PV.code p)[Int.toNat (↑k : Int)]? Inhabited.default)) (junk2)), (33, Option.some b4, Go.Obj.cells (List.toArray (Go.Sl.Cells.enc (Option.getD (Go.Proofs.Ytfleehgbpgmcnaa.PV.code p)[Int.toNat (↑k : Int)]? Inhabited.default))) 34), (3, Option.some b3, Go.Obj.cells #[Go.Value.int Go.IntKind.i64 (Go.Proofs.Ytfleehgbpgmcnaa.PV.ins p), Go.Value.int Go.IntKind.i64 (Go.Proofs.Ytfleehgbpgmcnaa.RefS.regs x), Go.Value.slice oa (List.length (Go.Proofs.Ytfleehgbpgmcnaa.RefS.code x)) oc, Go.Value.slice Option.none 0 0] 25), (32, Option.map (fun x => Go.Addr.block x) oa, Go.Sl.Row (α := Go.Sl.Instr) 34 (Go.Proofs.Ytfleehgbpgmcnaa.RefS.code x) (oj)), (30, Option.map (fun x => Go.Addr.block x) a9, Go.Sl.Row (α := Go.Sl.R2) 123 (Go.Proofs.Ytfleehgbpgmcnaa.mk2 (Go.Proofs.Ytfleehgbpgmcnaa.RefS.now x)) (j9)), (2, Option.map (fun x => Go.Addr.block x) nb1, Go.Sl.Row (α := Bool) 4 (Go.Proofs.Ytfleehgbpgmcnaa.neededP p) (nj1)), (1, Option.some b2, Go.Obj.cells #[Go.Value.int Go.IntKind.i64 0, Go.Value.int Go.IntKind.i64 0, Go.Value.slice Option.none 0 0, Go.Value.slice Option.none 0 0] 25), (0, Option.some b1, Go.Obj.cells #[Go.Value.int Go.IntKind.i64 (Go.Proofs.Ytfleehgbpgmcnaa.PV.ins p), Go.Value.int Go.IntKind.i64 (Go.Proofs.Ytfleehgbpgmcnaa.PV.regs p), Go.Value.slice ac (List.length (Go.Proofs.Ytfleehgbpgmcnaa.PV.code p)) cc, Go.Value.slice ao (List.length (Go.Proofs.Ytfleehgbpgmcnaa.PV.outs p)) co] 25)])) (fun u => True) ?_ (fun u => fun (hk : True) => ?_)
          · refine Wc.draw [0, 1, 2, 30, 32, 3, 33, 35] [] T.mixed rfl ?_
            refine Gm.q 0 [] (by kernel_rfl) rfl rfl (Qy.fieldAddr T.fa34_0 rfl) ?_
            refine Gm.q 1 [33] (by kernel_rfl) rfl rfl (Qy.load 33 T.one3 rfl rfl rfl) ?_
            refine Gm.q 2 [] (by kernel_rfl) rfl rfl (Qy.fieldAddr T.fa34_4 rfl) ?_
            refine Gm.q 3 [33] (by kernel_rfl) rfl rfl (Qy.load 33 T.one3 rfl rfl rfl) ?_
            refine Gm.q 4 [] (by kernel_rfl) rfl rfl (Qy.move rfl) ?_
            refine Gm.q 5 [0] (by kernel_rfl) rfl rfl (Qy.loadAll 0 T.agg25 rfl rfl rfl) ?_
            refine Gm.q 6 [] (by kernel_rfl) rfl rfl (Qy.move rfl) ?_
            refine Gm.q 7 [] (by kernel_rfl) rfl rfl (Qy.move rfl) ?_
            refine Gm.q 8 [] (by kernel_rfl) rfl rfl (Qy.fieldAddr T.fa34_2 rfl) ?_
            refine Gm.q 9 [33] (by kernel_rfl) rfl rfl (Qy.load 33 T.one3 rfl rfl rfl) ?_
            refine Gm.two 10 13 ⟨rfl, rfl, rfl, rfl, rfl, rfl, rfl, rfl, trivial⟩ (by first | exact Imm.le_refl _ | assumption | (refine Imm.le_trans ?_ (by assumption); first | assumption | (refine Imm.le_trans ?_ (by assumption); assumption))) (by kernel_rfl) rfl rfl ?_ ?_
            refine Wl.callB 36 rfl T.fn81 rfl (fun Gx hGx hgx => (c81 _ _ _ _ _ _ _ _ _ _ (by first | exact Arr.up (by assumption) hGx | exact Arr.nil _ | exact Arr.own hgx 35 rfl (by first | assumption | exact OwnA.made (by simp [maxLen])) | exact Arr.own hgx 32 rfl (by first | assumption | exact OwnA.made (by simp [maxLen])) | exact Arr.own hgx 30 rfl (by first | assumption | exact OwnA.made (by simp [maxLen])) | exact Arr.own hgx 2 rfl (by first | assumption | exact OwnA.made (by simp [maxLen]))) (by first | exact Arr.up (by assumption) hGx | exact Arr.nil _ | exact Arr.own hgx 35 rfl (by first | assumption | exact OwnA.made (by simp [maxLen])) | exact Arr.own hgx 32 rfl (by first | assumption | exact OwnA.made (by simp [maxLen])) | exact Arr.own hgx 30 rfl (by first | assumption | exact OwnA.made (by simp [maxLen])) | exact Arr.own hgx 2 rfl (by first | assumption | exact OwnA.made (by simp [maxLen]))) (by omega) (by omega) (by omega))) (fun v1 Gx1 G1 Ho1 hlx1 hp => ?_)
            obtain ⟨rfl, rfl, rfl⟩ := hp
            refine Wl.on0 ?_
            refine Gm.two 11 13 ⟨rfl, rfl, rfl, rfl, rfl, rfl, rfl, rfl, trivial⟩ (by first | exact Imm.le_refl _ | assumption | (refine Imm.le_trans ?_ (by assumption); first | assumption | (refine Imm.le_trans ?_ (by assumption); assumption))) (by kernel_rfl) rfl rfl ?_ ?_
            refine Wl.callB 36 rfl T.fn80 rfl (fun Gx hGx hgx => (c80 _ _ _ x.now _ (by first | exact Arr.up (by assumption) hGx | exact Arr.nil _ | exact Arr.own hgx 35 rfl (by first | assumption | exact OwnA.made (by simp [maxLen])) | exact Arr.own hgx 32 rfl (by first | assumption | exact OwnA.made (by simp [maxLen])) | exact Arr.own hgx 30 rfl (by first | assumption | exact OwnA.made (by simp [maxLen])) | exact Arr.own hgx 2 rfl (by first | assumption | exact OwnA.made (by simp [maxLen]))) (by omega))) (fun v2 Gx2 G2 Ho2 hlx2 hp => ?_)
            obtain ⟨rfl, rfl, rfl⟩ := hp
            refine Wl.on0 ?_
            refine Gm.q 12 [] (by kernel_rfl) rfl rfl (Qy.build (cs := [_, _, _, _, _]) T.st34 rfl rfl rfl) ?_
            refine Gm.one 13 ⟨rfl, rfl, rfl, rfl, rfl, rfl, rfl, rfl, trivial⟩ (by first | exact Imm.le_refl _ | assumption | (refine Imm.le_trans ?_ (by assumption); first | assumption | (refine Imm.le_trans ?_ (by assumption); assumption))) (by kernel_rfl) rfl ?_
            refine Wl.alloc 36 rfl T.zero34 (fun b5 => ?_)
            refine Wl.on0 ?_
            refine Gm.one 14 ⟨rfl, rfl, rfl, rfl, rfl, rfl, rfl, rfl, trivial⟩ (by first | exact Imm.le_refl _ | assumption | (refine Imm.le_trans ?_ (by assumption); first | assumption | (refine Imm.le_trans ?_ (by assumption); assumption))) (by kernel_rfl) rfl ?_
            refine Wl.storeAll 36 T.size34 rfl rfl rfl rfl rfl rfl ?_
            refine Wl.on0 ?_
            refine Gm.doneA (by kernel_rfl) ⟨rfl, rfl, rfl, rfl, rfl, rfl, rfl, rfl, trivial⟩ (by first | exact Imm.le_refl _ | assumption | (refine Imm.le_trans ?_ (by assumption); first | assumption | (refine Imm.le_trans ?_ (by assumption); assumption))) ?_
            rotate_left
            refine Wl.alloc 36 rfl T.zero34 (fun b5 => ?_)
            refine Wl.on0 ?_
            refine Gm.one 11 ⟨rfl, rfl, rfl, rfl, rfl, rfl, rfl, rfl, trivial⟩ (by first | exact Imm.le_refl _ | assumption | (refine Imm.le_trans ?_ (by assumption); first | assumption | (refine Imm.le_trans ?_ (by assumption); assumption))) (by kernel_rfl) rfl ?_
            refine Wl.callB 37 rfl T.fn80 rfl (fun Gx hGx hgx => (c80 _ _ _ x.now _ (by first | exact Arr.up (by assumption) hGx | exact Arr.nil _ | exact Arr.own hgx 35 rfl (by first | assumption | exact OwnA.made (by simp [maxLen])) | exact Arr.own hgx 32 rfl (by first | assumption | exact OwnA.made (by simp [maxLen])) | exact Arr.own hgx 30 rfl (by first | assumption | exact OwnA.made (by simp [maxLen])) | exact Arr.own hgx 2 rfl (by first | assumption | exact OwnA.made (by simp [maxLen]))) (by omega))) (fun v2 Gx2 G2 Ho2 hlx2 hp => ?_)
            obtain ⟨rfl, rfl, rfl⟩ := hp
            refine Wl.on0 ?_
            refine Gm.q 12 [] (by kernel_rfl) rfl rfl (Qy.build (cs := [_, _, _, _, _]) T.st34 rfl rfl rfl) ?_
            refine Gm.one 14 ⟨rfl, rfl, rfl, rfl, rfl, rfl, rfl, rfl, trivial⟩ (by first | exact Imm.le_refl _ | assumption | (refine Imm.le_trans ?_ (by assumption); first | assumption | (refine Imm.le_trans ?_ (by assumption); assumption))) (by kernel_rfl) rfl ?_
            refine Wl.storeAll 36 T.size34 rfl rfl rfl rfl rfl rfl ?_
            refine Wl.on0 ?_
            refine Gm.doneA (by kernel_rfl) ⟨rfl, rfl, rfl, rfl, rfl, rfl, rfl, rfl, trivial⟩ (by first | exact Imm.le_refl _ | assumption | (refine Imm.le_trans ?_ (by assumption); first | assumption | (refine Imm.le_trans ?_ (by assumption); assumption))) ?_
            rotate_left
            refine Wl.alloc 36 rfl T.zero34 (fun b5 => ?_)
            refine Wl.on0 ?_
            refine Gm.one 10 ⟨rfl, rfl, rfl, rfl, rfl, rfl, rfl, rfl, trivial⟩ (by first | exact Imm.le_refl _ | assumption | (refine Imm.le_trans ?_ (by assumption); first | assumption | (refine Imm.le_trans ?_ (by assumption); assumption))) (by kernel_rfl) rfl ?_
            refine Wl.callB 37 rfl T.fn81 rfl (fun Gx hGx hgx => (c81 _ _ _ _ _ _ _ _ _ _ (by first | exact Arr.up (by assumption) hGx | exact Arr.nil _ | exact Arr.own hgx 35 rfl (by first | assumption | exact OwnA.made (by simp [maxLen])) | exact Arr.own hgx 32 rfl (by first | assumption | exact OwnA.made (by simp [maxLen])) | exact Arr.own hgx 30 rfl (by first | assumption | exact OwnA.made (by simp [maxLen])) | exact Arr.own hgx 2 rfl (by first | assumption | exact OwnA.made (by simp [maxLen]))) (by first | exact Arr.up (by assumption) hGx | exact Arr.nil _ | exact Arr.own hgx 35 rfl (by first | assumption | exact OwnA.made (by simp [maxLen])) | exact Arr.own hgx 32 rfl (by first | assumption | exact OwnA.made (by simp [maxLen])) | exact Arr.own hgx 30 rfl (by first | assumption | exact OwnA.made (by simp [maxLen])) | exact Arr.own hgx 2 rfl (by first | assumption | exact OwnA.made (by simp [maxLen]))) (by omega) (by omega) (by omega))) (fun v1 Gx1 G1 Ho1 hlx1 hp => ?_)
            obtain ⟨rfl, rfl, rfl⟩ := hp
            refine Wl.on0 ?_
            refine Gm.one 11 ⟨rfl, rfl, rfl, rfl, rfl, rfl, rfl, rfl, trivial⟩ (by first | exact Imm.le_refl _ | assumption | (refine Imm.le_trans ?_ (by assumption); first | assumption | (refine Imm.le_trans ?_ (by assumption); assumption))) (by kernel_rfl) rfl ?_
            refine Wl.callB 37 rfl T.fn80 rfl (fun Gx hGx hgx => (c80 _ _ _ x.now _ (by first | exact Arr.up (by assumption) hGx | exact Arr.nil _ | exact Arr.own hgx 35 rfl (by first | assumption | exact OwnA.made (by simp [maxLen])) | exact Arr.own hgx 32 rfl (by first | assumption | exact OwnA.made (by simp [maxLen])) | exact Arr.own hgx 30 rfl (by first | assumption | exact OwnA.made (by simp [maxLen])) | exact Arr.own hgx 2 rfl (by first | assumption | exact OwnA.made (by simp [maxLen]))) (by omega))) (fun v2 Gx2 G2 Ho2 hlx2 hp => ?_)
            obtain ⟨rfl, rfl, rfl⟩ := hp
            refine Wl.on0 ?_
            refine Gm.q 12 [] (by kernel_rfl) rfl rfl (Qy.build (cs := [_, _, _, _, _]) T.st34 rfl rfl rfl) ?_
            refine Gm.one 14 ⟨rfl, rfl, rfl, rfl, rfl, rfl, rfl, rfl, trivial⟩ (by first | exact Imm.le_refl _ | assumption | (refine Imm.le_trans ?_ (by assumption); first | assumption | (refine Imm.le_trans ?_ (by assumption); assumption))) (by kernel_rfl) rfl ?_
            refine Wl.storeAll 36 T.size34 rfl rfl rfl rfl rfl rfl ?_
            refine Wl.on0 ?_
            refine Gm.doneA (by kernel_rfl) ⟨rfl, rfl, rfl, rfl, rfl, rfl, rfl, rfl, trivial⟩ (by first | exact Imm.le_refl _ | assumption | (refine Imm.le_trans ?_ (by assumption); first | assumption | (refine Imm.le_trans ?_ (by assumption); assumption))) ?_
            rotate_left
            all_goals refine Ar.meet (b5) ?_ rfl ⟨rfl, rfl, rfl, rfl, rfl, rfl, rfl, rfl, rfl, trivial⟩ ⟨rfl, rfl, rfl, rfl, rfl, rfl, rfl, rfl, rfl, trivial⟩
            all_goals trivial
          · clear hk
            refine Wc.meet (ι := Int) (fun v => ([(10, Go.Value.pointer (Option.some (Go.Addr.mk u 0 Option.none))), (7, Go.Value.int Go.IntKind.i64 (↑k : Int)), (5, Go.Value.slice a9 (List.length (Go.Proofs.Ytfleehgbpgmcnaa.mk2 (Go.Proofs.Ytfleehgbpgmcnaa.RefS.now x))) c9), (4, Go.Value.pointer (Option.some (Go.Addr.mk b3 0 Option.none))), (3, Go.Value.slice nb1 (List.length (Go.Proofs.Ytfleehgbpgmcnaa.neededP p)) nc1), (2, Go.Value.pointer (Option.some (Go.Addr.mk b2 0 Option.none))), (1, Go.Value.pointer (Option.some (Go.Addr.mk b1 0 Option.none)))], [(36, some u, .cells #[.int .i64 (p.code[((k : Nat) : Int).toNat]?.getD default).op, .int .i64 0, .int .i64 (wh x.now (heldR p k (p.code[((k : Nat) : Int).toNat]?.getD default).a)), .int .i64 v, .int .i64 (p.code[((k : Nat) : Int).toNat]?.getD default).c] 34), (35, Option.map (fun x => Go.Addr.block x) ad2, Go.Sl.Row (α := Int) 3 (Go.Proofs.Ytfleehgbpgmcnaa.asks (Option.getD (Go.Proofs.Ytfleehgbpgmcnaa.PV.code p)[Int.toNat (↑k : Int)]? Inhabited.default)) (junk2)), (33, Option.some b4, Go.Obj.cells (List.toArray (Go.Sl.Cells.enc (Option.getD (Go.Proofs.Ytfleehgbpgmcnaa.PV.code p)[Int.toNat (↑k : Int)]? Inhabited.default))) 34), (3, Option.some b3, Go.Obj.cells #[Go.Value.int Go.IntKind.i64 (Go.Proofs.Ytfleehgbpgmcnaa.PV.ins p), Go.Value.int Go.IntKind.i64 (Go.Proofs.Ytfleehgbpgmcnaa.RefS.regs x), Go.Value.slice oa (List.length (Go.Proofs.Ytfleehgbpgmcnaa.RefS.code x)) oc, Go.Value.slice Option.none 0 0] 25), (32, Option.map (fun x => Go.Addr.block x) oa, Go.Sl.Row (α := Go.Sl.Instr) 34 (Go.Proofs.Ytfleehgbpgmcnaa.RefS.code x) (oj)), (30, Option.map (fun x => Go.Addr.block x) a9, Go.Sl.Row (α := Go.Sl.R2) 123 (Go.Proofs.Ytfleehgbpgmcnaa.mk2 (Go.Proofs.Ytfleehgbpgmcnaa.RefS.now x)) (j9)), (2, Option.map (fun x => Go.Addr.block x) nb1, Go.Sl.Row (α := Bool) 4 (Go.Proofs.Ytfleehgbpgmcnaa.neededP p) (nj1)), (1, Option.some b2, Go.Obj.cells #[Go.Value.int Go.IntKind.i64 0, Go.Value.int Go.IntKind.i64 0, Go.Value.slice Option.none 0 0, Go.Value.slice Option.none 0 0] 25), (0, Option.some b1, Go.Obj.cells #[Go.Value.int Go.IntKind.i64 (Go.Proofs.Ytfleehgbpgmcnaa.PV.ins p), Go.Value.int Go.IntKind.i64 (Go.Proofs.Ytfleehgbpgmcnaa.PV.regs p), Go.Value.slice ac (List.length (Go.Proofs.Ytfleehgbpgmcnaa.PV.code p)) cc, Go.Value.slice ao (List.length (Go.Proofs.Ytfleehgbpgmcnaa.PV.outs p)) co] 25)])) (fun v => v = if 1 < (asks (p.code[((k : Nat) : Int).toNat]?.getD default)).length then wh x.now (heldR p k (p.code[((k : Nat) : Int).toNat]?.getD default).b) else 0) ?_ (fun v => fun (hk : v = if 1 < (asks (p.code[((k : Nat) : Int).toNat]?.getD default)).length then wh x.now (heldR p k (p.code[((k : Nat) : Int).toNat]?.getD default).b) else 0) => ?_)
            · by_cases h2 : 1 < ((asks (p.code[((k : Nat) : Int).toNat]?.getD default)).length : Int)
              · have m4b := m4' h2
                refine Wc.seq ?_
                refine Wc.region rfl ?_
                refine Wl.q rfl (Qy.move rfl) ?_
                refine Wl.q rfl (Qy.len T.sl23 rfl) ?_
                refine Wl.q rfl (Qy.gtr rfl rfl) ?_
                refine Wl.done ?_
                refine Ar.next ?_
                refine Wc.condP rfl (by first | assumption | omega) ?_
                refine Wc.region rfl ?_
                refine Wl.q rfl (Qy.move rfl) ?_
                refine Wl.q rfl (Qy.loadAll 0 T.agg25 rfl rfl rfl) ?_
                refine Wl.q rfl (Qy.move rfl) ?_
                refine Wl.q rfl (Qy.move rfl) ?_
                refine Wl.q rfl (Qy.fieldAddr T.fa34_3 rfl) ?_
                refine Wl.q rfl (Qy.load 33 T.one3 rfl rfl rfl) ?_
                refine Wl.callB 37 rfl T.fn81 rfl (fun Gx hGx hgx => (c81 _ _ _ _ _ _ _ _ _ _ (by first | exact Arr.up (by assumption) hGx | exact Arr.nil _ | exact Arr.own hgx 35 rfl (by first | assumption | exact OwnA.made (by simp [maxLen])) | exact Arr.own hgx 32 rfl (by first | assumption | exact OwnA.made (by simp [maxLen])) | exact Arr.own hgx 30 rfl (by first | assumption | exact OwnA.made (by simp [maxLen])) | exact Arr.own hgx 2 rfl (by first | assumption | exact OwnA.made (by simp [maxLen]))) (by first | exact Arr.up (by assumption) hGx | exact Arr.nil _ | exact Arr.own hgx 35 rfl (by first | assumption | exact OwnA.made (by simp [maxLen])) | exact Arr.own hgx 32 rfl (by first | assumption | exact OwnA.made (by simp [maxLen])) | exact Arr.own hgx 30 rfl (by first | assumption | exact OwnA.made (by simp [maxLen])) | exact Arr.own hgx 2 rfl (by first | assumption | exact OwnA.made (by simp [maxLen]))) (by omega) (by omega) (by omega))) (fun v1 Gx1 G1 Ho1 hlx1 hp => ?_)
                obtain ⟨rfl, rfl, rfl⟩ := hp
                refine Wl.callB 37 rfl T.fn80 rfl (fun Gx hGx hgx => (c80 _ _ _ x.now _ (by first | exact Arr.up (by assumption) hGx | exact Arr.nil _ | exact Arr.own hgx 35 rfl (by first | assumption | exact OwnA.made (by simp [maxLen])) | exact Arr.own hgx 32 rfl (by first | assumption | exact OwnA.made (by simp [maxLen])) | exact Arr.own hgx 30 rfl (by first | assumption | exact OwnA.made (by simp [maxLen])) | exact Arr.own hgx 2 rfl (by first | assumption | exact OwnA.made (by simp [maxLen]))) (by omega))) (fun v2 Gx2 G2 Ho2 hlx2 hp => ?_)
                obtain ⟨rfl, rfl, rfl⟩ := hp
                refine Wl.q rfl (Qy.fieldAddr T.fa34_3 rfl) ?_
                refine Wl.store 36 T.one3 rfl rfl rfl rfl rfl ?_
                refine Wl.done ?_
                refine Ar.meet (wh x.now (heldR p k (p.code[((k : Nat) : Int).toNat]?.getD default).b)) ?_ rfl ⟨rfl, rfl, rfl, rfl, rfl, rfl, rfl, trivial⟩ ⟨rfl, rfl, rfl, rfl, rfl, rfl, rfl, rfl, rfl, trivial⟩
                exact (if_pos (by omega)).symm
              · refine Wc.seq ?_
                refine Wc.region rfl ?_
                refine Wl.q rfl (Qy.move rfl) ?_
                refine Wl.q rfl (Qy.len T.sl23 rfl) ?_
                refine Wl.q rfl (Qy.gtr rfl rfl) ?_
                refine Wl.done ?_
                refine Ar.next ?_
                refine Wc.condN rfl (by first | assumption | omega) ?_
                refine Wc.skip ?_
                refine Ar.meet (0) ?_ rfl ⟨rfl, rfl, rfl, rfl, rfl, rfl, rfl, trivial⟩ ⟨rfl, rfl, rfl, rfl, rfl, rfl, rfl, rfl, rfl, trivial⟩
                exact (if_neg (by omega)).symm
            · have hv9 := hk
              refine Wc.seq ?_
              refine Wc.region rfl ?_
              refine Wl.q rfl (Qy.assign rfl) ?_
              refine Wl.done ?_
              refine Ar.next ?_
              refine Wc.seq ?_
              refine Wc.seq ?_
              refine Wc.region rfl ?_
              refine Wl.q rfl (Qy.assign rfl) ?_
              refine Wl.done ?_
              refine Ar.next ?_
              refine Wc.block ?_
              refine Wc.nilRow 40 (Row 123 (mk2 (restR p k (x.now.take 0))) []) ?_
              refine Wc.loop (ι := Nat × (Option Addr × Nat × List Value)) (fun (a, (ra, rc, rj)) => ([(12, .int .i64 (a : Int)), (11, .slice ra (mk2 (restR p k (x.now.take a))).length rc), (10, Go.Value.pointer (Option.some (Go.Addr.mk u 0 Option.none))), (7, Go.Value.int Go.IntKind.i64 (↑k : Int)), (5, Go.Value.slice a9 (List.length (Go.Proofs.Ytfleehgbpgmcnaa.mk2 (Go.Proofs.Ytfleehgbpgmcnaa.RefS.now x))) c9), (4, Go.Value.pointer (Option.some (Go.Addr.mk b3 0 Option.none))), (3, Go.Value.slice nb1 (List.length (Go.Proofs.Ytfleehgbpgmcnaa.neededP p)) nc1), (2, Go.Value.pointer (Option.some (Go.Addr.mk b2 0 Option.none))), (1, Go.Value.pointer (Option.some (Go.Addr.mk b1 0 Option.none)))], [(40, ra.map (·.block), Row 123 (mk2 (restR p k (x.now.take a))) rj), (36, Option.some u, Go.Obj.cells #[Go.Value.int Go.IntKind.i64 (Go.Sl.Instr.op (Option.getD (Go.Proofs.Ytfleehgbpgmcnaa.PV.code p)[Int.toNat (↑k : Int)]? Inhabited.default)), Go.Value.int Go.IntKind.i64 0, Go.Value.int Go.IntKind.i64 (Go.Proofs.Ytfleehgbpgmcnaa.wh (Go.Proofs.Ytfleehgbpgmcnaa.RefS.now x) (Go.Proofs.Ytfleehgbpgmcnaa.heldR p k (Go.Sl.Instr.a (Option.getD (Go.Proofs.Ytfleehgbpgmcnaa.PV.code p)[Int.toNat (↑k : Int)]? Inhabited.default)))), Go.Value.int Go.IntKind.i64 v, Go.Value.int Go.IntKind.i64 (Go.Sl.Instr.c (Option.getD (Go.Proofs.Ytfleehgbpgmcnaa.PV.code p)[Int.toNat (↑k : Int)]? Inhabited.default))] 34), (35, Option.map (fun x => Go.Addr.block x) ad2, Go.Sl.Row (α := Int) 3 (Go.Proofs.Ytfleehgbpgmcnaa.asks (Option.getD (Go.Proofs.Ytfleehgbpgmcnaa.PV.code p)[Int.toNat (↑k : Int)]? Inhabited.default)) (junk2)), (33, Option.some b4, Go.Obj.cells (List.toArray (Go.Sl.Cells.enc (Option.getD (Go.Proofs.Ytfleehgbpgmcnaa.PV.code p)[Int.toNat (↑k : Int)]? Inhabited.default))) 34), (3, Option.some b3, Go.Obj.cells #[Go.Value.int Go.IntKind.i64 (Go.Proofs.Ytfleehgbpgmcnaa.PV.ins p), Go.Value.int Go.IntKind.i64 (Go.Proofs.Ytfleehgbpgmcnaa.RefS.regs x), Go.Value.slice oa (List.length (Go.Proofs.Ytfleehgbpgmcnaa.RefS.code x)) oc, Go.Value.slice Option.none 0 0] 25), (32, Option.map (fun x => Go.Addr.block x) oa, Go.Sl.Row (α := Go.Sl.Instr) 34 (Go.Proofs.Ytfleehgbpgmcnaa.RefS.code x) (oj)), (30, Option.map (fun x => Go.Addr.block x) a9, Go.Sl.Row (α := Go.Sl.R2) 123 (Go.Proofs.Ytfleehgbpgmcnaa.mk2 (Go.Proofs.Ytfleehgbpgmcnaa.RefS.now x)) (j9)), (2, Option.map (fun x => Go.Addr.block x) nb1, Go.Sl.Row (α := Bool) 4 (Go.Proofs.Ytfleehgbpgmcnaa.neededP p) (nj1)), (1, Option.some b2, Go.Obj.cells #[Go.Value.int Go.IntKind.i64 0, Go.Value.int Go.IntKind.i64 0, Go.Value.slice Option.none 0 0, Go.Value.slice Option.none 0 0] 25), (0, Option.some b1, Go.Obj.cells #[Go.Value.int Go.IntKind.i64 (Go.Proofs.Ytfleehgbpgmcnaa.PV.ins p), Go.Value.int Go.IntKind.i64 (Go.Proofs.Ytfleehgbpgmcnaa.PV.regs p), Go.Value.slice ac (List.length (Go.Proofs.Ytfleehgbpgmcnaa.PV.code p)) cc, Go.Value.slice ao (List.length (Go.Proofs.Ytfleehgbpgmcnaa.PV.outs p)) co] 25)])) (fun (a, (ra, rc, rj)) => a ≤ x.now.length ∧ OwnA ra rc (mk2 (restR p k (x.now.take a))) rj) (fun (a, (ra, rc, rj)) => x.now.length - a) ((0, (none, 0, []))) (⟨Nat.zero_le _, OwnA.nil⟩) ⟨rfl, rfl, rfl, rfl, rfl, rfl, rfl, rfl, rfl, trivial⟩ ⟨rfl, rfl, rfl, rfl, rfl, rfl, rfl, rfl, rfl, rfl, trivial⟩ (fun ⟨a, (ra, rc, rj)⟩ => fun (hk : a ≤ x.now.length ∧ OwnA ra rc (mk2 (restR p k (x.now.take a))) rj) => ?_)
              obtain ⟨ha0, hor⟩ := hk
              have hrl := rest_len p k (x.now.take a)
              have hrl2 : (x.now.take a).length ≤ x.now.length := by rw [List.length_take]; omega
              have hrm := mk2_len (restR p k (x.now.take a))
              rcases Nat.lt_or_ge a x.now.length with hax | hax
              · have hat := mk2_at hax
                refine Wc.seq ?_
                refine Wc.seq ?_
                refine Wc.region rfl ?_
                refine Wl.q rfl (Qy.move rfl) ?_
                refine Wl.q rfl (Qy.move rfl) ?_
                refine Wl.q rfl (Qy.len T.sl120 rfl) ?_
                refine Wl.q rfl (Qy.lss rfl rfl) ?_
                refine Wl.done ?_
                refine Ar.next ?_
                refine Wc.condP rfl (by first | assumption | omega) ?_
                refine Wc.skip ?_
                refine Ar.next ?_
                refine Wc.seq ?_
                refine Wc.block ?_
                refine Wc.seq ?_
                refine Wc.draw [0, 1, 2, 30, 32, 3, 33, 35, 36, 40] [] T.mixed rfl ?_
                refine Gm.q 0 [0] (by kernel_rfl) rfl rfl (Qy.loadAll 0 T.agg25 rfl rfl rfl) ?_
                refine Gm.q 1 [] (by kernel_rfl) rfl rfl (Qy.move rfl) ?_
                refine Gm.q 2 [] (by kernel_rfl) rfl rfl (Qy.move rfl) ?_
                refine Gm.q 3 [] (by kernel_rfl) rfl rfl (Qy.move rfl) ?_
                refine Gm.q 4 [] (by kernel_rfl) rfl rfl (Qy.indexAddrO (α := R2) T.sl120 rfl rfl (by assumption) (by omega)) ?_
                refine Gm.q 5 [] (by kernel_rfl) rfl rfl (Qy.fieldAddr T.fa123_0 rfl) ?_
                refine Gm.q 6 [0, 30] (by kernel_rfl) rfl rfl (Qy.loadO 30 0 T.one3 rfl rfl (by assumption) (by omega) rfl rfl) ?_
                refine Gm.q 8 [] (by kernel_rfl) rfl rfl (Qy.move rfl) ?_
                refine Gm.one 7 ⟨rfl, rfl, rfl, rfl, rfl, rfl, rfl, rfl, rfl, rfl, trivial⟩ (by first | exact Imm.le_refl _ | assumption | (refine Imm.le_trans ?_ (by assumption); first | assumption | (refine Imm.le_trans ?_ (by assumption); assumption))) (by kernel_rfl) rfl ?_
                refine Wl.callB 41 rfl T.fn79 rfl (fun Gx hGx hgx => (c79 _ _ _ _ _ _ _ _ _ (by first | exact Arr.up (by assumption) hGx | exact Arr.nil _ | exact Arr.own hgx 40 rfl (by first | assumption | exact OwnA.made (by simp [maxLen])) | exact Arr.own hgx 35 rfl (by first | assumption | exact OwnA.made (by simp [maxLen])) | exact Arr.own hgx 32 rfl (by first | assumption | exact OwnA.made (by simp [maxLen])) | exact Arr.own hgx 30 rfl (by first | assumption | exact OwnA.made (by simp [maxLen])) | exact Arr.own hgx 2 rfl (by first | assumption | exact OwnA.made (by simp [maxLen]))) (by first | exact Arr.up (by assumption) hGx | exact Arr.nil _ | exact Arr.own hgx 40 rfl (by first | assumption | exact OwnA.made (by simp [maxLen])) | exact Arr.own hgx 35 rfl (by first | assumption | exact OwnA.made (by simp [maxLen])) | exact Arr.own hgx 32 rfl (by first | assumption | exact OwnA.made (by simp [maxLen])) | exact Arr.own hgx 30 rfl (by first | assumption | exact OwnA.made (by simp [maxLen])) | exact Arr.own hgx 2 rfl (by first | assumption | exact OwnA.made (by simp [maxLen]))) (by first | exact Arr.up (by assumption) hGx | exact Arr.nil _ | exact Arr.own hgx 40 rfl (by first | assumption | exact OwnA.made (by simp [maxLen])) | exact Arr.own hgx 35 rfl (by first | assumption | exact OwnA.made (by simp [maxLen])) | exact Arr.own hgx 32 rfl (by first | assumption | exact OwnA.made (by simp [maxLen])) | exact Arr.own hgx 30 rfl (by first | assumption | exact OwnA.made (by simp [maxLen])) | exact Arr.own hgx 2 rfl (by first | assumption | exact OwnA.made (by simp [maxLen]))) hR)) (fun v1 Gx1 G1 Ho1 hlx1 hp => ?_)
                obtain ⟨rfl, rfl, rfl⟩ := hp
                refine Wl.on0 ?_
                refine Gm.q 9 [] (by kernel_rfl) rfl rfl (Qy.neq rfl rfl) ?_
                refine Gm.doneA (by kernel_rfl) ⟨rfl, rfl, rfl, rfl, rfl, rfl, rfl, rfl, rfl, rfl, trivial⟩ (by first | exact Imm.le_refl _ | assumption | (refine Imm.le_trans ?_ (by assumption); first | assumption | (refine Imm.le_trans ?_ (by assumption); assumption))) ?_
                refine Ar.next ?_
                refine Wc.cond rfl (fun hc2 => ?_) (fun hc2 => ?_)
                refine Wc.region rfl ?_
                refine Wl.q rfl (Qy.move rfl) ?_
                refine Wl.q rfl (Qy.move rfl) ?_
                refine Wl.q rfl (Qy.move rfl) ?_
                refine Wl.q rfl (Qy.indexAddrO (α := R2) T.sl120 rfl rfl (by assumption) (by omega)) ?_
                refine Wl.q rfl (Qy.loadsO 30 T.agg123 rfl rfl (by assumption) (by omega)) ?_
                refine Wl.lit (α := R2) 41 [(Option.getD (Go.Proofs.Ytfleehgbpgmcnaa.mk2 (Go.Proofs.Ytfleehgbpgmcnaa.RefS.now x))[Int.toNat (↑a : Int)]? Inhabited.default)] rfl T.sl120 T.el123 rfl rfl rfl rfl rfl (fun b5 => ?_)
                refine Wl.append (α := R2) 40 rfl T.sl120 T.el123 rfl rfl rfl (by first | assumption | exact OwnA.nil | exact OwnA.made (by simp)) (Src.row 41 rfl) (by first | omega | (simp only [List.length_append, List.length_cons, List.length_nil, maxLen]; omega)) (by first | omega | (simp only [List.length_append, List.length_cons, List.length_nil, maxLen]; omega)) (fun a1 c1 junk1 ho1 => ?_)
                refine Wl.q rfl (Qy.assign rfl) ?_
                refine Wl.done ?_
                refine Ar.outNormal ?_
                refine Ar.next ?_
                refine Wc.region rfl ?_
                refine Wl.q rfl (Qy.move rfl) ?_
                refine Wl.q rfl (Qy.add rfl rfl (by omega)) ?_
                refine Wl.q rfl (Qy.assign rfl) ?_
                refine Wl.done ?_
                rotate_left
                refine Wc.skip ?_
                refine Ar.outNormal ?_
                refine Ar.next ?_
                refine Wc.region rfl ?_
                refine Wl.q rfl (Qy.move rfl) ?_
                refine Wl.q rfl (Qy.add rfl rfl (by omega)) ?_
                refine Wl.q rfl (Qy.assign rfl) ?_
                refine Wl.done ?_
                rotate_left
                · rw [hat] at hc2
                  have e := rest_yes (p := p) (k := k) hax hc2
                  rw [hat, ← e]
                  rw [hat, ← e] at ho1
                  refine Ar.again ((a + 1, (a1, c1, junk1))) ?_ ?_ rfl ⟨rfl, rfl, rfl, rfl, rfl, rfl, rfl, rfl, rfl, trivial⟩ ⟨rfl, rfl, rfl, rfl, rfl, rfl, rfl, rfl, rfl, rfl, trivial⟩
                  · exact ⟨hax, ho1⟩
                  · show x.now.length - (a + 1) < x.now.length - a
                    omega
                · rw [hat] at hc2
                  have e := rest_no (p := p) (k := k) hax hc2
                  refine Ar.re 11 rfl (show _ = Value.slice ra (mk2 (restR p k (x.now.take (a + 1)))).length rc by rw [e]) ?_
                  refine Ar.reH 40 (Row 123 (mk2 (restR p k (x.now.take (a + 1)))) rj) rfl (by rw [e]) ?_
                  rw [← e] at hor
                  refine Ar.again ((a + 1, (ra, rc, rj))) ?_ ?_ rfl ⟨rfl, rfl, rfl, rfl, rfl, rfl, rfl, rfl, rfl, trivial⟩ ⟨rfl, rfl, rfl, rfl, rfl, rfl, rfl, rfl, rfl, rfl, trivial⟩
                  · exact ⟨hax, hor⟩
                  · show x.now.length - (a + 1) < x.now.length - a
                    omega
              · have etk : x.now.take a = x.now := List.take_of_length_le hax
                obtain ⟨L, hL⟩ : ∃ L, L = restR p k x.now := ⟨_, rfl⟩
                have eL : restR p k (x.now.take a) = L := by rw [etk, hL]
                have hLl : L.length ≤ x.now.length := by rw [hL]; exact rest_len p k x.now
                have hLm := mk2_len L
                refine Wc.seq ?_
                refine Wc.seq ?_
                refine Wc.region rfl ?_
                refine Wl.q rfl (Qy.move rfl) ?_
                refine Wl.q rfl (Qy.move rfl) ?_
                refine Wl.q rfl (Qy.len T.sl120 rfl) ?_
                refine Wl.q rfl (Qy.lss rfl rfl) ?_
                refine Wl.done ?_
                refine Ar.next ?_
                refine Wc.condN rfl (by first | assumption | omega) ?_
                refine Wc.exit ?_
                refine Ar.passExit ?_
                refine Ar.passExit ?_
                refine Ar.here ?_
                refine Ar.next ?_
                refine Wc.seq ?_
                refine Wc.region rfl ?_
                refine Wl.q rfl (Qy.move rfl) ?_
                refine Wl.q rfl (Qy.assign rfl) ?_
                refine Wl.done ?_
                refine Ar.next ?_
                refine Wc.seq ?_
                refine Wc.region rfl ?_
                refine Wl.q rfl (Qy.assign rfl) ?_
                refine Wl.done ?_
                refine Ar.next ?_
                refine Wc.seq ?_
                refine Wc.seq ?_
                refine Wc.region rfl ?_
                refine Wl.q rfl (Qy.assign rfl) ?_
                refine Wl.done ?_
                refine Ar.next ?_
                refine Wc.block ?_
                refine Wc.re 5 rfl (show _ = Value.slice ra (mk2 L).length rc by rw [eL]) ?_
                refine Wc.reH 40 (Row 123 (mk2 L) rj) rfl (by rw [eL]) ?_
                rw [eL] at hor
                refine Wc.loop (ι := Nat × Bool) (fun (q, tk) => ([(13, .int .i64 (q : Int)), (14, .bool tk), (5, .slice ra (mk2 L).length rc), (10, Go.Value.pointer (Option.some (Go.Addr.mk u 0 Option.none))), (7, Go.Value.int Go.IntKind.i64 (↑k : Int)), (4, Go.Value.pointer (Option.some (Go.Addr.mk b3 0 Option.none))), (3, Go.Value.slice nb1 (List.length (Go.Proofs.Ytfleehgbpgmcnaa.neededP p)) nc1), (2, Go.Value.pointer (Option.some (Go.Addr.mk b2 0 Option.none))), (1, Go.Value.pointer (Option.some (Go.Addr.mk b1 0 Option.none)))], [(40, Option.map (fun x => Go.Addr.block x) ra, Go.Sl.Row (α := Go.Sl.R2) 123 (Go.Proofs.Ytfleehgbpgmcnaa.mk2 L) (rj)), (36, Option.some u, Go.Obj.cells #[Go.Value.int Go.IntKind.i64 (Go.Sl.Instr.op (Option.getD (Go.Proofs.Ytfleehgbpgmcnaa.PV.code p)[Int.toNat (↑k : Int)]? Inhabited.default)), Go.Value.int Go.IntKind.i64 0, Go.Value.int Go.IntKind.i64 (Go.Proofs.Ytfleehgbpgmcnaa.wh (Go.Proofs.Ytfleehgbpgmcnaa.RefS.now x) (Go.Proofs.Ytfleehgbpgmcnaa.heldR p k (Go.Sl.Instr.a (Option.getD (Go.Proofs.Ytfleehgbpgmcnaa.PV.code p)[Int.toNat (↑k : Int)]? Inhabited.default)))), Go.Value.int Go.IntKind.i64 v, Go.Value.int Go.IntKind.i64 (Go.Sl.Instr.c (Option.getD (Go.Proofs.Ytfleehgbpgmcnaa.PV.code p)[Int.toNat (↑k : Int)]? Inhabited.default))] 34), (35, Option.map (fun x => Go.Addr.block x) ad2, Go.Sl.Row (α := Int) 3 (Go.Proofs.Ytfleehgbpgmcnaa.asks (Option.getD (Go.Proofs.Ytfleehgbpgmcnaa.PV.code p)[Int.toNat (↑k : Int)]? Inhabited.default)) (junk2)), (33, Option.some b4, Go.Obj.cells (List.toArray (Go.Sl.Cells.enc (Option.getD (Go.Proofs.Ytfleehgbpgmcnaa.PV.code p)[Int.toNat (↑k : Int)]? Inhabited.default))) 34), (3, Option.some b3, Go.Obj.cells #[Go.Value.int Go.IntKind.i64 (Go.Proofs.Ytfleehgbpgmcnaa.PV.ins p), Go.Value.int Go.IntKind.i64 (Go.Proofs.Ytfleehgbpgmcnaa.RefS.regs x), Go.Value.slice oa (List.length (Go.Proofs.Ytfleehgbpgmcnaa.RefS.code x)) oc, Go.Value.slice Option.none 0 0] 25), (32, Option.map (fun x => Go.Addr.block x) oa, Go.Sl.Row (α := Go.Sl.Instr) 34 (Go.Proofs.Ytfleehgbpgmcnaa.RefS.code x) (oj)), (30, Option.map (fun x => Go.Addr.block x) a9, Go.Sl.Row (α := Go.Sl.R2) 123 (Go.Proofs.Ytfleehgbpgmcnaa.mk2 (Go.Proofs.Ytfleehgbpgmcnaa.RefS.now x)) (j9)), (2, Option.map (fun x => Go.Addr.block x) nb1, Go.Sl.Row (α := Bool) 4 (Go.Proofs.Ytfleehgbpgmcnaa.neededP p) (nj1)), (1, Option.some b2, Go.Obj.cells #[Go.Value.int Go.IntKind.i64 0, Go.Value.int Go.IntKind.i64 0, Go.Value.slice Option.none 0 0, Go.Value.slice Option.none 0 0] 25), (0, Option.some b1, Go.Obj.cells #[Go.Value.int Go.IntKind.i64 (Go.Proofs.Ytfleehgbpgmcnaa.PV.ins p), Go.Value.int Go.IntKind.i64 (Go.Proofs.Ytfleehgbpgmcnaa.PV.regs p), Go.Value.slice ac (List.length (Go.Proofs.Ytfleehgbpgmcnaa.PV.code p)) cc, Go.Value.slice ao (List.length (Go.Proofs.Ytfleehgbpgmcnaa.PV.outs p)) co] 25)])) (fun (q, tk) => (∀ i : Nat, i < q → takenR L (i : Int) = true) ∧ (tk = false → takenR L (q : Int) = false)) (fun (q, tk) => 2 * (L.length + 1 - q) + (if tk = true then 1 else 0)) ((0, true)) (⟨fun i hi => by omega, fun h => by cases h⟩) ⟨rfl, rfl, rfl, rfl, rfl, rfl, rfl, rfl, rfl, trivial⟩ ⟨rfl, rfl, rfl, rfl, rfl, rfl, rfl, rfl, rfl, rfl, trivial⟩ (fun ⟨q, tk⟩ => fun (hk : (∀ i : Nat, i < q → takenR L (i : Int) = true) ∧ (tk = false → takenR L (q : Int) = false)) => ?_)
                obtain ⟨hq1, hq2⟩ := hk
                have hql := taken_len hq1
                cases tk with
                | true =>
                  refine Wc.seq ?_
                  refine Wc.seq ?_
                  refine Wc.region rfl ?_
                  refine Wl.q rfl (Qy.move rfl) ?_
                  refine Wl.done ?_
                  refine Ar.next ?_
                  refine Wc.condT rfl ?_
                  refine Wc.skip ?_
                  refine Ar.next ?_
                  refine Wc.block ?_
                  refine Wc.seq ?_
                  refine Wc.region rfl ?_
                  refine Wl.q rfl (Qy.assign rfl) ?_
                  refine Wl.done ?_
                  refine Ar.next ?_
                  refine Wc.seq ?_
                  refine Wc.seq ?_
                  refine Wc.region rfl ?_
                  refine Wl.q rfl (Qy.assign rfl) ?_
                  refine Wl.done ?_
                  refine Ar.next ?_
                  refine Wc.block ?_
                  refine Wc.loop (ι := Nat) (fun a => ([(15, .int .i64 (a : Int)), (14, .bool (takenR (L.take a) (q : Int))), (13, Go.Value.int Go.IntKind.i64 (↑q : Int)), (5, Go.Value.slice ra (List.length (Go.Proofs.Ytfleehgbpgmcnaa.mk2 L)) rc), (10, Go.Value.pointer (Option.some (Go.Addr.mk u 0 Option.none))), (7, Go.Value.int Go.IntKind.i64 (↑k : Int)), (4, Go.Value.pointer (Option.some (Go.Addr.mk b3 0 Option.none))), (3, Go.Value.slice nb1 (List.length (Go.Proofs.Ytfleehgbpgmcnaa.neededP p)) nc1), (2, Go.Value.pointer (Option.some (Go.Addr.mk b2 0 Option.none))), (1, Go.Value.pointer (Option.some (Go.Addr.mk b1 0 Option.none)))], [(40, Option.map (fun x => Go.Addr.block x) ra, Go.Sl.Row (α := Go.Sl.R2) 123 (Go.Proofs.Ytfleehgbpgmcnaa.mk2 L) (rj)), (36, Option.some u, Go.Obj.cells #[Go.Value.int Go.IntKind.i64 (Go.Sl.Instr.op (Option.getD (Go.Proofs.Ytfleehgbpgmcnaa.PV.code p)[Int.toNat (↑k : Int)]? Inhabited.default)), Go.Value.int Go.IntKind.i64 0, Go.Value.int Go.IntKind.i64 (Go.Proofs.Ytfleehgbpgmcnaa.wh (Go.Proofs.Ytfleehgbpgmcnaa.RefS.now x) (Go.Proofs.Ytfleehgbpgmcnaa.heldR p k (Go.Sl.Instr.a (Option.getD (Go.Proofs.Ytfleehgbpgmcnaa.PV.code p)[Int.toNat (↑k : Int)]? Inhabited.default)))), Go.Value.int Go.IntKind.i64 v, Go.Value.int Go.IntKind.i64 (Go.Sl.Instr.c (Option.getD (Go.Proofs.Ytfleehgbpgmcnaa.PV.code p)[Int.toNat (↑k : Int)]? Inhabited.default))] 34), (35, Option.map (fun x => Go.Addr.block x) ad2, Go.Sl.Row (α := Int) 3 (Go.Proofs.Ytfleehgbpgmcnaa.asks (Option.getD (Go.Proofs.Ytfleehgbpgmcnaa.PV.code p)[Int.toNat (↑k : Int)]? Inhabited.default)) (junk2)), (33, Option.some b4, Go.Obj.cells (List.toArray (Go.Sl.Cells.enc (Option.getD (Go.Proofs.Ytfleehgbpgmcnaa.PV.code p)[Int.toNat (↑k : Int)]? Inhabited.default))) 34), (3, Option.some b3, Go.Obj.cells #[Go.Value.int Go.IntKind.i64 (Go.Proofs.Ytfleehgbpgmcnaa.PV.ins p), Go.Value.int Go.IntKind.i64 (Go.Proofs.Ytfleehgbpgmcnaa.RefS.regs x), Go.Value.slice oa (List.length (Go.Proofs.Ytfleehgbpgmcnaa.RefS.code x)) oc, Go.Value.slice Option.none 0 0] 25), (32, Option.map (fun x => Go.Addr.block x) oa, Go.Sl.Row (α := Go.Sl.Instr) 34 (Go.Proofs.Ytfleehgbpgmcnaa.RefS.code x) (oj)), (30, Option.map (fun x => Go.Addr.block x) a9, Go.Sl.Row (α := Go.Sl.R2) 123 (Go.Proofs.Ytfleehgbpgmcnaa.mk2 (Go.Proofs.Ytfleehgbpgmcnaa.RefS.now x)) (j9)), (2, Option.map (fun x => Go.Addr.block x) nb1, Go.Sl.Row (α := Bool) 4 (Go.Proofs.Ytfleehgbpgmcnaa.neededP p) (nj1)), (1, Option.some b2, Go.Obj.cells #[Go.Value.int Go.IntKind.i64 0, Go.Value.int Go.IntKind.i64 0, Go.Value.slice Option.none 0 0, Go.Value.slice Option.none 0 0] 25), (0, Option.some b1, Go.Obj.cells #[Go.Value.int Go.IntKind.i64 (Go.Proofs.Ytfleehgbpgmcnaa.PV.ins p), Go.Value.int Go.IntKind.i64 (Go.Proofs.Ytfleehgbpgmcnaa.PV.regs p), Go.Value.slice ac (List.length (Go.Proofs.Ytfleehgbpgmcnaa.PV.code p)) cc, Go.Value.slice ao (List.length (Go.Proofs.Ytfleehgbpgmcnaa.PV.outs p)) co] 25)])) (fun a => a ≤ L.length) (fun a => L.length - a) (0) (Nat.zero_le _) ⟨rfl, rfl, rfl, rfl, rfl, rfl, rfl, rfl, rfl, rfl, trivial⟩ ⟨rfl, rfl, rfl, rfl, rfl, rfl, rfl, rfl, rfl, rfl, trivial⟩ (fun a => fun (hk : a ≤ L.length) => ?_)
                  rcases Nat.lt_or_ge a L.length with haL | haL
                  · have hat := mk2_at haL
                    refine Wc.seq ?_
                    refine Wc.seq ?_
                    refine Wc.region rfl ?_
                    refine Wl.q rfl (Qy.move rfl) ?_
                    refine Wl.q rfl (Qy.move rfl) ?_
                    refine Wl.q rfl (Qy.len T.sl120 rfl) ?_
                    refine Wl.q rfl (Qy.lss rfl rfl) ?_
                    refine Wl.done ?_
                    refine Ar.next ?_
                    refine Wc.condP rfl (by first | assumption | omega) ?_
                    refine Wc.skip ?_
                    refine Ar.next ?_
                    refine Wc.seq ?_
                    refine Wc.block ?_
                    refine Wc.seq ?_
                    refine Wc.region rfl ?_
                    refine Wl.q rfl (Qy.move rfl) ?_
                    refine Wl.q rfl (Qy.move rfl) ?_
                    refine Wl.q rfl (Qy.indexAddrO (α := R2) T.sl120 rfl rfl (by assumption) (by omega)) ?_
                    refine Wl.q rfl (Qy.fieldAddr T.fa123_1 rfl) ?_
                    refine Wl.q rfl (Qy.loadO 40 1 T.one3 rfl rfl (by assumption) (by omega) rfl rfl) ?_
                    refine Wl.q rfl (Qy.move rfl) ?_
                    refine Wl.q rfl (Qy.eql rfl rfl) ?_
                    refine Wl.done ?_
                    refine Ar.next ?_
                    refine Wc.cond rfl (fun hc2 => ?_) (fun hc2 => ?_)
                    refine Wc.region rfl ?_
                    refine Wl.q rfl (Qy.assign rfl) ?_
                    refine Wl.done ?_
                    refine Ar.outNormal ?_
                    refine Ar.next ?_
                    refine Wc.region rfl ?_
                    refine Wl.q rfl (Qy.move rfl) ?_
                    refine Wl.q rfl (Qy.add rfl rfl (by omega)) ?_
                    refine Wl.q rfl (Qy.assign rfl) ?_
                    refine Wl.done ?_
                    rotate_left
                    refine Wc.skip ?_
                    refine Ar.outNormal ?_
                    refine Ar.next ?_
                    refine Wc.region rfl ?_
                    refine Wl.q rfl (Qy.move rfl) ?_
                    refine Wl.q rfl (Qy.add rfl rfl (by omega)) ?_
                    refine Wl.q rfl (Qy.assign rfl) ?_
                    refine Wl.done ?_
                    rotate_left
                    · rw [hat] at hc2
                      have e : takenR (L.take (a + 1)) (q : Int) = true := taken_yes haL hc2
                      rw [← e]
                      refine Ar.again (a + 1) ?_ ?_ rfl ⟨rfl, rfl, rfl, rfl, rfl, rfl, rfl, rfl, rfl, rfl, trivial⟩ ⟨rfl, rfl, rfl, rfl, rfl, rfl, rfl, rfl, rfl, rfl, trivial⟩
                      · exact haL
                      · show L.length - (a + 1) < L.length - a
                        omega
                    · rw [hat] at hc2
                      have e : takenR (L.take (a + 1)) (q : Int) = takenR (L.take a) (q : Int) := taken_no haL hc2
                      refine Ar.re 14 rfl (show _ = Value.bool (takenR (L.take (a + 1)) (q : Int)) by rw [e]) ?_
                      refine Ar.again (a + 1) ?_ ?_ rfl ⟨rfl, rfl, rfl, rfl, rfl, rfl, rfl, rfl, rfl, rfl, trivial⟩ ⟨rfl, rfl, rfl, rfl, rfl, rfl, rfl, rfl, rfl, rfl, trivial⟩
                      · exact haL
                      · show L.length - (a + 1) < L.length - a
                        omega
                  · have eL2 : L.take a = L := List.take_of_length_le haL
                    rw [eL2]
                    refine Wc.seq ?_
                    refine Wc.seq ?_
                    refine Wc.region rfl ?_
                    refine Wl.q rfl (Qy.move rfl) ?_
                    refine Wl.q rfl (Qy.move rfl) ?_
                    refine Wl.q rfl (Qy.len T.sl120 rfl) ?_
                    refine Wl.q rfl (Qy.lss rfl rfl) ?_
                    refine Wl.done ?_
                    refine Ar.next ?_
                    refine Wc.condN rfl (by first | assumption | omega) ?_
                    refine Wc.exit ?_
                    refine Ar.passExit ?_
                    refine Ar.passExit ?_
                    refine Ar.here ?_
                    refine Ar.next ?_
                    refine Wc.seq ?_
                    refine Wc.region rfl ?_
                    refine Wl.q rfl (Qy.move rfl) ?_
                    refine Wl.done ?_
                    refine Ar.next ?_
                    refine Wc.ite rfl (fun hc2 => ?_) (fun hc2 => ?_)
                    refine Wc.region rfl ?_
                    refine Wl.q rfl (Qy.move rfl) ?_
                    refine Wl.q rfl (Qy.add rfl rfl (by omega)) ?_
                    refine Wl.q rfl (Qy.assign rfl) ?_
                    refine Wl.done ?_
                    refine Ar.outNormal ?_
                    rotate_left
                    refine Wc.skip ?_
                    refine Ar.outNormal ?_
                    rotate_left
                    · have hq3 : takenR L (q : Int) = true := by assumption
                      refine Ar.re 14 rfl (show _ = Value.bool true by rw [hq3]) ?_
                      have hq4 : ∀ i : Nat, i < q + 1 → takenR L (i : Int) = true := fun i hi => by
                        by_cases e : i = q
                        · rw [e]; exact hq3
                        · exact hq1 i (by omega)
                      have hq5 := taken_len hq4
                      refine Ar.again ((q + 1, true)) ?_ ?_ rfl ⟨rfl, rfl, rfl, rfl, rfl, rfl, rfl, rfl, rfl, trivial⟩ ⟨rfl, rfl, rfl, rfl, rfl, rfl, rfl, rfl, rfl, rfl, trivial⟩
                      · exact ⟨hq4, fun h => by cases h⟩
                      · show 2 * (L.length + 1 - (q + 1)) + 1 < 2 * (L.length + 1 - q) + 1
                        omega
                    · have hq3 : takenR L (q : Int) = false := by first | assumption | (have h9 : ¬ takenR L (q : Int) = true := by assumption; simpa using h9)
                      refine Ar.re 14 rfl (show _ = Value.bool false by rw [hq3]) ?_
                      refine Ar.again ((q, false)) ?_ ?_ rfl ⟨rfl, rfl, rfl, rfl, rfl, rfl, rfl, rfl, rfl, trivial⟩ ⟨rfl, rfl, rfl, rfl, rfl, rfl, rfl, rfl, rfl, rfl, trivial⟩
                      · exact ⟨hq1, fun _ => hq3⟩
                      · show 2 * (L.length + 1 - q) + 0 < 2 * (L.length + 1 - q) + 1
                        omega
                | false =>
                  have hlq := leastR_eq hq1 (hq2 rfl)
                  have hst9 : refStep p x k = ⟨L ++ [((k : Int), (q : Int))], max x.regs ((q : Int) + 1), x.code ++ [⟨(p.code[((k : Nat) : Int).toNat]?.getD default).op, (q : Int), wh x.now (heldR p k (p.code[((k : Nat) : Int).toNat]?.getD default).a), v, (p.code[((k : Nat) : Int).toNat]?.getD default).c⟩]⟩ := by
                    unfold refStep cAt
                    rw [← hL, hlq, hv9]
                  refine Wc.seq ?_
                  refine Wc.seq ?_
                  refine Wc.region rfl ?_
                  refine Wl.q rfl (Qy.move rfl) ?_
                  refine Wl.done ?_
                  refine Ar.next ?_
                  refine Wc.condF rfl ?_
                  refine Wc.exit ?_
                  refine Ar.passExit ?_
                  refine Ar.passExit ?_
                  refine Ar.here ?_
                  refine Ar.next ?_
                  refine Wc.seq ?_
                  refine Wc.region rfl ?_
                  refine Wl.q rfl (Qy.move rfl) ?_
                  refine Wl.q rfl (Qy.fieldAddr T.fa34_1 rfl) ?_
                  refine Wl.store 36 T.one3 rfl rfl rfl rfl rfl ?_
                  refine Wl.done ?_
                  refine Ar.next ?_
                  refine Wc.seq ?_
                  refine Wc.region rfl ?_
                  refine Wl.q rfl (Qy.move rfl) ?_
                  refine Wl.q rfl (Qy.move rfl) ?_
                  refine Wl.q rfl (Qy.move rfl) ?_
                  refine Wl.q rfl (Qy.build (cs := [_, _]) T.st123 rfl rfl rfl) ?_
                  refine Wl.lit (α := R2) 41 [⟨(↑k : Int), (↑q : Int)⟩] rfl T.sl120 T.el123 rfl rfl rfl rfl rfl (fun b5 => ?_)
                  refine Wl.append (α := R2) 40 rfl T.sl120 T.el123 rfl rfl rfl (by first | assumption | exact OwnA.nil | exact OwnA.made (by simp)) (Src.row 41 rfl) (by first | omega | (simp only [List.length_append, List.length_cons, List.length_nil, maxLen]; omega)) (by first | omega | (simp only [List.length_append, List.length_cons, List.length_nil, maxLen]; omega)) (fun a1 c1 junk1 ho1 => ?_)
                  refine Wl.q rfl (Qy.assign rfl) ?_
                  refine Wl.done ?_
                  refine Ar.next ?_
                  refine Wc.seq ?_
                  refine Wc.seq ?_
                  refine Wc.region rfl ?_
                  refine Wl.q rfl (Qy.move rfl) ?_
                  refine Wl.q rfl (Qy.add rfl rfl (by omega)) ?_
                  refine Wl.q rfl (Qy.fieldAddr T.fa25_1 rfl) ?_
                  refine Wl.q rfl (Qy.load 3 T.one3 rfl rfl rfl) ?_
                  refine Wl.q rfl (Qy.gtr rfl rfl) ?_
                  refine Wl.done ?_
                  refine Ar.next ?_
                  refine Wc.cond rfl (fun hc2 => ?_) (fun hc2 => ?_)
                  refine Wc.region rfl ?_
                  refine Wl.q rfl (Qy.move rfl) ?_
                  refine Wl.q rfl (Qy.add rfl rfl (by omega)) ?_
                  refine Wl.q rfl (Qy.fieldAddr T.fa25_1 rfl) ?_
                  refine Wl.store 3 T.one3 rfl rfl rfl rfl rfl ?_
                  refine Wl.done ?_
                  refine Ar.next ?_
                  refine Wc.region rfl ?_
                  refine Wl.q rfl (Qy.fieldAddr T.fa25_2 rfl) ?_
                  refine Wl.q rfl (Qy.load 3 T.one22 rfl rfl rfl) ?_
                  refine Wl.q rfl (Qy.loadAll 36 T.agg34 rfl rfl rfl) ?_
                  refine Wl.lit (α := Sl.Instr) 42 [⟨Go.Sl.Instr.op (Option.getD (Go.Proofs.Ytfleehgbpgmcnaa.PV.code p)[Int.toNat (↑k : Int)]? Inhabited.default), (↑q : Int), Go.Proofs.Ytfleehgbpgmcnaa.wh (Go.Proofs.Ytfleehgbpgmcnaa.RefS.now x) (Go.Proofs.Ytfleehgbpgmcnaa.heldR p k (Go.Sl.Instr.a (Option.getD (Go.Proofs.Ytfleehgbpgmcnaa.PV.code p)[Int.toNat (↑k : Int)]? Inhabited.default))), v, Go.Sl.Instr.c (Option.getD (Go.Proofs.Ytfleehgbpgmcnaa.PV.code p)[Int.toNat (↑k : Int)]? Inhabited.default)⟩] rfl T.sl22 T.el34 rfl rfl rfl rfl rfl (fun b6 => ?_)
                  refine Wl.append (α := Sl.Instr) 32 rfl T.sl22 T.el34 rfl rfl rfl (by first | assumption | exact OwnA.nil | exact OwnA.made (by simp)) (Src.row 42 rfl) (by first | omega | (simp only [List.length_append, List.length_cons, List.length_nil, maxLen]; omega)) (by first | omega | (simp only [List.length_append, List.length_cons, List.length_nil, maxLen]; omega)) (fun a2 c2 junk2 ho2 => ?_)
                  refine Wl.q rfl (Qy.fieldAddr T.fa25_2 rfl) ?_
                  refine Wl.store 3 T.one22 rfl rfl rfl rfl rfl ?_
                  refine Wl.done ?_
                  refine Ar.outNormal ?_
                  refine Ar.next ?_
                  refine Wc.region rfl ?_
                  refine Wl.q rfl (Qy.move rfl) ?_
                  refine Wl.q rfl (Qy.add rfl rfl (by omega)) ?_
                  refine Wl.q rfl (Qy.assign rfl) ?_
                  refine Wl.done ?_
                  rotate_left
                  refine Wc.skip ?_
                  refine Ar.next ?_
                  refine Wc.region rfl ?_
                  refine Wl.q rfl (Qy.fieldAddr T.fa25_2 rfl) ?_
                  refine Wl.q rfl (Qy.load 3 T.one22 rfl rfl rfl) ?_
                  refine Wl.q rfl (Qy.loadAll 36 T.agg34 rfl rfl rfl) ?_
                  refine Wl.lit (α := Sl.Instr) 42 [⟨Go.Sl.Instr.op (Option.getD (Go.Proofs.Ytfleehgbpgmcnaa.PV.code p)[Int.toNat (↑k : Int)]? Inhabited.default), (↑q : Int), Go.Proofs.Ytfleehgbpgmcnaa.wh (Go.Proofs.Ytfleehgbpgmcnaa.RefS.now x) (Go.Proofs.Ytfleehgbpgmcnaa.heldR p k (Go.Sl.Instr.a (Option.getD (Go.Proofs.Ytfleehgbpgmcnaa.PV.code p)[Int.toNat (↑k : Int)]? Inhabited.default))), v, Go.Sl.Instr.c (Option.getD (Go.Proofs.Ytfleehgbpgmcnaa.PV.code p)[Int.toNat (↑k : Int)]? Inhabited.default)⟩] rfl T.sl22 T.el34 rfl rfl rfl rfl rfl (fun b6 => ?_)
                  refine Wl.append (α := Sl.Instr) 32 rfl T.sl22 T.el34 rfl rfl rfl (by first | assumption | exact OwnA.nil | exact OwnA.made (by simp)) (Src.row 42 rfl) (by first | omega | (simp only [List.length_append, List.length_cons, List.length_nil, maxLen]; omega)) (by first | omega | (simp only [List.length_append, List.length_cons, List.length_nil, maxLen]; omega)) (fun a2 c2 junk2 ho2 => ?_)
                  refine Wl.q rfl (Qy.fieldAddr T.fa25_2 rfl) ?_
                  refine Wl.store 3 T.one22 rfl rfl rfl rfl rfl ?_
                  refine Wl.done ?_
                  refine Ar.outNormal ?_
                  refine Ar.next ?_
                  refine Wc.region rfl ?_
                  refine Wl.q rfl (Qy.move rfl) ?_
                  refine Wl.q rfl (Qy.add rfl rfl (by omega)) ?_
                  refine Wl.q rfl (Qy.assign rfl) ?_
                  refine Wl.done ?_
                  rotate_left
                  · have h9 : x.regs < (q : Int) + 1 := by assumption
                    refine Ar.reH 3 (.cells #[.int .i64 p.ins, .int .i64 (max x.regs ((q : Int) + 1)), .slice a2 (x.code ++ [(⟨(p.code[((k : Nat) : Int).toNat]?.getD default).op, (q : Int), wh x.now (heldR p k (p.code[((k : Nat) : Int).toNat]?.getD default).a), v, (p.code[((k : Nat) : Int).toNat]?.getD default).c⟩ : Sl.Instr)]).length c2, .slice none 0 0] 25) rfl (by rw [show max x.regs ((q : Int) + 1) = (q : Int) + 1 from Int.max_eq_right (by omega)]; rfl) ?_
                    rw [← mk2_snoc]
                    rw [← mk2_snoc] at ho1
                    refine Ar.retag 40 30 rfl rfl ?_
                    refine Ar.again ((k + 1, ⟨L ++ [((k : Int), (q : Int))], max x.regs ((q : Int) + 1), x.code ++ [⟨(p.code[((k : Nat) : Int).toNat]?.getD default).op, (q : Int), wh x.now (heldR p k (p.code[((k : Nat) : Int).toNat]?.getD default).a), v, (p.code[((k : Nat) : Int).toNat]?.getD default).c⟩]⟩, (a2, c2, junk2), (a1, c1, junk1))) ?_ ?_ rfl ⟨rfl, rfl, rfl, rfl, rfl, rfl, trivial⟩ ⟨rfl, rfl, rfl, rfl, rfl, rfl, trivial⟩
                    · refine ⟨hkc, ?_, by assumption, ho1⟩
                      rw [← hst9, hx]
                      exact (if_pos hn).symm
                    · show p.code.length - (k + 1) < p.code.length - k
                      omega
                  · have h9 : ¬ x.regs < (q : Int) + 1 := by assumption
                    refine Ar.reH 3 (.cells #[.int .i64 p.ins, .int .i64 (max x.regs ((q : Int) + 1)), .slice a2 (x.code ++ [(⟨(p.code[((k : Nat) : Int).toNat]?.getD default).op, (q : Int), wh x.now (heldR p k (p.code[((k : Nat) : Int).toNat]?.getD default).a), v, (p.code[((k : Nat) : Int).toNat]?.getD default).c⟩ : Sl.Instr)]).length c2, .slice none 0 0] 25) rfl (by rw [show max x.regs ((q : Int) + 1) = x.regs from Int.max_eq_left (by omega)]; rfl) ?_
                    rw [← mk2_snoc]
                    rw [← mk2_snoc] at ho1
                    refine Ar.retag 40 30 rfl rfl ?_
                    refine Ar.again ((k + 1, ⟨L ++ [((k : Int), (q : Int))], max x.regs ((q : Int) + 1), x.code ++ [⟨(p.code[((k : Nat) : Int).toNat]?.getD default).op, (q : Int), wh x.now (heldR p k (p.code[((k : Nat) : Int).toNat]?.getD default).a), v, (p.code[((k : Nat) : Int).toNat]?.getD default).c⟩]⟩, (a2, c2, junk2), (a1, c1, junk1))) ?_ ?_ rfl ⟨rfl, rfl, rfl, rfl, rfl, rfl, trivial⟩ ⟨rfl, rfl, rfl, rfl, rfl, rfl, trivial⟩
                    · refine ⟨hkc, ?_, by assumption, ho1⟩
                      rw [← hst9, hx]
                      exact (if_pos hn).symm
                    · show p.code.length - (k + 1) < p.code.length - k
                      omega
      · have hke : k = p.code.length := Nat.le_antisymm hk0 hkc
        subst hke
        refine Wc.seq ?_
        refine Wc.seq ?_
        refine Wc.region rfl ?_
        refine Wl.q rfl (Qy.move rfl) ?_
        refine Wl.q rfl (Qy.fieldAddr T.fa25_2 rfl) ?_
        refine Wl.q rfl (Qy.load 0 T.one22 rfl rfl rfl) ?_
        refine Wl.q rfl (Qy.len T.sl22 rfl) ?_
        refine Wl.q rfl (Qy.lss rfl rfl) ?_
        refine Wl.done ?_
        refine Ar.next ?_
        refine Wc.condN rfl (by first | assumption | omega) ?_
        refine Wc.exit ?_
        refine Ar.passExit ?_
        refine Ar.passExit ?_
        refine Ar.here ?_
        refine Ar.next ?_
        refine Wc.seq ?_
        refine Wc.seq ?_
        refine Wc.region rfl ?_
        refine Wl.q rfl (Qy.assign rfl) ?_
        refine Wl.done ?_
        refine Ar.next ?_
        refine Wc.block ?_
        refine Wc.nilRow 45 (Row 3 ([] : List Int) []) ?_
        refine Wc.loop (ι := Nat × List Int × (Option Addr × Nat × List Value)) (fun (q, ol, (oo, od, ok)) => ([(16, .int .i64 (q : Int)), (5, Go.Value.slice a9 (List.length (Go.Proofs.Ytfleehgbpgmcnaa.mk2 (Go.Proofs.Ytfleehgbpgmcnaa.RefS.now x))) c9), (4, Go.Value.pointer (Option.some (Go.Addr.mk b3 0 Option.none))), (3, Go.Value.slice nb1 (List.length (Go.Proofs.Ytfleehgbpgmcnaa.neededP p)) nc1), (2, Go.Value.pointer (Option.some (Go.Addr.mk b2 0 Option.none))), (1, Go.Value.pointer (Option.some (Go.Addr.mk b1 0 Option.none)))], [(3, some b3, .cells #[.int .i64 p.ins, .int .i64 x.regs, .slice oa x.code.length oc, .slice oo ol.length od] 25), (45, oo.map (·.block), Row 3 ol ok), (32, Option.map (fun x => Go.Addr.block x) oa, Go.Sl.Row (α := Go.Sl.Instr) 34 (Go.Proofs.Ytfleehgbpgmcnaa.RefS.code x) (oj)), (30, Option.map (fun x => Go.Addr.block x) a9, Go.Sl.Row (α := Go.Sl.R2) 123 (Go.Proofs.Ytfleehgbpgmcnaa.mk2 (Go.Proofs.Ytfleehgbpgmcnaa.RefS.now x)) (j9)), (2, Option.map (fun x => Go.Addr.block x) nb1, Go.Sl.Row (α := Bool) 4 (Go.Proofs.Ytfleehgbpgmcnaa.neededP p) (nj1)), (1, Option.some b2, Go.Obj.cells #[Go.Value.int Go.IntKind.i64 0, Go.Value.int Go.IntKind.i64 0, Go.Value.slice Option.none 0 0, Go.Value.slice Option.none 0 0] 25), (0, Option.some b1, Go.Obj.cells #[Go.Value.int Go.IntKind.i64 (Go.Proofs.Ytfleehgbpgmcnaa.PV.ins p), Go.Value.int Go.IntKind.i64 (Go.Proofs.Ytfleehgbpgmcnaa.PV.regs p), Go.Value.slice ac (List.length (Go.Proofs.Ytfleehgbpgmcnaa.PV.code p)) cc, Go.Value.slice ao (List.length (Go.Proofs.Ytfleehgbpgmcnaa.PV.outs p)) co] 25)])) (fun (q, ol, (oo, od, ok)) => q ≤ p.outs.length ∧ ol = (p.outs.map fun r => wh x.now (heldR p p.code.length r)).take q ∧ OwnA oo od ol ok) (fun (q, ol, (oo, od, ok)) => p.outs.length - q) ((0, [], (none, 0, []))) (⟨Nat.zero_le _, by rw [List.take_zero], OwnA.nil⟩) ⟨rfl, rfl, rfl, rfl, rfl, rfl, trivial⟩ ⟨rfl, rfl, rfl, rfl, rfl, rfl, rfl, trivial⟩ (fun ⟨q, ol, (oo, od, ok)⟩ => fun (hk : q ≤ p.outs.length ∧ ol = (p.outs.map fun r => wh x.now (heldR p p.code.length r)).take q ∧ OwnA oo od ol ok) => ?_)
        obtain ⟨hq1, hol, hoo⟩ := hk
        have hoq : ol.length = q := by rw [hol, List.length_take, List.length_map]; omega
        rcases Nat.lt_or_ge q p.outs.length with hqc | hqc
        · have hrr := out_may hR hqc
          refine Wc.seq ?_
          refine Wc.seq ?_
          refine Wc.region rfl ?_
          refine Wl.q rfl (Qy.move rfl) ?_
          refine Wl.q rfl (Qy.fieldAddr T.fa25_3 rfl) ?_
          refine Wl.q rfl (Qy.load 0 T.one23 rfl rfl rfl) ?_
          refine Wl.q rfl (Qy.len T.sl23 rfl) ?_
          refine Wl.q rfl (Qy.lss rfl rfl) ?_
          refine Wl.done ?_
          refine Ar.next ?_
          refine Wc.condP rfl (by first | assumption | omega) ?_
          refine Wc.skip ?_
          refine Ar.next ?_
          refine Wc.seq ?_
          refine Wc.block ?_
          refine Wc.draw [0, 1, 2, 30, 32, 45, 3] [(3, 18), (45, 16), (32, 16), (30, 16), (2, 16)] T.mixed rfl ?_
          refine Gm.q 0 [] (by kernel_rfl) rfl rfl (Qy.fieldAddr T.fa25_3 rfl) ?_
          refine Gm.q 1 [3] (by kernel_rfl) rfl rfl (Qy.load 3 T.one23 rfl rfl rfl) ?_
          refine Gm.q 2 [] (by kernel_rfl) rfl rfl (Qy.move rfl) ?_
          refine Gm.q 3 [0] (by kernel_rfl) rfl rfl (Qy.loadAll 0 T.agg25 rfl rfl rfl) ?_
          refine Gm.q 4 [] (by kernel_rfl) rfl rfl (Qy.move rfl) ?_
          refine Gm.q 5 [] (by kernel_rfl) rfl rfl (Qy.fieldAddr T.fa25_2 rfl) ?_
          refine Gm.q 6 [0] (by kernel_rfl) rfl rfl (Qy.load 0 T.one22 rfl rfl rfl) ?_
          refine Gm.q 7 [] (by kernel_rfl) rfl rfl (Qy.len T.sl22 rfl) ?_
          refine Gm.q 8 [] (by kernel_rfl) rfl rfl (Qy.fieldAddr T.fa25_3 rfl) ?_
          refine Gm.q 9 [0] (by kernel_rfl) rfl rfl (Qy.load 0 T.one23 rfl rfl rfl) ?_
          refine Gm.q 10 [] (by kernel_rfl) rfl rfl (Qy.move rfl) ?_
          refine Gm.q 11 [] (by kernel_rfl) rfl rfl (Qy.at (α := Int) T.sl23 rfl rfl (by assumption) (by omega)) ?_
          refine Gm.q 12 [0] (by kernel_rfl) rfl rfl (Qy.loadG T.one3 rfl (Arr.cell (by assumption) (by omega) 0 rfl rfl)) ?_
          refine Gm.one 13 ⟨rfl, rfl, rfl, rfl, rfl, rfl, rfl, trivial⟩ (by first | exact Imm.le_refl _ | assumption | (refine Imm.le_trans ?_ (by assumption); first | assumption | (refine Imm.le_trans ?_ (by assumption); assumption))) (by kernel_rfl) rfl ?_
          refine Wl.callB 46 rfl T.fn81 rfl (fun Gx hGx hgx => (c81 _ _ _ _ _ _ _ _ _ _ (by first | exact Arr.up (by assumption) hGx | exact Arr.nil _ | exact Arr.own hgx 45 rfl (by first | assumption | exact OwnA.made (by simp [maxLen])) | exact Arr.own hgx 32 rfl (by first | assumption | exact OwnA.made (by simp [maxLen])) | exact Arr.own hgx 30 rfl (by first | assumption | exact OwnA.made (by simp [maxLen])) | exact Arr.own hgx 2 rfl (by first | assumption | exact OwnA.made (by simp [maxLen]))) (by first | exact Arr.up (by assumption) hGx | exact Arr.nil _ | exact Arr.own hgx 45 rfl (by first | assumption | exact OwnA.made (by simp [maxLen])) | exact Arr.own hgx 32 rfl (by first | assumption | exact OwnA.made (by simp [maxLen])) | exact Arr.own hgx 30 rfl (by first | assumption | exact OwnA.made (by simp [maxLen])) | exact Arr.own hgx 2 rfl (by first | assumption | exact OwnA.made (by simp [maxLen]))) (by omega) (by omega) (by omega))) (fun v1 Gx1 G1 Ho1 hlx1 hp => ?_)
          obtain ⟨rfl, rfl, rfl⟩ := hp
          refine Wl.on0 ?_
          refine Gm.one 14 ⟨rfl, rfl, rfl, rfl, rfl, rfl, rfl, trivial⟩ (by first | exact Imm.le_refl _ | assumption | (refine Imm.le_trans ?_ (by assumption); first | assumption | (refine Imm.le_trans ?_ (by assumption); assumption))) (by kernel_rfl) rfl ?_
          refine Wl.callB 46 rfl T.fn80 rfl (fun Gx hGx hgx => (c80 _ _ _ x.now _ (by first | exact Arr.up (by assumption) hGx | exact Arr.nil _ | exact Arr.own hgx 45 rfl (by first | assumption | exact OwnA.made (by simp [maxLen])) | exact Arr.own hgx 32 rfl (by first | assumption | exact OwnA.made (by simp [maxLen])) | exact Arr.own hgx 30 rfl (by first | assumption | exact OwnA.made (by simp [maxLen])) | exact Arr.own hgx 2 rfl (by first | assumption | exact OwnA.made (by simp [maxLen]))) (by omega))) (fun v2 Gx2 G2 Ho2 hlx2 hp => ?_)
          obtain ⟨rfl, rfl, rfl⟩ := hp
          refine Wl.on0 ?_
          refine Gm.one 15 ⟨rfl, rfl, rfl, rfl, rfl, rfl, rfl, trivial⟩ (by first | exact Imm.le_refl _ | assumption | (refine Imm.le_trans ?_ (by assumption); first | assumption | (refine Imm.le_trans ?_ (by assumption); assumption))) (by kernel_rfl) rfl ?_
          refine Wl.lit (α := Int) 46 [(Go.Proofs.Ytfleehgbpgmcnaa.wh (Go.Proofs.Ytfleehgbpgmcnaa.RefS.now x) (Go.Proofs.Ytfleehgbpgmcnaa.heldR p (List.length (Go.Proofs.Ytfleehgbpgmcnaa.PV.code p)) (Option.getD (Go.Proofs.Ytfleehgbpgmcnaa.PV.outs p)[Int.toNat (↑q : Int)]? Inhabited.default)))] rfl T.sl23 T.el3 rfl rfl rfl rfl rfl (fun b4 => ?_)
          refine Wl.on0 ?_
          refine Gm.one 16 ⟨rfl, rfl, rfl, rfl, rfl, rfl, rfl, trivial⟩ (by first | exact Imm.le_refl _ | assumption | (refine Imm.le_trans ?_ (by assumption); first | assumption | (refine Imm.le_trans ?_ (by assumption); assumption))) (by kernel_rfl) rfl ?_
          refine Wl.append (α := Int) 45 rfl T.sl23 T.el3 rfl rfl rfl (by first | assumption | exact OwnA.nil | exact OwnA.made (by simp)) (Src.row 46 rfl) (by first | omega | (simp only [List.length_append, List.length_cons, List.length_nil, maxLen]; omega)) (by first | omega | (simp only [List.length_append, List.length_cons, List.length_nil, maxLen]; omega)) (fun a1 c1 junk1 ho1 => ?_)
          refine Wl.on0 ?_
          refine Gm.q 17 [] (by kernel_rfl) rfl rfl (Qy.fieldAddr T.fa25_3 rfl) ?_
          refine Gm.one 18 ⟨rfl, rfl, rfl, trivial⟩ (by first | exact Imm.le_refl _ | assumption | (refine Imm.le_trans ?_ (by assumption); first | assumption | (refine Imm.le_trans ?_ (by assumption); assumption))) (by kernel_rfl) rfl ?_
          refine Wl.store 3 T.one23 rfl rfl rfl rfl rfl ?_
          refine Wl.on0 ?_
          refine Gm.doneA (by kernel_rfl) ⟨rfl, rfl, trivial⟩ (by first | exact Imm.le_refl _ | assumption | (refine Imm.le_trans ?_ (by assumption); first | assumption | (refine Imm.le_trans ?_ (by assumption); assumption))) ?_
          refine Ar.outNormal ?_
          refine Ar.next ?_
          refine Wc.region rfl ?_
          refine Wl.q rfl (Qy.move rfl) ?_
          refine Wl.q rfl (Qy.add rfl rfl (by omega)) ?_
          refine Wl.q rfl (Qy.assign rfl) ?_
          refine Wl.done ?_
          refine Ar.again ((q + 1, ol ++ [wh x.now (heldR p p.code.length (p.outs[((q : Nat) : Int).toNat]?.getD default))], (a1, c1, junk1))) ?_ ?_ rfl ⟨rfl, rfl, rfl, rfl, rfl, rfl, trivial⟩ ⟨rfl, rfl, rfl, rfl, rfl, rfl, rfl, trivial⟩
          · exact ⟨hqc, by rw [map_take_next hqc, hol], by assumption⟩
          · show p.outs.length - (q + 1) < p.outs.length - q
            omega
        · have hqe : q = p.outs.length := Nat.le_antisymm hq1 hqc
          subst hqe
          rw [List.take_of_length_le (by rw [List.length_map]; exact Nat.le_refl _)] at hol
          subst hol hx
          refine Wc.seq ?_
          refine Wc.seq ?_
          refine Wc.region rfl ?_
          refine Wl.q rfl (Qy.move rfl) ?_
          refine Wl.q rfl (Qy.fieldAddr T.fa25_3 rfl) ?_
          refine Wl.q rfl (Qy.load 0 T.one23 rfl rfl rfl) ?_
          refine Wl.q rfl (Qy.len T.sl23 rfl) ?_
          refine Wl.q rfl (Qy.lss rfl rfl) ?_
          refine Wl.done ?_
          refine Ar.next ?_
          refine Wc.condN rfl (by first | assumption | omega) ?_
          refine Wc.exit ?_
          refine Ar.passExit ?_
          refine Ar.passExit ?_
          refine Ar.here ?_
          refine Ar.next ?_
          refine Wc.seq ?_
          refine Wc.region rfl ?_
          refine Wl.q rfl (Qy.loadAll 3 T.agg25 rfl rfl rfl) ?_
          refine Wl.storeAll 1 T.size25 rfl rfl rfl rfl rfl rfl ?_
          refine Wl.done ?_
          refine Ar.next ?_
          refine Wc.ret ?_
          refine Ar.retag 1 60 rfl rfl (Ar.retag 32 0 rfl rfl (Ar.retag 45 1 rfl rfl ?_))
          refine Ar.out1 (.inr rfl) (Ho := Hp.only _ [0, 1]) rfl (.agg 60 rfl rfl T.agg25) (Hp.sub_only _ _) ?_
          exact ⟨oa, oo, oc, od, oj, ok, rfl, hoc, hoo, rfl, rfl⟩
end Go.Proofs.Ytfleehgbpgmcnaa
set_option maxRecDepth 100000
set_option linter.unusedVariables false
namespace Go.Proofs.Ytfleehgbpgmcnaa
open Go Go.Sl
set_option maxHeartbeats 4000000
attribute [local irreducible] neededP rightP lifeP
theorem cntR_le (f : Nat → Bool) : ∀ N, cntR f N ≤ N
  | 0 => Nat.le_refl _
  | n + 1 => by
    have := cntR_le f n
    unfold cntR
    split <;> omega
theorem cnt_le_code {p : PV} (hR : rightP p = true) (k : Nat) (hk : k ≤ p.code.length) : cnt p k ≤ k := (pk_code hR k hk).2
theorem al0_le (p : PV) (n : Nat) : 0 ≤ al0 p n ∧ al0 p n ≤ n := by
  rw [al0_cnt]
  have := cntR_le (fun v => decide ((0 : Int) ≤ due p (v : Int))) n
  omega
theorem al0_yes {p : PV} {v : Nat} (h : 0 ≤ due p (v : Int)) : al0 p (v + 1) = al0 p v + 1 := if_pos h
theorem al0_no {p : PV} {v : Nat} (h : ¬ 0 ≤ due p (v : Int)) : al0 p (v + 1) = al0 p v := if_neg h
theorem own_cap {α : Type} [Cells α] {a : Option Addr} {c : Nat} {xs : List α} {junk : List Value} (h : OwnA a c xs junk) : c ≤ 9223372036854775807 := by
  rcases h with ⟨_, _, _, h⟩ | ⟨b, _, _, _, h⟩
  · omega
  · simp only [maxLen] at h; omega
theorem c44W (G : Imm) (p : PV) (ac ao : Option Addr) (cc co : Nat) (hc : Arr G ac p.code) (ho : Arr G ao p.outs) (h1 : p.code.length ≤ 1099511627776) (h2 : p.outs.length ≤ 1099511627776) (hR : ¬ rightP p = true) :
    Does Try.prog 44 [.agg #[.int .i64 p.ins, .int .i64 p.regs, .slice ac p.code.length cc, .slice ao p.outs.length co]] G [] (fun v G' Ho => v = .tuple #[.slice none 0 0, .int .i64 80] ∧ Ho = [] ∧ G' = G) := by
  refine Does.enter Try.func44 rfl Try.ntmps44 rfl (fun w => ?_)
  refine Wc.seq ?_
  refine Wc.region rfl ?_
  refine Wl.box 0 rfl rfl rfl (fun b1 => ?_)
  refine Wl.q rfl (Qy.assign rfl) ?_
  refine Wl.q rfl (Qy.assign rfl) ?_
  refine Wl.done ?_
  refine Ar.next ?_
  refine Wc.seq ?_
  refine Wc.seq ?_
  refine Wc.region rfl ?_
  refine Wl.q rfl (Qy.loadAll 0 T.agg25 rfl rfl rfl) ?_
  refine Wl.call0 rfl T.fn76 rfl (c76 _ _ _ _ _ _ (by assumption) (by assumption) (by omega) (by omega)) ?_
  refine Wl.q rfl (Qy.notD rfl) ?_
  refine Wl.done ?_
  refine Ar.next ?_
  refine Wc.condP rfl (by first | assumption | omega) ?_
  refine Wc.seq ?_
  refine Wc.region rfl ?_
  refine Wl.q rfl (Qy.assign rfl) ?_
  refine Wl.q rfl (Qy.assign rfl) ?_
  refine Wl.done ?_
  refine Ar.next ?_
  refine Wc.ret ?_
  refine Ar.passRet ?_
  refine Ar.out2 (.inr rfl) (Ho := []) rfl (.tmp rfl) (.tmp rfl) trivial ?_
  exact ⟨rfl, rfl, rfl⟩
theorem c48 (G : Imm) (p : PV) (ac ao : Option Addr) (cc co : Nat) :
    Does Try.prog 48 [.agg #[.int .i64 p.ins, .int .i64 p.regs, .slice ac p.code.length cc, .slice ao p.outs.length co]] G [] (fun v G' Ho => v = .bool (decide (p = ⟨0, 0, [], []⟩)) ∧ G' = G ∧ Ho = []) := by
  refine Does.enter Try.func48 rfl Try.ntmps48 rfl (fun w => ?_)
  refine Wc.seq ?_
  refine Wc.region rfl ?_
  refine Wl.box 0 rfl rfl rfl (fun b1 => ?_)
  refine Wl.q rfl (Qy.assign rfl) ?_
  refine Wl.done ?_
  refine Ar.next ?_
  refine Wc.seq ?_
  refine Wc.region rfl ?_
  refine Wl.q rfl (Qy.fieldAddr T.fa25_0 rfl) ?_
  refine Wl.q rfl (Qy.load 0 T.one3 rfl rfl rfl) ?_
  refine Wl.q rfl (Qy.eql rfl rfl) ?_
  refine Wl.q rfl (Qy.move rfl) ?_
  apply Wl.joinAnd 4 6 10 rfl
  intro hg1
  refine Wl.want rfl rfl ?_
  refine Wl.q rfl (Qy.fieldAddr T.fa25_1 rfl) ?_
  refine Wl.want rfl rfl ?_
  refine Wl.q rfl (Qy.load 0 T.one3 rfl rfl rfl) ?_
  refine Wl.want rfl rfl ?_
  refine Wl.q rfl (Qy.eql rfl rfl) ?_
  refine Wl.q rfl (Qy.pick rfl rfl) ?_
  exact Wl.back 4 0 rfl rfl rfl rfl rfl
  intro hg1
  refine Wl.pass rfl rfl rfl ?_
  refine Wl.pass rfl rfl rfl ?_
  refine Wl.pass rfl rfl rfl ?_
  refine Wl.q rfl (Qy.pick rfl rfl) ?_
  exact Wl.back 4 0 rfl rfl rfl rfl rfl
  refine Wl.q rfl (Qy.move rfl) ?_
  apply Wl.joinAnd 5 11 16 rfl
  intro hg1
  refine Wl.want rfl rfl ?_
  refine Wl.q rfl (Qy.fieldAddr T.fa25_2 rfl) ?_
  refine Wl.want rfl rfl ?_
  refine Wl.q rfl (Qy.load 0 T.one22 rfl rfl rfl) ?_
  refine Wl.want rfl rfl ?_
  refine Wl.q rfl (Qy.len T.sl22 rfl) ?_
  refine Wl.want rfl rfl ?_
  refine Wl.q rfl (Qy.eql rfl rfl) ?_
  refine Wl.q rfl (Qy.pick rfl rfl) ?_
  exact Wl.back 5 0 rfl rfl rfl rfl rfl
  intro hg1
  refine Wl.pass rfl rfl rfl ?_
  refine Wl.pass rfl rfl rfl ?_
  refine Wl.pass rfl rfl rfl ?_
  refine Wl.pass rfl rfl rfl ?_
  refine Wl.q rfl (Qy.pick rfl rfl) ?_
  exact Wl.back 5 0 rfl rfl rfl rfl rfl
  refine Wl.q rfl (Qy.move rfl) ?_
  apply Wl.joinAnd 5 17 22 rfl
  intro hg1
  refine Wl.want rfl rfl ?_
  refine Wl.q rfl (Qy.fieldAddr T.fa25_3 rfl) ?_
  refine Wl.want rfl rfl ?_
  refine Wl.q rfl (Qy.load 0 T.one23 rfl rfl rfl) ?_
  refine Wl.want rfl rfl ?_
  refine Wl.q rfl (Qy.len T.sl23 rfl) ?_
  refine Wl.want rfl rfl ?_
  refine Wl.q rfl (Qy.eql rfl rfl) ?_
  refine Wl.q rfl (Qy.pick rfl rfl) ?_
  exact Wl.back 5 0 rfl rfl rfl rfl rfl
  intro hg1
  refine Wl.pass rfl rfl rfl ?_
  refine Wl.pass rfl rfl rfl ?_
  refine Wl.pass rfl rfl rfl ?_
  refine Wl.pass rfl rfl rfl ?_
  refine Wl.q rfl (Qy.pick rfl rfl) ?_
  exact Wl.back 5 0 rfl rfl rfl rfl rfl
  refine Wl.q rfl (Qy.assign rfl) ?_
  refine Wl.done ?_
  refine Ar.next ?_
  refine Wc.ret ?_
  refine Ar.out1 (.inr rfl) (Ho := []) rfl (.tmp rfl) trivial ?_
  refine ⟨?_, rfl, rfl⟩
  cases p
  simp [and_assoc]
theorem c52 (G : Imm) (p : PV) (bc bo : Option Addr) (dc do_ : Nat) (j1 j2 : List Value) (h1 : OwnA bc dc p.code j1) (h2 : OwnA bo do_ p.outs j2) :
    Does Try.prog 52 [.agg #[.int .i64 p.ins, .int .i64 p.regs, .slice bc p.code.length dc, .slice bo p.outs.length do_]] G [(0, bc.map (·.block), Row 34 p.code j1), (1, bo.map (·.block), Row 3 p.outs j2)] (fun v G' Ho => v = .tuple #[] ∧ Ho = [] ∧ G' = G) := by
  have hl1 := h1.le
  have hl2 := h2.le
  refine Does.enter Try.func52 rfl Try.ntmps52 rfl (fun w => ?_)
  refine Wc.seq ?_
  refine Wc.region rfl ?_
  refine Wl.box 2 rfl rfl rfl (fun b1 => ?_)
  refine Wl.done ?_
  refine Ar.next ?_
  refine Wc.seq ?_
  refine Wc.draw [1, 0, 2] [] T.mixed rfl ?_
  refine Gm.q 0 [] (by kernel_rfl) rfl rfl (Qy.fieldAddr T.fa25_2 rfl) ?_
  refine Gm.q 1 [2] (by kernel_rfl) rfl rfl (Qy.load 2 T.one22 rfl rfl rfl) ?_
  refine Gm.q 2 [] (by kernel_rfl) rfl rfl (Qy.fieldAddr T.fa25_2 rfl) ?_
  refine Gm.q 3 [2] (by kernel_rfl) rfl rfl (Qy.load 2 T.one22 rfl rfl rfl) ?_
  refine Gm.q 4 [] (by kernel_rfl) rfl rfl (Qy.cap T.sl22 rfl) ?_
  refine Gm.q 5 [] (by kernel_rfl) rfl rfl (Qy.cutH T.sl22 rfl rfl (by omega)) ?_
  refine Gm.q 6 [] (by kernel_rfl) rfl rfl (Qy.fieldAddr T.fa25_3 rfl) ?_
  refine Gm.q 7 [2] (by kernel_rfl) rfl rfl (Qy.load 2 T.one23 rfl rfl rfl) ?_
  refine Gm.q 8 [] (by kernel_rfl) rfl rfl (Qy.fieldAddr T.fa25_3 rfl) ?_
  refine Gm.q 9 [2] (by kernel_rfl) rfl rfl (Qy.load 2 T.one23 rfl rfl rfl) ?_
  refine Gm.q 10 [] (by kernel_rfl) rfl rfl (Qy.cap T.sl23 rfl) ?_
  refine Gm.q 11 [] (by kernel_rfl) rfl rfl (Qy.cutH T.sl23 rfl rfl (by omega)) ?_
  refine Gm.q 12 [] (by kernel_rfl) rfl rfl (Qy.assign rfl) ?_
  refine Gm.q 13 [] (by kernel_rfl) rfl rfl (Qy.assign rfl) ?_
  refine Gm.doneA (by kernel_rfl) ⟨rfl, rfl, rfl, trivial⟩ (by first | exact Imm.le_refl _ | assumption | (refine Imm.le_trans ?_ (by assumption); first | assumption | (refine Imm.le_trans ?_ (by assumption); assumption))) ?_
  refine Ar.next ?_
  refine Wc.seq ?_
  refine Wc.seq ?_
  refine Wc.region rfl ?_
  refine Wl.q rfl (Qy.assign rfl) ?_
  refine Wl.done ?_
  refine Ar.next ?_
  refine Wc.block ?_
  rw [subA_zero_own h1, subA_zero_own h2]
  have hB0 := h1.blkOf
  have hC0 := h2.blkOf
  have hm1 := own_cap h1
  have hm2 := own_cap h2
  refine Wc.loop (ι := Nat × List Value) (fun (i, cs) => ([(4, .int .i64 (i : Int)), (3, Go.Value.slice bo (Int.toNat (↑do_ : Int)) do_), (2, Go.Value.slice bc (Int.toNat (↑dc : Int)) dc)], [(0, bc.map (·.block), .cells cs.toArray 34), (2, Option.some b1, Go.Obj.cells #[Go.Value.int Go.IntKind.i64 (Go.Proofs.Ytfleehgbpgmcnaa.PV.ins p), Go.Value.int Go.IntKind.i64 (Go.Proofs.Ytfleehgbpgmcnaa.PV.regs p), Go.Value.slice bc (List.length (Go.Proofs.Ytfleehgbpgmcnaa.PV.code p)) dc, Go.Value.slice bo (List.length (Go.Proofs.Ytfleehgbpgmcnaa.PV.outs p)) do_] 25), (1, Option.map (fun x => Go.Addr.block x) bo, Go.Sl.Row (α := Int) 3 (Go.Proofs.Ytfleehgbpgmcnaa.PV.outs p) (j2))])) (fun (i, cs) => i ≤ dc ∧ Blk bc dc 5 cs) (fun (i, cs) => dc - i) ((0, _)) (⟨Nat.zero_le _, hB0⟩) ⟨rfl, rfl, rfl, trivial⟩ ⟨rfl, rfl, rfl, trivial⟩ (fun ⟨i, cs⟩ => fun (hk : i ≤ dc ∧ Blk bc dc 5 cs) => ?_)
  obtain ⟨hi1, hB⟩ := hk
  have hcap := hB.2
  rcases Nat.lt_or_ge i dc with hil | hil
  · refine Wc.seq ?_
    refine Wc.seq ?_
    refine Wc.region rfl ?_
    refine Wl.q rfl (Qy.move rfl) ?_
    refine Wl.q rfl (Qy.move rfl) ?_
    refine Wl.q rfl (Qy.len T.sl22 rfl) ?_
    refine Wl.q rfl (Qy.lss rfl rfl) ?_
    refine Wl.done ?_
    refine Ar.next ?_
    refine Wc.condP rfl (by first | assumption | omega) ?_
    refine Wc.skip ?_
    refine Ar.next ?_
    refine Wc.seq ?_
    refine Wc.block ?_
    refine Wc.region rfl ?_
    refine Wl.q rfl (Qy.move rfl) ?_
    refine Wl.q rfl (Qy.move rfl) ?_
    refine Wl.q rfl (Qy.build (cs := [_, _, _, _, _]) T.st34 rfl rfl rfl) ?_
    refine Wl.q rfl (Qy.indexAddrKn T.sl22 rfl rfl hB (by omega) (by omega)) ?_
    skip
    refine Wl.storeKj (m := (i : Int)) (sz := 5) (vs := [.int .i64 55, .int .i64 0, .int .i64 0, .int .i64 0, .int .i64 0]) 0 0 5 T.size34 rfl rfl rfl rfl rfl rfl hB (by omega) (by omega) (fun cs1 hB1 => ?_)
    refine Wl.done ?_
    refine Ar.outNormal ?_
    refine Ar.next ?_
    refine Wc.region rfl ?_
    refine Wl.q rfl (Qy.move rfl) ?_
    refine Wl.q rfl (Qy.add rfl rfl (by omega)) ?_
    refine Wl.q rfl (Qy.assign rfl) ?_
    refine Wl.done ?_
    refine Ar.again ((i + 1, cs1)) ?_ ?_ rfl ⟨rfl, rfl, rfl, trivial⟩ ⟨rfl, rfl, rfl, trivial⟩
    · exact ⟨hil, hB1⟩
    · show dc - (i + 1) < dc - i
      omega
  · refine Wc.seq ?_
    refine Wc.seq ?_
    refine Wc.region rfl ?_
    refine Wl.q rfl (Qy.move rfl) ?_
    refine Wl.q rfl (Qy.move rfl) ?_
    refine Wl.q rfl (Qy.len T.sl22 rfl) ?_
    refine Wl.q rfl (Qy.lss rfl rfl) ?_
    refine Wl.done ?_
    refine Ar.next ?_
    refine Wc.condN rfl (by first | assumption | omega) ?_
    refine Wc.exit ?_
    refine Ar.passExit ?_
    refine Ar.passExit ?_
    refine Ar.here ?_
    refine Ar.next ?_
    refine Wc.seq ?_
    refine Wc.region rfl ?_
    refine Wl.q rfl (Qy.assign rfl) ?_
    refine Wl.done ?_
    refine Ar.next ?_
    refine Wc.block ?_
    refine Wc.loop (ι := Nat × List Value) (fun (q, ds) => ([(5, .int .i64 (q : Int)), (3, Go.Value.slice bo (Int.toNat (↑do_ : Int)) do_)], [(1, bo.map (·.block), .cells ds.toArray 3), (0, Option.map (fun x => Go.Addr.block x) bc, Go.Obj.cells (List.toArray cs) 34), (2, Option.some b1, Go.Obj.cells #[Go.Value.int Go.IntKind.i64 (Go.Proofs.Ytfleehgbpgmcnaa.PV.ins p), Go.Value.int Go.IntKind.i64 (Go.Proofs.Ytfleehgbpgmcnaa.PV.regs p), Go.Value.slice bc (List.length (Go.Proofs.Ytfleehgbpgmcnaa.PV.code p)) dc, Go.Value.slice bo (List.length (Go.Proofs.Ytfleehgbpgmcnaa.PV.outs p)) do_] 25)])) (fun (q, ds) => q ≤ do_ ∧ Blk bo do_ 1 ds) (fun (q, ds) => do_ - q) ((0, _)) (⟨Nat.zero_le _, hC0⟩) ⟨rfl, rfl, trivial⟩ ⟨rfl, rfl, rfl, trivial⟩ (fun ⟨q, ds⟩ => fun (hk : q ≤ do_ ∧ Blk bo do_ 1 ds) => ?_)
    obtain ⟨hq1, hC⟩ := hk
    rcases Nat.lt_or_ge q do_ with hql | hql
    · refine Wc.seq ?_
      refine Wc.seq ?_
      refine Wc.region rfl ?_
      refine Wl.q rfl (Qy.move rfl) ?_
      refine Wl.q rfl (Qy.move rfl) ?_
      refine Wl.q rfl (Qy.len T.sl23 rfl) ?_
      refine Wl.q rfl (Qy.lss rfl rfl) ?_
      refine Wl.done ?_
      refine Ar.next ?_
      refine Wc.condP rfl (by first | assumption | omega) ?_
      refine Wc.skip ?_
      refine Ar.next ?_
      refine Wc.seq ?_
      refine Wc.block ?_
      refine Wc.region rfl ?_
      refine Wl.q rfl (Qy.move rfl) ?_
      refine Wl.q rfl (Qy.move rfl) ?_
      refine Wl.q rfl (Qy.indexAddrKn T.sl23 rfl rfl hC (by omega) (by omega)) ?_
      skip
      refine Wl.storeKj (m := (q : Int)) (sz := 1) (vs := [.int .i64 (-9)]) 1 0 1 T.size3 rfl rfl rfl rfl rfl rfl hC (by omega) (by omega) (fun ds1 hC1 => ?_)
      refine Wl.done ?_
      refine Ar.outNormal ?_
      refine Ar.next ?_
      refine Wc.region rfl ?_
      refine Wl.q rfl (Qy.move rfl) ?_
      refine Wl.q rfl (Qy.add rfl rfl (by omega)) ?_
      refine Wl.q rfl (Qy.assign rfl) ?_
      refine Wl.done ?_
      refine Ar.again ((q + 1, ds1)) ?_ ?_ rfl ⟨rfl, rfl, trivial⟩ ⟨rfl, rfl, rfl, trivial⟩
      · exact ⟨hql, hC1⟩
      · show do_ - (q + 1) < do_ - q
        omega
    · refine Wc.seq ?_
      refine Wc.seq ?_
      refine Wc.region rfl ?_
      refine Wl.q rfl (Qy.move rfl) ?_
      refine Wl.q rfl (Qy.move rfl) ?_
      refine Wl.q rfl (Qy.len T.sl23 rfl) ?_
      refine Wl.q rfl (Qy.lss rfl rfl) ?_
      refine Wl.done ?_
      refine Ar.next ?_
      refine Wc.condN rfl (by first | assumption | omega) ?_
      refine Wc.exit ?_
      refine Ar.passExit ?_
      refine Ar.passExit ?_
      refine Ar.here ?_
      refine Ar.out0 (.inl rfl) (Ho := []) rfl trivial ?_
      exact ⟨rfl, rfl, rfl⟩
theorem c73W (G : Imm) (p : PV) (ac ao : Option Addr) (cc co : Nat) (hc : Arr G ac p.code) (ho : Arr G ao p.outs) (h1 : p.code.length ≤ 1099511627776) (h2 : p.outs.length ≤ 1099511627776) (hR : ¬ rightP p = true) :
    Does Try.prog 73 [.agg #[.int .i64 p.ins, .int .i64 p.regs, .slice ac p.code.length cc, .slice ao p.outs.length co]] G [] (fun v G' Ho => v = .tuple #[.pointer none, .int .i64 80] ∧ Ho = [] ∧ G' = G) := by
  refine Does.enter Try.func73 rfl Try.ntmps73 rfl (fun w => ?_)
  refine Wc.seq ?_
  refine Wc.region rfl ?_
  refine Wl.box 0 rfl rfl rfl (fun b1 => ?_)
  refine Wl.q rfl (Qy.assign rfl) ?_
  refine Wl.q rfl (Qy.assign rfl) ?_
  refine Wl.done ?_
  refine Ar.next ?_
  refine Wc.seq ?_
  refine Wc.region rfl ?_
  refine Wl.q rfl (Qy.loadAll 0 T.agg25 rfl rfl rfl) ?_
  refine Wl.call 1 rfl T.fn44 rfl (c44W _ _ _ _ _ _ (by assumption) (by assumption) (by omega) (by omega) hR) (tags_of trivial) (fun v1 G1 Ho1 hle1 hp => ?_)
  obtain ⟨rfl, rfl, rfl⟩ := hp
  refine Wl.q rfl (Qy.move rfl) ?_
  refine Wl.q rfl (Qy.extract rfl rfl) ?_
  refine Wl.q rfl (Qy.extract rfl rfl) ?_
  refine Wl.q rfl (Qy.assign rfl) ?_
  refine Wl.q rfl (Qy.assign rfl) ?_
  refine Wl.done ?_
  refine Ar.next ?_
  refine Wc.seq ?_
  refine Wc.seq ?_
  refine Wc.region rfl ?_
  refine Wl.q rfl (Qy.move rfl) ?_
  refine Wl.q rfl (Qy.neq rfl rfl) ?_
  refine Wl.done ?_
  refine Ar.next ?_
  refine Wc.condP rfl (by first | assumption | omega) ?_
  refine Wc.seq ?_
  refine Wc.region rfl ?_
  refine Wl.q rfl (Qy.move rfl) ?_
  refine Wl.q rfl (Qy.assign rfl) ?_
  refine Wl.q rfl (Qy.assign rfl) ?_
  refine Wl.done ?_
  refine Ar.next ?_
  refine Wc.ret ?_
  refine Ar.passRet ?_
  refine Ar.out2 (.inr rfl) (Ho := []) rfl (.tmp rfl) (.tmp rfl) trivial ?_
  exact ⟨rfl, rfl, rfl⟩
theorem c42W (G : Imm) (p : PV) (ac ao : Option Addr) (cc co : Nat) (hc : Arr G ac p.code) (ho : Arr G ao p.outs) (h1 : p.code.length ≤ 1099511627776) (h2 : p.outs.length ≤ 1099511627776) (hR : ¬ rightP p = true) :
    Does Try.prog 42 [.agg #[.int .i64 p.ins, .int .i64 p.regs, .slice ac p.code.length cc, .slice ao p.outs.length co]] G [] (fun v G' Ho => v = .tuple #[.agg #[.int .i64 (⟨0, 0, [], []⟩ : PV).ins, .int .i64 (⟨0, 0, [], []⟩ : PV).regs, .slice none (⟨0, 0, [], []⟩ : PV).code.length 0, .slice none (⟨0, 0, [], []⟩ : PV).outs.length 0], .int .i64 80] ∧ Ho = [] ∧ G' = G) := by
  refine Does.enter Try.func42 rfl Try.ntmps42 rfl (fun w => ?_)
  refine Wc.seq ?_
  refine Wc.region rfl ?_
  refine Wl.box 0 rfl rfl rfl (fun b1 => ?_)
  refine Wl.alloc 1 rfl T.zero25 (fun b2 => ?_)
  refine Wl.q rfl (Qy.assign rfl) ?_
  refine Wl.done ?_
  refine Ar.next ?_
  refine Wc.seq ?_
  refine Wc.region rfl ?_
  refine Wl.q rfl (Qy.loadAll 0 T.agg25 rfl rfl rfl) ?_
  refine Wl.call 2 rfl T.fn73 rfl (c73W _ _ _ _ _ _ (by assumption) (by assumption) (by omega) (by omega) hR) (tags_of trivial) (fun v1 G1 Ho1 hle1 hp => ?_)
  obtain ⟨rfl, rfl, rfl⟩ := hp
  refine Wl.q rfl (Qy.move rfl) ?_
  refine Wl.q rfl (Qy.extract rfl rfl) ?_
  refine Wl.q rfl (Qy.extract rfl rfl) ?_
  refine Wl.q rfl (Qy.assign rfl) ?_
  refine Wl.q rfl (Qy.assign rfl) ?_
  refine Wl.done ?_
  refine Ar.next ?_
  refine Wc.seq ?_
  refine Wc.seq ?_
  refine Wc.region rfl ?_
  refine Wl.q rfl (Qy.move rfl) ?_
  refine Wl.q rfl (Qy.neq rfl rfl) ?_
  refine Wl.done ?_
  refine Ar.next ?_
  refine Wc.condP rfl (by first | assumption | omega) ?_
  refine Wc.seq ?_
  refine Wc.region rfl ?_
  refine Wl.q rfl (Qy.build (cs := [_, _, _, _]) T.st25 rfl rfl rfl) ?_
  refine Wl.q rfl (Qy.move rfl) ?_
  refine Wl.storeAll 1 T.size25 rfl rfl rfl rfl rfl rfl ?_
  refine Wl.q rfl (Qy.assign rfl) ?_
  refine Wl.done ?_
  refine Ar.next ?_
  refine Wc.ret ?_
  refine Ar.passRet ?_
  refine Ar.out2 (.inr rfl) (Ho := []) rfl (.agg 1 rfl rfl T.agg25) (.tmp rfl) trivial ?_
  exact ⟨rfl, rfl, rfl⟩
theorem c47W (G : Imm) (p : PV) (ac ao : Option Addr) (cc co : Nat) (hc : Arr G ac p.code) (ho : Arr G ao p.outs) (h1 : p.code.length ≤ 1099511627776) (h2 : p.outs.length ≤ 1099511627776) (hR : ¬ rightP p = true) :
    Does Try.prog 47 [.agg #[.int .i64 p.ins, .int .i64 p.regs, .slice ac p.code.length cc, .slice ao p.outs.length co]] G [] (fun v G' Ho => v = .tuple #[.int .i64 0, .int .i64 80] ∧ Ho = [] ∧ G' = G) := by
  refine Does.enter Try.func47 rfl Try.ntmps47 rfl (fun w => ?_)
  refine Wc.seq ?_
  refine Wc.region rfl ?_
  refine Wl.box 0 rfl rfl rfl (fun b1 => ?_)
  refine Wl.q rfl (Qy.assign rfl) ?_
  refine Wl.q rfl (Qy.assign rfl) ?_
  refine Wl.done ?_
  refine Ar.next ?_
  refine Wc.seq ?_
  refine Wc.region rfl ?_
  refine Wl.q rfl (Qy.loadAll 0 T.agg25 rfl rfl rfl) ?_
  refine Wl.call 1 rfl T.fn73 rfl (c73W _ _ _ _ _ _ (by assumption) (by assumption) (by omega) (by omega) hR) (tags_of trivial) (fun v1 G1 Ho1 hle1 hp => ?_)
  obtain ⟨rfl, rfl, rfl⟩ := hp
  refine Wl.q rfl (Qy.move rfl) ?_
  refine Wl.q rfl (Qy.extract rfl rfl) ?_
  refine Wl.q rfl (Qy.extract rfl rfl) ?_
  refine Wl.q rfl (Qy.assign rfl) ?_
  refine Wl.q rfl (Qy.assign rfl) ?_
  refine Wl.done ?_
  refine Ar.next ?_
  refine Wc.seq ?_
  refine Wc.seq ?_
  refine Wc.region rfl ?_
  refine Wl.q rfl (Qy.move rfl) ?_
  refine Wl.q rfl (Qy.neq rfl rfl) ?_
  refine Wl.done ?_
  refine Ar.next ?_
  refine Wc.condP rfl (by first | assumption | omega) ?_
  refine Wc.seq ?_
  refine Wc.region rfl ?_
  refine Wl.q rfl (Qy.move rfl) ?_
  refine Wl.q rfl (Qy.assign rfl) ?_
  refine Wl.q rfl (Qy.assign rfl) ?_
  refine Wl.done ?_
  refine Ar.next ?_
  refine Wc.ret ?_
  refine Ar.passRet ?_
  refine Ar.out2 (.inr rfl) (Ho := []) rfl (.tmp rfl) (.tmp rfl) trivial ?_
  exact ⟨rfl, rfl, rfl⟩
theorem c47R (G : Imm) (p : PV) (ac ao : Option Addr) (cc co : Nat) (hc : Arr G ac p.code) (ho : Arr G ao p.outs) (h1 : p.code.length ≤ 1099511627776) (h2 : p.outs.length ≤ 1099511627776) (hR : rightP p = true) :
    Does Try.prog 47 [.agg #[.int .i64 p.ins, .int .i64 p.regs, .slice ac p.code.length cc, .slice ao p.outs.length co]] G [] (fun v G' Ho => v = .tuple #[.int .i64 (aliveP p), .int .i64 0] ∧ Ho = [] ∧ G' = G) := by
  obtain ⟨f1, f2, f3, f4, f5, f6, f7, f8⟩ := right_facts hR
  have hlok := lifeP_ok hR
  obtain ⟨k1, k2, k3, k4, k5, k6, k7, k8, k9, k10, k11⟩ := hlok
  have hnl : (neededP p).length = p.code.length := needed_len9 p
  obtain ⟨I, hI⟩ : ∃ I : Nat, p.ins = (I : Int) := ⟨p.ins.toNat, by omega⟩
  have hIn : p.ins.toNat = I := by omega
  refine Does.enter Try.func47 rfl Try.ntmps47 rfl (fun w => ?_)
  refine Wc.seq ?_
  refine Wc.region rfl ?_
  refine Wl.box 0 rfl rfl rfl (fun b1 => ?_)
  refine Wl.q rfl (Qy.assign rfl) ?_
  refine Wl.q rfl (Qy.assign rfl) ?_
  refine Wl.done ?_
  refine Ar.next ?_
  refine Wc.seq ?_
  refine Wc.region rfl ?_
  refine Wl.q rfl (Qy.loadAll 0 T.agg25 rfl rfl rfl) ?_
  refine Wl.call 1 rfl T.fn73 rfl (c73 _ _ _ _ _ _ (by assumption) (by assumption) (by omega) (by omega) hR) (tags_of trivial) (fun v1 G1 Ho1 hle1 hp => ?_)
  obtain ⟨lu1, lnb1, lnc1, lnj1, lx1, ly1, lz1, ln1, loo1, lod1, loj1, lo1, ld1, lj1, rfl, hln1, hlx1, hly1, hlz1, hlo1, hlt1, rfl, rfl⟩ := hp
  refine Wl.q rfl (Qy.move rfl) ?_
  refine Wl.q rfl (Qy.extract rfl rfl) ?_
  refine Wl.q rfl (Qy.extract rfl rfl) ?_
  refine Wl.q rfl (Qy.assign rfl) ?_
  refine Wl.q rfl (Qy.assign rfl) ?_
  refine Wl.done ?_
  refine Ar.next ?_
  refine Wc.seq ?_
  refine Wc.seq ?_
  refine Wc.region rfl ?_
  refine Wl.q rfl (Qy.move rfl) ?_
  refine Wl.q rfl (Qy.neq rfl rfl) ?_
  refine Wl.done ?_
  refine Ar.next ?_
  refine Wc.condN rfl (by first | assumption | omega) ?_
  refine Wc.skip ?_
  refine Ar.next ?_
  refine Wc.seq ?_
  refine Wc.region rfl ?_
  refine Wl.q rfl (Qy.assign rfl) ?_
  refine Wl.done ?_
  refine Ar.next ?_
  refine Wc.seq ?_
  refine Wc.seq ?_
  refine Wc.region rfl ?_
  refine Wl.q rfl (Qy.fieldAddr T.fa25_0 rfl) ?_
  refine Wl.q rfl (Qy.load 0 T.one3 rfl rfl rfl) ?_
  refine Wl.q rfl (Qy.add rfl rfl (by omega)) ?_
  refine Wl.q rfl (Qy.move rfl) ?_
  refine Wl.done ?_
  refine Ar.next ?_
  refine Wc.block ?_
  refine Wc.loop (ι := Nat) (fun v => ([(21, .int .i64 (v : Int)), (6, .int .i64 (al0 p v)), (20, Go.Value.int Go.IntKind.i64 (Go.Proofs.Ytfleehgbpgmcnaa.PV.ins p + 1)), (4, Go.Value.pointer (Option.some (Go.Addr.mk lu1 0 Option.none))), (3, Go.Value.int Go.IntKind.i64 0), (2, Go.Value.int Go.IntKind.i64 0), (1, Go.Value.pointer (Option.some (Go.Addr.mk b1 0 Option.none)))], [(1, Option.some lu1, Go.Obj.cells #[Go.Value.int Go.IntKind.i64 (Go.Proofs.Ytfleehgbpgmcnaa.PV.ins p), Go.Value.int Go.IntKind.i64 (Go.Proofs.Ytfleehgbpgmcnaa.PV.regs p), Go.Value.slice ac (List.length (Go.Proofs.Ytfleehgbpgmcnaa.PV.code p)) cc, Go.Value.slice ao (List.length (Go.Proofs.Ytfleehgbpgmcnaa.PV.outs p)) co, Go.Value.slice lnb1 (List.length (Go.Proofs.Ytfleehgbpgmcnaa.neededP p)) lnc1, Go.Value.slice (Option.some (Go.Addr.mk lx1 0 Option.none)) (List.length (Go.Proofs.Ytfleehgbpgmcnaa.Life.a (Go.Proofs.Ytfleehgbpgmcnaa.lifeP p))) ln1, Go.Value.slice (Option.some (Go.Addr.mk ly1 0 Option.none)) (List.length (Go.Proofs.Ytfleehgbpgmcnaa.Life.b (Go.Proofs.Ytfleehgbpgmcnaa.lifeP p))) ln1, Go.Value.slice (Option.some (Go.Addr.mk lz1 0 Option.none)) (List.length (Go.Proofs.Ytfleehgbpgmcnaa.Life.sets (Go.Proofs.Ytfleehgbpgmcnaa.lifeP p))) ln1, Go.Value.slice loo1 (List.length (Go.Proofs.Ytfleehgbpgmcnaa.Life.outs (Go.Proofs.Ytfleehgbpgmcnaa.lifeP p))) lod1, Go.Value.slice lo1 (List.length (Go.Proofs.Ytfleehgbpgmcnaa.Life.till (Go.Proofs.Ytfleehgbpgmcnaa.lifeP p))) ld1] 117), (2, Option.map (fun x => Go.Addr.block x) lnb1, Go.Sl.Row (α := Bool) 4 (Go.Proofs.Ytfleehgbpgmcnaa.neededP p) (lnj1)), (3, Option.some lx1, Go.Sl.Row (α := Int) 3 (Go.Proofs.Ytfleehgbpgmcnaa.Life.a (Go.Proofs.Ytfleehgbpgmcnaa.lifeP p)) ([])), (4, Option.some ly1, Go.Sl.Row (α := Int) 3 (Go.Proofs.Ytfleehgbpgmcnaa.Life.b (Go.Proofs.Ytfleehgbpgmcnaa.lifeP p)) ([])), (5, Option.some lz1, Go.Sl.Row (α := Int) 3 (Go.Proofs.Ytfleehgbpgmcnaa.Life.sets (Go.Proofs.Ytfleehgbpgmcnaa.lifeP p)) ([])), (6, Option.map (fun x => Go.Addr.block x) loo1, Go.Sl.Row (α := Int) 3 (Go.Proofs.Ytfleehgbpgmcnaa.Life.outs (Go.Proofs.Ytfleehgbpgmcnaa.lifeP p)) (loj1)), (7, Option.map (fun x => Go.Addr.block x) lo1, Go.Sl.Row (α := Int) 3 (Go.Proofs.Ytfleehgbpgmcnaa.Life.till (Go.Proofs.Ytfleehgbpgmcnaa.lifeP p)) (lj1)), (0, Option.some b1, Go.Obj.cells #[Go.Value.int Go.IntKind.i64 (Go.Proofs.Ytfleehgbpgmcnaa.PV.ins p), Go.Value.int Go.IntKind.i64 (Go.Proofs.Ytfleehgbpgmcnaa.PV.regs p), Go.Value.slice ac (List.length (Go.Proofs.Ytfleehgbpgmcnaa.PV.code p)) cc, Go.Value.slice ao (List.length (Go.Proofs.Ytfleehgbpgmcnaa.PV.outs p)) co] 25)])) (fun v => v ≤ I + 1) (fun v => I + 1 - v) (0) (Nat.zero_le _) ⟨rfl, rfl, rfl, rfl, rfl, rfl, rfl, trivial⟩ ⟨rfl, rfl, rfl, rfl, rfl, rfl, rfl, rfl, trivial⟩ (fun v => fun (hk : v ≤ I + 1) => ?_)
  have hal := al0_le p v
  rcases Nat.lt_or_ge v (I + 1) with hvI | hvI
  · refine Wc.seq ?_
    refine Wc.region rfl ?_
    refine Wl.q rfl (Qy.lss rfl rfl) ?_
    refine Wl.done ?_
    refine Ar.next ?_
    refine Wc.seq ?_
    refine Wc.condP rfl (by first | assumption | omega) ?_
    refine Wc.skip ?_
    refine Ar.next ?_
    refine Wc.seq ?_
    refine Wc.block ?_
    refine Wc.seq ?_
    refine Wc.region rfl ?_
    refine Wl.q rfl (Qy.move rfl) ?_
    refine Wl.q rfl (Qy.assign rfl) ?_
    refine Wl.done ?_
    refine Ar.next ?_
    refine Wc.seq ?_
    refine Wc.region rfl ?_
    refine Wl.q rfl (Qy.move rfl) ?_
    refine Wl.q rfl (Qy.nilCheck rfl) ?_
    refine Wl.q rfl (Qy.fieldAddr T.fa117_6 rfl) ?_
    refine Wl.q rfl (Qy.load 1 T.one23 rfl rfl rfl) ?_
    refine Wl.q rfl (Qy.move rfl) ?_
    refine Wl.q rfl (Qy.indexAddrO (α := Int) T.sl23 rfl rfl (by assumption) (by omega)) ?_
    refine Wl.q rfl (Qy.loadO 7 0 T.one3 rfl rfl (by assumption) (by omega) rfl rfl) ?_
    refine Wl.q rfl (Qy.geq rfl rfl) ?_
    refine Wl.done ?_
    refine Ar.next ?_
    refine Wc.cond rfl (fun hc1 => ?_) (fun hc1 => ?_)
    refine Wc.region rfl ?_
    refine Wl.q rfl (Qy.move rfl) ?_
    refine Wl.q rfl (Qy.add rfl rfl (by omega)) ?_
    refine Wl.q rfl (Qy.assign rfl) ?_
    refine Wl.done ?_
    refine Ar.outNormal ?_
    refine Ar.next ?_
    refine Wc.region rfl ?_
    refine Wl.q rfl (Qy.add rfl rfl (by omega)) ?_
    refine Wl.q rfl (Qy.move rfl) ?_
    refine Wl.done ?_
    rotate_left
    refine Wc.skip ?_
    refine Ar.outNormal ?_
    refine Ar.next ?_
    refine Wc.region rfl ?_
    refine Wl.q rfl (Qy.add rfl rfl (by omega)) ?_
    refine Wl.q rfl (Qy.move rfl) ?_
    refine Wl.done ?_
    rotate_left
    · have e := al0_yes (p := p) (v := v) (by assumption)
      rw [← e]
      refine Ar.again (v + 1) ?_ ?_ rfl ⟨rfl, rfl, rfl, rfl, rfl, rfl, rfl, trivial⟩ ⟨rfl, rfl, rfl, rfl, rfl, rfl, rfl, rfl, trivial⟩
      · exact hvI
      · show I + 1 - (v + 1) < I + 1 - v
        omega
    · have e := al0_no (p := p) (v := v) (by assumption)
      rw [← e]
      refine Ar.again (v + 1) ?_ ?_ rfl ⟨rfl, rfl, rfl, rfl, rfl, rfl, rfl, trivial⟩ ⟨rfl, rfl, rfl, rfl, rfl, rfl, rfl, rfl, trivial⟩
      · exact hvI
      · show I + 1 - (v + 1) < I + 1 - v
        omega
  · have hvE : v = I + 1 := by omega
    subst hvE
    refine Wc.seq ?_
    refine Wc.region rfl ?_
    refine Wl.q rfl (Qy.lss rfl rfl) ?_
    refine Wl.done ?_
    refine Ar.next ?_
    refine Wc.seq ?_
    refine Wc.condN rfl (by first | assumption | omega) ?_
    refine Wc.exit ?_
    refine Ar.passExit ?_
    refine Ar.passExit ?_
    refine Ar.here ?_
    refine Ar.next ?_
    refine Wc.seq ?_
    refine Wc.region rfl ?_
    refine Wl.q rfl (Qy.move rfl) ?_
    refine Wl.q rfl (Qy.assign rfl) ?_
    refine Wl.done ?_
    refine Ar.next ?_
    refine Wc.seq ?_
    refine Wc.seq ?_
    refine Wc.region rfl ?_
    refine Wl.q rfl (Qy.fieldAddr T.fa25_2 rfl) ?_
    refine Wl.q rfl (Qy.load 0 T.one22 rfl rfl rfl) ?_
    refine Wl.q rfl (Qy.len T.sl22 rfl) ?_
    refine Wl.q rfl (Qy.move rfl) ?_
    refine Wl.done ?_
    refine Ar.next ?_
    refine Wc.block ?_
    have e0 : al0 p (I + 1) = (alTo p 0).1 := by show _ = al0 p (p.ins.toNat + 1); rw [hIn]
    have e0' : al0 p (I + 1) = (alTo p 0).2 := by show _ = al0 p (p.ins.toNat + 1); rw [hIn]
    refine Wc.re 8 rfl (show _ = Value.int .i64 (alTo p 0).2 by rw [← e0']) ?_
    refine Wc.re 6 rfl (show _ = Value.int .i64 (alTo p 0).1 by rw [← e0]) ?_
    refine Wc.loop (ι := Nat) (fun k => ([(39, .int .i64 (k : Int)), (6, .int .i64 (alTo p k).1), (8, .int .i64 (alTo p k).2), (38, Go.Value.int Go.IntKind.i64 (↑(List.length (Go.Proofs.Ytfleehgbpgmcnaa.PV.code p)) : Int)), (4, Go.Value.pointer (Option.some (Go.Addr.mk lu1 0 Option.none))), (3, Go.Value.int Go.IntKind.i64 0), (2, Go.Value.int Go.IntKind.i64 0)], [(1, Option.some lu1, Go.Obj.cells #[Go.Value.int Go.IntKind.i64 (Go.Proofs.Ytfleehgbpgmcnaa.PV.ins p), Go.Value.int Go.IntKind.i64 (Go.Proofs.Ytfleehgbpgmcnaa.PV.regs p), Go.Value.slice ac (List.length (Go.Proofs.Ytfleehgbpgmcnaa.PV.code p)) cc, Go.Value.slice ao (List.length (Go.Proofs.Ytfleehgbpgmcnaa.PV.outs p)) co, Go.Value.slice lnb1 (List.length (Go.Proofs.Ytfleehgbpgmcnaa.neededP p)) lnc1, Go.Value.slice (Option.some (Go.Addr.mk lx1 0 Option.none)) (List.length (Go.Proofs.Ytfleehgbpgmcnaa.Life.a (Go.Proofs.Ytfleehgbpgmcnaa.lifeP p))) ln1, Go.Value.slice (Option.some (Go.Addr.mk ly1 0 Option.none)) (List.length (Go.Proofs.Ytfleehgbpgmcnaa.Life.b (Go.Proofs.Ytfleehgbpgmcnaa.lifeP p))) ln1, Go.Value.slice (Option.some (Go.Addr.mk lz1 0 Option.none)) (List.length (Go.Proofs.Ytfleehgbpgmcnaa.Life.sets (Go.Proofs.Ytfleehgbpgmcnaa.lifeP p))) ln1, Go.Value.slice loo1 (List.length (Go.Proofs.Ytfleehgbpgmcnaa.Life.outs (Go.Proofs.Ytfleehgbpgmcnaa.lifeP p))) lod1, Go.Value.slice lo1 (List.length (Go.Proofs.Ytfleehgbpgmcnaa.Life.till (Go.Proofs.Ytfleehgbpgmcnaa.lifeP p))) ld1] 117), (2, Option.map (fun x => Go.Addr.block x) lnb1, Go.Sl.Row (α := Bool) 4 (Go.Proofs.Ytfleehgbpgmcnaa.neededP p) (lnj1)), (3, Option.some lx1, Go.Sl.Row (α := Int) 3 (Go.Proofs.Ytfleehgbpgmcnaa.Life.a (Go.Proofs.Ytfleehgbpgmcnaa.lifeP p)) ([])), (4, Option.some ly1, Go.Sl.Row (α := Int) 3 (Go.Proofs.Ytfleehgbpgmcnaa.Life.b (Go.Proofs.Ytfleehgbpgmcnaa.lifeP p)) ([])), (5, Option.some lz1, Go.Sl.Row (α := Int) 3 (Go.Proofs.Ytfleehgbpgmcnaa.Life.sets (Go.Proofs.Ytfleehgbpgmcnaa.lifeP p)) ([])), (6, Option.map (fun x => Go.Addr.block x) loo1, Go.Sl.Row (α := Int) 3 (Go.Proofs.Ytfleehgbpgmcnaa.Life.outs (Go.Proofs.Ytfleehgbpgmcnaa.lifeP p)) (loj1)), (7, Option.map (fun x => Go.Addr.block x) lo1, Go.Sl.Row (α := Int) 3 (Go.Proofs.Ytfleehgbpgmcnaa.Life.till (Go.Proofs.Ytfleehgbpgmcnaa.lifeP p)) (lj1)), (0, Option.some b1, Go.Obj.cells #[Go.Value.int Go.IntKind.i64 (Go.Proofs.Ytfleehgbpgmcnaa.PV.ins p), Go.Value.int Go.IntKind.i64 (Go.Proofs.Ytfleehgbpgmcnaa.PV.regs p), Go.Value.slice ac (List.length (Go.Proofs.Ytfleehgbpgmcnaa.PV.code p)) cc, Go.Value.slice ao (List.length (Go.Proofs.Ytfleehgbpgmcnaa.PV.outs p)) co] 25)])) (fun k => k ≤ p.code.length) (fun k => p.code.length - k) (0) (Nat.zero_le _) ⟨rfl, rfl, rfl, rfl, rfl, rfl, rfl, trivial⟩ ⟨rfl, rfl, rfl, rfl, rfl, rfl, rfl, rfl, trivial⟩ (fun k => fun (hk : k ≤ p.code.length) => ?_)
    rcases Nat.lt_or_ge k p.code.length with hkc | hkc
    · have hnow := alTo_now hR k hk
      have hcl : nAl p k ≤ vlen p k := cntR_le _ _
      have hvl := vlen_cnt hR k hk
      have hcm := cnt_le_code hR k hk
      have hvA := k8 _ (get_mem (r := ((k : Nat) : Int)) (l := (lifeP p).a) (by omega))
      have hvB := k9 _ (get_mem (r := ((k : Nat) : Int)) (l := (lifeP p).b) (by omega))
      refine Wc.seq ?_
      refine Wc.region rfl ?_
      refine Wl.q rfl (Qy.lss rfl rfl) ?_
      refine Wl.done ?_
      refine Ar.next ?_
      refine Wc.seq ?_
      refine Wc.condP rfl (by first | assumption | omega) ?_
      refine Wc.skip ?_
      refine Ar.next ?_
      refine Wc.seq ?_
      refine Wc.block ?_
      refine Wc.seq ?_
      refine Wc.region rfl ?_
      refine Wl.q rfl (Qy.move rfl) ?_
      refine Wl.q rfl (Qy.assign rfl) ?_
      refine Wl.done ?_
      refine Ar.next ?_
      refine Wc.seq ?_
      refine Wc.seq ?_
      refine Wc.region rfl ?_
      refine Wl.q rfl (Qy.move rfl) ?_
      refine Wl.q rfl (Qy.nilCheck rfl) ?_
      refine Wl.q rfl (Qy.fieldAddr T.fa117_1 rfl) ?_
      refine Wl.q rfl (Qy.load 1 T.one64 rfl rfl rfl) ?_
      refine Wl.q rfl (Qy.move rfl) ?_
      refine Wl.q rfl (Qy.indexAddrO (α := Bool) T.sl64 rfl rfl (by assumption) (by omega)) ?_
      refine Wl.q rfl (Qy.loadO 2 0 T.one4 rfl rfl (by assumption) (by omega) rfl rfl) ?_
      refine Wl.q rfl (Qy.not rfl) ?_
      refine Wl.done ?_
      refine Ar.next ?_
      refine Wc.ite rfl (fun hc1 => ?_) (fun hc1 => ?_)
      refine Wc.exit ?_
      refine Ar.passExit ?_
      refine Ar.here ?_
      refine Ar.next ?_
      refine Wc.region rfl ?_
      refine Wl.q rfl (Qy.add rfl rfl (by omega)) ?_
      refine Wl.q rfl (Qy.move rfl) ?_
      refine Wl.done ?_
      rotate_left
      refine Wc.skip ?_
      refine Ar.next ?_
      rotate_left
      · have hn : ¬ nAt p k = true := by unfold nAt; simp_all
        have e : alTo p (k + 1) = alTo p k := if_neg hn
        rw [← e]
        refine Ar.again (k + 1) ?_ ?_ rfl ⟨rfl, rfl, rfl, rfl, rfl, rfl, rfl, trivial⟩ ⟨rfl, rfl, rfl, rfl, rfl, rfl, rfl, rfl, trivial⟩
        · exact hkc
        · show p.code.length - (k + 1) < p.code.length - k
          omega
      · have hn : nAt p k = true := by unfold nAt; simp_all
        obtain ⟨hA9, hB9, hS9⟩ := life_abs hR hkc hn
        refine Wc.meet (ι := Int) (fun n1 => ([(6, .int .i64 n1), (38, .int .i64 (p.code.length : Int)), (39, .int .i64 (k : Int)), (9, .int .i64 (k : Int)), (8, .int .i64 (alTo p k).2), (4, .pointer (some ⟨lu1, 0, none⟩)), (3, Go.Value.int Go.IntKind.i64 0), (2, Go.Value.int Go.IntKind.i64 0)], [(1, Option.some lu1, Go.Obj.cells #[Go.Value.int Go.IntKind.i64 (Go.Proofs.Ytfleehgbpgmcnaa.PV.ins p), Go.Value.int Go.IntKind.i64 (Go.Proofs.Ytfleehgbpgmcnaa.PV.regs p), Go.Value.slice ac (List.length (Go.Proofs.Ytfleehgbpgmcnaa.PV.code p)) cc, Go.Value.slice ao (List.length (Go.Proofs.Ytfleehgbpgmcnaa.PV.outs p)) co, Go.Value.slice lnb1 (List.length (Go.Proofs.Ytfleehgbpgmcnaa.neededP p)) lnc1, Go.Value.slice (Option.some (Go.Addr.mk lx1 0 Option.none)) (List.length (Go.Proofs.Ytfleehgbpgmcnaa.Life.a (Go.Proofs.Ytfleehgbpgmcnaa.lifeP p))) ln1, Go.Value.slice (Option.some (Go.Addr.mk ly1 0 Option.none)) (List.length (Go.Proofs.Ytfleehgbpgmcnaa.Life.b (Go.Proofs.Ytfleehgbpgmcnaa.lifeP p))) ln1, Go.Value.slice (Option.some (Go.Addr.mk lz1 0 Option.none)) (List.length (Go.Proofs.Ytfleehgbpgmcnaa.Life.sets (Go.Proofs.Ytfleehgbpgmcnaa.lifeP p))) ln1, Go.Value.slice loo1 (List.length (Go.Proofs.Ytfleehgbpgmcnaa.Life.outs (Go.Proofs.Ytfleehgbpgmcnaa.lifeP p))) lod1, Go.Value.slice lo1 (List.length (Go.Proofs.Ytfleehgbpgmcnaa.Life.till (Go.Proofs.Ytfleehgbpgmcnaa.lifeP p))) ld1] 117), (2, Option.map (fun x => Go.Addr.block x) lnb1, Go.Sl.Row (α := Bool) 4 (Go.Proofs.Ytfleehgbpgmcnaa.neededP p) (lnj1)), (3, Option.some lx1, Go.Sl.Row (α := Int) 3 (Go.Proofs.Ytfleehgbpgmcnaa.Life.a (Go.Proofs.Ytfleehgbpgmcnaa.lifeP p)) ([])), (4, Option.some ly1, Go.Sl.Row (α := Int) 3 (Go.Proofs.Ytfleehgbpgmcnaa.Life.b (Go.Proofs.Ytfleehgbpgmcnaa.lifeP p)) ([])), (5, Option.some lz1, Go.Sl.Row (α := Int) 3 (Go.Proofs.Ytfleehgbpgmcnaa.Life.sets (Go.Proofs.Ytfleehgbpgmcnaa.lifeP p)) ([])), (6, Option.map (fun x => Go.Addr.block x) loo1, Go.Sl.Row (α := Int) 3 (Go.Proofs.Ytfleehgbpgmcnaa.Life.outs (Go.Proofs.Ytfleehgbpgmcnaa.lifeP p)) (loj1)), (7, Option.map (fun x => Go.Addr.block x) lo1, Go.Sl.Row (α := Int) 3 (Go.Proofs.Ytfleehgbpgmcnaa.Life.till (Go.Proofs.Ytfleehgbpgmcnaa.lifeP p)) (lj1)), (0, Option.some b1, Go.Obj.cells #[Go.Value.int Go.IntKind.i64 (Go.Proofs.Ytfleehgbpgmcnaa.PV.ins p), Go.Value.int Go.IntKind.i64 (Go.Proofs.Ytfleehgbpgmcnaa.PV.regs p), Go.Value.slice ac (List.length (Go.Proofs.Ytfleehgbpgmcnaa.PV.code p)) cc, Go.Value.slice ao (List.length (Go.Proofs.Ytfleehgbpgmcnaa.PV.outs p)) co] 25)])) (fun n1 => n1 = if due p (dueA p k) = k then (alTo p k).1 - 1 else (alTo p k).1) ?_ (fun n1 => fun (hk : n1 = if due p (dueA p k) = k then (alTo p k).1 - 1 else (alTo p k).1) => ?_)
        · refine Wc.seq ?_
          refine Wc.draw [0, 7, 6, 5, 4, 3, 2, 1] [] T.mixed rfl ?_
          refine Gm.q 0 [] (by kernel_rfl) rfl rfl (Qy.move rfl) ?_
          refine Gm.q 1 [] (by kernel_rfl) rfl rfl (Qy.nilCheck rfl) ?_
          refine Gm.q 2 [] (by kernel_rfl) rfl rfl (Qy.fieldAddr T.fa117_6 rfl) ?_
          refine Gm.q 3 [1] (by kernel_rfl) rfl rfl (Qy.load 1 T.one23 rfl rfl rfl) ?_
          refine Gm.q 4 [] (by kernel_rfl) rfl rfl (Qy.move rfl) ?_
          refine Gm.q 5 [] (by kernel_rfl) rfl rfl (Qy.nilCheck rfl) ?_
          refine Gm.q 6 [] (by kernel_rfl) rfl rfl (Qy.fieldAddr T.fa117_2 rfl) ?_
          refine Gm.q 7 [1] (by kernel_rfl) rfl rfl (Qy.load 1 T.one23 rfl rfl rfl) ?_
          refine Gm.q 8 [] (by kernel_rfl) rfl rfl (Qy.move rfl) ?_
          refine Gm.q 9 [] (by kernel_rfl) rfl rfl (Qy.indexAddrO (α := Int) T.sl23 rfl rfl (by assumption) (by omega)) ?_
          refine Gm.q 10 [0, 3] (by kernel_rfl) rfl rfl (Qy.loadO 3 0 T.one3 rfl rfl (by assumption) (by omega) rfl rfl) ?_
          refine Gm.q 11 [] (by kernel_rfl) rfl rfl (Qy.indexAddrO (α := Int) T.sl23 rfl rfl (by assumption) (by omega)) ?_
          refine Gm.q 12 [0, 7] (by kernel_rfl) rfl rfl (Qy.loadO 7 0 T.one3 rfl rfl (by assumption) (by omega) rfl rfl) ?_
          refine Gm.q 13 [] (by kernel_rfl) rfl rfl (Qy.move rfl) ?_
          refine Gm.q 14 [] (by kernel_rfl) rfl rfl (Qy.eql rfl rfl) ?_
          refine Gm.doneA (by kernel_rfl) ⟨rfl, rfl, rfl, rfl, rfl, rfl, rfl, rfl, trivial⟩ (by first | exact Imm.le_refl _ | assumption | (refine Imm.le_trans ?_ (by assumption); first | assumption | (refine Imm.le_trans ?_ (by assumption); assumption))) ?_
          refine Ar.next ?_
          refine Wc.cond rfl (fun hc2 => ?_) (fun hc2 => ?_)
          refine Wc.region rfl ?_
          refine Wl.q rfl (Qy.move rfl) ?_
          refine Wl.q rfl (Qy.sub rfl rfl (by omega)) ?_
          refine Wl.q rfl (Qy.assign rfl) ?_
          refine Wl.done ?_
          rotate_left
          refine Wc.skip ?_
          rotate_left
          · refine Ar.meet ((alTo p k).1 - 1) ?_ rfl ⟨rfl, rfl, rfl, rfl, rfl, rfl, rfl, rfl, trivial⟩ ⟨rfl, rfl, rfl, rfl, rfl, rfl, rfl, rfl, trivial⟩
            refine (if_pos ?_).symm
            rw [← hA9]; assumption
          · refine Ar.meet ((alTo p k).1) ?_ rfl ⟨rfl, rfl, rfl, rfl, rfl, rfl, rfl, rfl, trivial⟩ ⟨rfl, rfl, rfl, rfl, rfl, rfl, rfl, rfl, trivial⟩
            refine (if_neg ?_).symm
            rw [← hA9]; assumption
        · have hn1 := hk
          have hn1b : (alTo p k).1 - 1 ≤ n1 ∧ n1 ≤ (alTo p k).1 := by rw [hn1]; split <;> omega
          clear hk
          refine Wc.meet (ι := Int) (fun n2 => ([(6, .int .i64 n2), (38, .int .i64 (p.code.length : Int)), (39, .int .i64 (k : Int)), (9, .int .i64 (k : Int)), (8, .int .i64 (alTo p k).2), (4, .pointer (some ⟨lu1, 0, none⟩)), (3, Go.Value.int Go.IntKind.i64 0), (2, Go.Value.int Go.IntKind.i64 0)], [(1, Option.some lu1, Go.Obj.cells #[Go.Value.int Go.IntKind.i64 (Go.Proofs.Ytfleehgbpgmcnaa.PV.ins p), Go.Value.int Go.IntKind.i64 (Go.Proofs.Ytfleehgbpgmcnaa.PV.regs p), Go.Value.slice ac (List.length (Go.Proofs.Ytfleehgbpgmcnaa.PV.code p)) cc, Go.Value.slice ao (List.length (Go.Proofs.Ytfleehgbpgmcnaa.PV.outs p)) co, Go.Value.slice lnb1 (List.length (Go.Proofs.Ytfleehgbpgmcnaa.neededP p)) lnc1, Go.Value.slice (Option.some (Go.Addr.mk lx1 0 Option.none)) (List.length (Go.Proofs.Ytfleehgbpgmcnaa.Life.a (Go.Proofs.Ytfleehgbpgmcnaa.lifeP p))) ln1, Go.Value.slice (Option.some (Go.Addr.mk ly1 0 Option.none)) (List.length (Go.Proofs.Ytfleehgbpgmcnaa.Life.b (Go.Proofs.Ytfleehgbpgmcnaa.lifeP p))) ln1, Go.Value.slice (Option.some (Go.Addr.mk lz1 0 Option.none)) (List.length (Go.Proofs.Ytfleehgbpgmcnaa.Life.sets (Go.Proofs.Ytfleehgbpgmcnaa.lifeP p))) ln1, Go.Value.slice loo1 (List.length (Go.Proofs.Ytfleehgbpgmcnaa.Life.outs (Go.Proofs.Ytfleehgbpgmcnaa.lifeP p))) lod1, Go.Value.slice lo1 (List.length (Go.Proofs.Ytfleehgbpgmcnaa.Life.till (Go.Proofs.Ytfleehgbpgmcnaa.lifeP p))) ld1] 117), (2, Option.map (fun x => Go.Addr.block x) lnb1, Go.Sl.Row (α := Bool) 4 (Go.Proofs.Ytfleehgbpgmcnaa.neededP p) (lnj1)), (3, Option.some lx1, Go.Sl.Row (α := Int) 3 (Go.Proofs.Ytfleehgbpgmcnaa.Life.a (Go.Proofs.Ytfleehgbpgmcnaa.lifeP p)) ([])), (4, Option.some ly1, Go.Sl.Row (α := Int) 3 (Go.Proofs.Ytfleehgbpgmcnaa.Life.b (Go.Proofs.Ytfleehgbpgmcnaa.lifeP p)) ([])), (5, Option.some lz1, Go.Sl.Row (α := Int) 3 (Go.Proofs.Ytfleehgbpgmcnaa.Life.sets (Go.Proofs.Ytfleehgbpgmcnaa.lifeP p)) ([])), (6, Option.map (fun x => Go.Addr.block x) loo1, Go.Sl.Row (α := Int) 3 (Go.Proofs.Ytfleehgbpgmcnaa.Life.outs (Go.Proofs.Ytfleehgbpgmcnaa.lifeP p)) (loj1)), (7, Option.map (fun x => Go.Addr.block x) lo1, Go.Sl.Row (α := Int) 3 (Go.Proofs.Ytfleehgbpgmcnaa.Life.till (Go.Proofs.Ytfleehgbpgmcnaa.lifeP p)) (lj1)), (0, Option.some b1, Go.Obj.cells #[Go.Value.int Go.IntKind.i64 (Go.Proofs.Ytfleehgbpgmcnaa.PV.ins p), Go.Value.int Go.IntKind.i64 (Go.Proofs.Ytfleehgbpgmcnaa.PV.regs p), Go.Value.slice ac (List.length (Go.Proofs.Ytfleehgbpgmcnaa.PV.code p)) cc, Go.Value.slice ao (List.length (Go.Proofs.Ytfleehgbpgmcnaa.PV.outs p)) co] 25)])) (fun n2 => n2 = if dueB p k ≠ dueA p k ∧ due p (dueB p k) = k then n1 - 1 else n1) ?_ (fun n2 => fun (hk : n2 = if dueB p k ≠ dueA p k ∧ due p (dueB p k) = k then n1 - 1 else n1) => ?_)
          · refine Wc.seq ?_
            refine Wc.draw [0, 7, 6, 5, 4, 3, 2, 1] [] T.mixed rfl ?_
            refine Gm.q 0 [] (by kernel_rfl) rfl rfl (Qy.move rfl) ?_
            refine Gm.q 1 [] (by kernel_rfl) rfl rfl (Qy.nilCheck rfl) ?_
            refine Gm.q 2 [] (by kernel_rfl) rfl rfl (Qy.fieldAddr T.fa117_3 rfl) ?_
            refine Gm.q 3 [1] (by kernel_rfl) rfl rfl (Qy.load 1 T.one23 rfl rfl rfl) ?_
            refine Gm.q 4 [] (by kernel_rfl) rfl rfl (Qy.move rfl) ?_
            refine Gm.q 5 [] (by kernel_rfl) rfl rfl (Qy.indexAddrO (α := Int) T.sl23 rfl rfl (by assumption) (by omega)) ?_
            refine Gm.q 6 [0, 4] (by kernel_rfl) rfl rfl (Qy.loadO 4 0 T.one3 rfl rfl (by assumption) (by omega) rfl rfl) ?_
            refine Gm.q 7 [] (by kernel_rfl) rfl rfl (Qy.move rfl) ?_
            refine Gm.q 8 [] (by kernel_rfl) rfl rfl (Qy.nilCheck rfl) ?_
            refine Gm.q 9 [] (by kernel_rfl) rfl rfl (Qy.fieldAddr T.fa117_2 rfl) ?_
            refine Gm.q 10 [1] (by kernel_rfl) rfl rfl (Qy.load 1 T.one23 rfl rfl rfl) ?_
            refine Gm.q 11 [] (by kernel_rfl) rfl rfl (Qy.move rfl) ?_
            refine Gm.q 12 [] (by kernel_rfl) rfl rfl (Qy.indexAddrO (α := Int) T.sl23 rfl rfl (by assumption) (by omega)) ?_
            refine Gm.q 13 [0, 3] (by kernel_rfl) rfl rfl (Qy.loadO 3 0 T.one3 rfl rfl (by assumption) (by omega) rfl rfl) ?_
            refine Gm.q 14 [] (by kernel_rfl) rfl rfl (Qy.neq rfl rfl) ?_
            refine Gm.q 15 [] (by kernel_rfl) rfl rfl (Qy.move rfl) ?_
            refine Gm.cases 82 rfl (fun hg1 => ?_) (fun hg1 => ?_)
            refine Gm.qYes 16 [] (by kernel_rfl) rfl rfl rfl rfl (Qy.move rfl) ?_
            refine Gm.qYes 17 [] (by kernel_rfl) rfl rfl rfl rfl (Qy.nilCheck rfl) ?_
            refine Gm.qYes 18 [] (by kernel_rfl) rfl rfl rfl rfl (Qy.fieldAddr T.fa117_6 rfl) ?_
            refine Gm.qYes 19 [1] (by kernel_rfl) rfl rfl rfl rfl (Qy.load 1 T.one23 rfl rfl rfl) ?_
            refine Gm.qYes 20 [] (by kernel_rfl) rfl rfl rfl rfl (Qy.move rfl) ?_
            refine Gm.qYes 21 [] (by kernel_rfl) rfl rfl rfl rfl (Qy.nilCheck rfl) ?_
            refine Gm.qYes 22 [] (by kernel_rfl) rfl rfl rfl rfl (Qy.fieldAddr T.fa117_3 rfl) ?_
            refine Gm.qYes 23 [1] (by kernel_rfl) rfl rfl rfl rfl (Qy.load 1 T.one23 rfl rfl rfl) ?_
            refine Gm.qYes 24 [] (by kernel_rfl) rfl rfl rfl rfl (Qy.move rfl) ?_
            refine Gm.qYes 25 [] (by kernel_rfl) rfl rfl rfl rfl (Qy.indexAddrO (α := Int) T.sl23 rfl rfl (by assumption) (by omega)) ?_
            refine Gm.qYes 26 [0, 4] (by kernel_rfl) rfl rfl rfl rfl (Qy.loadO 4 0 T.one3 rfl rfl (by assumption) (by omega) rfl rfl) ?_
            refine Gm.qYes 27 [] (by kernel_rfl) rfl rfl rfl rfl (Qy.indexAddrO (α := Int) T.sl23 rfl rfl (by assumption) (by omega)) ?_
            refine Gm.qYes 28 [0, 7] (by kernel_rfl) rfl rfl rfl rfl (Qy.loadO 7 0 T.one3 rfl rfl (by assumption) (by omega) rfl rfl) ?_
            refine Gm.qYes 29 [] (by kernel_rfl) rfl rfl rfl rfl (Qy.move rfl) ?_
            refine Gm.qYes 30 [] (by kernel_rfl) rfl rfl rfl rfl (Qy.eql rfl rfl) ?_
            refine Gm.q 31 [] (by kernel_rfl) rfl rfl (Qy.pick rfl rfl) ?_
            refine Gm.doneA (by kernel_rfl) ⟨rfl, rfl, rfl, rfl, rfl, rfl, rfl, rfl, trivial⟩ (by first | exact Imm.le_refl _ | assumption | (refine Imm.le_trans ?_ (by assumption); first | assumption | (refine Imm.le_trans ?_ (by assumption); assumption))) ?_
            refine Ar.next ?_
            refine Wc.cond rfl (fun hc2 => ?_) (fun hc2 => ?_)
            refine Wc.region rfl ?_
            refine Wl.q rfl (Qy.move rfl) ?_
            refine Wl.q rfl (Qy.sub rfl rfl (by omega)) ?_
            refine Wl.q rfl (Qy.assign rfl) ?_
            refine Wl.done ?_
            rotate_left
            refine Wc.skip ?_
            rotate_left
            refine Gm.qNo 16 (by kernel_rfl) rfl rfl rfl rfl ?_
            refine Gm.qNo 17 (by kernel_rfl) rfl rfl rfl rfl ?_
            refine Gm.qNo 18 (by kernel_rfl) rfl rfl rfl rfl ?_
            refine Gm.qNo 19 (by kernel_rfl) rfl rfl rfl rfl ?_
            refine Gm.qNo 20 (by kernel_rfl) rfl rfl rfl rfl ?_
            refine Gm.qNo 21 (by kernel_rfl) rfl rfl rfl rfl ?_
            refine Gm.qNo 22 (by kernel_rfl) rfl rfl rfl rfl ?_
            refine Gm.qNo 23 (by kernel_rfl) rfl rfl rfl rfl ?_
            refine Gm.qNo 24 (by kernel_rfl) rfl rfl rfl rfl ?_
            refine Gm.qNo 25 (by kernel_rfl) rfl rfl rfl rfl ?_
            refine Gm.qNo 26 (by kernel_rfl) rfl rfl rfl rfl ?_
            refine Gm.qNo 27 (by kernel_rfl) rfl rfl rfl rfl ?_
            refine Gm.qNo 28 (by kernel_rfl) rfl rfl rfl rfl ?_
            refine Gm.qNo 29 (by kernel_rfl) rfl rfl rfl rfl ?_
            refine Gm.qNo 30 (by kernel_rfl) rfl rfl rfl rfl ?_
            refine Gm.q 31 [] (by kernel_rfl) rfl rfl (Qy.pick rfl rfl) ?_
            refine Gm.doneA (by kernel_rfl) ⟨rfl, rfl, rfl, rfl, rfl, rfl, rfl, rfl, trivial⟩ (by first | exact Imm.le_refl _ | assumption | (refine Imm.le_trans ?_ (by assumption); first | assumption | (refine Imm.le_trans ?_ (by assumption); assumption))) ?_
            refine Ar.next ?_
            refine Wc.condF rfl ?_
            refine Wc.skip ?_
            rotate_left
            · refine Ar.meet (n1 - 1) ?_ rfl ⟨rfl, rfl, rfl, rfl, rfl, rfl, rfl, rfl, trivial⟩ ⟨rfl, rfl, rfl, rfl, rfl, rfl, rfl, rfl, trivial⟩
              refine (if_pos ⟨?_, ?_⟩).symm
              · rw [← hA9, ← hB9]; assumption
              · rw [← hB9]; assumption
            · refine Ar.meet (n1) ?_ rfl ⟨rfl, rfl, rfl, rfl, rfl, rfl, rfl, rfl, trivial⟩ ⟨rfl, rfl, rfl, rfl, rfl, rfl, rfl, rfl, trivial⟩
              refine (if_neg (fun x => ?_)).symm
              have x2 := x.2
              rw [← hB9] at x2
              contradiction
            · refine Ar.meet (n1) ?_ rfl ⟨rfl, rfl, rfl, rfl, rfl, rfl, rfl, rfl, trivial⟩ ⟨rfl, rfl, rfl, rfl, rfl, rfl, rfl, rfl, trivial⟩
              refine (if_neg (fun x => ?_)).symm
              have x1 := x.1
              rw [← hA9, ← hB9] at x1
              contradiction
          · have hn2 := hk
            have hn2b : n1 - 1 ≤ n2 ∧ n2 ≤ n1 := by rw [hn2]; split <;> omega
            have e : alTo p (k + 1) = alStep p (alTo p k) k := if_pos hn
            have e2 : alStep p (alTo p k) k = (n2 + 1, max (alTo p k).2 (n2 + 1)) := by unfold alStep; simp only; rw [← hn1, ← hn2]
            have e3 : (alTo p (k + 1)).1 = n2 + 1 := by rw [e, e2]
            have e4 : (alTo p (k + 1)).2 = max (alTo p k).2 (n2 + 1) := by rw [e, e2]
            refine Wc.seq ?_
            refine Wc.region rfl ?_
            refine Wl.q rfl (Qy.move rfl) ?_
            refine Wl.q rfl (Qy.add rfl rfl (by omega)) ?_
            refine Wl.q rfl (Qy.assign rfl) ?_
            refine Wl.done ?_
            refine Ar.next ?_
            refine Wc.region rfl ?_
            refine Wl.q rfl (Qy.move rfl) ?_
            refine Wl.q rfl (Qy.move rfl) ?_
            refine Wl.q rfl (Qy.max rfl rfl) ?_
            refine Wl.q rfl (Qy.assign rfl) ?_
            refine Wl.done ?_
            refine Ar.outNormal ?_
            refine Ar.next ?_
            refine Wc.region rfl ?_
            refine Wl.q rfl (Qy.add rfl rfl (by omega)) ?_
            refine Wl.q rfl (Qy.move rfl) ?_
            refine Wl.done ?_
            refine Ar.re 6 rfl (show _ = Value.int .i64 (alTo p (k + 1)).1 by rw [e3]) ?_
            refine Ar.re 8 rfl (show _ = Value.int .i64 (alTo p (k + 1)).2 by rw [e4]; congr 1; split <;> omega) ?_
            refine Ar.again (k + 1) ?_ ?_ rfl ⟨rfl, rfl, rfl, rfl, rfl, rfl, rfl, trivial⟩ ⟨rfl, rfl, rfl, rfl, rfl, rfl, rfl, rfl, trivial⟩
            · exact hkc
            · show p.code.length - (k + 1) < p.code.length - k
              omega
    · refine Wc.seq ?_
      refine Wc.region rfl ?_
      refine Wl.q rfl (Qy.lss rfl rfl) ?_
      refine Wl.done ?_
      refine Ar.next ?_
      refine Wc.seq ?_
      refine Wc.condN rfl (by first | assumption | omega) ?_
      refine Wc.exit ?_
      refine Ar.passExit ?_
      refine Ar.passExit ?_
      refine Ar.here ?_
      refine Ar.next ?_
      refine Wc.seq ?_
      refine Wc.region rfl ?_
      refine Wl.q rfl (Qy.move rfl) ?_
      refine Wl.q rfl (Qy.assign rfl) ?_
      refine Wl.q rfl (Qy.assign rfl) ?_
      refine Wl.done ?_
      refine Ar.next ?_
      refine Wc.ret ?_
      refine Ar.out2 (.inr rfl) (Ho := []) rfl (.tmp rfl) (.tmp rfl) trivial ?_
      have hke : k = p.code.length := Nat.le_antisymm hk hkc
      subst hke
      exact ⟨rfl, rfl, rfl⟩
end Go.Proofs.Ytfleehgbpgmcnaa
set_option maxRecDepth 100000
set_option linter.unusedVariables false
namespace Go.Proofs.Ytfleehgbpgmcnaa
open Go Go.Sl
set_option maxHeartbeats 4000000
theorem order_regs {p : PV} (hR : rightP p = true) : (orderP p).regs ≤ p.regs := by
  obtain ⟨h1, h2⟩ := pk_occ hR p.code.length (Nat.le_refl _)
  have := h1.i5
  show (pkTo p p.code.length).regs ≤ _
  omega
theorem alive_le {p : PV} (hR : rightP p = true) : 0 ≤ aliveP p ∧ aliveP p ≤ 1000000 := by
  obtain ⟨f1, f2, f3, f4, _⟩ := right_facts hR
  obtain ⟨_, j, hj, h⟩ := alTo_most hR p.code.length (Nat.le_refl _)
  have h1 : nAl p j ≤ vlen p j := cntR_le _ _
  have h2 := vlen_cnt hR j hj
  have h3 := cnt_le_code hR j hj
  unfold aliveP
  rw [h]
  omega
theorem ref_len {p : PV} (hR : rightP p = true) : (refP p).code.length ≤ p.code.length ∧ (refP p).outs.length = p.outs.length := by
  rw [order_ref hR]; exact ⟨order_len hR, order_outs p⟩
attribute [local irreducible] neededP rightP orderP refP aliveP refAliveP
theorem c38Y (G : Imm) : Does Try.prog 38 [] G [] (fun v G' Ho => v = .bool (decide Yes) ∧ G' = G ∧ Ho = []) := (c38 G).mono fun v G' Ho _ h => ⟨by rw [h.1, decide_eq_true yes], h.2⟩
attribute [local irreducible] Yes
theorem c10W (G : Imm) (p : PV) (ac ao : Option Addr) (cc co : Nat) (hc : Arr G ac p.code) (ho : Arr G ao p.outs) (h1 : p.code.length ≤ 1099511627776) (h2 : p.outs.length ≤ 1099511627776) (hR : ¬ rightP p = true) :
    Does Try.prog 10 [.agg #[.int .i64 p.ins, .int .i64 p.regs, .slice ac p.code.length cc, .slice ao p.outs.length co]] G [] (fun v G' Ho => v = .bool true) := by
  refine Does.enter Try.func10 rfl Try.ntmps10 rfl (fun w => ?_)
  refine Wc.seq ?_
  refine Wc.region rfl ?_
  refine Wl.box 0 rfl rfl rfl (fun b1 => ?_)
  refine Wl.q rfl (Qy.assign rfl) ?_
  refine Wl.done ?_
  refine Ar.next ?_
  refine Wc.seq ?_
  refine Wc.seq ?_
  refine Wc.region rfl ?_
  refine Wl.call0 rfl T.fn38 rfl (c38Y _) ?_
  refine Wl.q rfl (Qy.notD rfl) ?_
  refine Wl.done ?_
  refine Ar.next ?_
  refine Wc.cond rfl (fun hc1 => ?_) (fun hc1 => ?_)
  refine Wc.seq ?_
  refine Wc.region rfl ?_
  refine Wl.q rfl (Qy.assign rfl) ?_
  refine Wl.done ?_
  refine Ar.next ?_
  refine Wc.ret ?_
  refine Ar.passRet ?_
  rotate_left
  refine Wc.skip ?_
  refine Ar.next ?_
  refine Wc.seq ?_
  refine Wc.seq ?_
  refine Wc.region rfl ?_
  refine Wl.q rfl (Qy.loadAll 0 T.agg25 rfl rfl rfl) ?_
  refine Wl.call0 rfl T.fn40 rfl (c40 _ _ _ _ _ _ (by omega) (by omega)) ?_
  refine Wl.done ?_
  refine Ar.next ?_
  refine Wc.cond rfl (fun hc2 => ?_) (fun hc2 => ?_)
  refine Wc.seq ?_
  refine Wc.region rfl ?_
  refine Wl.q rfl (Qy.assign rfl) ?_
  refine Wl.done ?_
  refine Ar.next ?_
  refine Wc.ret ?_
  refine Ar.passRet ?_
  rotate_left
  refine Wc.skip ?_
  refine Ar.next ?_
  refine Wc.seq ?_
  refine Wc.region rfl ?_
  refine Wl.q rfl (Qy.loadAll 0 T.agg25 rfl rfl rfl) ?_
  refine Wl.callB 1 rfl T.fn13 rfl (fun Gx hGx hgx => (c13 _ _ _ _ _ _ (by first | exact Arr.up (by assumption) hGx | exact Arr.nil _) (by first | exact Arr.up (by assumption) hGx | exact Arr.nil _) (by omega) (by omega))) (fun v1 Gx1 G1 Ho1 hlx1 hp => ?_)
  obtain ⟨oc1, oo1, occ1, ooc1, oj1, ok1, rfl, hoc1, hoo1, rfl, rfl⟩ := hp
  refine Wl.alloc 13 rfl T.zero25 (fun b2 => ?_)
  refine Wl.storeAll 13 T.size25 rfl rfl rfl rfl rfl rfl ?_
  refine Wl.done ?_
  refine Ar.next ?_
  refine Wc.seq ?_
  refine Wc.region rfl ?_
  refine Wl.q rfl (Qy.loadAll 0 T.agg25 rfl rfl rfl) ?_
  refine Wl.call 14 rfl T.fn42 rfl (c42W _ _ _ _ _ _ (by assumption) (by assumption) (by omega) (by omega) hR) (tags_of trivial) (fun v1 G1 Ho1 hle1 hp => ?_)
  obtain ⟨rfl, rfl, rfl⟩ := hp
  refine Wl.q rfl (Qy.move rfl) ?_
  refine Wl.q rfl (Qy.extract rfl rfl) ?_
  refine Wl.q rfl (Qy.extract rfl rfl) ?_
  refine Wl.alloc 14 rfl T.zero25 (fun b3 => ?_)
  refine Wl.storeAll 14 T.size25 rfl rfl rfl rfl rfl rfl ?_
  refine Wl.q rfl (Qy.assign rfl) ?_
  refine Wl.done ?_
  refine Ar.next ?_
  refine Wc.seq ?_
  refine Wc.region rfl ?_
  refine Wl.q rfl (Qy.loadAll 0 T.agg25 rfl rfl rfl) ?_
  refine Wl.call 15 rfl T.fn47 rfl (c47W _ _ _ _ _ _ (by assumption) (by assumption) (by omega) (by omega) hR) (tags_of trivial) (fun v2 G2 Ho2 hle2 hp => ?_)
  obtain ⟨rfl, rfl, rfl⟩ := hp
  refine Wl.q rfl (Qy.move rfl) ?_
  refine Wl.q rfl (Qy.extract rfl rfl) ?_
  refine Wl.q rfl (Qy.extract rfl rfl) ?_
  refine Wl.q rfl (Qy.assign rfl) ?_
  refine Wl.q rfl (Qy.assign rfl) ?_
  refine Wl.done ?_
  refine Ar.next ?_
  refine Wc.seq ?_
  refine Wc.region rfl ?_
  refine Wl.q rfl (Qy.loadAll 0 T.agg25 rfl rfl rfl) ?_
  refine Wl.callB 15 rfl T.fn15 rfl (fun Gx hGx hgx => (c15 _ _ _ _ _ _ (by first | exact Arr.up (by assumption) hGx | exact Arr.nil _ | exact Arr.own hgx 11 rfl (by first | assumption | exact OwnA.made (by simp [maxLen])) | exact Arr.own hgx 12 rfl (by first | assumption | exact OwnA.made (by simp [maxLen]))) (by first | exact Arr.up (by assumption) hGx | exact Arr.nil _ | exact Arr.own hgx 11 rfl (by first | assumption | exact OwnA.made (by simp [maxLen])) | exact Arr.own hgx 12 rfl (by first | assumption | exact OwnA.made (by simp [maxLen]))) (by omega) (by omega))) (fun v2 Gx2 G2 Ho2 hlx2 hp => ?_)
  obtain ⟨rfl, rfl, rfl⟩ := hp
  refine Wl.q rfl (Qy.assign rfl) ?_
  refine Wl.done ?_
  refine Ar.next ?_
  refine Wc.seq ?_
  refine Wc.seq ?_
  refine Wc.region rfl ?_
  refine Wl.q rfl (Qy.move rfl) ?_
  refine Wl.q rfl (Qy.notD rfl) ?_
  refine Wl.done ?_
  refine Ar.next ?_
  refine Wc.condP rfl (by first | assumption | omega) ?_
  refine Wc.seq ?_
  refine Wc.region rfl ?_
  refine Wl.q rfl (Qy.loadAll 14 T.agg25 rfl rfl rfl) ?_
  refine Wl.call0 rfl T.fn48 rfl (c48 _ _ _ _ _ _) ?_
  refine Wl.q rfl (Qy.move rfl) ?_
  apply Wl.joinAnd 3 37 40 rfl
  intro hg1
  refine Wl.want rfl rfl ?_
  refine Wl.q rfl (Qy.move rfl) ?_
  refine Wl.want rfl rfl ?_
  refine Wl.q rfl (Qy.eql rfl rfl) ?_
  refine Wl.q rfl (Qy.pick rfl rfl) ?_
  exact Wl.back 3 0 rfl rfl rfl rfl rfl
  intro hg1
  refine Wl.pass rfl rfl rfl ?_
  refine Wl.pass rfl rfl rfl ?_
  refine Wl.q rfl (Qy.pick rfl rfl) ?_
  exact Wl.back 3 0 rfl rfl rfl rfl rfl
  refine Wl.q rfl (Qy.move rfl) ?_
  apply Wl.joinAnd 3 41 44 rfl
  intro hg1
  refine Wl.want rfl rfl ?_
  refine Wl.q rfl (Qy.move rfl) ?_
  refine Wl.want rfl rfl ?_
  refine Wl.q rfl (Qy.eql rfl rfl) ?_
  refine Wl.q rfl (Qy.pick rfl rfl) ?_
  exact Wl.back 3 0 rfl rfl rfl rfl rfl
  intro hg1
  refine Wl.pass rfl rfl rfl ?_
  refine Wl.pass rfl rfl rfl ?_
  refine Wl.q rfl (Qy.pick rfl rfl) ?_
  exact Wl.back 3 0 rfl rfl rfl rfl rfl
  refine Wl.q rfl (Qy.move rfl) ?_
  apply Wl.joinAnd 3 45 48 rfl
  intro hg1
  refine Wl.want rfl rfl ?_
  refine Wl.q rfl (Qy.move rfl) ?_
  refine Wl.want rfl rfl ?_
  refine Wl.q rfl (Qy.eql rfl rfl) ?_
  refine Wl.q rfl (Qy.pick rfl rfl) ?_
  exact Wl.back 3 0 rfl rfl rfl rfl rfl
  intro hg1
  refine Wl.pass rfl rfl rfl ?_
  refine Wl.pass rfl rfl rfl ?_
  refine Wl.q rfl (Qy.pick rfl rfl) ?_
  exact Wl.back 3 0 rfl rfl rfl rfl rfl
  refine Wl.q rfl (Qy.move rfl) ?_
  apply Wl.joinAnd 2 49 51 rfl
  intro hg1
  refine Wl.want rfl rfl ?_
  refine Wl.call0 rfl T.fn38 rfl (c38Y _) ?_
  refine Wl.q rfl (Qy.pick rfl rfl) ?_
  exact Wl.back 2 0 rfl rfl rfl rfl rfl
  intro hg1
  refine Wl.pass rfl rfl rfl ?_
  refine Wl.q rfl (Qy.pick rfl rfl) ?_
  exact Wl.back 2 0 rfl rfl rfl rfl rfl
  refine Wl.q rfl (Qy.assign rfl) ?_
  refine Wl.done ?_
  refine Ar.next ?_
  refine Wc.ret ?_
  refine Ar.passRet ?_
  rotate_left
  · exact absurd yes hc1
  · refine Ar.out1 (.inr rfl) (Ho := []) rfl (.tmp rfl) trivial ?_
    rfl
  · refine Ar.out1 (.inr rfl) (Ho := []) rfl (.tmp rfl) trivial ?_
    simp [yes]
theorem c10R (G : Imm) (p : PV) (ac ao : Option Addr) (cc co : Nat) (hc : Arr G ac p.code) (ho : Arr G ao p.outs) (h1 : p.code.length ≤ 1099511627776) (h2 : p.outs.length ≤ 1099511627776) (hR : rightP p = true) :
    Does Try.prog 10 [.agg #[.int .i64 p.ins, .int .i64 p.regs, .slice ac p.code.length cc, .slice ao p.outs.length co]] G [] (fun v G' Ho => v = .bool true) := by
  obtain ⟨f1, f2, f3, f4, f5, f6, f7, f8⟩ := right_facts hR
  have hRq := order_right hR
  have hqcl := order_len hR
  have hqol := order_outs p
  have href := order_ref hR
  have halv := alive_ref hR
  have hagn := order_again hR
  have hreg := order_regs hR
  have hali := order_alive hR
  obtain ⟨hrl1, hrl2⟩ := ref_len hR
  have hal0 := alive_le hR
  have hnl := needed_len9 (orderP p)
  refine Does.enter Try.func10 rfl Try.ntmps10 rfl (fun w => ?_)
  refine Wc.seq ?_
  refine Wc.region rfl ?_
  refine Wl.box 0 rfl rfl rfl (fun b1 => ?_)
  refine Wl.q rfl (Qy.assign rfl) ?_
  refine Wl.done ?_
  refine Ar.next ?_
  refine Wc.seq ?_
  refine Wc.seq ?_
  refine Wc.region rfl ?_
  refine Wl.call0 rfl T.fn38 rfl (c38Y _) ?_
  refine Wl.q rfl (Qy.notD rfl) ?_
  refine Wl.done ?_
  refine Ar.next ?_
  refine Wc.cond rfl (fun hc1 => ?_) (fun hc1 => ?_)
  refine Wc.seq ?_
  refine Wc.region rfl ?_
  refine Wl.q rfl (Qy.assign rfl) ?_
  refine Wl.done ?_
  refine Ar.next ?_
  refine Wc.ret ?_
  refine Ar.passRet ?_
  rotate_left
  refine Wc.skip ?_
  refine Ar.next ?_
  refine Wc.seq ?_
  refine Wc.seq ?_
  refine Wc.region rfl ?_
  refine Wl.q rfl (Qy.loadAll 0 T.agg25 rfl rfl rfl) ?_
  refine Wl.call0 rfl T.fn40 rfl (c40 _ _ _ _ _ _ (by omega) (by omega)) ?_
  refine Wl.done ?_
  refine Ar.next ?_
  refine Wc.cond rfl (fun hc2 => ?_) (fun hc2 => ?_)
  refine Wc.seq ?_
  refine Wc.region rfl ?_
  refine Wl.q rfl (Qy.assign rfl) ?_
  refine Wl.done ?_
  refine Ar.next ?_
  refine Wc.ret ?_
  refine Ar.passRet ?_
  rotate_left
  refine Wc.skip ?_
  refine Ar.next ?_
  refine Wc.seq ?_
  refine Wc.region rfl ?_
  refine Wl.q rfl (Qy.loadAll 0 T.agg25 rfl rfl rfl) ?_
  refine Wl.callB 1 rfl T.fn13 rfl (fun Gx hGx hgx => (c13 _ _ _ _ _ _ (by first | exact Arr.up (by assumption) hGx | exact Arr.nil _) (by first | exact Arr.up (by assumption) hGx | exact Arr.nil _) (by omega) (by omega))) (fun v1 Gx1 G1 Ho1 hlx1 hp => ?_)
  obtain ⟨oc1, oo1, occ1, ooc1, oj1, ok1, rfl, hoc1, hoo1, rfl, rfl⟩ := hp
  refine Wl.alloc 13 rfl T.zero25 (fun b2 => ?_)
  refine Wl.storeAll 13 T.size25 rfl rfl rfl rfl rfl rfl ?_
  refine Wl.done ?_
  refine Ar.next ?_
  refine Wc.seq ?_
  refine Wc.region rfl ?_
  refine Wl.q rfl (Qy.loadAll 0 T.agg25 rfl rfl rfl) ?_
  refine Wl.callB 14 rfl T.fn42 rfl (fun Gx hGx hgx => (c42R _ _ _ _ _ _ (by first | exact Arr.up (by assumption) hGx | exact Arr.nil _ | exact Arr.own hgx 11 rfl (by first | assumption | exact OwnA.made (by simp [maxLen])) | exact Arr.own hgx 12 rfl (by first | assumption | exact OwnA.made (by simp [maxLen]))) (by first | exact Arr.up (by assumption) hGx | exact Arr.nil _ | exact Arr.own hgx 11 rfl (by first | assumption | exact OwnA.made (by simp [maxLen])) | exact Arr.own hgx 12 rfl (by first | assumption | exact OwnA.made (by simp [maxLen]))) (by omega) (by omega) (by assumption))) (fun v2 Gx2 G2 Ho2 hlx2 hp => ?_)
  obtain ⟨qc2, qo2, qcc2, qoc2, qj2, qk2, rfl, hqc2, hqo2, rfl, rfl⟩ := hp
  refine Wl.q rfl (Qy.move rfl) ?_
  refine Wl.q rfl (Qy.extract rfl rfl) ?_
  refine Wl.q rfl (Qy.extract rfl rfl) ?_
  refine Wl.alloc 16 rfl T.zero25 (fun b3 => ?_)
  refine Wl.storeAll 16 T.size25 rfl rfl rfl rfl rfl rfl ?_
  refine Wl.q rfl (Qy.assign rfl) ?_
  refine Wl.done ?_
  refine Ar.next ?_
  refine Wc.seq ?_
  refine Wc.region rfl ?_
  refine Wl.q rfl (Qy.loadAll 0 T.agg25 rfl rfl rfl) ?_
  refine Wl.call 17 rfl T.fn47 rfl (c47R _ _ _ _ _ _ (by assumption) (by assumption) (by omega) (by omega) hR) (tags_of trivial) (fun v1 G1 Ho1 hle1 hp => ?_)
  obtain ⟨rfl, rfl, rfl⟩ := hp
  refine Wl.q rfl (Qy.move rfl) ?_
  refine Wl.q rfl (Qy.extract rfl rfl) ?_
  refine Wl.q rfl (Qy.extract rfl rfl) ?_
  refine Wl.q rfl (Qy.assign rfl) ?_
  refine Wl.q rfl (Qy.assign rfl) ?_
  refine Wl.done ?_
  refine Ar.next ?_
  refine Wc.seq ?_
  refine Wc.region rfl ?_
  refine Wl.q rfl (Qy.loadAll 0 T.agg25 rfl rfl rfl) ?_
  refine Wl.callB 17 rfl T.fn15 rfl (fun Gx hGx hgx => (c15 _ _ _ _ _ _ (by first | exact Arr.up (by assumption) hGx | exact Arr.nil _ | exact Arr.own hgx 14 rfl (by first | assumption | exact OwnA.made (by simp [maxLen])) | exact Arr.own hgx 15 rfl (by first | assumption | exact OwnA.made (by simp [maxLen])) | exact Arr.own hgx 11 rfl (by first | assumption | exact OwnA.made (by simp [maxLen])) | exact Arr.own hgx 12 rfl (by first | assumption | exact OwnA.made (by simp [maxLen]))) (by first | exact Arr.up (by assumption) hGx | exact Arr.nil _ | exact Arr.own hgx 14 rfl (by first | assumption | exact OwnA.made (by simp [maxLen])) | exact Arr.own hgx 15 rfl (by first | assumption | exact OwnA.made (by simp [maxLen])) | exact Arr.own hgx 11 rfl (by first | assumption | exact OwnA.made (by simp [maxLen])) | exact Arr.own hgx 12 rfl (by first | assumption | exact OwnA.made (by simp [maxLen]))) (by omega) (by omega))) (fun v3 Gx3 G3 Ho3 hlx3 hp => ?_)
  obtain ⟨rfl, rfl, rfl⟩ := hp
  refine Wl.q rfl (Qy.assign rfl) ?_
  refine Wl.done ?_
  refine Ar.next ?_
  refine Wc.seq ?_
  refine Wc.seq ?_
  refine Wc.region rfl ?_
  refine Wl.q rfl (Qy.move rfl) ?_
  refine Wl.q rfl (Qy.notD rfl) ?_
  refine Wl.done ?_
  refine Ar.next ?_
  refine Wc.cond rfl (fun hc3 => ?_) (fun hc3 => ?_)
  refine Wc.seq ?_
  refine Wc.region rfl ?_
  refine Wl.q rfl (Qy.loadAll 16 T.agg25 rfl rfl rfl) ?_
  refine Wl.call0 rfl T.fn48 rfl (c48 _ _ _ _ _ _) ?_
  refine Wl.q rfl (Qy.move rfl) ?_
  apply Wl.joinAnd 3 37 40 rfl
  intro hg1
  refine Wl.want rfl rfl ?_
  refine Wl.q rfl (Qy.move rfl) ?_
  refine Wl.want rfl rfl ?_
  refine Wl.q rfl (Qy.eql rfl rfl) ?_
  refine Wl.q rfl (Qy.pick rfl rfl) ?_
  exact Wl.back 3 0 rfl rfl rfl rfl rfl
  intro hg1
  refine Wl.pass rfl rfl rfl ?_
  refine Wl.pass rfl rfl rfl ?_
  refine Wl.q rfl (Qy.pick rfl rfl) ?_
  exact Wl.back 3 0 rfl rfl rfl rfl rfl
  refine Wl.q rfl (Qy.move rfl) ?_
  refine Wl.no 41 rfl (by first | assumption | omega) ?_
  refine Wl.pass rfl rfl rfl ?_
  refine Wl.pass rfl rfl rfl ?_
  refine Wl.q rfl (Qy.pick rfl rfl) ?_
  refine Wl.q rfl (Qy.move rfl) ?_
  refine Wl.pass rfl rfl rfl ?_
  refine Wl.pass rfl rfl rfl ?_
  refine Wl.q rfl (Qy.pick rfl rfl) ?_
  refine Wl.q rfl (Qy.move rfl) ?_
  refine Wl.pass rfl rfl rfl ?_
  refine Wl.q rfl (Qy.pick rfl rfl) ?_
  refine Wl.q rfl (Qy.assign rfl) ?_
  refine Wl.done ?_
  refine Ar.next ?_
  refine Wc.ret ?_
  refine Ar.passRet ?_
  rotate_left
  refine Wc.skip ?_
  refine Ar.next ?_
  refine Wc.seq ?_
  refine Wc.region rfl ?_
  refine Wl.q rfl (Qy.loadAll 0 T.agg25 rfl rfl rfl) ?_
  refine Wl.call 17 rfl T.fn49 rfl (c49 _ _ _ _ _ _ (by assumption) (by assumption) hR) (tags_of trivial) (fun v2 G2 Ho2 hle2 hp => ?_)
  obtain ⟨wc2, wo2, wcc2, woc2, wj2, wk2, rfl, hwc2, hwo2, rfl, rfl⟩ := hp
  refine Wl.alloc 19 rfl T.zero25 (fun b4 => ?_)
  refine Wl.storeAll 19 T.size25 rfl rfl rfl rfl rfl rfl ?_
  refine Wl.done ?_
  refine Ar.next ?_
  refine Wc.seq ?_
  refine Wc.region rfl ?_
  refine Wl.q rfl (Qy.loadAll 0 T.agg25 rfl rfl rfl) ?_
  refine Wl.call0 rfl T.fn50 rfl (c50 _ _ _ _ _ _ (by assumption) (by assumption) hR) ?_
  refine Wl.q rfl (Qy.assign rfl) ?_
  refine Wl.done ?_
  refine Ar.next ?_
  refine Wc.seq ?_
  refine Wc.region rfl ?_
  refine Wl.q rfl (Qy.loadAll 16 T.agg25 rfl rfl rfl) ?_
  refine Wl.callB 20 rfl T.fn15 rfl (fun Gx hGx hgx => (c15 _ _ _ _ _ _ (by first | exact Arr.up (by assumption) hGx | exact Arr.nil _ | exact Arr.own hgx 17 rfl (by first | assumption | exact OwnA.made (by simp [maxLen])) | exact Arr.own hgx 18 rfl (by first | assumption | exact OwnA.made (by simp [maxLen])) | exact Arr.own hgx 14 rfl (by first | assumption | exact OwnA.made (by simp [maxLen])) | exact Arr.own hgx 15 rfl (by first | assumption | exact OwnA.made (by simp [maxLen])) | exact Arr.own hgx 11 rfl (by first | assumption | exact OwnA.made (by simp [maxLen])) | exact Arr.own hgx 12 rfl (by first | assumption | exact OwnA.made (by simp [maxLen]))) (by first | exact Arr.up (by assumption) hGx | exact Arr.nil _ | exact Arr.own hgx 17 rfl (by first | assumption | exact OwnA.made (by simp [maxLen])) | exact Arr.own hgx 18 rfl (by first | assumption | exact OwnA.made (by simp [maxLen])) | exact Arr.own hgx 14 rfl (by first | assumption | exact OwnA.made (by simp [maxLen])) | exact Arr.own hgx 15 rfl (by first | assumption | exact OwnA.made (by simp [maxLen])) | exact Arr.own hgx 11 rfl (by first | assumption | exact OwnA.made (by simp [maxLen])) | exact Arr.own hgx 12 rfl (by first | assumption | exact OwnA.made (by simp [maxLen]))) (by omega) (by omega))) (fun v4 Gx4 G4 Ho4 hlx4 hp => ?_)
  obtain ⟨rfl, rfl, rfl⟩ := hp
  refine Wl.q rfl (Qy.assign rfl) ?_
  refine Wl.done ?_
  refine Ar.next ?_
  refine Wc.seq ?_
  refine Wc.seq ?_
  refine Wc.region rfl ?_
  refine Wl.q rfl (Qy.move rfl) ?_
  refine Wl.q rfl (Qy.neq rfl rfl) ?_
  refine Wl.q rfl (Qy.move rfl) ?_
  refine Wl.no 60 rfl (by first | assumption | omega) ?_
  refine Wl.want rfl rfl ?_
  refine Wl.q rfl (Qy.move rfl) ?_
  refine Wl.want rfl rfl ?_
  refine Wl.q rfl (Qy.neq rfl rfl) ?_
  refine Wl.q rfl (Qy.pick rfl rfl) ?_
  refine Wl.q rfl (Qy.move rfl) ?_
  refine Wl.no 64 rfl (by first | assumption | omega) ?_
  refine Wl.want rfl rfl ?_
  refine Wl.q rfl (Qy.loadAll 16 T.agg25 rfl rfl rfl) ?_
  refine Wl.want rfl rfl ?_
  refine Wl.q rfl (Qy.loadAll 19 T.agg25 rfl rfl rfl) ?_
  refine Wl.want rfl rfl ?_
  refine Wl.callB 20 rfl T.fn18 rfl (fun Gx hGx hgx => (c18 _ _ _ _ _ _ _ _ _ _ _ (by first | exact Arr.up (by assumption) hGx | exact Arr.nil _ | exact Arr.own hgx 17 rfl (by first | assumption | exact OwnA.made (by simp [maxLen])) | exact Arr.own hgx 18 rfl (by first | assumption | exact OwnA.made (by simp [maxLen])) | exact Arr.own hgx 14 rfl (by first | assumption | exact OwnA.made (by simp [maxLen])) | exact Arr.own hgx 15 rfl (by first | assumption | exact OwnA.made (by simp [maxLen])) | exact Arr.own hgx 11 rfl (by first | assumption | exact OwnA.made (by simp [maxLen])) | exact Arr.own hgx 12 rfl (by first | assumption | exact OwnA.made (by simp [maxLen]))) (by first | exact Arr.up (by assumption) hGx | exact Arr.nil _ | exact Arr.own hgx 17 rfl (by first | assumption | exact OwnA.made (by simp [maxLen])) | exact Arr.own hgx 18 rfl (by first | assumption | exact OwnA.made (by simp [maxLen])) | exact Arr.own hgx 14 rfl (by first | assumption | exact OwnA.made (by simp [maxLen])) | exact Arr.own hgx 15 rfl (by first | assumption | exact OwnA.made (by simp [maxLen])) | exact Arr.own hgx 11 rfl (by first | assumption | exact OwnA.made (by simp [maxLen])) | exact Arr.own hgx 12 rfl (by first | assumption | exact OwnA.made (by simp [maxLen]))) (by first | exact Arr.up (by assumption) hGx | exact Arr.nil _ | exact Arr.own hgx 17 rfl (by first | assumption | exact OwnA.made (by simp [maxLen])) | exact Arr.own hgx 18 rfl (by first | assumption | exact OwnA.made (by simp [maxLen])) | exact Arr.own hgx 14 rfl (by first | assumption | exact OwnA.made (by simp [maxLen])) | exact Arr.own hgx 15 rfl (by first | assumption | exact OwnA.made (by simp [maxLen])) | exact Arr.own hgx 11 rfl (by first | assumption | exact OwnA.made (by simp [maxLen])) | exact Arr.own hgx 12 rfl (by first | assumption | exact OwnA.made (by simp [maxLen]))) (by first | exact Arr.up (by assumption) hGx | exact Arr.nil _ | exact Arr.own hgx 17 rfl (by first | assumption | exact OwnA.made (by simp [maxLen])) | exact Arr.own hgx 18 rfl (by first | assumption | exact OwnA.made (by simp [maxLen])) | exact Arr.own hgx 14 rfl (by first | assumption | exact OwnA.made (by simp [maxLen])) | exact Arr.own hgx 15 rfl (by first | assumption | exact OwnA.made (by simp [maxLen])) | exact Arr.own hgx 11 rfl (by first | assumption | exact OwnA.made (by simp [maxLen])) | exact Arr.own hgx 12 rfl (by first | assumption | exact OwnA.made (by simp [maxLen]))) (by omega) (by omega))) (fun v5 Gx5 G5 Ho5 hlx5 hp => ?_)
  obtain ⟨rfl, rfl, rfl⟩ := hp
  refine Wl.want rfl rfl ?_
  refine Wl.q rfl (Qy.notD rfl) ?_
  refine Wl.q rfl (Qy.pick rfl rfl) ?_
  refine Wl.q rfl (Qy.move rfl) ?_
  apply Wl.joinOr 4 70 74 rfl
  intro hg1
  refine Wl.want rfl rfl ?_
  refine Wl.q rfl (Qy.move rfl) ?_
  refine Wl.want rfl rfl ?_
  refine Wl.q rfl (Qy.move rfl) ?_
  refine Wl.want rfl rfl ?_
  refine Wl.q rfl (Qy.neq rfl rfl) ?_
  refine Wl.q rfl (Qy.pick rfl rfl) ?_
  exact Wl.back 4 0 rfl rfl rfl rfl rfl
  intro hg1
  refine Wl.pass rfl rfl rfl ?_
  refine Wl.pass rfl rfl rfl ?_
  refine Wl.pass rfl rfl rfl ?_
  refine Wl.q rfl (Qy.pick rfl rfl) ?_
  exact Wl.back 4 0 rfl rfl rfl rfl rfl
  refine Wl.q rfl (Qy.move rfl) ?_
  apply Wl.joinOr 3 75 78 rfl
  intro hg1
  refine Wl.want rfl rfl ?_
  refine Wl.q rfl (Qy.move rfl) ?_
  refine Wl.want rfl rfl ?_
  refine Wl.q rfl (Qy.notD rfl) ?_
  refine Wl.q rfl (Qy.pick rfl rfl) ?_
  exact Wl.back 3 0 rfl rfl rfl rfl rfl
  intro hg1
  refine Wl.pass rfl rfl rfl ?_
  refine Wl.pass rfl rfl rfl ?_
  refine Wl.q rfl (Qy.pick rfl rfl) ?_
  exact Wl.back 3 0 rfl rfl rfl rfl rfl
  refine Wl.q rfl (Qy.move rfl) ?_
  apply Wl.joinOr 6 79 85 rfl
  intro hg1
  refine Wl.want rfl rfl ?_
  refine Wl.q rfl (Qy.fieldAddr T.fa25_1 rfl) ?_
  refine Wl.want rfl rfl ?_
  refine Wl.q rfl (Qy.load 16 T.one3 rfl rfl rfl) ?_
  refine Wl.want rfl rfl ?_
  refine Wl.q rfl (Qy.fieldAddr T.fa25_1 rfl) ?_
  refine Wl.want rfl rfl ?_
  refine Wl.q rfl (Qy.load 0 T.one3 rfl rfl rfl) ?_
  refine Wl.want rfl rfl ?_
  refine Wl.q rfl (Qy.gtr rfl rfl) ?_
  refine Wl.q rfl (Qy.pick rfl rfl) ?_
  exact Wl.back 6 0 rfl rfl rfl rfl rfl
  intro hg1
  refine Wl.pass rfl rfl rfl ?_
  refine Wl.pass rfl rfl rfl ?_
  refine Wl.pass rfl rfl rfl ?_
  refine Wl.pass rfl rfl rfl ?_
  refine Wl.pass rfl rfl rfl ?_
  refine Wl.q rfl (Qy.pick rfl rfl) ?_
  exact Wl.back 6 0 rfl rfl rfl rfl rfl
  refine Wl.q rfl (Qy.move rfl) ?_
  apply Wl.joinOr 8 86 94 rfl
  intro hg1
  refine Wl.want rfl rfl ?_
  refine Wl.q rfl (Qy.fieldAddr T.fa25_2 rfl) ?_
  refine Wl.want rfl rfl ?_
  refine Wl.q rfl (Qy.load 16 T.one22 rfl rfl rfl) ?_
  refine Wl.want rfl rfl ?_
  refine Wl.q rfl (Qy.len T.sl22 rfl) ?_
  refine Wl.want rfl rfl ?_
  refine Wl.q rfl (Qy.fieldAddr T.fa25_2 rfl) ?_
  refine Wl.want rfl rfl ?_
  refine Wl.q rfl (Qy.load 0 T.one22 rfl rfl rfl) ?_
  refine Wl.want rfl rfl ?_
  refine Wl.q rfl (Qy.len T.sl22 rfl) ?_
  refine Wl.want rfl rfl ?_
  refine Wl.q rfl (Qy.gtr rfl rfl) ?_
  refine Wl.q rfl (Qy.pick rfl rfl) ?_
  exact Wl.back 8 0 rfl rfl rfl rfl rfl
  intro hg1
  refine Wl.pass rfl rfl rfl ?_
  refine Wl.pass rfl rfl rfl ?_
  refine Wl.pass rfl rfl rfl ?_
  refine Wl.pass rfl rfl rfl ?_
  refine Wl.pass rfl rfl rfl ?_
  refine Wl.pass rfl rfl rfl ?_
  refine Wl.pass rfl rfl rfl ?_
  refine Wl.q rfl (Qy.pick rfl rfl) ?_
  exact Wl.back 8 0 rfl rfl rfl rfl rfl
  refine Wl.done ?_
  refine Ar.next ?_
  refine Wc.cond rfl (fun hc4 => ?_) (fun hc4 => ?_)
  refine Wc.seq ?_
  refine Wc.region rfl ?_
  refine Wl.q rfl (Qy.assign rfl) ?_
  refine Wl.done ?_
  refine Ar.next ?_
  refine Wc.ret ?_
  refine Ar.passRet ?_
  rotate_left
  refine Wc.skip ?_
  refine Ar.next ?_
  refine Wc.seq ?_
  refine Wc.seq ?_
  refine Wc.region rfl ?_
  refine Wl.q rfl (Qy.fieldAddr T.fa25_1 rfl) ?_
  refine Wl.q rfl (Qy.load 16 T.one3 rfl rfl rfl) ?_
  refine Wl.q rfl (Qy.move rfl) ?_
  refine Wl.q rfl (Qy.add rfl rfl (by omega)) ?_
  refine Wl.q rfl (Qy.gtr rfl rfl) ?_
  refine Wl.q rfl (Qy.move rfl) ?_
  apply Wl.joinAnd 7 100 107 rfl
  intro hg1
  refine Wl.want rfl rfl ?_
  refine Wl.q rfl (Qy.fieldAddr T.fa25_1 rfl) ?_
  refine Wl.want rfl rfl ?_
  refine Wl.q rfl (Qy.load 16 T.one3 rfl rfl rfl) ?_
  refine Wl.want rfl rfl ?_
  refine Wl.q rfl (Qy.fieldAddr T.fa25_0 rfl) ?_
  refine Wl.want rfl rfl ?_
  refine Wl.q rfl (Qy.load 0 T.one3 rfl rfl rfl) ?_
  refine Wl.want rfl rfl ?_
  refine Wl.q rfl (Qy.add rfl rfl (by omega)) ?_
  refine Wl.want rfl rfl ?_
  refine Wl.q rfl (Qy.gtr rfl rfl) ?_
  refine Wl.q rfl (Qy.pick rfl rfl) ?_
  exact Wl.back 7 0 rfl rfl rfl rfl rfl
  intro hg1
  refine Wl.pass rfl rfl rfl ?_
  refine Wl.pass rfl rfl rfl ?_
  refine Wl.pass rfl rfl rfl ?_
  refine Wl.pass rfl rfl rfl ?_
  refine Wl.pass rfl rfl rfl ?_
  refine Wl.pass rfl rfl rfl ?_
  refine Wl.q rfl (Qy.pick rfl rfl) ?_
  exact Wl.back 7 0 rfl rfl rfl rfl rfl
  refine Wl.done ?_
  refine Ar.next ?_
  refine Wc.condN rfl (by first | assumption | omega) ?_
  refine Wc.skip ?_
  refine Ar.next ?_
  refine Wc.seq ?_
  refine Wc.region rfl ?_
  refine Wl.q rfl (Qy.loadAll 16 T.agg25 rfl rfl rfl) ?_
  refine Wl.callB 20 rfl T.fn51 rfl (fun Gx hGx hgx => (c51 _ _ _ _ _ _ (by first | exact Arr.up (by assumption) hGx | exact Arr.nil _ | exact Arr.own hgx 17 rfl (by first | assumption | exact OwnA.made (by simp [maxLen])) | exact Arr.own hgx 18 rfl (by first | assumption | exact OwnA.made (by simp [maxLen])) | exact Arr.own hgx 14 rfl (by first | assumption | exact OwnA.made (by simp [maxLen])) | exact Arr.own hgx 15 rfl (by first | assumption | exact OwnA.made (by simp [maxLen])) | exact Arr.own hgx 11 rfl (by first | assumption | exact OwnA.made (by simp [maxLen])) | exact Arr.own hgx 12 rfl (by first | assumption | exact OwnA.made (by simp [maxLen]))) (by first | exact Arr.up (by assumption) hGx | exact Arr.nil _ | exact Arr.own hgx 17 rfl (by first | assumption | exact OwnA.made (by simp [maxLen])) | exact Arr.own hgx 18 rfl (by first | assumption | exact OwnA.made (by simp [maxLen])) | exact Arr.own hgx 14 rfl (by first | assumption | exact OwnA.made (by simp [maxLen])) | exact Arr.own hgx 15 rfl (by first | assumption | exact OwnA.made (by simp [maxLen])) | exact Arr.own hgx 11 rfl (by first | assumption | exact OwnA.made (by simp [maxLen])) | exact Arr.own hgx 12 rfl (by first | assumption | exact OwnA.made (by simp [maxLen]))) (by assumption))) (fun v6 Gx6 G6 Ho6 hlx6 hp => ?_)
  obtain ⟨nb6, nc6, nj6, rfl, hon6, rfl, rfl⟩ := hp
  refine Wl.q rfl (Qy.assign rfl) ?_
  refine Wl.done ?_
  refine Ar.next ?_
  refine Wc.seq ?_
  refine Wc.seq ?_
  refine Wc.region rfl ?_
  refine Wl.q rfl (Qy.assign rfl) ?_
  refine Wl.done ?_
  refine Ar.next ?_
  refine Wc.block ?_
  rotate_left
  · exact absurd yes hc1
  · refine Ar.out1 (.inr rfl) (Ho := []) rfl (.tmp rfl) trivial ?_
    rfl
  · exact absurd hR hc3
  · rcases hc4 with (((h | h) | h) | h) | h
    · exact absurd href.symm h
    · exact absurd halv.symm h
    · exact absurd hRq h
    · omega
    · omega
  refine Wc.loop (ι := Nat) (fun i => ([(13, .int .i64 (i : Int)), (12, Go.Value.slice nb6 (List.length (Go.Proofs.Ytfleehgbpgmcnaa.neededP (Go.Proofs.Ytfleehgbpgmcnaa.orderP p))) nc6), (9, Go.Value.pointer (Option.some (Go.Addr.mk b4 0 Option.none))), (5, Go.Value.int Go.IntKind.i64 0), (4, Go.Value.pointer (Option.some (Go.Addr.mk b3 0 Option.none))), (3, Go.Value.pointer (Option.some (Go.Addr.mk b2 0 Option.none))), (1, Go.Value.pointer (Option.some (Go.Addr.mk b1 0 Option.none)))], [(20, Option.map (fun x => Go.Addr.block x) nb6, Go.Sl.Row (α := Bool) 4 (Go.Proofs.Ytfleehgbpgmcnaa.neededP (Go.Proofs.Ytfleehgbpgmcnaa.orderP p)) (nj6)), (19, Option.some b4, Go.Obj.cells #[Go.Value.int Go.IntKind.i64 (Go.Proofs.Ytfleehgbpgmcnaa.PV.ins (Go.Proofs.Ytfleehgbpgmcnaa.refP p)), Go.Value.int Go.IntKind.i64 (Go.Proofs.Ytfleehgbpgmcnaa.PV.regs (Go.Proofs.Ytfleehgbpgmcnaa.refP p)), Go.Value.slice wc2 (List.length (Go.Proofs.Ytfleehgbpgmcnaa.PV.code (Go.Proofs.Ytfleehgbpgmcnaa.refP p))) wcc2, Go.Value.slice wo2 (List.length (Go.Proofs.Ytfleehgbpgmcnaa.PV.outs (Go.Proofs.Ytfleehgbpgmcnaa.refP p))) woc2] 25), (17, Option.map (fun x => Go.Addr.block x) wc2, Go.Sl.Row (α := Go.Sl.Instr) 34 (Go.Proofs.Ytfleehgbpgmcnaa.PV.code (Go.Proofs.Ytfleehgbpgmcnaa.refP p)) (wj2)), (18, Option.map (fun x => Go.Addr.block x) wo2, Go.Sl.Row (α := Int) 3 (Go.Proofs.Ytfleehgbpgmcnaa.PV.outs (Go.Proofs.Ytfleehgbpgmcnaa.refP p)) (wk2)), (16, Option.some b3, Go.Obj.cells #[Go.Value.int Go.IntKind.i64 (Go.Proofs.Ytfleehgbpgmcnaa.PV.ins (Go.Proofs.Ytfleehgbpgmcnaa.orderP p)), Go.Value.int Go.IntKind.i64 (Go.Proofs.Ytfleehgbpgmcnaa.PV.regs (Go.Proofs.Ytfleehgbpgmcnaa.orderP p)), Go.Value.slice qc2 (List.length (Go.Proofs.Ytfleehgbpgmcnaa.PV.code (Go.Proofs.Ytfleehgbpgmcnaa.orderP p))) qcc2, Go.Value.slice qo2 (List.length (Go.Proofs.Ytfleehgbpgmcnaa.PV.outs (Go.Proofs.Ytfleehgbpgmcnaa.orderP p))) qoc2] 25), (14, Option.map (fun x => Go.Addr.block x) qc2, Go.Sl.Row (α := Go.Sl.Instr) 34 (Go.Proofs.Ytfleehgbpgmcnaa.PV.code (Go.Proofs.Ytfleehgbpgmcnaa.orderP p)) (qj2)), (15, Option.map (fun x => Go.Addr.block x) qo2, Go.Sl.Row (α := Int) 3 (Go.Proofs.Ytfleehgbpgmcnaa.PV.outs (Go.Proofs.Ytfleehgbpgmcnaa.orderP p)) (qk2)), (13, Option.some b2, Go.Obj.cells #[Go.Value.int Go.IntKind.i64 (Go.Proofs.Ytfleehgbpgmcnaa.PV.ins p), Go.Value.int Go.IntKind.i64 (Go.Proofs.Ytfleehgbpgmcnaa.PV.regs p), Go.Value.slice oc1 (List.length (Go.Proofs.Ytfleehgbpgmcnaa.PV.code p)) occ1, Go.Value.slice oo1 (List.length (Go.Proofs.Ytfleehgbpgmcnaa.PV.outs p)) ooc1] 25), (11, Option.map (fun x => Go.Addr.block x) oc1, Go.Sl.Row (α := Go.Sl.Instr) 34 (Go.Proofs.Ytfleehgbpgmcnaa.PV.code p) (oj1)), (12, Option.map (fun x => Go.Addr.block x) oo1, Go.Sl.Row (α := Int) 3 (Go.Proofs.Ytfleehgbpgmcnaa.PV.outs p) (ok1)), (0, Option.some b1, Go.Obj.cells #[Go.Value.int Go.IntKind.i64 (Go.Proofs.Ytfleehgbpgmcnaa.PV.ins p), Go.Value.int Go.IntKind.i64 (Go.Proofs.Ytfleehgbpgmcnaa.PV.regs p), Go.Value.slice ac (List.length (Go.Proofs.Ytfleehgbpgmcnaa.PV.code p)) cc, Go.Value.slice ao (List.length (Go.Proofs.Ytfleehgbpgmcnaa.PV.outs p)) co] 25)])) (fun i => i ≤ (orderP p).code.length) (fun i => (orderP p).code.length - i) (0) (Nat.zero_le _) ⟨rfl, rfl, rfl, rfl, rfl, rfl, rfl, trivial⟩ ⟨rfl, rfl, rfl, rfl, rfl, rfl, rfl, rfl, rfl, rfl, rfl, trivial⟩ (fun i => fun (hk : i ≤ (orderP p).code.length) => ?_)
  rcases Nat.lt_or_ge i (orderP p).code.length with hil | hil
  · have hnd : (neededP (orderP p))[((i : Nat) : Int).toNat]?.getD default = true := order_needed hR hil
    refine Wc.seq ?_
    refine Wc.seq ?_
    refine Wc.region rfl ?_
    refine Wl.q rfl (Qy.move rfl) ?_
    refine Wl.q rfl (Qy.move rfl) ?_
    refine Wl.q rfl (Qy.len T.sl64 rfl) ?_
    refine Wl.q rfl (Qy.lss rfl rfl) ?_
    refine Wl.done ?_
    refine Ar.next ?_
    refine Wc.condP rfl (by first | assumption | omega) ?_
    refine Wc.skip ?_
    refine Ar.next ?_
    refine Wc.seq ?_
    refine Wc.block ?_
    refine Wc.seq ?_
    refine Wc.region rfl ?_
    refine Wl.q rfl (Qy.move rfl) ?_
    refine Wl.q rfl (Qy.move rfl) ?_
    refine Wl.q rfl (Qy.indexAddrO (α := Bool) T.sl64 rfl rfl (by assumption) (by omega)) ?_
    refine Wl.q rfl (Qy.loadO 20 0 T.one4 rfl rfl (by assumption) (by omega) rfl rfl) ?_
    refine Wl.q rfl (Qy.not rfl) ?_
    refine Wl.done ?_
    refine Ar.next ?_
    refine Wc.ite rfl (fun hc5 => ?_) (fun hc5 => ?_)
    refine Wc.seq ?_
    refine Wc.region rfl ?_
    refine Wl.q rfl (Qy.assign rfl) ?_
    refine Wl.done ?_
    refine Ar.next ?_
    refine Wc.ret ?_
    refine Ar.outRet ?_
    refine Ar.passRet ?_
    refine Ar.passRet ?_
    refine Ar.outRet ?_
    refine Ar.passRet ?_
    rotate_left
    refine Wc.skip ?_
    refine Ar.outNormal ?_
    refine Ar.next ?_
    refine Wc.region rfl ?_
    refine Wl.q rfl (Qy.move rfl) ?_
    refine Wl.q rfl (Qy.add rfl rfl (by omega)) ?_
    refine Wl.q rfl (Qy.assign rfl) ?_
    refine Wl.done ?_
    rotate_left
    · exfalso; simp_all
    refine Ar.again (i + 1) ?_ ?_ rfl ⟨rfl, rfl, rfl, rfl, rfl, rfl, rfl, trivial⟩ ⟨rfl, rfl, rfl, rfl, rfl, rfl, rfl, rfl, rfl, rfl, rfl, trivial⟩
    · exact hil
    · show (orderP p).code.length - (i + 1) < (orderP p).code.length - i
      omega
  · have hl3 : (orderP (orderP p)).code.length ≤ p.code.length := by rw [hagn]; exact hqcl
    have hl4 : (orderP (orderP p)).outs.length = p.outs.length := by rw [hagn]; exact hqol
    refine Wc.seq ?_
    refine Wc.seq ?_
    refine Wc.region rfl ?_
    refine Wl.q rfl (Qy.move rfl) ?_
    refine Wl.q rfl (Qy.move rfl) ?_
    refine Wl.q rfl (Qy.len T.sl64 rfl) ?_
    refine Wl.q rfl (Qy.lss rfl rfl) ?_
    refine Wl.done ?_
    refine Ar.next ?_
    refine Wc.condN rfl (by first | assumption | omega) ?_
    refine Wc.exit ?_
    refine Ar.passExit ?_
    refine Ar.passExit ?_
    refine Ar.here ?_
    refine Ar.next ?_
    refine Wc.seq ?_
    refine Wc.region rfl ?_
    refine Wl.q rfl (Qy.loadAll 16 T.agg25 rfl rfl rfl) ?_
    refine Wl.callB 21 rfl T.fn42 rfl (fun Gx hGx hgx => (c42R _ _ _ _ _ _ (by first | exact Arr.up (by assumption) hGx | exact Arr.nil _ | exact Arr.own hgx 20 rfl (by first | assumption | exact OwnA.made (by simp [maxLen])) | exact Arr.own hgx 17 rfl (by first | assumption | exact OwnA.made (by simp [maxLen])) | exact Arr.own hgx 18 rfl (by first | assumption | exact OwnA.made (by simp [maxLen])) | exact Arr.own hgx 14 rfl (by first | assumption | exact OwnA.made (by simp [maxLen])) | exact Arr.own hgx 15 rfl (by first | assumption | exact OwnA.made (by simp [maxLen])) | exact Arr.own hgx 11 rfl (by first | assumption | exact OwnA.made (by simp [maxLen])) | exact Arr.own hgx 12 rfl (by first | assumption | exact OwnA.made (by simp [maxLen]))) (by first | exact Arr.up (by assumption) hGx | exact Arr.nil _ | exact Arr.own hgx 20 rfl (by first | assumption | exact OwnA.made (by simp [maxLen])) | exact Arr.own hgx 17 rfl (by first | assumption | exact OwnA.made (by simp [maxLen])) | exact Arr.own hgx 18 rfl (by first | assumption | exact OwnA.made (by simp [maxLen])) | exact Arr.own hgx 14 rfl (by first | assumption | exact OwnA.made (by simp [maxLen])) | exact Arr.own hgx 15 rfl (by first | assumption | exact OwnA.made (by simp [maxLen])) | exact Arr.own hgx 11 rfl (by first | assumption | exact OwnA.made (by simp [maxLen])) | exact Arr.own hgx 12 rfl (by first | assumption | exact OwnA.made (by simp [maxLen]))) (by omega) (by omega) (by assumption))) (fun v7 Gx7 G7 Ho7 hlx7 hp => ?_)
    obtain ⟨qc7, qo7, qcc7, qoc7, qj7, qk7, rfl, hqc7, hqo7, rfl, rfl⟩ := hp
    refine Wl.q rfl (Qy.move rfl) ?_
    refine Wl.q rfl (Qy.extract rfl rfl) ?_
    refine Wl.q rfl (Qy.extract rfl rfl) ?_
    refine Wl.alloc 23 rfl T.zero25 (fun b5 => ?_)
    refine Wl.storeAll 23 T.size25 rfl rfl rfl rfl rfl rfl ?_
    refine Wl.q rfl (Qy.assign rfl) ?_
    refine Wl.done ?_
    refine Ar.next ?_
    refine Wc.seq ?_
    refine Wc.region rfl ?_
    refine Wl.q rfl (Qy.loadAll 16 T.agg25 rfl rfl rfl) ?_
    refine Wl.call 14 rfl T.fn52 rfl (c52 _ (orderP p) _ _ _ _ _ _ hqc2 hqo2) (tags_of ⟨rfl, rfl, trivial⟩) (fun v9 G9 Ho9 hle9 hp => ?_)
    obtain ⟨rfl, rfl, rfl⟩ := hp
    refine Wl.done ?_
    refine Ar.next ?_
    refine Wc.seq ?_
    refine Wc.region rfl ?_
    refine Wl.q rfl (Qy.move rfl) ?_
    refine Wl.q rfl (Qy.eql rfl rfl) ?_
    refine Wl.q rfl (Qy.move rfl) ?_
    refine Wl.yes 130 rfl (by first | assumption | omega) ?_
    refine Wl.want rfl rfl ?_
    refine Wl.q rfl (Qy.loadAll 23 T.agg25 rfl rfl rfl) ?_
    refine Wl.want rfl rfl ?_
    refine Wl.q rfl (Qy.loadAll 19 T.agg25 rfl rfl rfl) ?_
    refine Wl.want rfl rfl ?_
    refine Wl.callB 24 rfl T.fn18 rfl (fun Gx hGx hgx => (c18 _ _ _ _ _ _ _ _ _ _ _ (by first | exact Arr.up (by assumption) hGx | exact Arr.nil _ | exact Arr.own hgx 21 rfl (by first | assumption | exact OwnA.made (by simp [maxLen])) | exact Arr.own hgx 22 rfl (by first | assumption | exact OwnA.made (by simp [maxLen])) | exact Arr.own hgx 20 rfl (by first | assumption | exact OwnA.made (by simp [maxLen])) | exact Arr.own hgx 17 rfl (by first | assumption | exact OwnA.made (by simp [maxLen])) | exact Arr.own hgx 18 rfl (by first | assumption | exact OwnA.made (by simp [maxLen])) | exact Arr.own hgx 11 rfl (by first | assumption | exact OwnA.made (by simp [maxLen])) | exact Arr.own hgx 12 rfl (by first | assumption | exact OwnA.made (by simp [maxLen]))) (by first | exact Arr.up (by assumption) hGx | exact Arr.nil _ | exact Arr.own hgx 21 rfl (by first | assumption | exact OwnA.made (by simp [maxLen])) | exact Arr.own hgx 22 rfl (by first | assumption | exact OwnA.made (by simp [maxLen])) | exact Arr.own hgx 20 rfl (by first | assumption | exact OwnA.made (by simp [maxLen])) | exact Arr.own hgx 17 rfl (by first | assumption | exact OwnA.made (by simp [maxLen])) | exact Arr.own hgx 18 rfl (by first | assumption | exact OwnA.made (by simp [maxLen])) | exact Arr.own hgx 11 rfl (by first | assumption | exact OwnA.made (by simp [maxLen])) | exact Arr.own hgx 12 rfl (by first | assumption | exact OwnA.made (by simp [maxLen]))) (by first | exact Arr.up (by assumption) hGx | exact Arr.nil _ | exact Arr.own hgx 21 rfl (by first | assumption | exact OwnA.made (by simp [maxLen])) | exact Arr.own hgx 22 rfl (by first | assumption | exact OwnA.made (by simp [maxLen])) | exact Arr.own hgx 20 rfl (by first | assumption | exact OwnA.made (by simp [maxLen])) | exact Arr.own hgx 17 rfl (by first | assumption | exact OwnA.made (by simp [maxLen])) | exact Arr.own hgx 18 rfl (by first | assumption | exact OwnA.made (by simp [maxLen])) | exact Arr.own hgx 11 rfl (by first | assumption | exact OwnA.made (by simp [maxLen])) | exact Arr.own hgx 12 rfl (by first | assumption | exact OwnA.made (by simp [maxLen]))) (by first | exact Arr.up (by assumption) hGx | exact Arr.nil _ | exact Arr.own hgx 21 rfl (by first | assumption | exact OwnA.made (by simp [maxLen])) | exact Arr.own hgx 22 rfl (by first | assumption | exact OwnA.made (by simp [maxLen])) | exact Arr.own hgx 20 rfl (by first | assumption | exact OwnA.made (by simp [maxLen])) | exact Arr.own hgx 17 rfl (by first | assumption | exact OwnA.made (by simp [maxLen])) | exact Arr.own hgx 18 rfl (by first | assumption | exact OwnA.made (by simp [maxLen])) | exact Arr.own hgx 11 rfl (by first | assumption | exact OwnA.made (by simp [maxLen])) | exact Arr.own hgx 12 rfl (by first | assumption | exact OwnA.made (by simp [maxLen]))) (by omega) (by omega))) (fun v8 Gx8 G8 Ho8 hlx8 hp => ?_)
    obtain ⟨rfl, rfl, rfl⟩ := hp
    refine Wl.q rfl (Qy.pick rfl rfl) ?_
    refine Wl.q rfl (Qy.move rfl) ?_
    apply Wl.joinAnd 4 135 139 rfl
    intro hg1
    refine Wl.want rfl rfl ?_
    refine Wl.q rfl (Qy.loadAll 0 T.agg25 rfl rfl rfl) ?_
    refine Wl.want rfl rfl ?_
    refine Wl.q rfl (Qy.loadAll 13 T.agg25 rfl rfl rfl) ?_
    refine Wl.want rfl rfl ?_
    refine Wl.callB 24 rfl T.fn18 rfl (fun Gx hGx hgx => (c18 _ _ _ _ _ _ _ _ _ _ _ (by first | exact Arr.up (by assumption) hGx | exact Arr.nil _ | exact Arr.own hgx 21 rfl (by first | assumption | exact OwnA.made (by simp [maxLen])) | exact Arr.own hgx 22 rfl (by first | assumption | exact OwnA.made (by simp [maxLen])) | exact Arr.own hgx 20 rfl (by first | assumption | exact OwnA.made (by simp [maxLen])) | exact Arr.own hgx 17 rfl (by first | assumption | exact OwnA.made (by simp [maxLen])) | exact Arr.own hgx 18 rfl (by first | assumption | exact OwnA.made (by simp [maxLen])) | exact Arr.own hgx 11 rfl (by first | assumption | exact OwnA.made (by simp [maxLen])) | exact Arr.own hgx 12 rfl (by first | assumption | exact OwnA.made (by simp [maxLen]))) (by first | exact Arr.up (by assumption) hGx | exact Arr.nil _ | exact Arr.own hgx 21 rfl (by first | assumption | exact OwnA.made (by simp [maxLen])) | exact Arr.own hgx 22 rfl (by first | assumption | exact OwnA.made (by simp [maxLen])) | exact Arr.own hgx 20 rfl (by first | assumption | exact OwnA.made (by simp [maxLen])) | exact Arr.own hgx 17 rfl (by first | assumption | exact OwnA.made (by simp [maxLen])) | exact Arr.own hgx 18 rfl (by first | assumption | exact OwnA.made (by simp [maxLen])) | exact Arr.own hgx 11 rfl (by first | assumption | exact OwnA.made (by simp [maxLen])) | exact Arr.own hgx 12 rfl (by first | assumption | exact OwnA.made (by simp [maxLen]))) (by first | exact Arr.up (by assumption) hGx | exact Arr.nil _ | exact Arr.own hgx 21 rfl (by first | assumption | exact OwnA.made (by simp [maxLen])) | exact Arr.own hgx 22 rfl (by first | assumption | exact OwnA.made (by simp [maxLen])) | exact Arr.own hgx 20 rfl (by first | assumption | exact OwnA.made (by simp [maxLen])) | exact Arr.own hgx 17 rfl (by first | assumption | exact OwnA.made (by simp [maxLen])) | exact Arr.own hgx 18 rfl (by first | assumption | exact OwnA.made (by simp [maxLen])) | exact Arr.own hgx 11 rfl (by first | assumption | exact OwnA.made (by simp [maxLen])) | exact Arr.own hgx 12 rfl (by first | assumption | exact OwnA.made (by simp [maxLen]))) (by first | exact Arr.up (by assumption) hGx | exact Arr.nil _ | exact Arr.own hgx 21 rfl (by first | assumption | exact OwnA.made (by simp [maxLen])) | exact Arr.own hgx 22 rfl (by first | assumption | exact OwnA.made (by simp [maxLen])) | exact Arr.own hgx 20 rfl (by first | assumption | exact OwnA.made (by simp [maxLen])) | exact Arr.own hgx 17 rfl (by first | assumption | exact OwnA.made (by simp [maxLen])) | exact Arr.own hgx 18 rfl (by first | assumption | exact OwnA.made (by simp [maxLen])) | exact Arr.own hgx 11 rfl (by first | assumption | exact OwnA.made (by simp [maxLen])) | exact Arr.own hgx 12 rfl (by first | assumption | exact OwnA.made (by simp [maxLen]))) (by omega) (by omega))) (fun v9 Gx9 G9 Ho9 hlx9 hp => ?_)
    obtain ⟨rfl, rfl, rfl⟩ := hp
    refine Wl.q rfl (Qy.pick rfl rfl) ?_
    exact Wl.back 4 0 rfl rfl rfl rfl rfl
    intro hg1
    refine Wl.pass rfl rfl rfl ?_
    refine Wl.pass rfl rfl rfl ?_
    refine Wl.pass rfl rfl rfl ?_
    refine Wl.q rfl (Qy.pick rfl rfl) ?_
    exact Wl.back 4 0 rfl rfl rfl rfl rfl
    refine Wl.q rfl (Qy.assign rfl) ?_
    refine Wl.done ?_
    refine Ar.next ?_
    refine Wc.ret ?_
    refine Ar.out1 (.inr rfl) (Ho := []) rfl (.tmp rfl) trivial ?_
    simp [hagn, href]
theorem c10 (G : Imm) (p : PV) (ac ao : Option Addr) (cc co : Nat) (hc : Arr G ac p.code) (ho : Arr G ao p.outs) (h1 : p.code.length ≤ 1099511627776) (h2 : p.outs.length ≤ 1099511627776) :
    Does Try.prog 10 [.agg #[.int .i64 p.ins, .int .i64 p.regs, .slice ac p.code.length cc, .slice ao p.outs.length co]] G [] (fun v G' Ho => v = .bool true) := by
  by_cases hR : rightP p = true
  · exact c10R G p ac ao cc co hc ho h1 h2 hR
  · exact c10W G p ac ao cc co hc ho h1 h2 hR
end Go.Proofs.Ytfleehgbpgmcnaa
