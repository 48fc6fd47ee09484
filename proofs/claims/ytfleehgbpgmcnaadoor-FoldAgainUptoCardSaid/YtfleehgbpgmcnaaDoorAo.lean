import Derived.Test.YtfleehgbpgmcnaaDoorSlP
import Derived.Test.YtfleehgbpgmcnaaDoorAl
import Derived.Test.YtfleehgbpgmcnaaDoorAn
set_option maxRecDepth 100000
set_option linter.unusedVariables false
namespace Go.Proofs.YtfleehgbpgmcnaaDoor
open Go Go.Sl

set_option maxHeartbeats 4000000
theorem right_of {p : PV} (hh : headOk p = true) (hm : ∀ i ∈ p.code, mayOk i p.regs = true) : rightP p = true := by
  have hb : badAt p = none := by
    unfold badAt
    rw [List.findIdx?_eq_none_iff]
    intro i hi
    simp [hm i hi]
  unfold rightP checkP
  rw [hh, hb]; rfl
theorem right_head {p : PV} (hR : rightP p = true) : headOk p = true := by
  have h : (checkP p).2 = false := by simpa [rightP] using hR
  unfold checkP at h
  split at h
  · cases h
  · rename_i hn; simpa using hn
theorem fold_right {p : PV} (hR : rightP p = true) : rightP (foldP p) = true := by
  have hh := right_head hR
  have hl := fold_len p
  refine right_of ?_ ?_
  · unfold headOk at hh ⊢
    rw [Bool.and_eq_true, decide_eq_true_eq] at hh ⊢
    obtain ⟨⟨h1, h2, h3, h4, h5, h6⟩, h7⟩ := hh
    exact ⟨⟨h1, h2, h3, by omega, h5, h6⟩, h7⟩
  · intro i hi
    exact fold_all (q := fun i => mayOk i p.regs = true) (fun a b ha hb h => melt_may ha hb h) (fun i h => plain_may h) p.code (right_codes hR) i (List.mem_reverse.1 hi)
theorem may_more {i : Sl.Instr} {r : Int} (h : mayOk i r = true) (hr : r ≤ 128) : mayOk i 128 = true := by
  rw [mayOk_iff] at h ⊢
  obtain ⟨⟨h1, h2, h3, h4, h5, h6⟩, h7⟩ := h
  refine ⟨⟨h1, h2, h3, by omega, h5, by omega⟩, ?_⟩
  by_cases e : i.op = 3 ∨ i.op = 4
  · rw [if_pos e] at h7 ⊢; omega
  · rw [if_neg e] at h7 ⊢; exact h7
theorem right_128 {p : PV} (hR : rightP p = true) : p.regs ≤ 128 := by
  have hh := right_head hR
  unfold headOk at hh
  rw [Bool.and_eq_true, decide_eq_true_eq] at hh
  exact hh.1.2.2.1
theorem c10RF (G : Imm) (hT : TabOk G) (p : PV) (ac ao : Option Addr) (cc co : Nat) (hc : Arr G ac p.code) (ho : Arr G ao p.outs) (h1 : p.code.length ≤ 1048576) (h2 : p.outs.length ≤ 1048576) (hR : rightP p = true) :
    Does Tryd.prog 10 [.agg #[.int .i64 p.ins, .int .i64 p.regs, .slice ac p.code.length cc, .slice ao p.outs.length co]] G [] (fun v G' Ho =>
      ∃ bc bo dc do_, v = .tuple #[.agg #[.int .i64 p.ins, .int .i64 p.regs, .slice bc (foldP p).code.length dc, .slice bo p.outs.length do_], .int .i64 0] ∧ Arr G' bc (foldP p).code ∧ Arr G' bo p.outs ∧ Ho = []) := by
  refine (c10F G hT p ac ao cc co hc ho h1 h2).mono fun v G' Ho _ ⟨q, e, bc, bo, dc, do_, g1, ⟨g2, g3⟩, g4, g5, g6⟩ => ?_
  have e1 : q = foldP p := by rw [g2, foldE, if_pos hR]
  have e2 : e = 0 := by rw [g3, errP, if_pos hR]
  subst e1 e2
  exact ⟨bc, bo, dc, do_, g1, g4, g5, g6⟩
theorem cnt_step (x : Int) (l : List Sl.Instr) {k : Nat} (h : k < l.length) : cntO x (l.take (k + 1)) = cntO x (l.take k) + indO x (l[((k : Nat) : Int).toNat]?.getD default) := by
  rw [List.take_add_one, Int.toNat_natCast, List.getElem?_eq_getElem h]
  unfold cntO indO
  rw [List.countP_append]
  by_cases e : l[k].op = x <;> simp [e]
theorem cnt_len (x : Int) (l : List Sl.Instr) : cntO x l ≤ l.length := List.countP_le_length
attribute [local irreducible] plainP meltP pushL foldTo foldP foldE errP rightP plainQ meltQ cntO
theorem c20R (G : Imm) (p : PV) (ac ao : Option Addr) (cc co : Nat) (hc : Arr G ac p.code) (ho : Arr G ao p.outs) (h1 : p.code.length ≤ 1048576) (h2 : p.outs.length ≤ 1048576) (hR : rightP p = true) :
    Does Tryd.prog 20 [.agg #[.int .i64 p.ins, .int .i64 p.regs, .slice ac p.code.length cc, .slice ao p.outs.length co]] G [] (fun v G' Ho =>
      ∃ m a s : Int, v = .tuple #[.agg #[.int .i64 m, .int .i64 a, .int .i64 (cntO 5 p.code), .int .i64 (cntO 6 p.code), .int .i64 s], .int .i64 0] ∧ G' = G ∧ Ho = []) := by
  refine Does.enter Tryd.func20 rfl Tryd.ntmps20 rfl (fun w => ?_)
  refine Wc.seq ?_
  refine Wc.region rfl ?_
  refine Wl.box 0 rfl rfl rfl (fun b1 => ?_)
  refine Wl.alloc 1 rfl T.zero47 (fun b2 => ?_)
  refine Wl.q rfl (Qy.assign rfl) ?_
  refine Wl.done ?_
  refine Ar.next ?_
  refine Wc.seq ?_
  refine Wc.region rfl ?_
  refine Wl.alloc 2 rfl T.zero47 (fun b3 => ?_)
  refine Wl.done ?_
  refine Ar.next ?_
  refine Wc.seq ?_
  refine Wc.seq ?_
  refine Wc.region rfl ?_
  refine Wl.q rfl (Qy.loadAll 0 T.agg25 rfl rfl rfl) ?_
  refine Wl.call0 rfl T.fn32 rfl (c32 _ _ _ _ _ _ (by assumption) (by assumption) (by omega) (by omega)) ?_
  refine Wl.q rfl (Qy.notD rfl) ?_
  refine Wl.done ?_
  refine Ar.next ?_
  refine Wc.cond rfl (fun hc1 => ?_) (fun hc1 => ?_)
  refine Wc.seq ?_
  refine Wc.region rfl ?_
  refine Wl.q rfl (Qy.loadAll 2 T.agg47 rfl rfl rfl) ?_
  refine Wl.storeAll 1 T.size47 rfl rfl rfl rfl rfl rfl ?_
  refine Wl.q rfl (Qy.assign rfl) ?_
  refine Wl.done ?_
  refine Ar.next ?_
  refine Wc.ret ?_
  refine Ar.passRet ?_
  refine Ar.out2 (.inr rfl) (Ho := Hp.only _ []) rfl (.agg 1 rfl rfl T.agg47) (.tmp rfl) (Hp.sub_only _ _) ?_
  rotate_left
  refine Wc.skip ?_
  refine Ar.next ?_
  refine Wc.seq ?_
  refine Wc.seq ?_
  refine Wc.region rfl ?_
  refine Wl.q rfl (Qy.fieldAddr T.fa25_2 rfl) ?_
  refine Wl.q rfl (Qy.load 0 T.one22 rfl rfl rfl) ?_
  refine Wl.q rfl (Qy.len T.sl22 rfl) ?_
  refine Wl.q rfl (Qy.move rfl) ?_
  refine Wl.done ?_
  refine Ar.next ?_
  refine Wc.block ?_
  rotate_left
  · exact absurd hR hc1
  clear hc1
  refine Wc.reH 2 (.cells #[.int .i64 0, .int .i64 0, .int .i64 (cntO 5 (p.code.take 0) : Nat), .int .i64 (cntO 6 (p.code.take 0) : Nat), .int .i64 0] 47) rfl (by rw [List.take_zero, cntO_nil, cntO_nil]; rfl) ?_
  refine Wc.loop (ι := Nat × Int × Int × Int) (fun (k, m, a, s) => ([(14, .int .i64 (k : Int)), (13, Go.Value.int Go.IntKind.i64 (↑(List.length (Go.Proofs.YtfleehgbpgmcnaaDoor.PV.code p)) : Int)), (12, Go.Value.slice ac (List.length (Go.Proofs.YtfleehgbpgmcnaaDoor.PV.code p)) cc), (4, Go.Value.pointer (Option.some (Go.Addr.mk b3 0 Option.none))), (3, Go.Value.int Go.IntKind.i64 0), (2, Go.Value.pointer (Option.some (Go.Addr.mk b2 0 Option.none)))], [(2, some b3, .cells #[.int .i64 m, .int .i64 a, .int .i64 (cntO 5 (p.code.take k) : Nat), .int .i64 (cntO 6 (p.code.take k) : Nat), .int .i64 s] 47), (1, Option.some b2, Go.Obj.cells #[Go.Value.int Go.IntKind.i64 0, Go.Value.int Go.IntKind.i64 0, Go.Value.int Go.IntKind.i64 0, Go.Value.int Go.IntKind.i64 0, Go.Value.int Go.IntKind.i64 0] 47), (0, Option.some b1, Go.Obj.cells #[Go.Value.int Go.IntKind.i64 (Go.Proofs.YtfleehgbpgmcnaaDoor.PV.ins p), Go.Value.int Go.IntKind.i64 (Go.Proofs.YtfleehgbpgmcnaaDoor.PV.regs p), Go.Value.slice ac (List.length (Go.Proofs.YtfleehgbpgmcnaaDoor.PV.code p)) cc, Go.Value.slice ao (List.length (Go.Proofs.YtfleehgbpgmcnaaDoor.PV.outs p)) co] 25)])) (fun (k, m, a, s) => k ≤ p.code.length ∧ 0 ≤ m ∧ m ≤ k ∧ 0 ≤ a ∧ a ≤ k ∧ 0 ≤ s ∧ s ≤ k) (fun (k, m, a, s) => p.code.length - k) ((0, 0, 0, 0)) (⟨Nat.zero_le _, by decide, by decide, by decide, by decide, by decide, by decide⟩) ⟨rfl, rfl, rfl, rfl, rfl, rfl, trivial⟩ ⟨rfl, rfl, rfl, trivial⟩ (fun ⟨k, m, a, s⟩ => fun (hk : k ≤ p.code.length ∧ 0 ≤ m ∧ m ≤ k ∧ 0 ≤ a ∧ a ≤ k ∧ 0 ≤ s ∧ s ≤ k) => ?_)
  obtain ⟨hk1, hm0, hm1, ha0, ha1, hs0, hs1⟩ := hk
  rcases Nat.lt_or_ge k p.code.length with hlt | hge
  · have e5 := cnt_step 5 p.code hlt
    have e6 := cnt_step 6 p.code hlt
    have l5 := cnt_len 5 (p.code.take k)
    have l6 := cnt_len 6 (p.code.take k)
    have lt := List.length_take (l := p.code) (i := k)
    simp only [indO] at e5 e6
    refine Wc.seq ?_
    refine Wc.region rfl ?_
    refine Wl.q rfl (Qy.lss rfl rfl) ?_
    refine Wl.done ?_
    refine Ar.next ?_
    refine Wc.seq ?_
    refine Wc.condP rfl (by first | assumption | omega) ?_
    refine Wc.skip ?_
    refine Ar.next ?_
    refine Wc.seq ?_
    refine Wc.block ?_
    refine Wc.seq ?_
    refine Wc.region rfl ?_
    refine Wl.q rfl (Qy.at (α := Instr) T.sl22 rfl rfl (by assumption) (by omega)) ?_
    refine Wl.q rfl (Qy.loadsG T.agg34 rfl (Arr.elem (by assumption) (by omega)) rfl) ?_
    refine Wl.alloc 3 rfl T.zero34 (fun b4 => ?_)
    refine Wl.storeAll 3 T.size34 rfl rfl rfl rfl rfl rfl ?_
    refine Wl.done ?_
    refine Ar.next ?_
    refine Wc.seq ?_
    refine Wc.region rfl ?_
    refine Wl.q rfl (Qy.fieldAddr T.fa34_0 rfl) ?_
    refine Wl.q rfl (Qy.load 3 T.one3 rfl rfl rfl) ?_
    refine Wl.done ?_
    refine Ar.next ?_
    refine Wc.block ?_
    refine Wc.seq ?_
    refine Wc.region rfl ?_
    refine Wl.q rfl (Qy.eql rfl rfl) ?_
    refine Wl.q rfl (Qy.assign rfl) ?_
    refine Wl.done ?_
    refine Ar.next ?_
    refine Wc.cond rfl (fun hc1 => ?_) (fun hc1 => ?_)
    refine Wc.region rfl ?_
    refine Wl.q rfl (Qy.fieldAddr T.fa47_0 rfl) ?_
    refine Wl.q rfl (Qy.load 2 T.one3 rfl rfl rfl) ?_
    refine Wl.q rfl (Qy.add rfl rfl (by omega)) ?_
    refine Wl.q rfl (Qy.fieldAddr T.fa47_0 rfl) ?_
    refine Wl.store 2 T.one3 rfl rfl rfl rfl rfl ?_
    refine Wl.done ?_
    refine Ar.outNormal ?_
    refine Ar.outNormal ?_
    refine Ar.next ?_
    refine Wc.region rfl ?_
    refine Wl.q rfl (Qy.add rfl rfl (by omega)) ?_
    refine Wl.q rfl (Qy.move rfl) ?_
    refine Wl.done ?_
    rotate_left
    refine Wc.seq ?_
    refine Wc.region rfl ?_
    refine Wl.q rfl (Qy.eql rfl rfl) ?_
    refine Wl.q rfl (Qy.assign rfl) ?_
    refine Wl.done ?_
    refine Ar.next ?_
    refine Wc.cond rfl (fun hc2 => ?_) (fun hc2 => ?_)
    refine Wc.region rfl ?_
    refine Wl.q rfl (Qy.fieldAddr T.fa47_2 rfl) ?_
    refine Wl.q rfl (Qy.load 2 T.one3 rfl rfl rfl) ?_
    refine Wl.q rfl (Qy.add rfl rfl (by omega)) ?_
    refine Wl.q rfl (Qy.fieldAddr T.fa47_2 rfl) ?_
    refine Wl.store 2 T.one3 rfl rfl rfl rfl rfl ?_
    refine Wl.done ?_
    refine Ar.outNormal ?_
    refine Ar.outNormal ?_
    refine Ar.next ?_
    refine Wc.region rfl ?_
    refine Wl.q rfl (Qy.add rfl rfl (by omega)) ?_
    refine Wl.q rfl (Qy.move rfl) ?_
    refine Wl.done ?_
    rotate_left
    refine Wc.seq ?_
    refine Wc.region rfl ?_
    refine Wl.q rfl (Qy.eql rfl rfl) ?_
    refine Wl.q rfl (Qy.assign rfl) ?_
    refine Wl.done ?_
    refine Ar.next ?_
    refine Wc.cond rfl (fun hc3 => ?_) (fun hc3 => ?_)
    refine Wc.region rfl ?_
    refine Wl.q rfl (Qy.fieldAddr T.fa47_3 rfl) ?_
    refine Wl.q rfl (Qy.load 2 T.one3 rfl rfl rfl) ?_
    refine Wl.q rfl (Qy.add rfl rfl (by omega)) ?_
    refine Wl.q rfl (Qy.fieldAddr T.fa47_3 rfl) ?_
    refine Wl.store 2 T.one3 rfl rfl rfl rfl rfl ?_
    refine Wl.done ?_
    refine Ar.outNormal ?_
    refine Ar.outNormal ?_
    refine Ar.next ?_
    refine Wc.region rfl ?_
    refine Wl.q rfl (Qy.add rfl rfl (by omega)) ?_
    refine Wl.q rfl (Qy.move rfl) ?_
    refine Wl.done ?_
    rotate_left
    refine Wc.seq ?_
    refine Wc.seq ?_
    refine Wc.region rfl ?_
    refine Wl.q rfl (Qy.eql rfl rfl) ?_
    refine Wl.q rfl (Qy.assign rfl) ?_
    refine Wl.done ?_
    refine Ar.next ?_
    refine Wc.cond rfl (fun hc4 => ?_) (fun hc4 => ?_)
    refine Wc.skip ?_
    refine Ar.next ?_
    refine Wc.condP rfl (by first | assumption | omega) ?_
    refine Wc.region rfl ?_
    refine Wl.q rfl (Qy.fieldAddr T.fa47_4 rfl) ?_
    refine Wl.q rfl (Qy.load 2 T.one3 rfl rfl rfl) ?_
    refine Wl.q rfl (Qy.add rfl rfl (by omega)) ?_
    refine Wl.q rfl (Qy.fieldAddr T.fa47_4 rfl) ?_
    refine Wl.store 2 T.one3 rfl rfl rfl rfl rfl ?_
    refine Wl.done ?_
    refine Ar.outNormal ?_
    refine Ar.outNormal ?_
    refine Ar.next ?_
    refine Wc.region rfl ?_
    refine Wl.q rfl (Qy.add rfl rfl (by omega)) ?_
    refine Wl.q rfl (Qy.move rfl) ?_
    refine Wl.done ?_
    rotate_left
    refine Wc.region rfl ?_
    refine Wl.q rfl (Qy.eql rfl rfl) ?_
    refine Wl.q rfl (Qy.assign rfl) ?_
    refine Wl.done ?_
    refine Ar.next ?_
    refine Wc.cond rfl (fun hc5 => ?_) (fun hc5 => ?_)
    refine Wc.region rfl ?_
    refine Wl.q rfl (Qy.fieldAddr T.fa47_4 rfl) ?_
    refine Wl.q rfl (Qy.load 2 T.one3 rfl rfl rfl) ?_
    refine Wl.q rfl (Qy.add rfl rfl (by omega)) ?_
    refine Wl.q rfl (Qy.fieldAddr T.fa47_4 rfl) ?_
    refine Wl.store 2 T.one3 rfl rfl rfl rfl rfl ?_
    refine Wl.done ?_
    refine Ar.outNormal ?_
    refine Ar.outNormal ?_
    refine Ar.next ?_
    refine Wc.region rfl ?_
    refine Wl.q rfl (Qy.add rfl rfl (by omega)) ?_
    refine Wl.q rfl (Qy.move rfl) ?_
    refine Wl.done ?_
    rotate_left
    refine Wc.region rfl ?_
    refine Wl.q rfl (Qy.fieldAddr T.fa47_1 rfl) ?_
    refine Wl.q rfl (Qy.load 2 T.one3 rfl rfl rfl) ?_
    refine Wl.q rfl (Qy.add rfl rfl (by omega)) ?_
    refine Wl.q rfl (Qy.fieldAddr T.fa47_1 rfl) ?_
    refine Wl.store 2 T.one3 rfl rfl rfl rfl rfl ?_
    refine Wl.done ?_
    refine Ar.outNormal ?_
    refine Ar.outNormal ?_
    refine Ar.next ?_
    refine Wc.region rfl ?_
    refine Wl.q rfl (Qy.add rfl rfl (by omega)) ?_
    refine Wl.q rfl (Qy.move rfl) ?_
    refine Wl.done ?_
    rotate_left
    · have f5 : ((cntO 5 (p.code.take (k + 1)) : Nat) : Int) = (cntO 5 (p.code.take k) : Nat) := by rw [e5, if_neg (by omega)]; push_cast; omega
      have f6 : ((cntO 6 (p.code.take (k + 1)) : Nat) : Int) = (cntO 6 (p.code.take k) : Nat) := by rw [e6, if_neg (by omega)]; push_cast; omega
      refine Ar.reH 2 (.cells #[.int .i64 (m + 1), .int .i64 a, .int .i64 (cntO 5 (p.code.take (k + 1)) : Nat), .int .i64 (cntO 6 (p.code.take (k + 1)) : Nat), .int .i64 s] 47) rfl (by rw [f5, f6]; rfl) ?_
      refine Ar.again ((k + 1, (m + 1), a, s)) ?_ ?_ rfl ⟨rfl, rfl, rfl, rfl, rfl, rfl, trivial⟩ ⟨rfl, rfl, rfl, trivial⟩
      · exact ⟨by omega, by omega, by omega, by omega, by omega, by omega, by omega⟩
      · show p.code.length - (k + 1) < p.code.length - k
        omega
    · have f5 : ((cntO 5 (p.code.take (k + 1)) : Nat) : Int) = (cntO 5 (p.code.take k) : Nat) + 1 := by rw [e5, if_pos (by omega)]; push_cast; omega
      have f6 : ((cntO 6 (p.code.take (k + 1)) : Nat) : Int) = (cntO 6 (p.code.take k) : Nat) := by rw [e6, if_neg (by omega)]; push_cast; omega
      refine Ar.reH 2 (.cells #[.int .i64 m, .int .i64 a, .int .i64 (cntO 5 (p.code.take (k + 1)) : Nat), .int .i64 (cntO 6 (p.code.take (k + 1)) : Nat), .int .i64 s] 47) rfl (by rw [f5, f6]; rfl) ?_
      refine Ar.again ((k + 1, m, a, s)) ?_ ?_ rfl ⟨rfl, rfl, rfl, rfl, rfl, rfl, trivial⟩ ⟨rfl, rfl, rfl, trivial⟩
      · exact ⟨by omega, by omega, by omega, by omega, by omega, by omega, by omega⟩
      · show p.code.length - (k + 1) < p.code.length - k
        omega
    · have f5 : ((cntO 5 (p.code.take (k + 1)) : Nat) : Int) = (cntO 5 (p.code.take k) : Nat) := by rw [e5, if_neg (by omega)]; push_cast; omega
      have f6 : ((cntO 6 (p.code.take (k + 1)) : Nat) : Int) = (cntO 6 (p.code.take k) : Nat) + 1 := by rw [e6, if_pos (by omega)]; push_cast; omega
      refine Ar.reH 2 (.cells #[.int .i64 m, .int .i64 a, .int .i64 (cntO 5 (p.code.take (k + 1)) : Nat), .int .i64 (cntO 6 (p.code.take (k + 1)) : Nat), .int .i64 s] 47) rfl (by rw [f5, f6]; rfl) ?_
      refine Ar.again ((k + 1, m, a, s)) ?_ ?_ rfl ⟨rfl, rfl, rfl, rfl, rfl, rfl, trivial⟩ ⟨rfl, rfl, rfl, trivial⟩
      · exact ⟨by omega, by omega, by omega, by omega, by omega, by omega, by omega⟩
      · show p.code.length - (k + 1) < p.code.length - k
        omega
    · have f5 : ((cntO 5 (p.code.take (k + 1)) : Nat) : Int) = (cntO 5 (p.code.take k) : Nat) := by rw [e5, if_neg (by omega)]; push_cast; omega
      have f6 : ((cntO 6 (p.code.take (k + 1)) : Nat) : Int) = (cntO 6 (p.code.take k) : Nat) := by rw [e6, if_neg (by omega)]; push_cast; omega
      refine Ar.reH 2 (.cells #[.int .i64 m, .int .i64 a, .int .i64 (cntO 5 (p.code.take (k + 1)) : Nat), .int .i64 (cntO 6 (p.code.take (k + 1)) : Nat), .int .i64 (s + 1)] 47) rfl (by rw [f5, f6]; rfl) ?_
      refine Ar.again ((k + 1, m, a, (s + 1))) ?_ ?_ rfl ⟨rfl, rfl, rfl, rfl, rfl, rfl, trivial⟩ ⟨rfl, rfl, rfl, trivial⟩
      · exact ⟨by omega, by omega, by omega, by omega, by omega, by omega, by omega⟩
      · show p.code.length - (k + 1) < p.code.length - k
        omega
    · have f5 : ((cntO 5 (p.code.take (k + 1)) : Nat) : Int) = (cntO 5 (p.code.take k) : Nat) := by rw [e5, if_neg (by omega)]; push_cast; omega
      have f6 : ((cntO 6 (p.code.take (k + 1)) : Nat) : Int) = (cntO 6 (p.code.take k) : Nat) := by rw [e6, if_neg (by omega)]; push_cast; omega
      refine Ar.reH 2 (.cells #[.int .i64 m, .int .i64 a, .int .i64 (cntO 5 (p.code.take (k + 1)) : Nat), .int .i64 (cntO 6 (p.code.take (k + 1)) : Nat), .int .i64 (s + 1)] 47) rfl (by rw [f5, f6]; rfl) ?_
      refine Ar.again ((k + 1, m, a, (s + 1))) ?_ ?_ rfl ⟨rfl, rfl, rfl, rfl, rfl, rfl, trivial⟩ ⟨rfl, rfl, rfl, trivial⟩
      · exact ⟨by omega, by omega, by omega, by omega, by omega, by omega, by omega⟩
      · show p.code.length - (k + 1) < p.code.length - k
        omega
    · have f5 : ((cntO 5 (p.code.take (k + 1)) : Nat) : Int) = (cntO 5 (p.code.take k) : Nat) := by rw [e5, if_neg (by omega)]; push_cast; omega
      have f6 : ((cntO 6 (p.code.take (k + 1)) : Nat) : Int) = (cntO 6 (p.code.take k) : Nat) := by rw [e6, if_neg (by omega)]; push_cast; omega
      refine Ar.reH 2 (.cells #[.int .i64 m, .int .i64 (a + 1), .int .i64 (cntO 5 (p.code.take (k + 1)) : Nat), .int .i64 (cntO 6 (p.code.take (k + 1)) : Nat), .int .i64 s] 47) rfl (by rw [f5, f6]; rfl) ?_
      refine Ar.again ((k + 1, m, (a + 1), s)) ?_ ?_ rfl ⟨rfl, rfl, rfl, rfl, rfl, rfl, trivial⟩ ⟨rfl, rfl, rfl, trivial⟩
      · exact ⟨by omega, by omega, by omega, by omega, by omega, by omega, by omega⟩
      · show p.code.length - (k + 1) < p.code.length - k
        omega
  · have hk : k = p.code.length := by omega
    subst hk
    refine Wc.seq ?_
    refine Wc.region rfl ?_
    refine Wl.q rfl (Qy.lss rfl rfl) ?_
    refine Wl.done ?_
    refine Ar.next ?_
    refine Wc.seq ?_
    refine Wc.condN rfl (by first | assumption | omega) ?_
    refine Wc.exit ?_
    refine Ar.passExit ?_
    refine Ar.passExit ?_
    refine Ar.here ?_
    refine Ar.next ?_
    refine Wc.seq ?_
    refine Wc.region rfl ?_
    refine Wl.q rfl (Qy.loadAll 2 T.agg47 rfl rfl rfl) ?_
    refine Wl.storeAll 1 T.size47 rfl rfl rfl rfl rfl rfl ?_
    refine Wl.q rfl (Qy.assign rfl) ?_
    refine Wl.done ?_
    refine Ar.next ?_
    refine Wc.ret ?_
    refine Ar.out2 (.inr rfl) (Ho := Hp.only _ []) rfl (.agg 1 rfl rfl T.agg47) (.tmp rfl) (Hp.sub_only _ _) ?_
    rw [List.take_length]
    exact ⟨_, _, _, rfl, rfl, rfl⟩
end Go.Proofs.YtfleehgbpgmcnaaDoor
