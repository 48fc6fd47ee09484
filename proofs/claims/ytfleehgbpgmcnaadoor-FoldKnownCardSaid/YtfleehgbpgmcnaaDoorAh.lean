import Derived.Test.YtfleehgbpgmcnaaDoorSlP
import Derived.Test.YtfleehgbpgmcnaaDoorAg
set_option maxRecDepth 100000
set_option linter.unusedVariables false
namespace Go.Proofs.YtfleehgbpgmcnaaDoor
open Go Go.Sl

set_option maxHeartbeats 4000000
attribute [local irreducible] plainP meltP pushL foldTo
theorem right_codes {p : PV} (hR : rightP p = true) : ∀ i ∈ p.code, mayOk i p.regs = true := by
  have h : (checkP p).2 = false := by simpa [rightP] using hR
  unfold checkP at h
  split at h
  · cases h
  · split at h
    · cases h
    · rename_i hb
      unfold badAt at hb
      rw [List.findIdx?_eq_none_iff] at hb
      intro i hi
      simpa using hb i hi
theorem right_okC {p : PV} (hR : rightP p = true) : ∀ i ∈ p.code, okC i := fun i hi => may_const (right_codes hR i hi)
theorem getD_mem {l : List Sl.Instr} {k : Nat} (h : k < l.length) : l[((k : Nat) : Int).toNat]?.getD default ∈ l := by
  rw [Int.toNat_natCast, List.getElem?_eq_getElem h]; exact List.getElem_mem h
theorem row_cut (M : List Sl.Instr) (t : Sl.Instr) (m : List Value) : Row 34 (M ++ [t]) m = Row 34 M (Cells.enc t ++ m) := by
  unfold Row; rw [flat_append]; simp [flat]
theorem own_cut {a : Option Addr} {c : Nat} {M : List Sl.Instr} {t : Sl.Instr} {m : List Value} (h : OwnA a c (M ++ [t]) m) : OwnA a c M (Cells.enc t ++ m) := by
  rcases h with ⟨_, h, _⟩ | ⟨b, h1, h2, h3, h4⟩
  · simp at h
  · refine .inr ⟨b, h1, ?_, ?_, h4⟩
    · rw [List.length_append, List.length_singleton, Nat.add_mul] at h2
      rw [List.length_append, Cells.len]; omega
    · simp at h3; omega
theorem subA_zero {α : Type} [Cells α] {a : Option Addr} {c e sz : Nat} {xs : List α} {j : List Value} (h : OwnA a e xs j) : subA a c 0 sz = a := by
  unfold subA
  split
  · rfl
  · rcases h with ⟨h1, _⟩ | ⟨b, h1, _⟩
    · rw [h1]; rfl
    · rw [h1]; simp [Addr.add]
theorem c10R (G : Imm) (hT : TabOk G) (p : PV) (ac ao : Option Addr) (cc co : Nat) (hc : Arr G ac p.code) (ho : Arr G ao p.outs) (h1 : p.code.length ≤ 1048576) (h2 : p.outs.length ≤ 1048576) (hR : rightP p = true) :
    Does Tryd.prog 10 [.agg #[.int .i64 p.ins, .int .i64 p.regs, .slice ac p.code.length cc, .slice ao p.outs.length co]] G [] (fun v G' Ho =>
      ∃ bc bo dc do_ j1 j2, v = .tuple #[.agg #[.int .i64 p.ins, .int .i64 p.regs, .slice bc (foldP p).code.length dc, .slice bo p.outs.length do_], .int .i64 0] ∧
        OwnA bc dc (foldP p).code j1 ∧ OwnA bo do_ p.outs j2 ∧ Ho = [(0, bc.map (·.block), Row 34 (foldP p).code j1), (1, bo.map (·.block), Row 3 p.outs j2)] ∧ G' = G) := by
  have hcheck : (checkP p).2 = false := by simpa [rightP] using hR
  have hok := right_okC hR
  refine Does.enter Tryd.func10 rfl Tryd.ntmps10 rfl (fun w => ?_)
  refine Wc.nilRow 0 (Row 34 ([] : List Sl.Instr) []) ?_
  refine Wc.seq ?_
  refine Wc.region rfl ?_
  refine Wl.box 1 rfl rfl rfl (fun b1 => ?_)
  refine Wl.alloc 2 rfl T.zero25 (fun b2 => ?_)
  refine Wl.q rfl (Qy.assign rfl) ?_
  refine Wl.done ?_
  refine Ar.next ?_
  refine Wc.scope ?_
  refine Wc.seq ?_
  refine Wc.region rfl ?_
  refine Wl.q rfl (Qy.loadAll 1 T.agg25 rfl rfl rfl) ?_
  refine Wl.call0 rfl T.fn22 rfl (c22 _ _ _ _ _ _ (by assumption) (by assumption) (by omega) (by omega)) ?_
  refine Wl.q rfl (Qy.move rfl) ?_
  refine Wl.q rfl (Qy.extract rfl rfl) ?_
  refine Wl.q rfl (Qy.extract rfl rfl) ?_
  refine Wl.q rfl (Qy.assign rfl) ?_
  refine Wl.q rfl (Qy.assign rfl) ?_
  refine Wl.done ?_
  refine Ar.next ?_
  refine Wc.seq ?_
  refine Wc.seq ?_
  refine Wc.region rfl ?_
  refine Wl.q rfl (Qy.move rfl) ?_
  refine Wl.q rfl (Qy.neq rfl rfl) ?_
  refine Wl.done ?_
  refine Ar.next ?_
  refine Wc.cond rfl (fun hc1 => ?_) (fun hc1 => ?_)
  refine Wc.seq ?_
  refine Wc.region rfl ?_
  refine Wl.q rfl (Qy.build (cs := [_, _, _, _]) T.st25 rfl rfl rfl) ?_
  refine Wl.q rfl (Qy.move rfl) ?_
  refine Wl.storeAll 2 T.size25 rfl rfl rfl rfl rfl rfl ?_
  refine Wl.q rfl (Qy.assign rfl) ?_
  refine Wl.done ?_
  refine Ar.next ?_
  refine Wc.ret ?_
  refine Ar.passRet ?_
  refine Ar.scopeR ?_
  rotate_left
  refine Wc.skip ?_
  refine Ar.next ?_
  refine Wc.seq ?_
  refine Wc.region rfl ?_
  refine Wl.q rfl (Qy.assign rfl) ?_
  refine Wl.done ?_
  refine Ar.next ?_
  refine Wc.seq ?_
  refine Wc.label ?_
  refine Ar.next ?_
  refine Wc.seq ?_
  refine Wc.seq ?_
  refine Wc.region rfl ?_
  refine Wl.q rfl (Qy.fieldAddr T.fa25_2 rfl) ?_
  refine Wl.q rfl (Qy.load 1 T.one22 rfl rfl rfl) ?_
  refine Wl.q rfl (Qy.len T.sl22 rfl) ?_
  refine Wl.q rfl (Qy.move rfl) ?_
  refine Wl.done ?_
  refine Ar.next ?_
  refine Wc.block ?_
  rotate_left
  · rw [hcheck] at hc1; exact absurd rfl hc1
  refine Wc.loop (ι := Nat × List Sl.Instr × (Option Addr × Nat × List Value)) (fun (k, xs, (b, d, j)) => ([(24, .int .i64 (k : Int)), (6, .slice b xs.length d), (23, Go.Value.int Go.IntKind.i64 (↑(List.length (Go.Proofs.YtfleehgbpgmcnaaDoor.PV.code p)) : Int)), (22, Go.Value.slice ac (List.length (Go.Proofs.YtfleehgbpgmcnaaDoor.PV.code p)) cc), (3, Go.Value.int Go.IntKind.i64 0), (2, Go.Value.pointer (Option.some (Go.Addr.mk b2 0 Option.none))), (1, Go.Value.pointer (Option.some (Go.Addr.mk b1 0 Option.none)))], [(0, b.map (·.block), Row 34 xs j), (2, Option.some b2, Go.Obj.cells #[Go.Value.int Go.IntKind.i64 0, Go.Value.int Go.IntKind.i64 0, Go.Value.slice Option.none 0 0, Go.Value.slice Option.none 0 0] 25), (1, Option.some b1, Go.Obj.cells #[Go.Value.int Go.IntKind.i64 (Go.Proofs.YtfleehgbpgmcnaaDoor.PV.ins p), Go.Value.int Go.IntKind.i64 (Go.Proofs.YtfleehgbpgmcnaaDoor.PV.regs p), Go.Value.slice ac (List.length (Go.Proofs.YtfleehgbpgmcnaaDoor.PV.code p)) cc, Go.Value.slice ao (List.length (Go.Proofs.YtfleehgbpgmcnaaDoor.PV.outs p)) co] 25)])) (fun (k, xs, (b, d, j)) => k ≤ p.code.length ∧ xs = foldTo p k ∧ OwnA b d xs j) (fun (k, xs, (b, d, j)) => p.code.length - k) ((0, [], (none, 0, []))) (⟨Nat.zero_le _, by rw [foldTo_zero], OwnA.nil⟩) ⟨rfl, rfl, rfl, rfl, rfl, rfl, rfl, trivial⟩ ⟨rfl, rfl, rfl, trivial⟩ (fun ⟨k, xs, (b, d, j)⟩ => fun (hk : k ≤ p.code.length ∧ xs = foldTo p k ∧ OwnA b d xs j) => ?_)
  obtain ⟨hk1, hxs, hob⟩ := hk
  have hxl : xs.length ≤ k := by rw [hxs]; exact foldTo_len p k
  rcases Nat.lt_or_ge k p.code.length with hlt | hge
  · clear hc1
    have hst := foldTo_step (p := p) hlt
    have hx0 := hok _ (getD_mem hlt)
    have hx1 := const_fits hx0
    have hx2 := plain_const hx0
    have hxo := foldTo_okC hok k
    rw [← hxs] at hxo hst
    refine Wc.seq ?_
    refine Wc.region rfl ?_
    refine Wl.q rfl (Qy.lss rfl rfl) ?_
    refine Wl.done ?_
    refine Ar.next ?_
    refine Wc.seq ?_
    refine Wc.condP rfl (by first | assumption | omega) ?_
    refine Wc.skip ?_
    refine Ar.next ?_
    refine Wc.seq ?_
    refine Wc.block ?_
    refine Wc.seq ?_
    refine Wc.region rfl ?_
    refine Wl.q rfl (Qy.at (α := Instr) T.sl22 rfl rfl (by assumption) (by omega)) ?_
    refine Wl.q rfl (Qy.loadsG T.agg34 rfl (Arr.elem (by assumption) (by omega)) rfl) ?_
    refine Wl.alloc 3 rfl T.zero34 (fun b3 => ?_)
    refine Wl.storeAll 3 T.size34 rfl rfl rfl rfl rfl rfl ?_
    refine Wl.done ?_
    refine Ar.next ?_
    refine Wc.scope ?_
    refine Wc.seq ?_
    refine Wc.region rfl ?_
    refine Wl.q rfl (Qy.loadAll 3 T.agg34 rfl rfl rfl) ?_
    refine Wl.call0 rfl T.fn23 rfl (c23 _ (by assumption) _ (by assumption)) ?_
    refine Wl.alloc 4 rfl T.zero34 (fun b4 => ?_)
    refine Wl.storeAll 4 T.size34 rfl rfl rfl rfl rfl rfl ?_
    refine Wl.done ?_
    refine Ar.next ?_
    refine Wc.seq ?_
    refine Wc.label ?_
    refine Ar.next ?_
    refine Wc.seq ?_
    refine Wc.block ?_
    refine Wc.loop (ι := List Sl.Instr × Sl.Instr × (Option Addr × Nat × List Value)) (fun (M, bi, (a, e, m)) => ([(6, .slice a M.length e), (22, .slice ac p.code.length cc), (23, .int .i64 (p.code.length : Int)), (9, Go.Value.pointer (Option.some (Go.Addr.mk b4 0 Option.none))), (24, Go.Value.int Go.IntKind.i64 (↑k : Int)), (3, Go.Value.int Go.IntKind.i64 0), (2, Go.Value.pointer (Option.some (Go.Addr.mk b2 0 Option.none))), (1, Go.Value.pointer (Option.some (Go.Addr.mk b1 0 Option.none)))], [(0, a.map (·.block), Row 34 M m), (4, some b4, .cells (Cells.enc bi).toArray 34), (3, Option.some b3, Go.Obj.cells (List.toArray (Go.Sl.Cells.enc (Option.getD (Go.Proofs.YtfleehgbpgmcnaaDoor.PV.code p)[Int.toNat (↑k : Int)]? Inhabited.default))) 34), (2, Option.some b2, Go.Obj.cells #[Go.Value.int Go.IntKind.i64 0, Go.Value.int Go.IntKind.i64 0, Go.Value.slice Option.none 0 0, Go.Value.slice Option.none 0 0] 25), (1, Option.some b1, Go.Obj.cells #[Go.Value.int Go.IntKind.i64 (Go.Proofs.YtfleehgbpgmcnaaDoor.PV.ins p), Go.Value.int Go.IntKind.i64 (Go.Proofs.YtfleehgbpgmcnaaDoor.PV.regs p), Go.Value.slice ac (List.length (Go.Proofs.YtfleehgbpgmcnaaDoor.PV.code p)) cc, Go.Value.slice ao (List.length (Go.Proofs.YtfleehgbpgmcnaaDoor.PV.outs p)) co] 25)])) (fun (M, bi, (a, e, m)) => foldTo p (k + 1) = pushL M bi ∧ OwnA a e M m ∧ (∀ i ∈ M, okC i) ∧ okC bi ∧ M.length ≤ k) (fun (M, bi, (a, e, m)) => M.length) ((xs, _, (b, d, j))) (⟨hst, hob, hxo, hx2, hxl⟩) ⟨rfl, rfl, rfl, rfl, rfl, rfl, rfl, rfl, trivial⟩ ⟨rfl, rfl, rfl, rfl, rfl, trivial⟩ (fun ⟨M, bi, (a, e, m)⟩ => fun (hk : foldTo p (k + 1) = pushL M bi ∧ OwnA a e M m ∧ (∀ i ∈ M, okC i) ∧ okC bi ∧ M.length ≤ k) => ?_)
    obtain ⟨hpu, hoM, hMo, hbo, hMk⟩ := hk
    have hbo' : constOk bi.op bi.c = true := hbo
    rcases List.eq_nil_or_concat M with rfl | ⟨M', t, rfl⟩
    · have hl0 : (([] : List Sl.Instr).length : Int) = 0 := rfl
      refine Wc.block ?_
      refine Wc.seq ?_
      refine Wc.seq ?_
      refine Wc.region rfl ?_
      refine Wl.q rfl (Qy.fieldAddr T.fa34_0 rfl) ?_
      refine Wl.q rfl (Qy.load 4 T.one3 rfl rfl rfl) ?_
      refine Wl.q rfl (Qy.eql rfl rfl) ?_
      refine Wl.q rfl (Qy.move rfl) ?_
      apply Wl.joinAnd 6 33 39 rfl
      intro hg1
      refine Wl.want rfl rfl ?_
      refine Wl.q rfl (Qy.fieldAddr T.fa34_1 rfl) ?_
      refine Wl.want rfl rfl ?_
      refine Wl.q rfl (Qy.load 4 T.one3 rfl rfl rfl) ?_
      refine Wl.want rfl rfl ?_
      refine Wl.q rfl (Qy.fieldAddr T.fa34_2 rfl) ?_
      refine Wl.want rfl rfl ?_
      refine Wl.q rfl (Qy.load 4 T.one3 rfl rfl rfl) ?_
      refine Wl.want rfl rfl ?_
      refine Wl.q rfl (Qy.eql rfl rfl) ?_
      refine Wl.q rfl (Qy.pick rfl rfl) ?_
      exact Wl.back 6 0 rfl rfl rfl rfl rfl
      intro hg1
      refine Wl.pass rfl rfl rfl ?_
      refine Wl.pass rfl rfl rfl ?_
      refine Wl.pass rfl rfl rfl ?_
      refine Wl.pass rfl rfl rfl ?_
      refine Wl.pass rfl rfl rfl ?_
      refine Wl.q rfl (Qy.pick rfl rfl) ?_
      exact Wl.back 6 0 rfl rfl rfl rfl rfl
      refine Wl.done ?_
      refine Ar.next ?_
      refine Wc.cond rfl (fun hc1 => ?_) (fun hc1 => ?_)
      refine Wc.exit ?_
      refine Ar.passExit ?_
      refine Ar.outExit rfl ?_
      refine Ar.passExit ?_
      refine Ar.outExit rfl ?_
      refine Ar.passExit ?_
      refine Ar.scopeE ?_
      refine Ar.here ?_
      refine Ar.next ?_
      refine Wc.region rfl ?_
      refine Wl.q rfl (Qy.add rfl rfl (by omega)) ?_
      refine Wl.q rfl (Qy.move rfl) ?_
      refine Wl.done ?_
      rotate_left
      refine Wc.skip ?_
      refine Ar.next ?_
      refine Wc.seq ?_
      refine Wc.seq ?_
      refine Wc.region rfl ?_
      refine Wl.q rfl (Qy.move rfl) ?_
      refine Wl.q rfl (Qy.len T.sl22 rfl) ?_
      refine Wl.q rfl (Qy.eql rfl rfl) ?_
      refine Wl.done ?_
      refine Ar.next ?_
      refine Wc.condP rfl (by first | assumption | omega) ?_
      refine Wc.exit ?_
      refine Ar.passExit ?_
      refine Ar.outExit rfl ?_
      refine Ar.passExit ?_
      refine Ar.here ?_
      refine Ar.next ?_
      refine Wc.region rfl ?_
      refine Wl.q rfl (Qy.move rfl) ?_
      refine Wl.q rfl (Qy.loadAll 4 T.agg34 rfl rfl rfl) ?_
      refine Wl.lit (α := Instr) 5 [(bi)] rfl T.sl22 T.el34 rfl rfl rfl rfl rfl (fun b5 => ?_)
      refine Wl.append (α := Instr) 0 rfl T.sl22 T.el34 rfl rfl rfl (by first | assumption | exact OwnA.nil | exact OwnA.made (by simp)) (Src.row 5 rfl) (by first | omega | (simp only [List.length_append, List.length_cons, List.length_nil, maxLen]; omega)) (by first | omega | (simp only [List.length_append, List.length_cons, List.length_nil, maxLen]; omega)) (fun a1 c1 junk1 ho1 => ?_)
      refine Wl.q rfl (Qy.assign rfl) ?_
      refine Wl.done ?_
      refine Ar.scopeN ?_
      refine Ar.outNormal ?_
      refine Ar.next ?_
      refine Wc.region rfl ?_
      refine Wl.q rfl (Qy.add rfl rfl (by omega)) ?_
      refine Wl.q rfl (Qy.move rfl) ?_
      refine Wl.done ?_
      rotate_left
      · refine Ar.again ((k + 1, [], (a, e, m))) ?_ ?_ rfl ⟨rfl, rfl, rfl, rfl, rfl, rfl, rfl, trivial⟩ ⟨rfl, rfl, rfl, trivial⟩
        · exact ⟨by omega, by rw [hpu, pushL_idle (decide_eq_true hc1)], hoM⟩
        · show p.code.length - (k + 1) < p.code.length - k
          omega
      · refine Ar.again ((k + 1, _, (a1, c1, junk1))) ?_ ?_ rfl ⟨rfl, rfl, rfl, rfl, rfl, rfl, rfl, trivial⟩ ⟨rfl, rfl, rfl, trivial⟩
        · exact ⟨by omega, by rw [hpu, pushL_nil (fun h => hc1 (of_decide_eq_true h))]; rfl, ho1⟩
        · show p.code.length - (k + 1) < p.code.length - k
          omega
    · rw [List.concat_eq_append] at *
      have hlen : (M' ++ [t]).length = M'.length + 1 := by simp
      have hto : okC t := hMo t (by simp)
      have hget : (M' ++ [t])[(((M' ++ [t]).length : Int) - 1).toNat]?.getD default = t := by
        have e : (((M' ++ [t]).length : Int) - 1).toNat = M'.length := by omega
        rw [e]; simp
      have hto' : constOk ((M' ++ [t])[(((M' ++ [t]).length : Int) - 1).toNat]?.getD default).op ((M' ++ [t])[(((M' ++ [t]).length : Int) - 1).toNat]?.getD default).c = true := by rw [hget]; exact hto
      have hcap := hoM.le
      have hcut : (((M' ++ [t]).length : Int) - 1).toNat = M'.length := by omega
      have hM'o : ∀ i ∈ M', okC i := fun i hi => hMo i (by simp [hi])
      refine Wc.block ?_
      refine Wc.seq ?_
      refine Wc.seq ?_
      refine Wc.region rfl ?_
      refine Wl.q rfl (Qy.fieldAddr T.fa34_0 rfl) ?_
      refine Wl.q rfl (Qy.load 4 T.one3 rfl rfl rfl) ?_
      refine Wl.q rfl (Qy.eql rfl rfl) ?_
      refine Wl.q rfl (Qy.move rfl) ?_
      apply Wl.joinAnd 6 33 39 rfl
      intro hg1
      refine Wl.want rfl rfl ?_
      refine Wl.q rfl (Qy.fieldAddr T.fa34_1 rfl) ?_
      refine Wl.want rfl rfl ?_
      refine Wl.q rfl (Qy.load 4 T.one3 rfl rfl rfl) ?_
      refine Wl.want rfl rfl ?_
      refine Wl.q rfl (Qy.fieldAddr T.fa34_2 rfl) ?_
      refine Wl.want rfl rfl ?_
      refine Wl.q rfl (Qy.load 4 T.one3 rfl rfl rfl) ?_
      refine Wl.want rfl rfl ?_
      refine Wl.q rfl (Qy.eql rfl rfl) ?_
      refine Wl.q rfl (Qy.pick rfl rfl) ?_
      exact Wl.back 6 0 rfl rfl rfl rfl rfl
      intro hg1
      refine Wl.pass rfl rfl rfl ?_
      refine Wl.pass rfl rfl rfl ?_
      refine Wl.pass rfl rfl rfl ?_
      refine Wl.pass rfl rfl rfl ?_
      refine Wl.pass rfl rfl rfl ?_
      refine Wl.q rfl (Qy.pick rfl rfl) ?_
      exact Wl.back 6 0 rfl rfl rfl rfl rfl
      refine Wl.done ?_
      refine Ar.next ?_
      refine Wc.cond rfl (fun hc1 => ?_) (fun hc1 => ?_)
      refine Wc.exit ?_
      refine Ar.passExit ?_
      refine Ar.outExit rfl ?_
      refine Ar.passExit ?_
      refine Ar.outExit rfl ?_
      refine Ar.passExit ?_
      refine Ar.scopeE ?_
      refine Ar.here ?_
      refine Ar.next ?_
      refine Wc.region rfl ?_
      refine Wl.q rfl (Qy.add rfl rfl (by omega)) ?_
      refine Wl.q rfl (Qy.move rfl) ?_
      refine Wl.done ?_
      rotate_left
      refine Wc.skip ?_
      refine Ar.next ?_
      refine Wc.seq ?_
      refine Wc.seq ?_
      refine Wc.region rfl ?_
      refine Wl.q rfl (Qy.move rfl) ?_
      refine Wl.q rfl (Qy.len T.sl22 rfl) ?_
      refine Wl.q rfl (Qy.eql rfl rfl) ?_
      refine Wl.done ?_
      refine Ar.next ?_
      refine Wc.condN rfl (by first | assumption | omega) ?_
      refine Wc.skip ?_
      refine Ar.next ?_
      refine Wc.seq ?_
      refine Wc.draw [1, 2, 3, 4, 0] [(0, 12), (4, 12), (3, 12), (2, 12), (1, 12)] T.mixed rfl ?_
      refine Gm.q 0 [] (by kernel_rfl) rfl rfl (Qy.move rfl) ?_
      refine Gm.q 1 [] (by kernel_rfl) rfl rfl (Qy.move rfl) ?_
      refine Gm.q 2 [] (by kernel_rfl) rfl rfl (Qy.len T.sl22 rfl) ?_
      refine Gm.q 3 [] (by kernel_rfl) rfl rfl (Qy.sub rfl rfl (by omega)) ?_
      refine Gm.q 4 [] (by kernel_rfl) rfl rfl (Qy.indexAddrO (α := Instr) T.sl22 rfl rfl (by assumption) (by omega)) ?_
      refine Gm.q 5 [0] (by kernel_rfl) rfl rfl (Qy.loadsO 0 T.agg34 rfl rfl (by assumption) (by omega)) ?_
      refine Gm.q 6 [4] (by kernel_rfl) rfl rfl (Qy.loadAll 4 T.agg34 rfl rfl rfl) ?_
      refine Gm.two 7 11 ⟨rfl, rfl, rfl, rfl, rfl, trivial⟩ (by first | exact Imm.le_refl _ | assumption) (by kernel_rfl) rfl rfl ?_ ?_
      refine Wl.call0 rfl T.fn24 rfl (c24 _ (by assumption) _ _ (by assumption) (by assumption)) ?_
      refine Wl.on0 ?_
      refine Gm.q 8 [] (by kernel_rfl) rfl rfl (Qy.move rfl) ?_
      refine Gm.q 9 [] (by kernel_rfl) rfl rfl (Qy.extract rfl rfl) ?_
      refine Gm.q 10 [] (by kernel_rfl) rfl rfl (Qy.extract rfl rfl) ?_
      refine Gm.one 11 ⟨rfl, rfl, rfl, rfl, rfl, trivial⟩ (by first | exact Imm.le_refl _ | assumption) (by kernel_rfl) rfl ?_
      refine Wl.alloc 5 rfl T.zero34 (fun b5 => ?_)
      refine Wl.on0 ?_
      refine Gm.one 12 ⟨rfl, rfl, rfl, rfl, rfl, trivial⟩ (by first | exact Imm.le_refl _ | assumption) (by kernel_rfl) rfl ?_
      refine Wl.storeAll 5 T.size34 rfl rfl rfl rfl rfl rfl ?_
      refine Wl.on0 ?_
      refine Gm.q 13 [] (by kernel_rfl) rfl rfl (Qy.assign rfl) ?_
      refine Gm.doneA (by kernel_rfl) trivial (by first | exact Imm.le_refl _ | assumption) ?_
      refine Ar.next ?_
      refine Wc.seq ?_
      refine Wc.seq ?_
      refine Wc.region rfl ?_
      refine Wl.q rfl (Qy.move rfl) ?_
      refine Wl.q rfl (Qy.not rfl) ?_
      refine Wl.done ?_
      refine Ar.next ?_
      refine Wc.ite rfl (fun hc2 => ?_) (fun hc2 => ?_)
      refine Wc.exit ?_
      refine Ar.passExit ?_
      refine Ar.outExit rfl ?_
      refine Ar.passExit ?_
      refine Ar.here ?_
      refine Ar.next ?_
      refine Wc.region rfl ?_
      refine Wl.q rfl (Qy.move rfl) ?_
      refine Wl.q rfl (Qy.loadAll 4 T.agg34 rfl rfl rfl) ?_
      refine Wl.lit (α := Instr) 6 [(bi)] rfl T.sl22 T.el34 rfl rfl rfl rfl rfl (fun b6 => ?_)
      refine Wl.append (α := Instr) 0 rfl T.sl22 T.el34 rfl rfl rfl (by first | assumption | exact OwnA.nil | exact OwnA.made (by simp)) (Src.row 6 rfl) (by first | omega | (simp only [List.length_append, List.length_cons, List.length_nil, maxLen]; omega)) (by first | omega | (simp only [List.length_append, List.length_cons, List.length_nil, maxLen]; omega)) (fun a1 c1 junk1 ho1 => ?_)
      refine Wl.q rfl (Qy.assign rfl) ?_
      refine Wl.done ?_
      refine Ar.scopeN ?_
      refine Ar.outNormal ?_
      refine Ar.next ?_
      refine Wc.region rfl ?_
      refine Wl.q rfl (Qy.add rfl rfl (by omega)) ?_
      refine Wl.q rfl (Qy.move rfl) ?_
      refine Wl.done ?_
      rotate_left
      refine Wc.skip ?_
      refine Ar.next ?_
      refine Wc.seq ?_
      refine Wc.region rfl ?_
      refine Wl.q rfl (Qy.move rfl) ?_
      refine Wl.q rfl (Qy.move rfl) ?_
      refine Wl.q rfl (Qy.len T.sl22 rfl) ?_
      refine Wl.q rfl (Qy.sub rfl rfl (by omega)) ?_
      refine Wl.q rfl (Qy.cutH T.sl22 rfl rfl (by omega)) ?_
      refine Wl.q rfl (Qy.assign rfl) ?_
      refine Wl.done ?_
      refine Ar.next ?_
      refine Wc.region rfl ?_
      refine Wl.q rfl (Qy.loadAll 5 T.agg34 rfl rfl rfl) ?_
      refine Wl.storeAll 4 T.size34 rfl rfl rfl rfl rfl rfl ?_
      refine Wl.done ?_
      refine Ar.outNormal ?_
      rotate_left
      refine Wl.alloc 5 rfl T.zero34 (fun b5 => ?_)
      refine Wl.on0 ?_
      refine Gm.one 7 ⟨rfl, rfl, rfl, rfl, rfl, trivial⟩ (by first | exact Imm.le_refl _ | assumption) (by kernel_rfl) rfl ?_
      refine Wl.call0 rfl T.fn24 rfl (c24 _ (by assumption) _ _ (by assumption) (by assumption)) ?_
      refine Wl.on0 ?_
      refine Gm.q 8 [] (by kernel_rfl) rfl rfl (Qy.move rfl) ?_
      refine Gm.q 9 [] (by kernel_rfl) rfl rfl (Qy.extract rfl rfl) ?_
      refine Gm.q 10 [] (by kernel_rfl) rfl rfl (Qy.extract rfl rfl) ?_
      refine Gm.one 12 ⟨rfl, rfl, rfl, rfl, rfl, trivial⟩ (by first | exact Imm.le_refl _ | assumption) (by kernel_rfl) rfl ?_
      refine Wl.storeAll 5 T.size34 rfl rfl rfl rfl rfl rfl ?_
      refine Wl.on0 ?_
      refine Gm.q 13 [] (by kernel_rfl) rfl rfl (Qy.assign rfl) ?_
      refine Gm.doneA (by kernel_rfl) trivial (by first | exact Imm.le_refl _ | assumption) ?_
      refine Ar.next ?_
      refine Wc.seq ?_
      refine Wc.seq ?_
      refine Wc.region rfl ?_
      refine Wl.q rfl (Qy.move rfl) ?_
      refine Wl.q rfl (Qy.not rfl) ?_
      refine Wl.done ?_
      refine Ar.next ?_
      refine Wc.ite rfl (fun hc2 => ?_) (fun hc2 => ?_)
      refine Wc.exit ?_
      refine Ar.passExit ?_
      refine Ar.outExit rfl ?_
      refine Ar.passExit ?_
      refine Ar.here ?_
      refine Ar.next ?_
      refine Wc.region rfl ?_
      refine Wl.q rfl (Qy.move rfl) ?_
      refine Wl.q rfl (Qy.loadAll 4 T.agg34 rfl rfl rfl) ?_
      refine Wl.lit (α := Instr) 6 [(bi)] rfl T.sl22 T.el34 rfl rfl rfl rfl rfl (fun b6 => ?_)
      refine Wl.append (α := Instr) 0 rfl T.sl22 T.el34 rfl rfl rfl (by first | assumption | exact OwnA.nil | exact OwnA.made (by simp)) (Src.row 6 rfl) (by first | omega | (simp only [List.length_append, List.length_cons, List.length_nil, maxLen]; omega)) (by first | omega | (simp only [List.length_append, List.length_cons, List.length_nil, maxLen]; omega)) (fun a1 c1 junk1 ho1 => ?_)
      refine Wl.q rfl (Qy.assign rfl) ?_
      refine Wl.done ?_
      refine Ar.scopeN ?_
      refine Ar.outNormal ?_
      refine Ar.next ?_
      refine Wc.region rfl ?_
      refine Wl.q rfl (Qy.add rfl rfl (by omega)) ?_
      refine Wl.q rfl (Qy.move rfl) ?_
      refine Wl.done ?_
      rotate_left
      refine Wc.skip ?_
      refine Ar.next ?_
      refine Wc.seq ?_
      refine Wc.region rfl ?_
      refine Wl.q rfl (Qy.move rfl) ?_
      refine Wl.q rfl (Qy.move rfl) ?_
      refine Wl.q rfl (Qy.len T.sl22 rfl) ?_
      refine Wl.q rfl (Qy.sub rfl rfl (by omega)) ?_
      refine Wl.q rfl (Qy.cutH T.sl22 rfl rfl (by omega)) ?_
      refine Wl.q rfl (Qy.assign rfl) ?_
      refine Wl.done ?_
      refine Ar.next ?_
      refine Wc.region rfl ?_
      refine Wl.q rfl (Qy.loadAll 5 T.agg34 rfl rfl rfl) ?_
      refine Wl.storeAll 4 T.size34 rfl rfl rfl rfl rfl rfl ?_
      refine Wl.done ?_
      refine Ar.outNormal ?_
      rotate_left
      · refine Ar.again ((k + 1, M' ++ [t], (a, e, m))) ?_ ?_ rfl ⟨rfl, rfl, rfl, rfl, rfl, rfl, rfl, trivial⟩ ⟨rfl, rfl, rfl, trivial⟩
        · exact ⟨by omega, by rw [hpu, pushL_idle (decide_eq_true hc1)], hoM⟩
        · show p.code.length - (k + 1) < p.code.length - k
          omega
      · rw [hget] at hc2
        refine Ar.again ((k + 1, _, (a1, c1, junk1))) ?_ ?_ rfl ⟨rfl, rfl, rfl, rfl, rfl, rfl, rfl, trivial⟩ ⟨rfl, rfl, rfl, trivial⟩
        · exact ⟨by omega, by rw [hpu, pushL_push (fun h => hc1 (of_decide_eq_true h)) (by simpa using hc2)], ho1⟩
        · show p.code.length - (k + 1) < p.code.length - k
          omega
      · rw [hget] at hc2 ⊢
        have hmt : (meltP t bi).2 = true := by simpa using hc2
        refine Ar.reH 0 (Row 34 M' (Cells.enc t ++ m)) rfl (row_cut M' t m) ?_
        refine Ar.re 6 rfl (show _ = Value.slice a M'.length e by rw [hcut, subA_zero hoM]) ?_
        refine Ar.again ((M', (meltP t bi).1, (a, e, Cells.enc t ++ m))) ?_ ?_ rfl ⟨rfl, rfl, rfl, rfl, rfl, rfl, rfl, rfl, trivial⟩ ⟨rfl, rfl, rfl, rfl, rfl, trivial⟩
        · exact ⟨by rw [hpu, pushL_melt (fun h => hc1 (of_decide_eq_true h)) hmt], own_cut hoM, hM'o, melt_okC hto hbo hmt, by omega⟩
        · show M'.length < (M' ++ [t]).length
          omega
      · rw [hget] at hc2
        refine Ar.again ((k + 1, _, (a1, c1, junk1))) ?_ ?_ rfl ⟨rfl, rfl, rfl, rfl, rfl, rfl, rfl, trivial⟩ ⟨rfl, rfl, rfl, trivial⟩
        · exact ⟨by omega, by rw [hpu, pushL_push (fun h => hc1 (of_decide_eq_true h)) (by simpa using hc2)], ho1⟩
        · show p.code.length - (k + 1) < p.code.length - k
          omega
      · rw [hget] at hc2 ⊢
        have hmt : (meltP t bi).2 = true := by simpa using hc2
        refine Ar.reH 0 (Row 34 M' (Cells.enc t ++ m)) rfl (row_cut M' t m) ?_
        refine Ar.re 6 rfl (show _ = Value.slice a M'.length e by rw [hcut, subA_zero hoM]) ?_
        refine Ar.again ((M', (meltP t bi).1, (a, e, Cells.enc t ++ m))) ?_ ?_ rfl ⟨rfl, rfl, rfl, rfl, rfl, rfl, rfl, rfl, trivial⟩ ⟨rfl, rfl, rfl, rfl, rfl, trivial⟩
        · exact ⟨by rw [hpu, pushL_melt (fun h => hc1 (of_decide_eq_true h)) hmt], own_cut hoM, hM'o, melt_okC hto hbo hmt, by omega⟩
        · show M'.length < (M' ++ [t]).length
          omega
  · have hk : k = p.code.length := by omega
    subst hk
    rw [foldTo_all] at hxs
    subst hxs
    refine Wc.seq ?_
    refine Wc.region rfl ?_
    refine Wl.q rfl (Qy.lss rfl rfl) ?_
    refine Wl.done ?_
    refine Ar.next ?_
    refine Wc.seq ?_
    refine Wc.condN rfl (by first | assumption | omega) ?_
    refine Wc.exit ?_
    refine Ar.passExit ?_
    refine Ar.passExit ?_
    refine Ar.here ?_
    refine Ar.next ?_
    refine Wc.seq ?_
    refine Wc.draw [1, 2, 0] [(2, 9)] T.mixed rfl ?_
    refine Gm.q 0 [] (by kernel_rfl) rfl rfl (Qy.fieldAddr T.fa25_0 rfl) ?_
    refine Gm.q 1 [1] (by kernel_rfl) rfl rfl (Qy.load 1 T.one3 rfl rfl rfl) ?_
    refine Gm.q 2 [] (by kernel_rfl) rfl rfl (Qy.fieldAddr T.fa25_1 rfl) ?_
    refine Gm.q 3 [1] (by kernel_rfl) rfl rfl (Qy.load 1 T.one3 rfl rfl rfl) ?_
    refine Gm.q 4 [] (by kernel_rfl) rfl rfl (Qy.move rfl) ?_
    refine Gm.q 5 [] (by kernel_rfl) rfl rfl (Qy.fieldAddr T.fa25_3 rfl) ?_
    refine Gm.q 6 [1] (by kernel_rfl) rfl rfl (Qy.load 1 T.one23 rfl rfl rfl) ?_
    refine Gm.one 7 ⟨rfl, rfl, rfl, trivial⟩ (by first | exact Imm.le_refl _ | assumption) (by kernel_rfl) rfl ?_
    refine Wl.call 3 rfl T.fn25 rfl (c25 _ _ _ _ (by assumption) (by omega)) (tags_of trivial) (fun v1 G1 Ho1 hle1 hp => ?_)
    obtain ⟨lb1, ld1, lj1, rfl, hlb1, rfl, rfl⟩ := hp
    refine Wl.on0 ?_
    refine Gm.q 8 [] (by kernel_rfl) rfl rfl (Qy.build (cs := [_, _, _, _]) T.st25 rfl rfl rfl) ?_
    refine Gm.one 9 ⟨rfl, rfl, rfl, trivial⟩ (by first | exact Imm.le_refl _ | assumption) (by kernel_rfl) rfl ?_
    refine Wl.storeAll 2 T.size25 rfl rfl rfl rfl rfl rfl ?_
    refine Wl.on0 ?_
    refine Gm.q 10 [] (by kernel_rfl) rfl rfl (Qy.assign rfl) ?_
    refine Gm.doneA (by kernel_rfl) ⟨rfl, rfl, trivial⟩ (by first | exact Imm.le_refl _ | assumption) ?_
    refine Ar.next ?_
    refine Wc.ret ?_
    refine Ar.scopeR ?_
    refine Ar.pick [0, 3, 2] (by decide) (Ar.out2 (.inr rfl) (Ho := Hp.only _ [0, 1]) rfl (.agg 2 rfl rfl T.agg25) (.tmp rfl) (Hp.sub_only _ _) ?_)
    exact ⟨_, _, _, _, _, _, rfl, hob, hlb1, rfl, rfl⟩
theorem c10W (G : Imm) (p : PV) (ac ao : Option Addr) (cc co : Nat) (hc : Arr G ac p.code) (ho : Arr G ao p.outs) (h1 : p.code.length ≤ 1048576) (h2 : p.outs.length ≤ 1048576) (hR : ¬ rightP p = true) :
    Does Tryd.prog 10 [.agg #[.int .i64 p.ins, .int .i64 p.regs, .slice ac p.code.length cc, .slice ao p.outs.length co]] G [] (fun v G' Ho =>
      v = .tuple #[.agg #[.int .i64 0, .int .i64 0, .slice none 0 0, .slice none 0 0], .int .i64 80] ∧
        Ho = [(0, none, Row 34 ([] : List Sl.Instr) []), (1, none, Row 3 ([] : List Int) [])] ∧ G' = G) := by
  have hcheck : (checkP p).2 = true := by simpa [rightP] using hR
  refine Does.enter Tryd.func10 rfl Tryd.ntmps10 rfl (fun w => ?_)
  refine Wc.nilRow 5 (Row 34 ([] : List Sl.Instr) []) (Wc.nilRow 6 (Row 3 ([] : List Int) []) ?_)
  refine Wc.seq ?_
  refine Wc.region rfl ?_
  refine Wl.box 7 rfl rfl rfl (fun b1 => ?_)
  refine Wl.alloc 8 rfl T.zero25 (fun b2 => ?_)
  refine Wl.q rfl (Qy.assign rfl) ?_
  refine Wl.done ?_
  refine Ar.next ?_
  refine Wc.scope ?_
  refine Wc.seq ?_
  refine Wc.region rfl ?_
  refine Wl.q rfl (Qy.loadAll 7 T.agg25 rfl rfl rfl) ?_
  refine Wl.call0 rfl T.fn22 rfl (c22 _ _ _ _ _ _ (by assumption) (by assumption) (by omega) (by omega)) ?_
  refine Wl.q rfl (Qy.move rfl) ?_
  refine Wl.q rfl (Qy.extract rfl rfl) ?_
  refine Wl.q rfl (Qy.extract rfl rfl) ?_
  refine Wl.q rfl (Qy.assign rfl) ?_
  refine Wl.q rfl (Qy.assign rfl) ?_
  refine Wl.done ?_
  refine Ar.next ?_
  refine Wc.seq ?_
  refine Wc.seq ?_
  refine Wc.region rfl ?_
  refine Wl.q rfl (Qy.move rfl) ?_
  refine Wl.q rfl (Qy.neq rfl rfl) ?_
  refine Wl.done ?_
  refine Ar.next ?_
  refine Wc.cond rfl (fun hc1 => ?_) (fun hc1 => ?_)
  refine Wc.seq ?_
  refine Wc.region rfl ?_
  refine Wl.q rfl (Qy.build (cs := [_, _, _, _]) T.st25 rfl rfl rfl) ?_
  refine Wl.q rfl (Qy.move rfl) ?_
  refine Wl.storeAll 8 T.size25 rfl rfl rfl rfl rfl rfl ?_
  refine Wl.q rfl (Qy.assign rfl) ?_
  refine Wl.done ?_
  refine Ar.next ?_
  refine Wc.ret ?_
  refine Ar.passRet ?_
  refine Ar.scopeR ?_
  rotate_left
  refine Wc.skip ?_
  refine Ar.next ?_
  refine Wc.seq ?_
  refine Wc.region rfl ?_
  refine Wl.q rfl (Qy.assign rfl) ?_
  refine Wl.done ?_
  refine Ar.next ?_
  refine Wc.seq ?_
  refine Wc.label ?_
  refine Ar.next ?_
  refine Wc.seq ?_
  refine Wc.seq ?_
  refine Wc.region rfl ?_
  refine Wl.q rfl (Qy.fieldAddr T.fa25_2 rfl) ?_
  refine Wl.q rfl (Qy.load 7 T.one22 rfl rfl rfl) ?_
  refine Wl.q rfl (Qy.len T.sl22 rfl) ?_
  refine Wl.q rfl (Qy.move rfl) ?_
  refine Wl.done ?_
  refine Ar.next ?_
  refine Wc.block ?_
  rotate_left
  · refine Ar.pick [5, 6, 8] (by decide) (Ar.out2 (.inr rfl) (Ho := Hp.only _ [0, 1]) rfl (.agg 2 rfl rfl T.agg25) (.tmp rfl) (Hp.sub_only _ _) ?_)
    rw [hcheck]; exact ⟨rfl, rfl, rfl⟩
  · rw [hcheck] at hc1; exact absurd (by decide) hc1
/-- what the pass makes of any program -/
def foldE (p : PV) : PV := if rightP p then foldP p else ⟨0, 0, [], []⟩
def errP (p : PV) : Int := if rightP p then 0 else 80
theorem c10 (G : Imm) (hT : TabOk G) (p : PV) (ac ao : Option Addr) (cc co : Nat) (hc : Arr G ac p.code) (ho : Arr G ao p.outs) (h1 : p.code.length ≤ 1048576) (h2 : p.outs.length ≤ 1048576) :
    Does Tryd.prog 10 [.agg #[.int .i64 p.ins, .int .i64 p.regs, .slice ac p.code.length cc, .slice ao p.outs.length co]] G [] (fun v G' Ho =>
      ∃ q e bc bo dc do_ j1 j2, v = .tuple #[.agg #[.int .i64 q.ins, .int .i64 q.regs, .slice bc q.code.length dc, .slice bo q.outs.length do_], .int .i64 e] ∧ (q = foldE p ∧ e = errP p) ∧
        OwnA bc dc q.code j1 ∧ OwnA bo do_ q.outs j2 ∧ Ho = [(0, bc.map (·.block), Row 34 q.code j1), (1, bo.map (·.block), Row 3 q.outs j2)] ∧ G' = G) := by
  by_cases hR : rightP p = true
  · refine (c10R G hT p ac ao cc co hc ho h1 h2 hR).mono fun v G' Ho _ ⟨bc, bo, dc, do_, j1, j2, q1, q2, q3, q4, q5⟩ => ?_
    exact ⟨foldP p, 0, bc, bo, dc, do_, j1, j2, q1, ⟨(if_pos hR).symm, (if_pos hR).symm⟩, q2, q3, q4, q5⟩
  · refine (c10W G p ac ao cc co hc ho h1 h2 hR).mono fun v G' Ho _ ⟨q1, q2, q3⟩ => ?_
    exact ⟨⟨0, 0, [], []⟩, 80, none, none, 0, 0, [], [], q1, ⟨(if_neg hR).symm, (if_neg hR).symm⟩, OwnA.nil, OwnA.nil, q2, q3⟩
theorem c10F (G : Imm) (hT : TabOk G) (p : PV) (ac ao : Option Addr) (cc co : Nat) (hc : Arr G ac p.code) (ho : Arr G ao p.outs) (h1 : p.code.length ≤ 1048576) (h2 : p.outs.length ≤ 1048576) :
    Does Tryd.prog 10 [.agg #[.int .i64 p.ins, .int .i64 p.regs, .slice ac p.code.length cc, .slice ao p.outs.length co]] G [] (fun v G' Ho =>
      ∃ q e bc bo dc do_, v = .tuple #[.agg #[.int .i64 q.ins, .int .i64 q.regs, .slice bc q.code.length dc, .slice bo q.outs.length do_], .int .i64 e] ∧ (q = foldE p ∧ e = errP p) ∧ Arr G' bc q.code ∧ Arr G' bo q.outs ∧ Ho = []) := by
  refine (Does.frz2 (α := Sl.Instr) (β := Int) (E := 34) (E' := 3) (q := fun v a c xs b d ys => ∃ q e, v = .tuple #[.agg #[.int .i64 q.ins, .int .i64 q.regs, .slice a q.code.length c, .slice b q.outs.length d], .int .i64 e] ∧ (q = foldE p ∧ e = errP p) ∧ xs = q.code ∧ ys = q.outs)
    ((c10 G hT p ac ao cc co hc ho h1 h2).mono fun v G' Ho _ ⟨q, e, bc, bo, dc, do_, j1, j2, g1, g2, g3, g4, g5, g6⟩ => ⟨bc, dc, q.code, j1, bo, do_, q.outs, j2, ⟨q, e, g1, g2, rfl, rfl⟩, g3, g4, g5, g6⟩)).mono
    fun v G' Ho _ ⟨a, c, xs, b, d, ys, ⟨q, e, g1, g2, hx, hy⟩, h2, h3, h4⟩ => ?_
  subst hx hy
  exact ⟨q, e, a, b, c, d, g1, g2, h2, h3, h4⟩
end Go.Proofs.YtfleehgbpgmcnaaDoor
