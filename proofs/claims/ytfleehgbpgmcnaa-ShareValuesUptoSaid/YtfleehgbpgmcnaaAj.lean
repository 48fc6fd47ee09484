import Derived.Test.YtfleehgbpgmcnaaSlM
import Derived.Test.YtfleehgbpgmcnaaAh
namespace Go.Proofs.Ytfleehgbpgmcnaa
open Go Go.Sl
set_option maxRecDepth 100000

set_option maxHeartbeats 2000000
/-- the table behind an instruction, nothing left out -/
def valStep (t : Tab) (n : Int) (i : Sl.Instr) : Tab := { (reckonP t n i).2 with held := (reckonP t n i).2.held.set i.to.toNat (reckonP t n i).1.1 }
def valTo (p : PV) : Nat → Tab
  | 0 => ⟨start p, [], [], p.ins + 1⟩
  | k + 1 => valStep (valTo p k) k (p.code[((k : Nat) : Int).toNat]?.getD default)
/-- what an instruction reckons, and which was the first that did -/
def valAt (p : PV) (k : Nat) : Int × Int := (reckonP (valTo p k) k (p.code[((k : Nat) : Int).toNat]?.getD default)).1
def valsTo (p : PV) (k : Nat) : List Int := (List.range k).map fun k => (valAt p k).1
def valsP (p : PV) : List Int := valsTo p p.code.length
theorem valsTo_step (p : PV) (k : Nat) : valsTo p (k + 1) = valsTo p k ++ [(valAt p k).1] := by simp [valsTo, List.range_succ]
theorem vals_len (p : PV) (k : Nat) : (valsTo p k).length = k := by simp [valsTo]
/-- what is known of the table behind k instructions of a right program -/
structure ValOk (p : PV) (k : Nat) (t : Tab) : Prop where
  eq : t = valTo p k
  len : (t.held.length : Int) = p.regs
  kf : ∀ x, mget t.known x = none → mget t.first x = none
  n0 : 0 ≤ t.next
  n1 : t.next ≤ p.ins + 1 + k
theorem ValOk.start {p : PV} (h : 1 ≤ p.ins ∧ p.ins ≤ p.regs) : ValOk p 0 ⟨Proofs.Ytfleehgbpgmcnaa.start p, [], [], p.ins + 1⟩ :=
  ⟨rfl, by simp [Proofs.Ytfleehgbpgmcnaa.start]; omega, fun _ _ => rfl, by show 0 ≤ p.ins + 1; omega, by show p.ins + 1 ≤ p.ins + 1 + 0; omega⟩
theorem ValOk.step {p : PV} {k : Nat} {t : Tab} (h : ValOk p k t) : ValOk p (k + 1) (valStep t k (p.code[((k : Nat) : Int).toNat]?.getD default)) := by
  refine ⟨?_, ?_, reckon_kf h.kf, (reckon_next h.n0 k _).1, ?_⟩
  · show _ = valStep (valTo p k) k (p.code[((k : Nat) : Int).toNat]?.getD default)
    rw [h.eq]
  · show ((List.set _ _ _).length : Int) = _
    rw [List.length_set, reckon_held]; exact h.len
  · have h1 := (reckon_next (t := t) h.n0 k (p.code[((k : Nat) : Int).toNat]?.getD default)).2
    have h2 := h.n1
    show (reckonP t k _).2.next ≤ _
    omega
theorem c23W (G : Imm) (p : PV) (ac ao : Option Addr) (cc co : Nat) (hc : Arr G ac p.code) (ho : Arr G ao p.outs) (h1 : p.code.length ≤ 1099511627776) (h2 : p.outs.length ≤ 1099511627776) (hR : ¬ rightP p = true) :
    Does Try.prog 23 [.agg #[.int .i64 p.ins, .int .i64 p.regs, .slice ac p.code.length cc, .slice ao p.outs.length co]] G [] (fun v G' Ho => v = .tuple #[.slice none 0 0, .int .i64 80] ∧ Ho = [] ∧ G' = G) := by
  have hcheck : (checkP p).2 = true := by simpa [rightP] using hR
  refine Does.enter Try.func23 rfl Try.ntmps23 rfl (fun w => ?_)
  refine Wc.seq ?_
  refine Wc.region rfl ?_
  refine Wl.box 0 rfl rfl rfl (fun b1 => ?_)
  refine Wl.q rfl (Qy.assign rfl) ?_
  refine Wl.q rfl (Qy.assign rfl) ?_
  refine Wl.done ?_
  refine Ar.next ?_
  refine Wc.seq ?_
  refine Wc.seq ?_
  refine Wc.region rfl ?_
  refine Wl.q rfl (Qy.loadAll 0 T.agg25 rfl rfl rfl) ?_
  refine Wl.call0 rfl T.fn53 rfl (c53 _ _ _ _ _ _ (by assumption) (by assumption) (by omega) (by omega)) ?_
  refine Wl.q rfl (Qy.move rfl) ?_
  refine Wl.q rfl (Qy.extract rfl rfl) ?_
  refine Wl.q rfl (Qy.extract rfl rfl) ?_
  refine Wl.q rfl (Qy.assign rfl) ?_
  refine Wl.q rfl (Qy.assign rfl) ?_
  refine Wl.done ?_
  refine Ar.next ?_
  refine Wc.seq ?_
  refine Wc.region rfl ?_
  refine Wl.q rfl (Qy.move rfl) ?_
  refine Wl.q rfl (Qy.neq rfl rfl) ?_
  refine Wl.done ?_
  refine Ar.next ?_
  refine Wc.cond rfl (fun hc1 => ?_) (fun hc1 => ?_)
  refine Wc.seq ?_
  refine Wc.region rfl ?_
  refine Wl.q rfl (Qy.move rfl) ?_
  refine Wl.q rfl (Qy.assign rfl) ?_
  refine Wl.q rfl (Qy.assign rfl) ?_
  refine Wl.done ?_
  refine Ar.next ?_
  refine Wc.ret ?_
  refine Ar.passRet ?_
  rotate_left
  refine Wc.skip ?_
  refine Ar.next ?_
  refine Wc.seq ?_
  refine Wc.region rfl ?_
  refine Wl.q rfl (Qy.loadAll 0 T.agg25 rfl rfl rfl) ?_
  rotate_left
  · refine Ar.out2 (.inr rfl) (Ho := []) rfl (.tmp rfl) (.tmp rfl) trivial ?_
    rw [hcheck]; exact ⟨rfl, rfl, rfl⟩
  · rw [hcheck] at hc1; exact absurd (by decide) hc1
theorem c23R (G : Imm) (p : PV) (ac ao : Option Addr) (cc co : Nat) (hc : Arr G ac p.code) (ho : Arr G ao p.outs) (h1 : p.code.length ≤ 1099511627776) (h2 : p.outs.length ≤ 1099511627776) (hR : rightP p = true) :
    Does Try.prog 23 [.agg #[.int .i64 p.ins, .int .i64 p.regs, .slice ac p.code.length cc, .slice ao p.outs.length co]] G [] (fun v G' Ho =>
      ∃ b c j, v = .tuple #[.slice b (valsP p).length c, .int .i64 0] ∧ OwnA b c (valsP p) j ∧ Ho = [(0, b.map (·.block), Row 3 (valsP p) j)] ∧ G' = G) := by
  obtain ⟨r1, r2, r3, r4, r5, r6, r7, r8⟩ := right_facts hR
  have hcheck : (checkP p).2 = false := by simpa [rightP] using hR
  refine Does.enter Try.func23 rfl Try.ntmps23 rfl (fun w => ?_)
  refine Wc.nilRow 0 (Row 3 ([] : List Int) []) ?_
  refine Wc.seq ?_
  refine Wc.region rfl ?_
  refine Wl.box 1 rfl rfl rfl (fun b1 => ?_)
  refine Wl.q rfl (Qy.assign rfl) ?_
  refine Wl.q rfl (Qy.assign rfl) ?_
  refine Wl.done ?_
  refine Ar.next ?_
  refine Wc.seq ?_
  refine Wc.seq ?_
  refine Wc.region rfl ?_
  refine Wl.q rfl (Qy.loadAll 1 T.agg25 rfl rfl rfl) ?_
  refine Wl.call0 rfl T.fn53 rfl (c53 _ _ _ _ _ _ (by assumption) (by assumption) (by omega) (by omega)) ?_
  refine Wl.q rfl (Qy.move rfl) ?_
  refine Wl.q rfl (Qy.extract rfl rfl) ?_
  refine Wl.q rfl (Qy.extract rfl rfl) ?_
  refine Wl.q rfl (Qy.assign rfl) ?_
  refine Wl.q rfl (Qy.assign rfl) ?_
  refine Wl.done ?_
  refine Ar.next ?_
  refine Wc.seq ?_
  refine Wc.region rfl ?_
  refine Wl.q rfl (Qy.move rfl) ?_
  refine Wl.q rfl (Qy.neq rfl rfl) ?_
  refine Wl.done ?_
  refine Ar.next ?_
  refine Wc.cond rfl (fun hc1 => ?_) (fun hc1 => ?_)
  refine Wc.seq ?_
  refine Wc.region rfl ?_
  refine Wl.q rfl (Qy.move rfl) ?_
  refine Wl.q rfl (Qy.assign rfl) ?_
  refine Wl.q rfl (Qy.assign rfl) ?_
  refine Wl.done ?_
  refine Ar.next ?_
  refine Wc.ret ?_
  refine Ar.passRet ?_
  rotate_left
  refine Wc.skip ?_
  refine Ar.next ?_
  refine Wc.seq ?_
  refine Wc.region rfl ?_
  refine Wl.q rfl (Qy.loadAll 1 T.agg25 rfl rfl rfl) ?_
  refine Wl.call 2 rfl T.fn54 rfl (c54 _ _ _ _ _ _ (by omega)) (tags_of trivial) (fun v1 G1 Ho1 hle1 hp => ?_)
  obtain ⟨bt1, bk1, bf1, ta1, tc1, tj1, rfl, hto1, rfl, rfl⟩ := hp
  refine Wl.q rfl (Qy.assign rfl) ?_
  refine Wl.done ?_
  refine Ar.next ?_
  refine Wc.seq ?_
  refine Wc.region rfl ?_
  refine Wl.q rfl (Qy.assign rfl) ?_
  refine Wl.done ?_
  refine Ar.next ?_
  refine Wc.seq ?_
  refine Wc.seq ?_
  refine Wc.region rfl ?_
  refine Wl.q rfl (Qy.fieldAddr T.fa25_2 rfl) ?_
  refine Wl.q rfl (Qy.load 1 T.one22 rfl rfl rfl) ?_
  refine Wl.q rfl (Qy.len T.sl22 rfl) ?_
  refine Wl.q rfl (Qy.move rfl) ?_
  refine Wl.done ?_
  refine Ar.next ?_
  refine Wc.block ?_
  rotate_left
  · rw [hcheck] at hc1; exact absurd rfl hc1
  refine Wc.loop (ι := Nat × Tab × List Int × (Option Addr × Nat × List Value) × (Option Addr × Nat × List Value)) (fun (k, t, out, (a, c, junk), (b, d, j)) => ([(25, .int .i64 (k : Int)), (7, .slice b out.length d), (24, Go.Value.int Go.IntKind.i64 (↑(List.length (Go.Proofs.Ytfleehgbpgmcnaa.PV.code p)) : Int)), (23, Go.Value.slice ac (List.length (Go.Proofs.Ytfleehgbpgmcnaa.PV.code p)) cc), (6, Go.Value.pointer (Option.some (Go.Addr.mk bt1 0 Option.none))), (3, Go.Value.int Go.IntKind.i64 0), (2, Go.Value.slice Option.none 0 0)], [(2, some bt1, .cells #[.slice a t.held.length c, .map (some bk1), .map (some bf1), .int .i64 t.next] 86), (3, a.map (·.block), Row 3 t.held junk), (4, some bk1, mapObj t.known), (5, some bf1, mapObj t.first), (0, b.map (·.block), Row 3 out j), (1, Option.some b1, Go.Obj.cells #[Go.Value.int Go.IntKind.i64 (Go.Proofs.Ytfleehgbpgmcnaa.PV.ins p), Go.Value.int Go.IntKind.i64 (Go.Proofs.Ytfleehgbpgmcnaa.PV.regs p), Go.Value.slice ac (List.length (Go.Proofs.Ytfleehgbpgmcnaa.PV.code p)) cc, Go.Value.slice ao (List.length (Go.Proofs.Ytfleehgbpgmcnaa.PV.outs p)) co] 25)])) (fun (k, t, out, (a, c, junk), (b, d, j)) => k ≤ p.code.length ∧ ValOk p k t ∧ out = valsTo p k ∧ OwnA a c t.held junk ∧ OwnA b d out j) (fun (k, t, out, (a, c, junk), (b, d, j)) => p.code.length - k) ((0, ⟨start p, [], [], p.ins + 1⟩, [], (ta1, tc1, tj1), (none, 0, []))) (⟨Nat.zero_le _, ValOk.start ⟨r1, r2⟩, rfl, hto1, OwnA.nil⟩) ⟨rfl, rfl, rfl, rfl, rfl, rfl, rfl, trivial⟩ ⟨rfl, rfl, rfl, rfl, rfl, rfl, trivial⟩ (fun ⟨k, t, out, (a, c, junk), (b, d, j)⟩ => fun (hk : k ≤ p.code.length ∧ ValOk p k t ∧ out = valsTo p k ∧ OwnA a c t.held junk ∧ OwnA b d out j) => ?_)
  obtain ⟨hk1, hv, hout, hoa, hob⟩ := hk
  have hlen := hv.len
  have hkf := hv.kf
  have hn0 := hv.n0
  have hn1 := hv.n1
  have hol : out.length = k := by rw [hout, vals_len]
  rcases Nat.lt_or_ge k p.code.length with hlt | hge
  · have hm : mayOk (p.code[((k : Nat) : Int).toNat]?.getD default) t.held.length = true := by
      rw [hlen]; refine r8 _ ?_
      rw [Int.toNat_natCast, List.getElem?_eq_getElem hlt]; simp
    have hrh := reckon_held t k (p.code[((k : Nat) : Int).toNat]?.getD default)
    have hra : OwnA a c (reckonP t k (p.code[((k : Nat) : Int).toNat]?.getD default)).2.held junk := by rw [hrh]; exact hoa
    have hrl : (reckonP t k (p.code[((k : Nat) : Int).toNat]?.getD default)).2.held.length = t.held.length := by rw [hrh]
    have hto : 0 ≤ (p.code[((k : Nat) : Int).toNat]?.getD default).to ∧ (p.code[((k : Nat) : Int).toNat]?.getD default).to < (reckonP t k (p.code[((k : Nat) : Int).toNat]?.getD default)).2.held.length := by
      rw [mayOk_iff] at hm; rw [hrl]; exact ⟨hm.1.2.2.1, hm.1.2.2.2.1⟩
    refine Wc.seq ?_
    refine Wc.region rfl ?_
    refine Wl.q rfl (Qy.lss rfl rfl) ?_
    refine Wl.done ?_
    refine Ar.next ?_
    refine Wc.seq ?_
    refine Wc.condP rfl (by first | assumption | omega) ?_
    refine Wc.skip ?_
    refine Ar.next ?_
    refine Wc.seq ?_
    refine Wc.block ?_
    refine Wc.seq ?_
    refine Wc.region rfl ?_
    refine Wl.q rfl (Qy.move rfl) ?_
    refine Wl.q rfl (Qy.at (α := Instr) T.sl22 rfl rfl (by assumption) (by omega)) ?_
    refine Wl.q rfl (Qy.loadsG T.agg34 rfl (Arr.elem (by assumption) (by omega)) rfl) ?_
    refine Wl.alloc 6 rfl T.zero34 (fun b2 => ?_)
    refine Wl.q rfl (Qy.assign rfl) ?_
    refine Wl.storeAll 6 T.size34 rfl rfl rfl rfl rfl rfl ?_
    refine Wl.done ?_
    refine Ar.next ?_
    refine Wc.seq ?_
    refine Wc.region rfl ?_
    refine Wl.q rfl (Qy.move rfl) ?_
    refine Wl.q rfl (Qy.move rfl) ?_
    refine Wl.q rfl (Qy.loadAll 6 T.agg34 rfl rfl rfl) ?_
    refine Wl.call 2 rfl T.fn55 rfl (c55 _ _ _ _ _ _ _ _ _ _ (by assumption) (by omega) (by assumption) (by assumption) (by omega)) (tags_of ⟨rfl, rfl, rfl, rfl, trivial⟩) (fun v2 G2 Ho2 hle2 hp => ?_)
    obtain ⟨rfl, rfl, rfl⟩ := hp
    refine Wl.q rfl (Qy.move rfl) ?_
    refine Wl.q rfl (Qy.extract rfl rfl) ?_
    refine Wl.q rfl (Qy.extract rfl rfl) ?_
    refine Wl.q rfl (Qy.assign rfl) ?_
    refine Wl.q rfl (Qy.assign rfl) ?_
    refine Wl.done ?_
    refine Ar.next ?_
    refine Wc.seq ?_
    refine Wc.draw [1, 0, 6, 5, 4, 3, 2] [(2, 8), (3, 8), (6, 8), (0, 8), (1, 8)] T.mixed rfl ?_
    refine Gm.q 0 [] (by kernel_rfl) rfl rfl (Qy.move rfl) ?_
    refine Gm.q 1 [] (by kernel_rfl) rfl rfl (Qy.nilCheck rfl) ?_
    refine Gm.q 2 [] (by kernel_rfl) rfl rfl (Qy.fieldAddr T.fa86_0 rfl) ?_
    refine Gm.q 3 [2] (by kernel_rfl) rfl rfl (Qy.load 2 T.one23 rfl rfl rfl) ?_
    refine Gm.q 4 [] (by kernel_rfl) rfl rfl (Qy.fieldAddr T.fa34_1 rfl) ?_
    refine Gm.q 5 [6] (by kernel_rfl) rfl rfl (Qy.load 6 T.one3 rfl rfl rfl) ?_
    refine Gm.q 6 [] (by kernel_rfl) rfl rfl (Qy.move rfl) ?_
    refine Gm.q 7 [] (by kernel_rfl) rfl rfl (Qy.indexAddrO (α := Int) T.sl23 rfl rfl (by assumption) (by omega)) ?_
    refine Gm.one 8 ⟨rfl, rfl, rfl, rfl, rfl, rfl, rfl, trivial⟩ (by first | exact Imm.le_refl _ | assumption) (by kernel_rfl) rfl ?_
    refine Wl.setO (z := _) 3 T.size3 rfl rfl rfl (by assumption) (by omega) rfl (fun ho1 => ?_)
    refine Wl.on0 ?_
    refine Gm.doneA (by kernel_rfl) ⟨rfl, rfl, trivial⟩ (by first | exact Imm.le_refl _ | assumption) ?_
    refine Ar.next ?_
    refine Wc.region rfl ?_
    refine Wl.q rfl (Qy.move rfl) ?_
    refine Wl.q rfl (Qy.move rfl) ?_
    refine Wl.lit (α := Int) 7 [(Prod.fst (Prod.fst (Go.Proofs.Ytfleehgbpgmcnaa.reckonP t (↑k : Int) (Option.getD (Go.Proofs.Ytfleehgbpgmcnaa.PV.code p)[Int.toNat (↑k : Int)]? Inhabited.default))))] rfl T.sl23 T.el3 rfl rfl rfl rfl rfl (fun b3 => ?_)
    refine Wl.append (α := Int) 0 rfl T.sl23 T.el3 rfl rfl rfl (by first | assumption | exact OwnA.nil | exact OwnA.made (by simp)) (Src.row 7 rfl) (by first | omega | (simp only [List.length_append, List.length_cons, List.length_nil, maxLen]; omega)) (by first | omega | (simp only [List.length_append, List.length_cons, List.length_nil, maxLen]; omega)) (fun a2 c2 junk2 ho2 => ?_)
    refine Wl.q rfl (Qy.assign rfl) ?_
    refine Wl.done ?_
    refine Ar.outNormal ?_
    refine Ar.next ?_
    refine Wc.region rfl ?_
    refine Wl.q rfl (Qy.add rfl rfl (by omega)) ?_
    refine Wl.q rfl (Qy.move rfl) ?_
    refine Wl.done ?_
    generalize hI : p.code[((k : Nat) : Int).toNat]?.getD default = I at *
    refine Ar.reH 2 (.cells #[.slice a ((reckonP t k I).2.held.set I.to.toNat (reckonP t k I).1.1).length c, .map (some bk1), .map (some bf1), .int .i64 (reckonP t k I).2.next] 86) rfl (by rw [List.length_set]) ?_
    refine Ar.again ((k + 1, valStep t k I, _, (a, c, junk), (a2, c2, junk2))) ?_ ?_ rfl ⟨rfl, rfl, rfl, rfl, rfl, rfl, rfl, trivial⟩ ⟨rfl, rfl, rfl, rfl, rfl, rfl, trivial⟩
    · refine ⟨by omega, ?_, ?_, ho1, ho2⟩
      · have := hv.step
        rw [hI] at this; exact this
      · rw [valsTo_step, hout]
        show _ = valsTo p k ++ [(reckonP (valTo p k) k (p.code[((k : Nat) : Int).toNat]?.getD default)).1.1]
        rw [hI, hv.eq]
    · show p.code.length - (k + 1) < p.code.length - k
      omega
  · refine Wc.seq ?_
    refine Wc.region rfl ?_
    refine Wl.q rfl (Qy.lss rfl rfl) ?_
    refine Wl.done ?_
    refine Ar.next ?_
    refine Wc.seq ?_
    refine Wc.condN rfl (by first | assumption | omega) ?_
    refine Wc.exit ?_
    refine Ar.passExit ?_
    refine Ar.passExit ?_
    refine Ar.here ?_
    refine Ar.next ?_
    refine Wc.seq ?_
    refine Wc.region rfl ?_
    refine Wl.q rfl (Qy.move rfl) ?_
    refine Wl.q rfl (Qy.assign rfl) ?_
    refine Wl.q rfl (Qy.assign rfl) ?_
    refine Wl.done ?_
    refine Ar.next ?_
    refine Wc.ret ?_
    refine Ar.out2 (.inr rfl) (Ho := Hp.only _ [0]) rfl (.tmp rfl) (.tmp rfl) (Hp.sub_only _ _) ?_
    have hk : k = p.code.length := by omega
    subst hk
    subst hout
    exact ⟨b, d, j, rfl, hob, rfl, rfl⟩
/-- the iterator: a function with the program in a block of its own, which stays -/
theorem c24 (G : Imm) (p : PV) (ac ao : Option Addr) (cc co : Nat) :
    Does Try.prog 24 [.agg #[.int .i64 p.ins, .int .i64 p.regs, .slice ac p.code.length cc, .slice ao p.outs.length co]] G [] (fun v G' Ho =>
      ∃ b, v = .func (.func 64) #[] #[.pointer (some ⟨b, 0, none⟩)] ∧ Ho = [] ∧ G' b = some (.cells #[.int .i64 p.ins, .int .i64 p.regs, .slice ac p.code.length cc, .slice ao p.outs.length co] 25)) := by
  refine Does.enter Try.func24 rfl Try.ntmps24 rfl (fun w => ?_)
  refine Wc.seq ?_
  refine Wc.region rfl ?_
  refine Wl.box 0 rfl rfl rfl (fun b1 => ?_)
  refine Wl.q rfl (Qy.assign rfl) ?_
  refine Wl.done ?_
  refine Ar.next ?_
  refine Wc.seq ?_
  refine Wc.region rfl ?_
  refine Wl.q rfl (Qy.makeFunc rfl rfl) ?_
  refine Wl.q rfl (Qy.assign rfl) ?_
  refine Wl.done ?_
  refine Ar.next ?_
  refine Wc.ret ?_
  refine Ar.freeze 0 rfl (fun G' hle hb => ?_)
  refine Ar.out1 (.inr rfl) (Ho := []) rfl (.tmp rfl) trivial ?_
  exact ⟨_, rfl, rfl, hb⟩
/-- the instructions that reckon what was reckoned, with the first that did -/
def twiceAt (p : PV) (k : Nat) : Option (Int × Int) := if 0 ≤ (valAt p k).2 ∧ (valAt p k).2 < (k : Int) then some ((k : Int), (valAt p k).2) else none
def twiceTo (p : PV) (k : Nat) : List (Int × Int) := (List.range k).filterMap (twiceAt p)
def twiceP (p : PV) : List (Int × Int) := if rightP p then twiceTo p p.code.length else []
def enc2 (x : Int × Int) : List Value := [.int .i64 x.1, .int .i64 x.2]
theorem twiceTo_step (p : PV) (k : Nat) : twiceTo p (k + 1) = twiceTo p k ++ (twiceAt p k).toList := by
  unfold twiceTo
  rw [List.range_succ, List.filterMap_append]
  cases h : twiceAt p k <;> simp [h]
theorem twiceTo_get (p : PV) {k n : Nat} (hk : k < n) {y : Int × Int} (h : twiceAt p k = some y) : (twiceTo p n)[(twiceTo p k).length]? = some y := by
  induction n with
  | zero => omega
  | succ n ih =>
    rw [twiceTo_step]
    rcases Nat.lt_or_ge k n with h1 | h1
    · have := ih h1
      rw [List.getElem?_append_left (List.getElem?_eq_some_iff.1 this).1]; exact this
    · have : k = n := by omega
      subst this
      rw [List.getElem?_append_right (Nat.le_refl _), h]; simp
theorem c64R (G : Imm) (p : PV) (ac ao : Option Addr) (cc co : Nat) (b : Nat) (hc : Arr G ac p.code) (ho : Arr G ao p.outs) (h1 : p.code.length ≤ 1099511627776) (h2 : p.outs.length ≤ 1099511627776)
    (hb : G b = some (.cells #[.int .i64 p.ins, .int .i64 p.regs, .slice ac p.code.length cc, .slice ao p.outs.length co] 25)) (hR : rightP p = true) :
    IterDoes Try.prog 64 [.pointer (some ⟨b, 0, none⟩)] G enc2 (twiceP p) := by
  intro ι J inv stop l i0 hi0 hY
  obtain ⟨r1, r2, r3, r4, r5, r6, r7, r8⟩ := right_facts hR
  have hcheck : (checkP p).2 = false := by simpa [rightP] using hR
  have hrow : G.row b 0 [.int .i64 p.ins, .int .i64 p.regs, .slice ac p.code.length cc, .slice ao p.outs.length co] := by
    intro i v hi; simp only [Imm.cell, hb, Nat.zero_add]; simpa using hi
  have hcode : G.cell b 2 = some (.slice ac p.code.length cc) := by simp [Imm.cell, hb]
  refine Does.enter Try.func64 rfl Try.ntmps64 rfl (fun w => ?_)
  refine Wc.lift 1000 ?_
  refine Wc.seq ?_
  refine Wc.seq ?_
  refine Wc.region rfl ?_
  refine Wl.q rfl (Qy.loadsG T.agg25 rfl (by assumption) rfl) ?_
  refine Wl.call0 rfl T.fn53 rfl (c53 _ _ _ _ _ _ (by assumption) (by assumption) (by omega) (by omega)) ?_
  refine Wl.q rfl (Qy.move rfl) ?_
  refine Wl.q rfl (Qy.extract rfl rfl) ?_
  refine Wl.q rfl (Qy.extract rfl rfl) ?_
  refine Wl.q rfl (Qy.assign rfl) ?_
  refine Wl.q rfl (Qy.assign rfl) ?_
  refine Wl.done ?_
  refine Ar.next ?_
  refine Wc.seq ?_
  refine Wc.region rfl ?_
  refine Wl.q rfl (Qy.move rfl) ?_
  refine Wl.q rfl (Qy.neq rfl rfl) ?_
  refine Wl.done ?_
  refine Ar.next ?_
  refine Wc.cond rfl (fun hc1 => ?_) (fun hc1 => ?_)
  refine Wc.ret ?_
  refine Ar.passRet ?_
  rotate_left
  refine Wc.skip ?_
  refine Ar.next ?_
  refine Wc.seq ?_
  refine Wc.region rfl ?_
  refine Wl.q rfl (Qy.loadsG T.agg25 rfl (by assumption) rfl) ?_
  refine Wl.call 0 rfl T.fn54 rfl (c54 _ _ _ _ _ _ (by omega)) (tags_of trivial) (fun v1 G1 Ho1 hle1 hp => ?_)
  obtain ⟨bt1, bk1, bf1, ta1, tc1, tj1, rfl, hto1, rfl, rfl⟩ := hp
  refine Wl.q rfl (Qy.assign rfl) ?_
  refine Wl.done ?_
  refine Ar.next ?_
  refine Wc.seq ?_
  refine Wc.region rfl ?_
  refine Wl.q rfl (Qy.fieldAddr T.fa25_2 rfl) ?_
  refine Wl.q rfl (Qy.loadG T.one22 rfl (by assumption)) ?_
  refine Wl.q rfl (Qy.len T.sl22 rfl) ?_
  refine Wl.q rfl (Qy.move rfl) ?_
  refine Wl.done ?_
  refine Ar.next ?_
  refine Wc.block ?_
  rotate_left
  · rw [hcheck] at hc1; exact absurd rfl hc1
  have htw : twiceP p = twiceTo p p.code.length := if_pos hR
  rw [htw] at hY
  refine Wc.loopT (ι := Nat × Tab × (Option Addr × Nat × List Value) × ι) 1000 (fun (k, t, (a, c, junk), s) => ([(22, .int .i64 (k : Int)), (21, Go.Value.int Go.IntKind.i64 (↑(List.length (Go.Proofs.Ytfleehgbpgmcnaa.PV.code p)) : Int)), (20, Go.Value.slice ac (List.length (Go.Proofs.Ytfleehgbpgmcnaa.PV.code p)) cc), (5, Go.Value.pointer (Option.some (Go.Addr.mk bt1 0 Option.none))), (0, Go.Value.func (Go.Fn.yield l) #[] #[])], [(0, some bt1, .cells #[.slice a t.held.length c, .map (some bk1), .map (some bf1), .int .i64 t.next] 86), (1, a.map (·.block), Row 3 t.held junk), (2, some bk1, mapObj t.known), (3, some bf1, mapObj t.first)])) (fun (k, t, (a, c, junk), s) => J s) (fun (k, t, (a, c, junk), s) => k ≤ p.code.length ∧ ValOk p k t ∧ OwnA a c t.held junk ∧ inv (twiceTo p k).length s) (fun (k, t, (a, c, junk), s) => p.code.length - k) ((0, ⟨start p, [], [], p.ins + 1⟩, (ta1, tc1, tj1), i0)) (⟨Nat.zero_le _, ValOk.start ⟨r1, r2⟩, hto1, hi0⟩) ⟨rfl, rfl, rfl, rfl, rfl, trivial⟩ ⟨rfl, rfl, rfl, rfl, trivial⟩ (by repeat (first | exact Hp.tl_self _ _ | refine Hp.tl_cons rfl ?_)) (fun ⟨k, t, (a, c, junk), s⟩ => fun (hk : k ≤ p.code.length ∧ ValOk p k t ∧ OwnA a c t.held junk ∧ inv (twiceTo p k).length s) => ?_)
  obtain ⟨hk1, hv, hoa, hinv⟩ := hk
  have hlen := hv.len
  have hkf := hv.kf
  have hn0 := hv.n0
  have hn1 := hv.n1
  rcases Nat.lt_or_ge k p.code.length with hlt | hge
  · have hm : mayOk (p.code[((k : Nat) : Int).toNat]?.getD default) t.held.length = true := by
      rw [hlen]; refine r8 _ ?_
      rw [Int.toNat_natCast, List.getElem?_eq_getElem hlt]; simp
    have hrh := reckon_held t k (p.code[((k : Nat) : Int).toNat]?.getD default)
    have hra : OwnA a c (reckonP t k (p.code[((k : Nat) : Int).toNat]?.getD default)).2.held junk := by rw [hrh]; exact hoa
    have hrl : (reckonP t k (p.code[((k : Nat) : Int).toNat]?.getD default)).2.held.length = t.held.length := by rw [hrh]
    have hto : 0 ≤ (p.code[((k : Nat) : Int).toNat]?.getD default).to ∧ (p.code[((k : Nat) : Int).toNat]?.getD default).to < (reckonP t k (p.code[((k : Nat) : Int).toNat]?.getD default)).2.held.length := by
      rw [mayOk_iff] at hm; rw [hrl]; exact ⟨hm.1.2.2.1, hm.1.2.2.2.1⟩
    have hva : valAt p k = (reckonP t k (p.code[((k : Nat) : Int).toNat]?.getD default)).1 := by rw [hv.eq]; rfl
    by_cases hf : 0 ≤ (reckonP t k (p.code[((k : Nat) : Int).toNat]?.getD default)).1.2 ∧ (reckonP t k (p.code[((k : Nat) : Int).toNat]?.getD default)).1.2 < (k : Int)
    · have hat : twiceAt p k = some ((k : Int), (reckonP t k (p.code[((k : Nat) : Int).toNat]?.getD default)).1.2) := by unfold twiceAt; rw [hva, if_pos hf]
      refine Wc.seq ?_
      refine Wc.region rfl ?_
      refine Wl.q rfl (Qy.lss rfl rfl) ?_
      refine Wl.done ?_
      refine Ar.next ?_
      refine Wc.seq ?_
      refine Wc.condP rfl (by first | assumption | omega) ?_
      refine Wc.skip ?_
      refine Ar.next ?_
      refine Wc.seq ?_
      refine Wc.block ?_
      refine Wc.seq ?_
      refine Wc.region rfl ?_
      refine Wl.q rfl (Qy.move rfl) ?_
      refine Wl.q rfl (Qy.at (α := Instr) T.sl22 rfl rfl (by assumption) (by omega)) ?_
      refine Wl.q rfl (Qy.loadsG T.agg34 rfl (Arr.elem (by assumption) (by omega)) rfl) ?_
      refine Wl.alloc 4 rfl T.zero34 (fun b1 => ?_)
      refine Wl.q rfl (Qy.assign rfl) ?_
      refine Wl.storeAll 4 T.size34 rfl rfl rfl rfl rfl rfl ?_
      refine Wl.done ?_
      refine Ar.next ?_
      refine Wc.seq ?_
      refine Wc.region rfl ?_
      refine Wl.q rfl (Qy.move rfl) ?_
      refine Wl.q rfl (Qy.move rfl) ?_
      refine Wl.q rfl (Qy.loadAll 4 T.agg34 rfl rfl rfl) ?_
      refine Wl.call 0 rfl T.fn55 rfl (c55 _ _ _ _ _ _ _ _ _ _ (by assumption) (by omega) (by assumption) (by assumption) (by omega)) (tags_of ⟨rfl, rfl, rfl, rfl, trivial⟩) (fun v2 G2 Ho2 hle2 hp => ?_)
      obtain ⟨rfl, rfl, rfl⟩ := hp
      refine Wl.q rfl (Qy.move rfl) ?_
      refine Wl.q rfl (Qy.extract rfl rfl) ?_
      refine Wl.q rfl (Qy.extract rfl rfl) ?_
      refine Wl.q rfl (Qy.assign rfl) ?_
      refine Wl.q rfl (Qy.assign rfl) ?_
      refine Wl.done ?_
      refine Ar.next ?_
      refine Wc.seq ?_
      refine Wc.draw [4, 3, 2, 1, 0] [(0, 8), (1, 8), (4, 8)] T.mixed rfl ?_
      refine Gm.q 0 [] (by kernel_rfl) rfl rfl (Qy.move rfl) ?_
      refine Gm.q 1 [] (by kernel_rfl) rfl rfl (Qy.nilCheck rfl) ?_
      refine Gm.q 2 [] (by kernel_rfl) rfl rfl (Qy.fieldAddr T.fa86_0 rfl) ?_
      refine Gm.q 3 [0] (by kernel_rfl) rfl rfl (Qy.load 0 T.one23 rfl rfl rfl) ?_
      refine Gm.q 4 [] (by kernel_rfl) rfl rfl (Qy.fieldAddr T.fa34_1 rfl) ?_
      refine Gm.q 5 [4] (by kernel_rfl) rfl rfl (Qy.load 4 T.one3 rfl rfl rfl) ?_
      refine Gm.q 6 [] (by kernel_rfl) rfl rfl (Qy.move rfl) ?_
      refine Gm.q 7 [] (by kernel_rfl) rfl rfl (Qy.indexAddrO (α := Int) T.sl23 rfl rfl (by assumption) (by omega)) ?_
      refine Gm.one 8 ⟨rfl, rfl, rfl, rfl, rfl, trivial⟩ (by first | exact Imm.le_refl _ | assumption) (by kernel_rfl) rfl ?_
      refine Wl.setO (z := _) 1 T.size3 rfl rfl rfl (by assumption) (by omega) rfl (fun ho1 => ?_)
      refine Wl.on0 ?_
      refine Gm.doneA (by kernel_rfl) ⟨rfl, rfl, trivial⟩ (by first | exact Imm.le_refl _ | assumption) ?_
      refine Ar.next ?_
      refine Wc.seq ?_
      refine Wc.region rfl ?_
      refine Wl.q rfl (Qy.move rfl) ?_
      refine Wl.q rfl (Qy.geq rfl rfl) ?_
      refine Wl.q rfl (Qy.move rfl) ?_
      refine Wl.yes 44 rfl (by first | assumption | omega) ?_
      refine Wl.want rfl rfl ?_
      refine Wl.q rfl (Qy.move rfl) ?_
      refine Wl.want rfl rfl ?_
      refine Wl.q rfl (Qy.move rfl) ?_
      refine Wl.want rfl rfl ?_
      refine Wl.q rfl (Qy.lss rfl rfl) ?_
      refine Wl.q rfl (Qy.pick rfl rfl) ?_
      refine Wl.q rfl (Qy.move rfl) ?_
      refine Wl.yes 49 rfl (by first | assumption | omega) ?_
      refine Wl.want rfl rfl ?_
      refine Wl.q rfl (Qy.move rfl) ?_
      refine Wl.want rfl rfl ?_
      refine Wl.q rfl (Qy.move rfl) ?_
      refine Wl.want rfl rfl ?_
      refine Wl.q rfl (Qy.move rfl) ?_
      refine Wl.want rfl rfl ?_
      refine Wl.yieldT (A := [(1, Option.map (fun x => Go.Addr.block x) a, Go.Sl.Row (α := Int) 3 (List.set (Go.Proofs.Ytfleehgbpgmcnaa.Tab.held (Prod.snd (Go.Proofs.Ytfleehgbpgmcnaa.reckonP t (↑k : Int) (Option.getD (Go.Proofs.Ytfleehgbpgmcnaa.PV.code p)[Int.toNat (↑k : Int)]? Inhabited.default)))) (Int.toNat (Go.Sl.Instr.to (Option.getD (Go.Proofs.Ytfleehgbpgmcnaa.PV.code p)[Int.toNat (↑k : Int)]? Inhabited.default))) (Prod.fst (Prod.fst (Go.Proofs.Ytfleehgbpgmcnaa.reckonP t (↑k : Int) (Option.getD (Go.Proofs.Ytfleehgbpgmcnaa.PV.code p)[Int.toNat (↑k : Int)]? Inhabited.default))))) (junk)), (0, Option.some bt1, Go.Obj.cells #[Go.Value.slice a (List.length (Go.Proofs.Ytfleehgbpgmcnaa.Tab.held (Prod.snd (Go.Proofs.Ytfleehgbpgmcnaa.reckonP t (↑k : Int) (Option.getD (Go.Proofs.Ytfleehgbpgmcnaa.PV.code p)[Int.toNat (↑k : Int)]? Inhabited.default))))) c, Go.Value.map (Option.some bk1), Go.Value.map (Option.some bf1), Go.Value.int Go.IntKind.i64 (Go.Proofs.Ytfleehgbpgmcnaa.Tab.next (Prod.snd (Go.Proofs.Ytfleehgbpgmcnaa.reckonP t (↑k : Int) (Option.getD (Go.Proofs.Ytfleehgbpgmcnaa.PV.code p)[Int.toNat (↑k : Int)]? Inhabited.default))))] 86), (2, Option.some bk1, Go.Sl.mapObj (κ := Go.Sl.K4) (Go.Proofs.Ytfleehgbpgmcnaa.Tab.known (Prod.snd (Go.Proofs.Ytfleehgbpgmcnaa.reckonP t (↑k : Int) (Option.getD (Go.Proofs.Ytfleehgbpgmcnaa.PV.code p)[Int.toNat (↑k : Int)]? Inhabited.default))))), (3, Option.some bf1, Go.Sl.mapObj (κ := Go.Sl.K4) (Go.Proofs.Ytfleehgbpgmcnaa.Tab.first (Prod.snd (Go.Proofs.Ytfleehgbpgmcnaa.reckonP t (↑k : Int) (Option.getD (Go.Proofs.Ytfleehgbpgmcnaa.PV.code p)[Int.toNat (↑k : Int)]? Inhabited.default))))), (4, Option.some b1, Go.Obj.cells (List.toArray (Go.Sl.Cells.enc (Option.getD (Go.Proofs.Ytfleehgbpgmcnaa.PV.code p)[Int.toNat (↑k : Int)]? Inhabited.default))) 34)]) 1000 rfl rfl rfl ⟨rfl, rfl, rfl, rfl, rfl, trivial⟩ (by repeat (first | exact Hp.tl_self _ _ | refine Hp.tl_cons rfl ?_)) rfl (hY (twiceTo p k).length _ s (twiceTo_get p hlt hat) hinv) (fun vy Gy Hy hly hp => ?_)
      obtain ⟨rfl, s', rfl, hp⟩ := hp
      rcases hp with ⟨rfl, hinv'⟩ | ⟨rfl, hst⟩
      · refine Wl.want rfl rfl ?_
        refine Wl.q rfl (Qy.not rfl) ?_
        refine Wl.q rfl (Qy.pick rfl rfl) ?_
        refine Wl.done ?_
        refine Ar.next ?_
        refine Wc.condF rfl ?_
        refine Wc.skip ?_
        refine Ar.outNormal ?_
        refine Ar.next ?_
        refine Wc.region rfl ?_
        refine Wl.q rfl (Qy.add rfl rfl (by omega)) ?_
        refine Wl.q rfl (Qy.move rfl) ?_
        refine Wl.done ?_
        generalize hI : p.code[((k : Nat) : Int).toNat]?.getD default = I at *
        refine Ar.reH 0 (.cells #[.slice a ((reckonP t k I).2.held.set I.to.toNat (reckonP t k I).1.1).length c, .map (some bk1), .map (some bf1), .int .i64 (reckonP t k I).2.next] 86) rfl (by rw [List.length_set]) ?_
        refine Ar.againT ((k + 1, valStep t k I, (a, c, junk), s')) ?_ ?_ ⟨rfl, rfl, rfl, rfl, rfl, trivial⟩ ⟨rfl, rfl, rfl, rfl, trivial⟩ (by repeat (first | exact Hp.tl_self _ _ | refine Hp.tl_cons rfl ?_))
        · refine ⟨by omega, ?_, ho1, ?_⟩
          · have := hv.step
            rw [hI] at this; exact this
          · rw [twiceTo_step, hat]
            simpa using hinv'
        · show p.code.length - (k + 1) < p.code.length - k
          omega
      · refine Wl.want rfl rfl ?_
        refine Wl.q rfl (Qy.not rfl) ?_
        refine Wl.q rfl (Qy.pick rfl rfl) ?_
        refine Wl.done ?_
        refine Ar.next ?_
        refine Wc.condT rfl ?_
        refine Wc.ret ?_
        refine Ar.outRet ?_
        refine Ar.passRet ?_
        refine Ar.passRet ?_
        refine Ar.outRet ?_
        refine Ar.outT (k := 1000) (.inr rfl) rfl (by repeat (first | exact Hp.tl_self _ _ | refine Hp.tl_cons rfl ?_)) ⟨rfl, s', rfl, .inr hst⟩
    · have hat : twiceAt p k = none := by unfold twiceAt; rw [hva, if_neg hf]
      refine Wc.seq ?_
      refine Wc.region rfl ?_
      refine Wl.q rfl (Qy.lss rfl rfl) ?_
      refine Wl.done ?_
      refine Ar.next ?_
      refine Wc.seq ?_
      refine Wc.condP rfl (by first | assumption | omega) ?_
      refine Wc.skip ?_
      refine Ar.next ?_
      refine Wc.seq ?_
      refine Wc.block ?_
      refine Wc.seq ?_
      refine Wc.region rfl ?_
      refine Wl.q rfl (Qy.move rfl) ?_
      refine Wl.q rfl (Qy.at (α := Instr) T.sl22 rfl rfl (by assumption) (by omega)) ?_
      refine Wl.q rfl (Qy.loadsG T.agg34 rfl (Arr.elem (by assumption) (by omega)) rfl) ?_
      refine Wl.alloc 4 rfl T.zero34 (fun b1 => ?_)
      refine Wl.q rfl (Qy.assign rfl) ?_
      refine Wl.storeAll 4 T.size34 rfl rfl rfl rfl rfl rfl ?_
      refine Wl.done ?_
      refine Ar.next ?_
      refine Wc.seq ?_
      refine Wc.region rfl ?_
      refine Wl.q rfl (Qy.move rfl) ?_
      refine Wl.q rfl (Qy.move rfl) ?_
      refine Wl.q rfl (Qy.loadAll 4 T.agg34 rfl rfl rfl) ?_
      refine Wl.call 0 rfl T.fn55 rfl (c55 _ _ _ _ _ _ _ _ _ _ (by assumption) (by omega) (by assumption) (by assumption) (by omega)) (tags_of ⟨rfl, rfl, rfl, rfl, trivial⟩) (fun v2 G2 Ho2 hle2 hp => ?_)
      obtain ⟨rfl, rfl, rfl⟩ := hp
      refine Wl.q rfl (Qy.move rfl) ?_
      refine Wl.q rfl (Qy.extract rfl rfl) ?_
      refine Wl.q rfl (Qy.extract rfl rfl) ?_
      refine Wl.q rfl (Qy.assign rfl) ?_
      refine Wl.q rfl (Qy.assign rfl) ?_
      refine Wl.done ?_
      refine Ar.next ?_
      refine Wc.seq ?_
      refine Wc.draw [4, 3, 2, 1, 0] [(0, 8), (1, 8), (4, 8)] T.mixed rfl ?_
      refine Gm.q 0 [] (by kernel_rfl) rfl rfl (Qy.move rfl) ?_
      refine Gm.q 1 [] (by kernel_rfl) rfl rfl (Qy.nilCheck rfl) ?_
      refine Gm.q 2 [] (by kernel_rfl) rfl rfl (Qy.fieldAddr T.fa86_0 rfl) ?_
      refine Gm.q 3 [0] (by kernel_rfl) rfl rfl (Qy.load 0 T.one23 rfl rfl rfl) ?_
      refine Gm.q 4 [] (by kernel_rfl) rfl rfl (Qy.fieldAddr T.fa34_1 rfl) ?_
      refine Gm.q 5 [4] (by kernel_rfl) rfl rfl (Qy.load 4 T.one3 rfl rfl rfl) ?_
      refine Gm.q 6 [] (by kernel_rfl) rfl rfl (Qy.move rfl) ?_
      refine Gm.q 7 [] (by kernel_rfl) rfl rfl (Qy.indexAddrO (α := Int) T.sl23 rfl rfl (by assumption) (by omega)) ?_
      refine Gm.one 8 ⟨rfl, rfl, rfl, rfl, rfl, trivial⟩ (by first | exact Imm.le_refl _ | assumption) (by kernel_rfl) rfl ?_
      refine Wl.setO (z := _) 1 T.size3 rfl rfl rfl (by assumption) (by omega) rfl (fun ho1 => ?_)
      refine Wl.on0 ?_
      refine Gm.doneA (by kernel_rfl) ⟨rfl, rfl, trivial⟩ (by first | exact Imm.le_refl _ | assumption) ?_
      refine Ar.next ?_
      refine Wc.seq ?_
      refine Wc.region rfl ?_
      refine Wl.q rfl (Qy.move rfl) ?_
      refine Wl.q rfl (Qy.geq rfl rfl) ?_
      refine Wl.q rfl (Qy.move rfl) ?_
      apply Wl.joinAnd 4 44 48 rfl
      intro hg1
      refine Wl.want rfl rfl ?_
      refine Wl.q rfl (Qy.move rfl) ?_
      refine Wl.want rfl rfl ?_
      refine Wl.q rfl (Qy.move rfl) ?_
      refine Wl.want rfl rfl ?_
      refine Wl.q rfl (Qy.lss rfl rfl) ?_
      refine Wl.q rfl (Qy.pick rfl rfl) ?_
      exact Wl.back 4 0 rfl rfl rfl rfl rfl
      intro hg1
      refine Wl.pass rfl rfl rfl ?_
      refine Wl.pass rfl rfl rfl ?_
      refine Wl.pass rfl rfl rfl ?_
      refine Wl.q rfl (Qy.pick rfl rfl) ?_
      exact Wl.back 4 0 rfl rfl rfl rfl rfl
      refine Wl.q rfl (Qy.move rfl) ?_
      refine Wl.no 49 rfl (by first | assumption | omega) ?_
      refine Wl.pass rfl rfl rfl ?_
      refine Wl.pass rfl rfl rfl ?_
      refine Wl.pass rfl rfl rfl ?_
      refine Wl.pass rfl rfl rfl ?_
      refine Wl.pass rfl rfl rfl ?_
      refine Wl.q rfl (Qy.pick rfl rfl) ?_
      refine Wl.done ?_
      refine Ar.next ?_
      refine Wc.condF rfl ?_
      refine Wc.skip ?_
      refine Ar.outNormal ?_
      refine Ar.next ?_
      refine Wc.region rfl ?_
      refine Wl.q rfl (Qy.add rfl rfl (by omega)) ?_
      refine Wl.q rfl (Qy.move rfl) ?_
      refine Wl.done ?_
      generalize hI : p.code[((k : Nat) : Int).toNat]?.getD default = I at *
      refine Ar.reH 0 (.cells #[.slice a ((reckonP t k I).2.held.set I.to.toNat (reckonP t k I).1.1).length c, .map (some bk1), .map (some bf1), .int .i64 (reckonP t k I).2.next] 86) rfl (by rw [List.length_set]) ?_
      refine Ar.againT ((k + 1, valStep t k I, (a, c, junk), s)) ?_ ?_ ⟨rfl, rfl, rfl, rfl, rfl, trivial⟩ ⟨rfl, rfl, rfl, rfl, trivial⟩ (by repeat (first | exact Hp.tl_self _ _ | refine Hp.tl_cons rfl ?_))
      · refine ⟨by omega, ?_, ho1, ?_⟩
        · have := hv.step
          rw [hI] at this; exact this
        · rw [twiceTo_step, hat]
          simpa using hinv
      · show p.code.length - (k + 1) < p.code.length - k
        omega
  · refine Wc.seq ?_
    refine Wc.region rfl ?_
    refine Wl.q rfl (Qy.lss rfl rfl) ?_
    refine Wl.done ?_
    refine Ar.next ?_
    refine Wc.seq ?_
    refine Wc.condN rfl (by first | assumption | omega) ?_
    refine Wc.exit ?_
    refine Ar.passExit ?_
    refine Ar.passExit ?_
    refine Ar.here ?_
    have hk : k = p.code.length := by omega
    subst hk
    rw [← htw] at hinv
    refine Ar.outT (k := 1000) (.inl rfl) rfl (by repeat (first | exact Hp.tl_self _ _ | refine Hp.tl_cons rfl ?_)) ⟨rfl, s, rfl, .inl hinv⟩
theorem c64W (G : Imm) (p : PV) (ac ao : Option Addr) (cc co : Nat) (b : Nat) (hc : Arr G ac p.code) (ho : Arr G ao p.outs) (h1 : p.code.length ≤ 1099511627776) (h2 : p.outs.length ≤ 1099511627776)
    (hb : G b = some (.cells #[.int .i64 p.ins, .int .i64 p.regs, .slice ac p.code.length cc, .slice ao p.outs.length co] 25)) (hR : ¬ rightP p = true) :
    IterDoes Try.prog 64 [.pointer (some ⟨b, 0, none⟩)] G enc2 (twiceP p) := by
  intro ι J inv stop l i0 hi0 hY
  have hcheck : (checkP p).2 = true := by simpa [rightP] using hR
  have hrow : G.row b 0 [.int .i64 p.ins, .int .i64 p.regs, .slice ac p.code.length cc, .slice ao p.outs.length co] := by
    intro i v hi; simp only [Imm.cell, hb, Nat.zero_add]; simpa using hi
  have htw : twiceP p = [] := if_neg hR
  refine Does.enter Try.func64 rfl Try.ntmps64 rfl (fun w => ?_)
  refine Wc.lift 1000 ?_
  refine Wc.seq ?_
  refine Wc.seq ?_
  refine Wc.region rfl ?_
  refine Wl.q rfl (Qy.loadsG T.agg25 rfl (by assumption) rfl) ?_
  refine Wl.call0 rfl T.fn53 rfl (c53 _ _ _ _ _ _ (by assumption) (by assumption) (by omega) (by omega)) ?_
  refine Wl.q rfl (Qy.move rfl) ?_
  refine Wl.q rfl (Qy.extract rfl rfl) ?_
  refine Wl.q rfl (Qy.extract rfl rfl) ?_
  refine Wl.q rfl (Qy.assign rfl) ?_
  refine Wl.q rfl (Qy.assign rfl) ?_
  refine Wl.done ?_
  refine Ar.next ?_
  refine Wc.seq ?_
  refine Wc.region rfl ?_
  refine Wl.q rfl (Qy.move rfl) ?_
  refine Wl.q rfl (Qy.neq rfl rfl) ?_
  refine Wl.done ?_
  refine Ar.next ?_
  refine Wc.cond rfl (fun hc1 => ?_) (fun hc1 => ?_)
  refine Wc.ret ?_
  refine Ar.passRet ?_
  rotate_left
  refine Wc.skip ?_
  refine Ar.next ?_
  refine Wc.seq ?_
  refine Wc.region rfl ?_
  refine Wl.q rfl (Qy.loadsG T.agg25 rfl (by assumption) rfl) ?_
  rotate_left
  · refine Ar.outT (k := 1000) (.inr rfl) rfl (by repeat (first | exact Hp.tl_self _ _ | refine Hp.tl_cons rfl ?_)) ⟨rfl, i0, rfl, .inl (by rw [htw]; exact hi0)⟩
  · rw [hcheck] at hc1; exact absurd (by decide) hc1
theorem c64 (G : Imm) (p : PV) (ac ao : Option Addr) (cc co : Nat) (b : Nat) (hc : Arr G ac p.code) (ho : Arr G ao p.outs) (h1 : p.code.length ≤ 1099511627776) (h2 : p.outs.length ≤ 1099511627776)
    (hb : G b = some (.cells #[.int .i64 p.ins, .int .i64 p.regs, .slice ac p.code.length cc, .slice ao p.outs.length co] 25)) : IterDoes Try.prog 64 [.pointer (some ⟨b, 0, none⟩)] G enc2 (twiceP p) := by
  by_cases hR : rightP p = true
  · exact c64R G p ac ao cc co b hc ho h1 h2 hb hR
  · exact c64W G p ac ao cc co b hc ho h1 h2 hb hR
end Go.Proofs.Ytfleehgbpgmcnaa
