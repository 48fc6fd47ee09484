import Derived.Test.YtfleehgbpgmcnaaSlN
import Derived.Test.YtfleehgbpgmcnaaAj
namespace Go.Proofs.Ytfleehgbpgmcnaa
open Go Go.Sl
set_option maxRecDepth 100000

set_option maxHeartbeats 2000000
attribute [local irreducible] Yes
def toR2 (x : Int × Int) : R2 := ⟨x.1, x.2⟩
/-- the reference's table: what is known behind k instructions -/
structure RefOk (p : PV) (k : Nat) (held : List Int) (ks : List R6) (nx : Int) : Prop where
  eq : tabOf held ks nx = valTo p k
  len : (held.length : Int) = p.regs
  kl : ks.length ≤ k
  n0 : 0 ≤ nx
  n1 : nx ≤ p.ins + 1 + k
theorem RefOk.start {p : PV} (h : 1 ≤ p.ins ∧ p.ins ≤ p.regs) : RefOk p 0 (Proofs.Ytfleehgbpgmcnaa.start p) [] (p.ins + 1) :=
  ⟨rfl, by simp [Proofs.Ytfleehgbpgmcnaa.start]; omega, Nat.le_refl _, by omega, by omega⟩
theorem RefOk.step {p : PV} {k : Nat} {held : List Int} {ks ks' : List R6} {nx : Int} (h : RefOk p k held ks nx) {I : Sl.Instr} (hI : p.code[((k : Nat) : Int).toNat]?.getD default = I)
    (ht : tabOf held ks' (reckonP (tabOf held ks nx) k I).2.next = (reckonP (tabOf held ks nx) k I).2) (hk : ks'.length ≤ ks.length + 1) :
    RefOk p (k + 1) (held.set I.to.toNat (reckonP (tabOf held ks nx) k I).1.1) ks' (reckonP (tabOf held ks nx) k I).2.next := by
  refine ⟨?_, by rw [List.length_set]; exact h.len, by have := h.kl; omega, (reckon_next (t := tabOf held ks nx) h.n0 k I).1, ?_⟩
  · show _ = valStep (valTo p k) k (p.code[((k : Nat) : Int).toNat]?.getD default)
    rw [hI, ← h.eq]
    unfold valStep
    rw [← ht]
    rfl
  · have h1 : (reckonP (tabOf held ks nx) k I).2.next ≤ nx + 1 := (reckon_next (t := tabOf held ks nx) h.n0 k I).2
    have h2 := h.n1
    show _ ≤ p.ins + 1 + ((k + 1 : Nat) : Int)
    omega
theorem c5R (G : Imm) (p : PV) (stop : Int) (ac ao : Option Addr) (cc co : Nat) (hc : Arr G ac p.code) (ho : Arr G ao p.outs) (h1 : p.code.length ≤ 1099511627776) (h2 : p.outs.length ≤ 1099511627776) (hR : rightP p = true) :
    Does Try.prog 5 [.agg #[.int .i64 p.ins, .int .i64 p.regs, .slice ac p.code.length cc, .slice ao p.outs.length co], .int .i64 stop] G [] (fun v G' Ho => v = .bool true) := by
  obtain ⟨r1, r2, r3, r4, r5, r6, r7, r8⟩ := right_facts hR
  refine Does.enterM Try.func5 rfl Try.ntmps5 rfl (fun w => ?_)
  have hvl : (valsP p).length = p.code.length := vals_len p _
  refine Wc.seq ?_
  refine Wc.region rfl ?_
  refine Wl.box 0 rfl rfl rfl (fun b1 => ?_)
  refine Wl.box 1 rfl rfl rfl (fun b2 => ?_)
  refine Wl.alloc 2 rfl T.zero4 (fun b3 => ?_)
  refine Wl.done ?_
  refine Ar.next ?_
  refine Wc.seq ?_
  refine Wc.seq ?_
  refine Wc.region rfl ?_
  refine Wl.call0 rfl T.fn11 rfl (c11 _) ?_
  refine Wl.q rfl (Qy.notD rfl) ?_
  refine Wl.done ?_
  refine Ar.next ?_
  refine Wc.cond rfl (fun hc1 => ?_) (fun hc1 => ?_)
  refine Wc.seq ?_
  refine Wc.region rfl ?_
  refine Wl.store 2 T.one4 rfl rfl rfl rfl rfl ?_
  refine Wl.done ?_
  refine Ar.next ?_
  refine Wc.ret ?_
  refine Ar.passRet ?_
  refine Ar.outOf (.inr rfl) ?_
  refine Ar.out1 (.inr rfl) (Ho := Hp.only _ []) rfl (.one 2 rfl rfl T.one4 rfl) (Hp.sub_only _ _) ?_
  rotate_left
  refine Wc.skip ?_
  refine Ar.next ?_
  refine Wc.seq ?_
  refine Wc.seq ?_
  refine Wc.region rfl ?_
  refine Wl.q rfl (Qy.loadAll 0 T.agg25 rfl rfl rfl) ?_
  refine Wl.call0 rfl T.fn12 rfl (c12 _ _ _ _ _ _ (by omega) (by omega)) ?_
  refine Wl.done ?_
  refine Ar.next ?_
  refine Wc.cond rfl (fun hc2 => ?_) (fun hc2 => ?_)
  refine Wc.seq ?_
  refine Wc.region rfl ?_
  refine Wl.store 2 T.one4 rfl rfl rfl rfl rfl ?_
  refine Wl.done ?_
  refine Ar.next ?_
  refine Wc.ret ?_
  refine Ar.passRet ?_
  refine Ar.outOf (.inr rfl) ?_
  refine Ar.out1 (.inr rfl) (Ho := Hp.only _ []) rfl (.one 2 rfl rfl T.one4 rfl) (Hp.sub_only _ _) ?_
  rotate_left
  refine Wc.skip ?_
  refine Ar.next ?_
  refine Wc.seq ?_
  refine Wc.region rfl ?_
  refine Wl.q rfl (Qy.loadAll 0 T.agg25 rfl rfl rfl) ?_
  refine Wl.call 3 rfl T.fn23 rfl (c23R _ _ _ _ _ _ (by assumption) (by assumption) (by omega) (by omega) (by assumption)) (tags_of trivial) (fun v1 G1 Ho1 hle1 hp => ?_)
  obtain ⟨bv1, cv1, jv1, rfl, hov1, rfl, rfl⟩ := hp
  refine Wl.q rfl (Qy.move rfl) ?_
  refine Wl.q rfl (Qy.extract rfl rfl) ?_
  refine Wl.q rfl (Qy.extract rfl rfl) ?_
  refine Wl.q rfl (Qy.assign rfl) ?_
  refine Wl.q rfl (Qy.assign rfl) ?_
  refine Wl.done ?_
  refine Ar.next ?_
  refine Wc.seq ?_
  refine Wc.region rfl ?_
  refine Wl.q rfl (Qy.loadAll 0 T.agg25 rfl rfl rfl) ?_
  refine Wl.call 4 rfl T.fn24 rfl (c24 _ _ _ _ _ _) (tags_of trivial) (fun v2 G2 Ho2 hle2 hp => ?_)
  obtain ⟨bf2, rfl, rfl, hbf2⟩ := hp
  replace hc := hc.up hle2
  replace ho := ho.up hle2
  refine Wl.q rfl (Qy.assign rfl) ?_
  refine Wl.done ?_
  refine Ar.next ?_
  refine Wc.seq ?_
  refine Wc.region rfl ?_
  refine Wl.q rfl (Qy.loadAll 0 T.agg25 rfl rfl rfl) ?_
  refine Wl.call0 rfl T.fn15 rfl (c15 _ _ _ _ _ _ (by assumption) (by assumption) (by omega) (by omega)) ?_
  refine Wl.q rfl (Qy.assign rfl) ?_
  refine Wl.done ?_
  refine Ar.next ?_
  refine Wc.seq ?_
  refine Wc.seq ?_
  refine Wc.region rfl ?_
  refine Wl.q rfl (Qy.move rfl) ?_
  refine Wl.q rfl (Qy.eqlFuncNil (by kernel_rfl) rfl rfl) ?_
  refine Wl.q rfl (Qy.move rfl) ?_
  refine Wl.want rfl rfl ?_
  refine Wl.call0 rfl T.fn11 rfl (c11 _) ?_
  refine Wl.want rfl rfl ?_
  refine Wl.q rfl (Qy.notD rfl) ?_
  refine Wl.q rfl (Qy.pick rfl rfl) ?_
  refine Wl.done ?_
  refine Ar.next ?_
  refine Wc.condN rfl (by first | assumption | omega) ?_
  refine Wc.skip ?_
  refine Ar.next ?_
  refine Wc.seq ?_
  refine Wc.seq ?_
  refine Wc.region rfl ?_
  refine Wl.q rfl (Qy.move rfl) ?_
  refine Wl.q rfl (Qy.notD rfl) ?_
  refine Wl.done ?_
  refine Ar.next ?_
  refine Wc.cond rfl (fun hc3 => ?_) (fun hc3 => ?_)
  refine Wc.seq ?_
  refine Wc.seq ?_
  refine Wc.region rfl ?_
  refine Wl.q rfl (Qy.move rfl) ?_
  refine Wl.done ?_
  refine Ar.next ?_
  refine Wc.block ?_
  rotate_left
  refine Wc.skip ?_
  refine Ar.next ?_
  refine Wc.seq ?_
  refine Wc.seq ?_
  refine Wc.region rfl ?_
  refine Wl.q rfl (Qy.move rfl) ?_
  refine Wl.q rfl (Qy.len T.sl23 rfl) ?_
  refine Wl.q rfl (Qy.fieldAddr T.fa25_2 rfl) ?_
  refine Wl.q rfl (Qy.load 0 T.one22 rfl rfl rfl) ?_
  refine Wl.q rfl (Qy.len T.sl22 rfl) ?_
  refine Wl.q rfl (Qy.neq rfl rfl) ?_
  refine Wl.q rfl (Qy.move rfl) ?_
  refine Wl.no 55 rfl (by first | assumption | omega) ?_
  refine Wl.want rfl rfl ?_
  refine Wl.q rfl (Qy.move rfl) ?_
  refine Wl.want rfl rfl ?_
  refine Wl.q rfl (Qy.neq rfl rfl) ?_
  refine Wl.q rfl (Qy.pick rfl rfl) ?_
  refine Wl.done ?_
  refine Ar.next ?_
  refine Wc.condN rfl (by first | assumption | omega) ?_
  refine Wc.skip ?_
  refine Ar.next ?_
  refine Wc.seq ?_
  refine Wc.region rfl ?_
  refine Wl.q rfl (Qy.loadAll 0 T.agg25 rfl rfl rfl) ?_
  refine Wl.call 4 rfl T.fn25 rfl (c25 _ _ _ _ _ _ (by omega)) (tags_of trivial) (fun v3 G3 Ho3 hle3 hp => ?_)
  obtain ⟨bs3, ta3, tc3, tj3, rfl, hto3, rfl, rfl⟩ := hp
  refine Wl.q rfl (Qy.assign rfl) ?_
  refine Wl.done ?_
  refine Ar.next ?_
  refine Wc.seq ?_
  refine Wc.region rfl ?_
  refine Wl.alloc 7 rfl T.zero56 (fun b4 => ?_)
  refine Wl.done ?_
  refine Ar.next ?_
  refine Wc.seq ?_
  refine Wc.seq ?_
  refine Wc.region rfl ?_
  refine Wl.q rfl (Qy.assign rfl) ?_
  refine Wl.done ?_
  refine Ar.next ?_
  refine Wc.block ?_
  rotate_left
  · exact absurd yes hc1
  · rfl
  · exact absurd hR hc3
  refine Wc.nilRow 8 (Row 62 ([] : List R2) []) ?_
  refine Wc.loop (ι := Nat × (List Int × List R6 × Int) × List R2 × (Option Addr × Nat × List Value) × (Option Addr × Nat × List Value) × (Option Addr × Nat × List Value)) (fun (k, (held, ks, nx), tw, (a, c, junk), (b, d, j), (a', c', junk')) => ([(11, .int .i64 (k : Int)), (10, Go.Value.pointer (Option.some (Go.Addr.mk b4 0 Option.none))), (9, Go.Value.pointer (Option.some (Go.Addr.mk bs3 0 Option.none))), (7, Go.Value.func (Go.Fn.func 64) #[] #[Go.Value.pointer (Option.some (Go.Addr.mk bf2 0 Option.none))]), (5, Go.Value.slice bv1 (List.length (Go.Proofs.Ytfleehgbpgmcnaa.valsP p)) cv1), (4, Go.Value.pointer (Option.some (Go.Addr.mk b3 0 Option.none))), (3, Go.Value.pointer (Option.some (Go.Addr.mk b2 0 Option.none))), (2, Go.Value.pointer (Option.some (Go.Addr.mk b1 0 Option.none)))], [(4, some bs3, .cells #[.slice a held.length c, .slice b ks.length d, .int .i64 nx] 61), (5, a.map (·.block), Row 3 held junk), (6, b.map (·.block), Row 99 ks j), (7, some b4, .cells #[.slice a' tw.length c'] 56), (8, a'.map (·.block), Row 62 tw junk'), (3, Option.map (fun x => Go.Addr.block x) bv1, Go.Sl.Row (α := Int) 3 (Go.Proofs.Ytfleehgbpgmcnaa.valsP p) (jv1)), (2, Option.some b3, Go.Obj.cells #[Go.Value.bool Bool.false] 4), (1, Option.some b2, Go.Obj.cells #[Go.Value.int Go.IntKind.i64 stop] 3), (0, Option.some b1, Go.Obj.cells #[Go.Value.int Go.IntKind.i64 (Go.Proofs.Ytfleehgbpgmcnaa.PV.ins p), Go.Value.int Go.IntKind.i64 (Go.Proofs.Ytfleehgbpgmcnaa.PV.regs p), Go.Value.slice ac (List.length (Go.Proofs.Ytfleehgbpgmcnaa.PV.code p)) cc, Go.Value.slice ao (List.length (Go.Proofs.Ytfleehgbpgmcnaa.PV.outs p)) co] 25)])) (fun (k, (held, ks, nx), tw, (a, c, junk), (b, d, j), (a', c', junk')) => k ≤ p.code.length ∧ RefOk p k held ks nx ∧ OwnA a c held junk ∧ OwnA b d ks j ∧ OwnA a' c' tw junk' ∧ tw = (twiceTo p k).map toR2) (fun (k, (held, ks, nx), tw, (a, c, junk), (b, d, j), (a', c', junk')) => p.code.length - k) ((0, (start p, [], p.ins + 1), [], (ta3, tc3, tj3), (none, 0, []), (none, 0, []))) (⟨Nat.zero_le _, RefOk.start ⟨r1, r2⟩, hto3, OwnA.nil, OwnA.nil, rfl⟩) ⟨rfl, rfl, rfl, rfl, rfl, rfl, rfl, rfl, trivial⟩ ⟨rfl, rfl, rfl, rfl, rfl, rfl, rfl, rfl, rfl, trivial⟩ (fun ⟨k, (held, ks, nx), tw, (a, c, junk), (b, d, j), (a', c', junk')⟩ => fun (hk : k ≤ p.code.length ∧ RefOk p k held ks nx ∧ OwnA a c held junk ∧ OwnA b d ks j ∧ OwnA a' c' tw junk' ∧ tw = (twiceTo p k).map toR2) => ?_)
  obtain ⟨hk1, hv, hoa, hob, hoa', htw⟩ := hk
  have hlen := hv.len
  have hn0 := hv.n0
  have hn1 := hv.n1
  have hkl := hv.kl
  rcases Nat.lt_or_ge k p.code.length with hlt | hge
  · have hm : mayOk (p.code[((k : Nat) : Int).toNat]?.getD default) held.length = true := by
      rw [hlen]; refine r8 _ ?_
      rw [Int.toNat_natCast, List.getElem?_eq_getElem hlt]; simp
    have hto : 0 ≤ (p.code[((k : Nat) : Int).toNat]?.getD default).to ∧ (p.code[((k : Nat) : Int).toNat]?.getD default).to < held.length := by
      rw [mayOk_iff] at hm; exact ⟨hm.1.2.2.1, hm.1.2.2.2.1⟩
    have hva : valAt p k = (reckonP (tabOf held ks nx) k (p.code[((k : Nat) : Int).toNat]?.getD default)).1 := by rw [hv.eq]; rfl
    have hvk : (valsP p)[((k : Nat) : Int).toNat]?.getD default = (reckonP (tabOf held ks nx) k (p.code[((k : Nat) : Int).toNat]?.getD default)).1.1 := by
      rw [← hva]; simp [valsP, valsTo, hlt]
    have htl : tw.length ≤ k := by
      rw [htw, List.length_map]
      unfold twiceTo
      exact Nat.le_trans (List.length_filterMap_le _ _) (by simp)
    refine Wc.seq ?_
    refine Wc.seq ?_
    refine Wc.region rfl ?_
    refine Wl.q rfl (Qy.move rfl) ?_
    refine Wl.q rfl (Qy.fieldAddr T.fa25_2 rfl) ?_
    refine Wl.q rfl (Qy.load 0 T.one22 rfl rfl rfl) ?_
    refine Wl.q rfl (Qy.len T.sl22 rfl) ?_
    refine Wl.q rfl (Qy.lss rfl rfl) ?_
    refine Wl.done ?_
    refine Ar.next ?_
    refine Wc.condP rfl (by first | assumption | omega) ?_
    refine Wc.skip ?_
    refine Ar.next ?_
    refine Wc.seq ?_
    refine Wc.block ?_
    refine Wc.seq ?_
    refine Wc.region rfl ?_
    refine Wl.q rfl (Qy.move rfl) ?_
    refine Wl.q rfl (Qy.move rfl) ?_
    refine Wl.q rfl (Qy.fieldAddr T.fa25_2 rfl) ?_
    refine Wl.q rfl (Qy.load 0 T.one22 rfl rfl rfl) ?_
    refine Wl.q rfl (Qy.move rfl) ?_
    refine Wl.q rfl (Qy.at (α := Instr) T.sl22 rfl rfl (by assumption) (by omega)) ?_
    refine Wl.q rfl (Qy.loadsG T.agg34 rfl (Arr.elem (by assumption) (by omega)) rfl) ?_
    refine Wl.call 4 rfl T.fn26 rfl (c26 _ _ _ _ _ _ _ _ _ _ _ _ _ (by assumption) (by assumption) (by omega) (by omega) (by assumption) (by omega)) (tags_of ⟨rfl, rfl, rfl, trivial⟩) (fun v4 G4 Ho4 hle4 hp => ?_)
    obtain ⟨ks4, kb4, kd4, kj4, rfl, htab4, hko4, hkl4, rfl, rfl⟩ := hp
    refine Wl.q rfl (Qy.move rfl) ?_
    refine Wl.q rfl (Qy.extract rfl rfl) ?_
    refine Wl.q rfl (Qy.extract rfl rfl) ?_
    refine Wl.q rfl (Qy.assign rfl) ?_
    refine Wl.q rfl (Qy.assign rfl) ?_
    refine Wl.done ?_
    refine Ar.next ?_
    refine Wc.seq ?_
    refine Wc.draw [0, 1, 2, 3, 8, 7, 6, 5, 4] [(4, 12), (5, 12), (6, 12), (7, 12), (8, 12), (3, 12), (2, 12), (1, 12), (0, 12)] T.mixed rfl ?_
    refine Gm.q 0 [] (by kernel_rfl) rfl rfl (Qy.move rfl) ?_
    refine Gm.q 1 [] (by kernel_rfl) rfl rfl (Qy.nilCheck rfl) ?_
    refine Gm.q 2 [] (by kernel_rfl) rfl rfl (Qy.fieldAddr T.fa61_0 rfl) ?_
    refine Gm.q 3 [4] (by kernel_rfl) rfl rfl (Qy.load 4 T.one23 rfl rfl rfl) ?_
    refine Gm.q 4 [] (by kernel_rfl) rfl rfl (Qy.fieldAddr T.fa25_2 rfl) ?_
    refine Gm.q 5 [0] (by kernel_rfl) rfl rfl (Qy.load 0 T.one22 rfl rfl rfl) ?_
    refine Gm.q 6 [] (by kernel_rfl) rfl rfl (Qy.move rfl) ?_
    refine Gm.q 7 [] (by kernel_rfl) rfl rfl (Qy.at (α := Instr) T.sl22 rfl rfl (by assumption) (by omega)) ?_
    refine Gm.q 8 [] (by kernel_rfl) rfl rfl (Qy.fieldAddr T.fa34_1 rfl) ?_
    refine Gm.q 9 [1] (by kernel_rfl) rfl rfl (Qy.loadG T.one3 rfl (Arr.cell (by assumption) (by omega) 1 rfl rfl)) ?_
    refine Gm.q 10 [] (by kernel_rfl) rfl rfl (Qy.move rfl) ?_
    refine Gm.q 11 [] (by kernel_rfl) rfl rfl (Qy.indexAddrO (α := Int) T.sl23 rfl rfl (by assumption) (by omega)) ?_
    refine Gm.one 12 ⟨rfl, rfl, rfl, rfl, rfl, rfl, rfl, rfl, rfl, trivial⟩ (by first | exact Imm.le_refl _ | assumption) (by kernel_rfl) rfl ?_
    refine Wl.setO (z := _) 5 T.size3 rfl rfl rfl (by assumption) (by omega) rfl (fun ho1 => ?_)
    refine Wl.on0 ?_
    refine Gm.doneA (by kernel_rfl) trivial (by first | exact Imm.le_refl _ | assumption) ?_
    refine Ar.next ?_
    refine Wc.seq ?_
    refine Wc.seq ?_
    refine Wc.region rfl ?_
    refine Wl.q rfl (Qy.move rfl) ?_
    refine Wl.q rfl (Qy.move rfl) ?_
    refine Wl.q rfl (Qy.indexAddrO (α := Int) T.sl23 rfl rfl (by assumption) (by omega)) ?_
    refine Wl.q rfl (Qy.loadO 3 0 T.one3 rfl rfl (by assumption) (by omega) rfl rfl) ?_
    refine Wl.q rfl (Qy.move rfl) ?_
    refine Wl.q rfl (Qy.neq rfl rfl) ?_
    refine Wl.done ?_
    refine Ar.next ?_
    refine Wc.condN rfl (by first | assumption | omega) ?_
    refine Wc.skip ?_
    refine Ar.next ?_
    refine Wc.seq ?_
    refine Wc.region rfl ?_
    refine Wl.q rfl (Qy.move rfl) ?_
    refine Wl.q rfl (Qy.geq rfl rfl) ?_
    refine Wl.q rfl (Qy.move rfl) ?_
    apply Wl.joinAnd 4 99 103 rfl
    intro hg1
    refine Wl.want rfl rfl ?_
    refine Wl.q rfl (Qy.move rfl) ?_
    refine Wl.want rfl rfl ?_
    refine Wl.q rfl (Qy.move rfl) ?_
    refine Wl.want rfl rfl ?_
    refine Wl.q rfl (Qy.lss rfl rfl) ?_
    refine Wl.q rfl (Qy.pick rfl rfl) ?_
    exact Wl.back 4 0 rfl rfl rfl rfl rfl
    intro hg1
    refine Wl.pass rfl rfl rfl ?_
    refine Wl.pass rfl rfl rfl ?_
    refine Wl.pass rfl rfl rfl ?_
    refine Wl.q rfl (Qy.pick rfl rfl) ?_
    exact Wl.back 4 0 rfl rfl rfl rfl rfl
    refine Wl.done ?_
    refine Ar.next ?_
    refine Wc.cond rfl (fun hc4 => ?_) (fun hc4 => ?_)
    refine Wc.region rfl ?_
    refine Wl.q rfl (Qy.load 7 T.one56 rfl rfl rfl) ?_
    refine Wl.q rfl (Qy.move rfl) ?_
    refine Wl.q rfl (Qy.move rfl) ?_
    refine Wl.q rfl (Qy.buildA (cs := [_, _]) T.ar62 rfl rfl rfl) ?_
    refine Wl.lit (α := R2) 9 [⟨(↑k : Int), Prod.snd (Prod.fst (Go.Proofs.Ytfleehgbpgmcnaa.reckonP (Go.Proofs.Ytfleehgbpgmcnaa.tabOf held ks nx) (↑k : Int) (Option.getD (Go.Proofs.Ytfleehgbpgmcnaa.PV.code p)[Int.toNat (↑k : Int)]? Inhabited.default)))⟩] rfl T.sl56 T.el62 rfl rfl rfl rfl rfl (fun b5 => ?_)
    refine Wl.append (α := R2) 8 rfl T.sl56 T.el62 rfl rfl rfl (by first | assumption | exact OwnA.nil | exact OwnA.made (by simp)) (Src.row 9 rfl) (by first | omega | (simp only [List.length_append, List.length_cons, List.length_nil, maxLen]; omega)) (by first | omega | (simp only [List.length_append, List.length_cons, List.length_nil, maxLen]; omega)) (fun a2 c2 junk2 ho2 => ?_)
    refine Wl.store 7 T.one56 rfl rfl rfl rfl rfl ?_
    refine Wl.done ?_
    refine Ar.outNormal ?_
    refine Ar.next ?_
    refine Wc.region rfl ?_
    refine Wl.q rfl (Qy.move rfl) ?_
    refine Wl.q rfl (Qy.add rfl rfl (by omega)) ?_
    refine Wl.q rfl (Qy.assign rfl) ?_
    refine Wl.done ?_
    rotate_left
    refine Wc.skip ?_
    refine Ar.outNormal ?_
    refine Ar.next ?_
    refine Wc.region rfl ?_
    refine Wl.q rfl (Qy.move rfl) ?_
    refine Wl.q rfl (Qy.add rfl rfl (by omega)) ?_
    refine Wl.q rfl (Qy.assign rfl) ?_
    refine Wl.done ?_
    rotate_left
    all_goals generalize hI : p.code[((k : Nat) : Int).toNat]?.getD default = I at *
    · have hat : twiceAt p k = some ((k : Int), (reckonP (tabOf held ks nx) k I).1.2) := by unfold twiceAt; rw [hva, if_pos hc4]
      refine Ar.reH 4 (.cells #[.slice a (held.set I.to.toNat (reckonP (tabOf held ks nx) k I).1.1).length c, .slice kb4 ks4.length kd4, .int .i64 (reckonP (tabOf held ks nx) k I).2.next] 61) rfl (by rw [List.length_set]) ?_
      refine Ar.again ((k + 1, (held.set I.to.toNat (reckonP (tabOf held ks nx) k I).1.1, ks4, (reckonP (tabOf held ks nx) k I).2.next), _, (a, c, junk), (kb4, kd4, kj4), (a2, c2, junk2))) ?_ ?_ rfl ⟨rfl, rfl, rfl, rfl, rfl, rfl, rfl, rfl, trivial⟩ ⟨rfl, rfl, rfl, rfl, rfl, rfl, rfl, rfl, rfl, trivial⟩
      · refine ⟨by omega, hv.step hI htab4 hkl4, ho1, hko4, ho2, ?_⟩
        rw [twiceTo_step, hat, htw]; simp [toR2]
      · show p.code.length - (k + 1) < p.code.length - k
        omega
    · have hat : twiceAt p k = none := by unfold twiceAt; rw [hva, if_neg hc4]
      refine Ar.reH 4 (.cells #[.slice a (held.set I.to.toNat (reckonP (tabOf held ks nx) k I).1.1).length c, .slice kb4 ks4.length kd4, .int .i64 (reckonP (tabOf held ks nx) k I).2.next] 61) rfl (by rw [List.length_set]) ?_
      refine Ar.again ((k + 1, (held.set I.to.toNat (reckonP (tabOf held ks nx) k I).1.1, ks4, (reckonP (tabOf held ks nx) k I).2.next), _, (a, c, junk), (kb4, kd4, kj4), (a', c', junk'))) ?_ ?_ rfl ⟨rfl, rfl, rfl, rfl, rfl, rfl, rfl, rfl, trivial⟩ ⟨rfl, rfl, rfl, rfl, rfl, rfl, rfl, rfl, rfl, trivial⟩
      · refine ⟨by omega, hv.step hI htab4 hkl4, ho1, hko4, hoa', ?_⟩
        rw [twiceTo_step, hat, htw]; simp [toR2]
      · show p.code.length - (k + 1) < p.code.length - k
        omega
  · have hk : k = p.code.length := by omega
    subst hk
    have htw' : tw = (twiceP p).map toR2 := by rw [htw]; unfold twiceP; rw [if_pos hR]
    have htl : (twiceP p).length ≤ p.code.length := by
      unfold twiceP; rw [if_pos hR]; unfold twiceTo
      exact Nat.le_trans (List.length_filterMap_le _ _) (by simp)
    have htl2 : tw.length = (twiceP p).length := by rw [htw', List.length_map]
    clear htw hv hlen hn0 hn1 hkl hge hk1
    refine Wc.seq ?_
    refine Wc.seq ?_
    refine Wc.region rfl ?_
    refine Wl.q rfl (Qy.move rfl) ?_
    refine Wl.q rfl (Qy.fieldAddr T.fa25_2 rfl) ?_
    refine Wl.q rfl (Qy.load 0 T.one22 rfl rfl rfl) ?_
    refine Wl.q rfl (Qy.len T.sl22 rfl) ?_
    refine Wl.q rfl (Qy.lss rfl rfl) ?_
    refine Wl.done ?_
    refine Ar.next ?_
    refine Wc.condN rfl (by first | assumption | omega) ?_
    refine Wc.exit ?_
    refine Ar.passExit ?_
    refine Ar.passExit ?_
    refine Ar.here ?_
    refine Ar.next ?_
    refine Wc.seq ?_
    refine Wc.seq ?_
    refine Wc.region rfl ?_
    refine Wl.alloc 9 rfl T.zero3 (fun b5 => ?_)
    refine Wl.store 9 T.one3 rfl rfl rfl rfl rfl ?_
    refine Wl.done ?_
    refine Ar.next ?_
    refine Wc.block ?_
    refine Wc.loopU (La.round ?_)
    refine Wc.seq ?_
    refine Wc.seq ?_
    refine Wc.region rfl ?_
    refine Wl.q rfl (Qy.load 9 T.one3 rfl rfl rfl) ?_
    refine Wl.q rfl (Qy.lss rfl rfl) ?_
    refine Wl.done ?_
    refine Ar.next ?_
    refine Wc.condP rfl (by first | assumption | omega) ?_
    refine Wc.skip ?_
    refine Ar.next ?_
    refine Wc.seq ?_
    refine Wc.block ?_
    refine Wc.seq ?_
    refine Wc.region rfl ?_
    refine Wl.alloc 10 rfl T.zero3 (fun b6 => ?_)
    refine Wl.store 10 T.one3 rfl rfl rfl rfl rfl ?_
    refine Wl.done ?_
    refine Ar.next ?_
    refine Wc.seq ?_
    refine Wc.seq ?_
    refine Wc.region rfl ?_
    refine Wl.q rfl (Qy.move rfl) ?_
    refine Wl.done ?_
    refine Ar.next ?_
    refine Wc.block ?_
    refine Wc.rangeFunc (ι := Nat) 900 901 (fun i => [(10, some b6, .cells #[.int .i64 (i : Int)] 3), (9, Option.some b5, Go.Obj.cells (List.toArray (List.set [Go.Value.int Go.IntKind.i64 0] 0 (Go.Value.int Go.IntKind.i64 0))) 3), (4, Option.some bs3, Go.Obj.cells #[Go.Value.slice a (List.length held) c, Go.Value.slice b (List.length ks) d, Go.Value.int Go.IntKind.i64 nx] 61), (5, Option.map (fun x => Go.Addr.block x) a, Go.Sl.Row (α := Int) 3 (held) (junk)), (6, Option.map (fun x => Go.Addr.block x) b, Go.Sl.Row (α := Go.Sl.R6) 99 (ks) (j)), (7, Option.some b4, Go.Obj.cells #[Go.Value.slice a' (List.length tw) c'] 56), (8, Option.map (fun x => Go.Addr.block x) a', Go.Sl.Row (α := Go.Sl.R2) 62 (tw) (junk')), (3, Option.map (fun x => Go.Addr.block x) bv1, Go.Sl.Row (α := Int) 3 (Go.Proofs.Ytfleehgbpgmcnaa.valsP p) (jv1)), (2, Option.some b3, Go.Obj.cells #[Go.Value.bool Bool.false] 4), (1, Option.some b2, Go.Obj.cells #[Go.Value.int Go.IntKind.i64 stop] 3), (0, Option.some b1, Go.Obj.cells #[Go.Value.int Go.IntKind.i64 (Go.Proofs.Ytfleehgbpgmcnaa.PV.ins p), Go.Value.int Go.IntKind.i64 (Go.Proofs.Ytfleehgbpgmcnaa.PV.regs p), Go.Value.slice ac (List.length (Go.Proofs.Ytfleehgbpgmcnaa.PV.code p)) cc, Go.Value.slice ao (List.length (Go.Proofs.Ytfleehgbpgmcnaa.PV.outs p)) co] 25)]) (fun k i => i = k ∧ k ≤ (twiceP p).length) (fun c i => c = Code.exit 6 ∧ (i : Int) = stop) (0) rfl T.fn64 (fun _ => rfl) rfl (c64 _ p _ _ _ _ _ hc ho (by omega) (by omega) hbf2) (⟨rfl, Nat.zero_le _⟩) ⟨rfl, rfl, rfl, rfl, rfl, rfl, rfl, rfl, rfl, rfl, rfl, trivial⟩ ⟨rfl, rfl, rfl, fun _ => ⟨rfl, rfl⟩⟩ (fun k x i l dd q w0 hx hi => ?_) (fun i dd hi => ?_) (fun i dd c hi => ?_)
    · obtain ⟨rfl, hi2⟩ := hi
      have hil : i < (twiceP p).length := (List.getElem?_eq_some_iff.1 hx).1
      have hxi : tw[((i : Nat) : Int).toNat]?.getD default = toR2 x := by rw [htw', Int.toNat_natCast, List.getElem?_map, hx]; rfl
      refine Wc.seq ?_
      refine Wc.region rfl ?_
      refine Wl.q rfl (Qy.assign rfl) ?_
      refine Wl.done ?_
      refine Ar.next ?_
      refine Wc.region rfl ?_
      refine Wl.q rfl (Qy.assign rfl) ?_
      refine Wl.done ?_
      refine Ar.begin 900 rfl ?_
      refine Wc.block ?_
      refine Wc.seq ?_
      refine Wc.seq ?_
      refine Wc.region rfl ?_
      refine Wl.q rfl (Qy.load 10 T.one3 rfl rfl rfl) ?_
      refine Wl.q rfl (Qy.load 7 T.one56 rfl rfl rfl) ?_
      refine Wl.q rfl (Qy.len T.sl56 rfl) ?_
      refine Wl.q rfl (Qy.geq rfl rfl) ?_
      refine Wl.q rfl (Qy.move rfl) ?_
      refine Wl.no 121 rfl (by first | assumption | omega) ?_
      refine Wl.want rfl rfl ?_
      refine Wl.q rfl (Qy.move rfl) ?_
      refine Wl.want rfl rfl ?_
      refine Wl.q rfl (Qy.load 7 T.one56 rfl rfl rfl) ?_
      refine Wl.want rfl rfl ?_
      refine Wl.q rfl (Qy.load 10 T.one3 rfl rfl rfl) ?_
      refine Wl.want rfl rfl ?_
      refine Wl.q rfl (Qy.indexAddrO (α := R2) T.sl56 rfl rfl (by assumption) (by omega)) ?_
      refine Wl.want rfl rfl ?_
      refine Wl.q rfl (Qy.indexAddrA 0 T.ar62 rfl rfl rfl rfl) ?_
      refine Wl.want rfl rfl ?_
      refine Wl.q rfl (Qy.loadO 8 0 T.one3 rfl rfl (by assumption) (by omega) rfl rfl) ?_
      refine Wl.want rfl rfl ?_
      refine Wl.q rfl (Qy.neq rfl rfl) ?_
      refine Wl.q rfl (Qy.pick rfl rfl) ?_
      refine Wl.q rfl (Qy.move rfl) ?_
      apply Wl.joinOr 8 130 138 rfl
      intro hg1
      refine Wl.want rfl rfl ?_
      refine Wl.q rfl (Qy.move rfl) ?_
      refine Wl.want rfl rfl ?_
      refine Wl.q rfl (Qy.load 7 T.one56 rfl rfl rfl) ?_
      refine Wl.want rfl rfl ?_
      refine Wl.q rfl (Qy.load 10 T.one3 rfl rfl rfl) ?_
      refine Wl.want rfl rfl ?_
      refine Wl.q rfl (Qy.indexAddrO (α := R2) T.sl56 rfl rfl (by assumption) (by omega)) ?_
      refine Wl.want rfl rfl ?_
      refine Wl.q rfl (Qy.indexAddrA 1 T.ar62 rfl rfl rfl rfl) ?_
      refine Wl.want rfl rfl ?_
      refine Wl.q rfl (Qy.loadO 8 1 T.one3 rfl rfl (by assumption) (by omega) rfl rfl) ?_
      refine Wl.want rfl rfl ?_
      refine Wl.q rfl (Qy.neq rfl rfl) ?_
      refine Wl.q rfl (Qy.pick rfl rfl) ?_
      exact Wl.back 8 0 rfl rfl rfl rfl rfl
      intro hg1
      refine Wl.pass rfl rfl rfl ?_
      refine Wl.pass rfl rfl rfl ?_
      refine Wl.pass rfl rfl rfl ?_
      refine Wl.pass rfl rfl rfl ?_
      refine Wl.pass rfl rfl rfl ?_
      refine Wl.pass rfl rfl rfl ?_
      refine Wl.pass rfl rfl rfl ?_
      refine Wl.q rfl (Qy.pick rfl rfl) ?_
      exact Wl.back 8 0 rfl rfl rfl rfl rfl
      refine Wl.done ?_
      refine Ar.next ?_
      refine Wc.cond rfl (fun hc4 => ?_) (fun hc4 => ?_)
      refine Wc.seq ?_
      refine Wc.region rfl ?_
      refine Wl.store 2 T.one4 rfl rfl rfl rfl rfl ?_
      refine Wl.done ?_
      refine Ar.next ?_
      refine Wc.ret ?_
      refine Ar.passRet ?_
      refine Ar.outRet ?_
      rotate_left
      refine Wc.skip ?_
      refine Ar.next ?_
      refine Wc.seq ?_
      refine Wc.region rfl ?_
      refine Wl.q rfl (Qy.load 10 T.one3 rfl rfl rfl) ?_
      refine Wl.q rfl (Qy.add rfl rfl (by omega)) ?_
      refine Wl.store 10 T.one3 rfl rfl rfl rfl rfl ?_
      refine Wl.done ?_
      refine Ar.next ?_
      refine Wc.seq ?_
      refine Wc.region rfl ?_
      refine Wl.q rfl (Qy.load 9 T.one3 rfl rfl rfl) ?_
      refine Wl.q rfl (Qy.eql rfl rfl) ?_
      refine Wl.q rfl (Qy.move rfl) ?_
      refine Wl.yes 143 rfl (by first | assumption | omega) ?_
      refine Wl.want rfl rfl ?_
      refine Wl.q rfl (Qy.load 10 T.one3 rfl rfl rfl) ?_
      refine Wl.want rfl rfl ?_
      refine Wl.q rfl (Qy.load 1 T.one3 rfl rfl rfl) ?_
      refine Wl.want rfl rfl ?_
      refine Wl.q rfl (Qy.eql rfl rfl) ?_
      refine Wl.q rfl (Qy.pick rfl rfl) ?_
      refine Wl.done ?_
      refine Ar.next ?_
      refine Wc.cond rfl (fun hc5 => ?_) (fun hc5 => ?_)
      refine Wc.exit ?_
      refine Ar.outExit rfl ?_
      rotate_left
      refine Wc.skip ?_
      refine Ar.outNormal ?_
      rotate_left
      · exfalso; rw [hxi] at hc4; simp only [toR2] at hc4; omega
      · refine Ar.roundEnd (some (.exit 6)) (.inr (.inr ⟨_, rfl, rfl⟩)) 900 rfl ⟨rfl, (i + 1, some (.exit 6)), rfl, .inr ⟨rfl, _, rfl, ?_⟩⟩ ⟨rfl, rfl, rfl, rfl, rfl, rfl, rfl, rfl, rfl, rfl, rfl, rfl, rfl, trivial⟩
        exact ⟨rfl, by omega⟩
      · refine Ar.roundEnd none (.inl ⟨rfl, rfl⟩) 900 rfl ⟨rfl, (i + 1, none), rfl, .inl ⟨rfl, rfl, ?_⟩⟩ ⟨rfl, rfl, rfl, rfl, rfl, rfl, rfl, rfl, rfl, rfl, rfl, rfl, rfl, trivial⟩
        exact ⟨rfl, by omega⟩
    obtain ⟨rfl, hi2⟩ := hi
    refine Ar.outNormal ?_
    refine Ar.next ?_
    refine Wc.seq ?_
    refine Wc.region rfl ?_
    refine Wl.q rfl (Qy.load 10 T.one3 rfl rfl rfl) ?_
    refine Wl.q rfl (Qy.load 7 T.one56 rfl rfl rfl) ?_
    refine Wl.q rfl (Qy.len T.sl56 rfl) ?_
    refine Wl.q rfl (Qy.neq rfl rfl) ?_
    refine Wl.q rfl (Qy.move rfl) ?_
    refine Wl.no 152 rfl (by first | assumption | omega) ?_
    refine Wl.pass rfl rfl rfl ?_
    refine Wl.pass rfl rfl rfl ?_
    refine Wl.pass rfl rfl rfl ?_
    refine Wl.passU rfl rfl rfl ?_
    refine Wl.passU rfl rfl rfl ?_
    refine Wl.passU rfl rfl rfl ?_
    refine Wl.pass rfl rfl rfl ?_
    refine Wl.pass rfl rfl rfl ?_
    refine Wl.q rfl (Qy.pick rfl rfl) ?_
    refine Wl.done ?_
    refine Ar.next ?_
    refine Wc.condF rfl ?_
    refine Wc.skip ?_
    refine Ar.outNormal ?_
    refine Ar.next ?_
    refine Wc.seq ?_
    refine Wc.seq ?_
    refine Wc.region rfl ?_
    refine Wl.q rfl (Qy.load 9 T.one3 rfl rfl rfl) ?_
    refine Wl.done ?_
    refine Ar.next ?_
    refine Wc.region rfl ?_
    refine Wl.alloc 902 rfl T.zero3 (fun b7 => ?_)
    refine Wl.store 902 T.one3 rfl rfl rfl rfl rfl ?_
    refine Wl.done ?_
    refine Ar.next ?_
    refine Wc.region rfl ?_
    refine Wl.q rfl (Qy.load 902 T.one3 rfl rfl rfl) ?_
    refine Wl.q rfl (Qy.add rfl rfl (by omega)) ?_
    refine Wl.store 902 T.one3 rfl rfl rfl rfl rfl ?_
    refine Wl.done ?_
    rotate_left
    obtain ⟨rfl, hi2⟩ := hi
    refine Wc.exit ?_
    refine Ar.here ?_
    refine Ar.next ?_
    refine Wc.seq ?_
    refine Wc.region rfl ?_
    refine Wl.q rfl (Qy.load 10 T.one3 rfl rfl rfl) ?_
    refine Wl.q rfl (Qy.load 7 T.one56 rfl rfl rfl) ?_
    refine Wl.q rfl (Qy.len T.sl56 rfl) ?_
    refine Wl.q rfl (Qy.neq rfl rfl) ?_
    refine Wl.q rfl (Qy.move rfl) ?_
    apply Wl.joinAnd 9 152 161 rfl
    intro hg1
    refine Wl.want rfl rfl ?_
    refine Wl.q rfl (Qy.load 9 T.one3 rfl rfl rfl) ?_
    refine Wl.want rfl rfl ?_
    refine Wl.q rfl (Qy.eql rfl rfl) ?_
    refine Wl.want rfl rfl ?_
    refine Wl.q rfl (Qy.move rfl) ?_
    refine Wl.yes 155 rfl (by first | assumption | omega) ?_
    refine Wl.want rfl rfl ?_
    refine Wl.q rfl (Qy.load 10 T.one3 rfl rfl rfl) ?_
    refine Wl.want rfl rfl ?_
    refine Wl.q rfl (Qy.load 1 T.one3 rfl rfl rfl) ?_
    refine Wl.want rfl rfl ?_
    refine Wl.q rfl (Qy.eql rfl rfl) ?_
    refine Wl.want rfl rfl ?_
    refine Wl.q rfl (Qy.pick rfl rfl) ?_
    refine Wl.want rfl rfl ?_
    refine Wl.q rfl (Qy.notD rfl) ?_
    refine Wl.q rfl (Qy.pick rfl rfl) ?_
    exact Wl.back 10 0 rfl rfl rfl rfl rfl
    intro hg1
    refine Wl.pass rfl rfl rfl ?_
    refine Wl.pass rfl rfl rfl ?_
    refine Wl.pass rfl rfl rfl ?_
    refine Wl.passU rfl rfl rfl ?_
    refine Wl.passU rfl rfl rfl ?_
    refine Wl.passU rfl rfl rfl ?_
    refine Wl.pass rfl rfl rfl ?_
    refine Wl.pass rfl rfl rfl ?_
    refine Wl.q rfl (Qy.pick rfl rfl) ?_
    exact Wl.back 9 0 rfl rfl rfl rfl rfl
    refine Wl.done ?_
    refine Ar.next ?_
    refine Wc.condN rfl (by first | assumption | omega) ?_
    refine Wc.skip ?_
    refine Ar.outNormal ?_
    refine Ar.next ?_
    refine Wc.seq ?_
    refine Wc.seq ?_
    refine Wc.region rfl ?_
    refine Wl.q rfl (Qy.load 9 T.one3 rfl rfl rfl) ?_
    refine Wl.done ?_
    refine Ar.next ?_
    refine Wc.region rfl ?_
    refine Wl.alloc 902 rfl T.zero3 (fun b7 => ?_)
    refine Wl.store 902 T.one3 rfl rfl rfl rfl rfl ?_
    refine Wl.done ?_
    refine Ar.next ?_
    refine Wc.region rfl ?_
    refine Wl.q rfl (Qy.load 902 T.one3 rfl rfl rfl) ?_
    refine Wl.q rfl (Qy.add rfl rfl (by omega)) ?_
    refine Wl.store 902 T.one3 rfl rfl rfl rfl rfl ?_
    refine Wl.done ?_
    all_goals refine Ar.turn (La.round (Wc.nilRow 10 default ?_))
    all_goals clear hi2
    all_goals
      refine Wc.seq ?_
      refine Wc.seq ?_
      refine Wc.region rfl ?_
      refine Wl.q rfl (Qy.load 902 T.one3 rfl rfl rfl) ?_
      refine Wl.q rfl (Qy.lss rfl rfl) ?_
      refine Wl.done ?_
      refine Ar.next ?_
      refine Wc.condP rfl (by first | assumption | omega) ?_
      refine Wc.skip ?_
      refine Ar.next ?_
      refine Wc.seq ?_
      refine Wc.block ?_
      refine Wc.seq ?_
      refine Wc.region rfl ?_
      refine Wl.alloc 903 rfl T.zero3 (fun b8 => ?_)
      refine Wl.store 903 T.one3 rfl rfl rfl rfl rfl ?_
      refine Wl.done ?_
      refine Ar.next ?_
      refine Wc.seq ?_
      refine Wc.seq ?_
      refine Wc.region rfl ?_
      refine Wl.q rfl (Qy.move rfl) ?_
      refine Wl.done ?_
      refine Ar.next ?_
      refine Wc.block ?_
      refine Wc.rangeFunc (ι := Nat) 910 911 (fun i => [(903, some b8, .cells #[.int .i64 (i : Int)] 3), (902, Option.some b7, Go.Obj.cells (List.toArray (List.set (List.set [Go.Value.int Go.IntKind.i64 0] 0 (Go.Value.int Go.IntKind.i64 0)) 0 (Go.Value.int Go.IntKind.i64 (0 + 1)))) 3), (901, Option.some dd, Go.Obj.deferred (Option.some [])), (9, Option.some b5, Go.Obj.cells (List.toArray (List.set [Go.Value.int Go.IntKind.i64 0] 0 (Go.Value.int Go.IntKind.i64 0))) 3), (4, Option.some bs3, Go.Obj.cells #[Go.Value.slice a (List.length held) c, Go.Value.slice b (List.length ks) d, Go.Value.int Go.IntKind.i64 nx] 61), (5, Option.map (fun x => Go.Addr.block x) a, Go.Sl.Row (α := Int) 3 (held) (junk)), (6, Option.map (fun x => Go.Addr.block x) b, Go.Sl.Row (α := Go.Sl.R6) 99 (ks) (j)), (7, Option.some b4, Go.Obj.cells #[Go.Value.slice a' (List.length tw) c'] 56), (8, Option.map (fun x => Go.Addr.block x) a', Go.Sl.Row (α := Go.Sl.R2) 62 (tw) (junk')), (3, Option.map (fun x => Go.Addr.block x) bv1, Go.Sl.Row (α := Int) 3 (Go.Proofs.Ytfleehgbpgmcnaa.valsP p) (jv1)), (2, Option.some b3, Go.Obj.cells #[Go.Value.bool Bool.false] 4), (1, Option.some b2, Go.Obj.cells #[Go.Value.int Go.IntKind.i64 stop] 3), (0, Option.some b1, Go.Obj.cells #[Go.Value.int Go.IntKind.i64 (Go.Proofs.Ytfleehgbpgmcnaa.PV.ins p), Go.Value.int Go.IntKind.i64 (Go.Proofs.Ytfleehgbpgmcnaa.PV.regs p), Go.Value.slice ac (List.length (Go.Proofs.Ytfleehgbpgmcnaa.PV.code p)) cc, Go.Value.slice ao (List.length (Go.Proofs.Ytfleehgbpgmcnaa.PV.outs p)) co] 25)]) (fun k i => i = k ∧ k ≤ (twiceP p).length) (fun c i => False) (0) rfl T.fn64 (fun _ => rfl) rfl (c64 _ p _ _ _ _ _ hc ho (by omega) (by omega) hbf2) (⟨rfl, Nat.zero_le _⟩) ⟨rfl, rfl, rfl, rfl, rfl, rfl, rfl, rfl, rfl, rfl, rfl, rfl, rfl, trivial⟩ ⟨rfl, rfl, rfl, fun _ => ⟨rfl, rfl⟩⟩ (fun k x i l dd q w0 hx hi => ?_) (fun i dd hi => ?_) (fun i dd c hi => ?_)
      · obtain ⟨rfl, hi2⟩ := hi
        have hil : i < (twiceP p).length := (List.getElem?_eq_some_iff.1 hx).1
        have hxi : tw[((i : Nat) : Int).toNat]?.getD default = toR2 x := by rw [htw', Int.toNat_natCast, List.getElem?_map, hx]; rfl
        refine Wc.seq ?_
        refine Wc.region rfl ?_
        refine Wl.q rfl (Qy.assign rfl) ?_
        refine Wl.done ?_
        refine Ar.next ?_
        refine Wc.region rfl ?_
        refine Wl.q rfl (Qy.assign rfl) ?_
        refine Wl.done ?_
        refine Ar.begin 910 rfl ?_
        refine Wc.block ?_
        refine Wc.seq ?_
        refine Wc.seq ?_
        refine Wc.region rfl ?_
        refine Wl.q rfl (Qy.load 903 T.one3 rfl rfl rfl) ?_
        refine Wl.q rfl (Qy.load 7 T.one56 rfl rfl rfl) ?_
        refine Wl.q rfl (Qy.len T.sl56 rfl) ?_
        refine Wl.q rfl (Qy.geq rfl rfl) ?_
        refine Wl.q rfl (Qy.move rfl) ?_
        refine Wl.no 121 rfl (by first | assumption | omega) ?_
        refine Wl.want rfl rfl ?_
        refine Wl.q rfl (Qy.move rfl) ?_
        refine Wl.want rfl rfl ?_
        refine Wl.q rfl (Qy.load 7 T.one56 rfl rfl rfl) ?_
        refine Wl.want rfl rfl ?_
        refine Wl.q rfl (Qy.load 903 T.one3 rfl rfl rfl) ?_
        refine Wl.want rfl rfl ?_
        refine Wl.q rfl (Qy.indexAddrO (α := R2) T.sl56 rfl rfl (by assumption) (by omega)) ?_
        refine Wl.want rfl rfl ?_
        refine Wl.q rfl (Qy.indexAddrA 0 T.ar62 rfl rfl rfl rfl) ?_
        refine Wl.want rfl rfl ?_
        refine Wl.q rfl (Qy.loadO 8 0 T.one3 rfl rfl (by assumption) (by omega) rfl rfl) ?_
        refine Wl.want rfl rfl ?_
        refine Wl.q rfl (Qy.neq rfl rfl) ?_
        refine Wl.q rfl (Qy.pick rfl rfl) ?_
        refine Wl.q rfl (Qy.move rfl) ?_
        apply Wl.joinOr 8 130 138 rfl
        intro hg1
        refine Wl.want rfl rfl ?_
        refine Wl.q rfl (Qy.move rfl) ?_
        refine Wl.want rfl rfl ?_
        refine Wl.q rfl (Qy.load 7 T.one56 rfl rfl rfl) ?_
        refine Wl.want rfl rfl ?_
        refine Wl.q rfl (Qy.load 903 T.one3 rfl rfl rfl) ?_
        refine Wl.want rfl rfl ?_
        refine Wl.q rfl (Qy.indexAddrO (α := R2) T.sl56 rfl rfl (by assumption) (by omega)) ?_
        refine Wl.want rfl rfl ?_
        refine Wl.q rfl (Qy.indexAddrA 1 T.ar62 rfl rfl rfl rfl) ?_
        refine Wl.want rfl rfl ?_
        refine Wl.q rfl (Qy.loadO 8 1 T.one3 rfl rfl (by assumption) (by omega) rfl rfl) ?_
        refine Wl.want rfl rfl ?_
        refine Wl.q rfl (Qy.neq rfl rfl) ?_
        refine Wl.q rfl (Qy.pick rfl rfl) ?_
        exact Wl.back 8 0 rfl rfl rfl rfl rfl
        intro hg1
        refine Wl.pass rfl rfl rfl ?_
        refine Wl.pass rfl rfl rfl ?_
        refine Wl.pass rfl rfl rfl ?_
        refine Wl.pass rfl rfl rfl ?_
        refine Wl.pass rfl rfl rfl ?_
        refine Wl.pass rfl rfl rfl ?_
        refine Wl.pass rfl rfl rfl ?_
        refine Wl.q rfl (Qy.pick rfl rfl) ?_
        exact Wl.back 8 0 rfl rfl rfl rfl rfl
        refine Wl.done ?_
        refine Ar.next ?_
        refine Wc.cond rfl (fun hc4 => ?_) (fun hc4 => ?_)
        refine Wc.seq ?_
        refine Wc.region rfl ?_
        refine Wl.store 2 T.one4 rfl rfl rfl rfl rfl ?_
        refine Wl.done ?_
        refine Ar.next ?_
        refine Wc.ret ?_
        refine Ar.passRet ?_
        refine Ar.outRet ?_
        rotate_left
        refine Wc.skip ?_
        refine Ar.next ?_
        refine Wc.seq ?_
        refine Wc.region rfl ?_
        refine Wl.q rfl (Qy.load 903 T.one3 rfl rfl rfl) ?_
        refine Wl.q rfl (Qy.add rfl rfl (by omega)) ?_
        refine Wl.store 903 T.one3 rfl rfl rfl rfl rfl ?_
        refine Wl.done ?_
        refine Ar.next ?_
        refine Wc.seq ?_
        refine Wc.region rfl ?_
        refine Wl.q rfl (Qy.load 902 T.one3 rfl rfl rfl) ?_
        refine Wl.q rfl (Qy.eql rfl rfl) ?_
        refine Wl.q rfl (Qy.move rfl) ?_
        refine Wl.no 143 rfl (by first | assumption | omega) ?_
        refine Wl.pass rfl rfl rfl ?_
        refine Wl.pass rfl rfl rfl ?_
        refine Wl.pass rfl rfl rfl ?_
        refine Wl.q rfl (Qy.pick rfl rfl) ?_
        refine Wl.done ?_
        refine Ar.next ?_
        refine Wc.condF rfl ?_
        refine Wc.skip ?_
        refine Ar.outNormal ?_
        rotate_left
        · exfalso; rw [hxi] at hc4; simp only [toR2] at hc4; omega
        · refine Ar.roundEnd none (.inl ⟨rfl, rfl⟩) 910 rfl ⟨rfl, (i + 1, none), rfl, .inl ⟨rfl, rfl, ?_⟩⟩ ⟨rfl, rfl, rfl, rfl, rfl, rfl, rfl, rfl, rfl, rfl, rfl, rfl, rfl, rfl, rfl, trivial⟩
          exact ⟨rfl, by omega⟩
      · obtain ⟨rfl, hi2⟩ := hi
        refine Ar.outNormal ?_
        refine Ar.next ?_
        refine Wc.seq ?_
        refine Wc.region rfl ?_
        refine Wl.q rfl (Qy.load 903 T.one3 rfl rfl rfl) ?_
        refine Wl.q rfl (Qy.load 7 T.one56 rfl rfl rfl) ?_
        refine Wl.q rfl (Qy.len T.sl56 rfl) ?_
        refine Wl.q rfl (Qy.neq rfl rfl) ?_
        refine Wl.q rfl (Qy.move rfl) ?_
        refine Wl.no 152 rfl (by first | assumption | omega) ?_
        refine Wl.pass rfl rfl rfl ?_
        refine Wl.pass rfl rfl rfl ?_
        refine Wl.pass rfl rfl rfl ?_
        refine Wl.passU rfl rfl rfl ?_
        refine Wl.passU rfl rfl rfl ?_
        refine Wl.passU rfl rfl rfl ?_
        refine Wl.pass rfl rfl rfl ?_
        refine Wl.pass rfl rfl rfl ?_
        refine Wl.q rfl (Qy.pick rfl rfl) ?_
        refine Wl.done ?_
        refine Ar.next ?_
        refine Wc.condF rfl ?_
        refine Wc.skip ?_
        refine Ar.outNormal ?_
        refine Ar.next ?_
        refine Wc.seq ?_
        refine Wc.seq ?_
        refine Wc.region rfl ?_
        refine Wl.q rfl (Qy.load 902 T.one3 rfl rfl rfl) ?_
        refine Wl.done ?_
        refine Ar.next ?_
        refine Wc.region rfl ?_
        refine Wl.alloc 912 rfl T.zero3 (fun b9 => ?_)
        refine Wl.store 912 T.one3 rfl rfl rfl rfl rfl ?_
        refine Wl.done ?_
        refine Ar.next ?_
        refine Wc.region rfl ?_
        refine Wl.q rfl (Qy.load 912 T.one3 rfl rfl rfl) ?_
        refine Wl.q rfl (Qy.add rfl rfl (by omega)) ?_
        refine Wl.store 912 T.one3 rfl rfl rfl rfl rfl ?_
        refine Wl.done ?_
        refine Ar.turn (La.round ?_)
        refine Wc.seq ?_
        refine Wc.seq ?_
        refine Wc.region rfl ?_
        refine Wl.q rfl (Qy.load 912 T.one3 rfl rfl rfl) ?_
        refine Wl.q rfl (Qy.lss rfl rfl) ?_
        refine Wl.done ?_
        refine Ar.next ?_
        refine Wc.condN rfl (by first | assumption | omega) ?_
        refine Wc.exit ?_
        refine Ar.passExit ?_
        refine Ar.passExit ?_
        refine Ar.here ?_
        refine Ar.next ?_
        refine Wc.seq ?_
        refine Wc.region rfl ?_
        refine Wl.store 2 T.one4 rfl rfl rfl rfl rfl ?_
        refine Wl.done ?_
        refine Ar.next ?_
        refine Wc.ret ?_
        refine Ar.collect (.inr rfl) 911 rfl ?_
        refine Ar.collect (.inr rfl) 901 rfl ?_
        refine Ar.outOf (.inr rfl) ?_
        refine Ar.out1 (.inr rfl) (Ho := Hp.only _ []) rfl (.one 2 rfl rfl T.one4 rfl) (Hp.sub_only _ _) ?_
        rfl
      · exact hi.elim
theorem c5W (G : Imm) (p : PV) (stop : Int) (ac ao : Option Addr) (cc co : Nat) (hc : Arr G ac p.code) (ho : Arr G ao p.outs) (h1 : p.code.length ≤ 1099511627776) (h2 : p.outs.length ≤ 1099511627776) (hR : ¬ rightP p = true) :
    Does Try.prog 5 [.agg #[.int .i64 p.ins, .int .i64 p.regs, .slice ac p.code.length cc, .slice ao p.outs.length co], .int .i64 stop] G [] (fun v G' Ho => v = .bool true) := by
  have htw : twiceP p = [] := if_neg hR
  refine Does.enterM Try.func5 rfl Try.ntmps5 rfl (fun w => ?_)
  refine Wc.seq ?_
  refine Wc.region rfl ?_
  refine Wl.box 0 rfl rfl rfl (fun b1 => ?_)
  refine Wl.box 1 rfl rfl rfl (fun b2 => ?_)
  refine Wl.alloc 2 rfl T.zero4 (fun b3 => ?_)
  refine Wl.done ?_
  refine Ar.next ?_
  refine Wc.seq ?_
  refine Wc.seq ?_
  refine Wc.region rfl ?_
  refine Wl.call0 rfl T.fn11 rfl (c11 _) ?_
  refine Wl.q rfl (Qy.notD rfl) ?_
  refine Wl.done ?_
  refine Ar.next ?_
  refine Wc.cond rfl (fun hc1 => ?_) (fun hc1 => ?_)
  refine Wc.seq ?_
  refine Wc.region rfl ?_
  refine Wl.store 2 T.one4 rfl rfl rfl rfl rfl ?_
  refine Wl.done ?_
  refine Ar.next ?_
  refine Wc.ret ?_
  refine Ar.passRet ?_
  refine Ar.outOf (.inr rfl) ?_
  refine Ar.out1 (.inr rfl) (Ho := Hp.only _ []) rfl (.one 2 rfl rfl T.one4 rfl) (Hp.sub_only _ _) ?_
  rotate_left
  refine Wc.skip ?_
  refine Ar.next ?_
  refine Wc.seq ?_
  refine Wc.seq ?_
  refine Wc.region rfl ?_
  refine Wl.q rfl (Qy.loadAll 0 T.agg25 rfl rfl rfl) ?_
  refine Wl.call0 rfl T.fn12 rfl (c12 _ _ _ _ _ _ (by omega) (by omega)) ?_
  refine Wl.done ?_
  refine Ar.next ?_
  refine Wc.cond rfl (fun hc2 => ?_) (fun hc2 => ?_)
  refine Wc.seq ?_
  refine Wc.region rfl ?_
  refine Wl.store 2 T.one4 rfl rfl rfl rfl rfl ?_
  refine Wl.done ?_
  refine Ar.next ?_
  refine Wc.ret ?_
  refine Ar.passRet ?_
  refine Ar.outOf (.inr rfl) ?_
  refine Ar.out1 (.inr rfl) (Ho := Hp.only _ []) rfl (.one 2 rfl rfl T.one4 rfl) (Hp.sub_only _ _) ?_
  rotate_left
  refine Wc.skip ?_
  refine Ar.next ?_
  refine Wc.seq ?_
  refine Wc.region rfl ?_
  refine Wl.q rfl (Qy.loadAll 0 T.agg25 rfl rfl rfl) ?_
  refine Wl.call 3 rfl T.fn23 rfl (c23W _ _ _ _ _ _ (by assumption) (by assumption) (by omega) (by omega) (by assumption)) (tags_of trivial) (fun v1 G1 Ho1 hle1 hp => ?_)
  obtain ⟨rfl, rfl, rfl⟩ := hp
  refine Wl.q rfl (Qy.move rfl) ?_
  refine Wl.q rfl (Qy.extract rfl rfl) ?_
  refine Wl.q rfl (Qy.extract rfl rfl) ?_
  refine Wl.q rfl (Qy.assign rfl) ?_
  refine Wl.q rfl (Qy.assign rfl) ?_
  refine Wl.done ?_
  refine Ar.next ?_
  refine Wc.seq ?_
  refine Wc.region rfl ?_
  refine Wl.q rfl (Qy.loadAll 0 T.agg25 rfl rfl rfl) ?_
  refine Wl.call 3 rfl T.fn24 rfl (c24 _ _ _ _ _ _) (tags_of trivial) (fun v2 G2 Ho2 hle2 hp => ?_)
  obtain ⟨bf2, rfl, rfl, hbf2⟩ := hp
  replace hc := hc.up hle2
  replace ho := ho.up hle2
  refine Wl.q rfl (Qy.assign rfl) ?_
  refine Wl.done ?_
  refine Ar.next ?_
  refine Wc.seq ?_
  refine Wc.region rfl ?_
  refine Wl.q rfl (Qy.loadAll 0 T.agg25 rfl rfl rfl) ?_
  refine Wl.call0 rfl T.fn15 rfl (c15 _ _ _ _ _ _ (by assumption) (by assumption) (by omega) (by omega)) ?_
  refine Wl.q rfl (Qy.assign rfl) ?_
  refine Wl.done ?_
  refine Ar.next ?_
  refine Wc.seq ?_
  refine Wc.seq ?_
  refine Wc.region rfl ?_
  refine Wl.q rfl (Qy.move rfl) ?_
  refine Wl.q rfl (Qy.eqlFuncNil (by kernel_rfl) rfl rfl) ?_
  refine Wl.q rfl (Qy.move rfl) ?_
  refine Wl.want rfl rfl ?_
  refine Wl.call0 rfl T.fn11 rfl (c11 _) ?_
  refine Wl.want rfl rfl ?_
  refine Wl.q rfl (Qy.notD rfl) ?_
  refine Wl.q rfl (Qy.pick rfl rfl) ?_
  refine Wl.done ?_
  refine Ar.next ?_
  refine Wc.condN rfl (by first | assumption | omega) ?_
  refine Wc.skip ?_
  refine Ar.next ?_
  refine Wc.seq ?_
  refine Wc.seq ?_
  refine Wc.region rfl ?_
  refine Wl.q rfl (Qy.move rfl) ?_
  refine Wl.q rfl (Qy.notD rfl) ?_
  refine Wl.done ?_
  refine Ar.next ?_
  refine Wc.condP rfl (by first | assumption | omega) ?_
  refine Wc.seq ?_
  refine Wc.seq ?_
  refine Wc.region rfl ?_
  refine Wl.q rfl (Qy.move rfl) ?_
  refine Wl.done ?_
  refine Ar.next ?_
  refine Wc.block ?_
  rotate_left
  · exact absurd yes hc1
  · rfl
  refine Wc.rangeFunc (ι := Nat) 900 901 (fun i => [(2, Option.some b3, Go.Obj.cells #[Go.Value.bool Bool.false] 4), (1, Option.some b2, Go.Obj.cells #[Go.Value.int Go.IntKind.i64 stop] 3), (0, Option.some b1, Go.Obj.cells #[Go.Value.int Go.IntKind.i64 (Go.Proofs.Ytfleehgbpgmcnaa.PV.ins p), Go.Value.int Go.IntKind.i64 (Go.Proofs.Ytfleehgbpgmcnaa.PV.regs p), Go.Value.slice ac (List.length (Go.Proofs.Ytfleehgbpgmcnaa.PV.code p)) cc, Go.Value.slice ao (List.length (Go.Proofs.Ytfleehgbpgmcnaa.PV.outs p)) co] 25)]) (fun k i => True) (fun c i => False) (0) rfl T.fn64 (fun _ => rfl) rfl (c64 _ p _ _ _ _ _ hc ho (by omega) (by omega) hbf2) (trivial) ⟨rfl, rfl, rfl, trivial⟩ ⟨rfl, rfl, rfl, fun _ => ⟨rfl, rfl⟩⟩ (fun k x i l dd q w0 hx hi => ?_) (fun i dd hi => ?_) (fun i dd c hi => ?_)
  · rw [htw] at hx; cases hx
  · refine Ar.outNormal ?_
    refine Ar.next ?_
    refine Wc.seq ?_
    refine Wc.region rfl ?_
    refine Wl.q rfl (Qy.move rfl) ?_
    refine Wl.q rfl (Qy.len T.sl23 rfl) ?_
    refine Wl.q rfl (Qy.eql rfl rfl) ?_
    refine Wl.q rfl (Qy.move rfl) ?_
    refine Wl.yes 45 rfl (by first | assumption | omega) ?_
    refine Wl.want rfl rfl ?_
    refine Wl.q rfl (Qy.move rfl) ?_
    refine Wl.want rfl rfl ?_
    refine Wl.q rfl (Qy.eql rfl rfl) ?_
    refine Wl.q rfl (Qy.pick rfl rfl) ?_
    refine Wl.store 2 T.one4 rfl rfl rfl rfl rfl ?_
    refine Wl.done ?_
    refine Ar.next ?_
    refine Wc.ret ?_
    refine Ar.passRet ?_
    refine Ar.collect (.inr rfl) 901 rfl ?_
    refine Ar.outOf (.inr rfl) ?_
    refine Ar.out1 (.inr rfl) (Ho := Hp.only _ []) rfl (.one 2 rfl rfl T.one4 rfl) (Hp.sub_only _ _) ?_
    rfl
  · exact hi.elim
theorem c5 (G : Imm) (p : PV) (stop : Int) (ac ao : Option Addr) (cc co : Nat) (hc : Arr G ac p.code) (ho : Arr G ao p.outs) (h1 : p.code.length ≤ 1099511627776) (h2 : p.outs.length ≤ 1099511627776) :
    Does Try.prog 5 [.agg #[.int .i64 p.ins, .int .i64 p.regs, .slice ac p.code.length cc, .slice ao p.outs.length co], .int .i64 stop] G [] (fun v G' Ho => v = .bool true) := by
  by_cases hR : rightP p = true
  · exact c5R G p stop ac ao cc co hc ho h1 h2 hR
  · exact c5W G p stop ac ao cc co hc ho h1 h2 hR
end Go.Proofs.Ytfleehgbpgmcnaa
