import Derived.Test.YtfleehgbpgmcnaaAe
namespace Go.Proofs.Ytfleehgbpgmcnaa
open Go Go.Sl
set_option maxRecDepth 100000

set_option maxHeartbeats 2000000
section
variable {held : List Int} {ks : List R6} {nx n : Int} {out : List Sl.Instr} {i : Sl.Instr}
theorem passStep_same' (h : held[i.to.toNat]?.getD default = (reckonP (tabOf held ks nx) n i).1.1) : passStep (tabOf held ks nx, out) n i = ((reckonP (tabOf held ks nx) n i).2, out) :=
  passStep_same (by rw [reckon_held]; exact h)
theorem passStep_move' (h : ¬ held[i.to.toNat]?.getD default = (reckonP (tabOf held ks nx) n i).1.1) (h2 : 0 ≤ holder held (reckonP (tabOf held ks nx) n i).1.1) :
    passStep (tabOf held ks nx, out) n i = ({ (reckonP (tabOf held ks nx) n i).2 with held := held.set i.to.toNat (reckonP (tabOf held ks nx) n i).1.1 }, out ++ [⟨1, i.to, holder held (reckonP (tabOf held ks nx) n i).1.1, 0, 0⟩]) := by
  have := passStep_move (t := tabOf held ks nx) (out := out) (n := n) (i := i) (by rw [reckon_held]; exact h) (by rw [reckon_held]; exact h2)
  rw [reckon_held] at this
  exact this
theorem passStep_keep' (h : ¬ held[i.to.toNat]?.getD default = (reckonP (tabOf held ks nx) n i).1.1) (h2 : ¬ 0 ≤ holder held (reckonP (tabOf held ks nx) n i).1.1) :
    passStep (tabOf held ks nx, out) n i = ({ (reckonP (tabOf held ks nx) n i).2 with held := held.set i.to.toNat (reckonP (tabOf held ks nx) n i).1.1 }, out ++ [askedP held i]) := by
  have := passStep_keep (t := tabOf held ks nx) (out := out) (n := n) (i := i) (by rw [reckon_held]; exact h) (by rw [reckon_held]; exact h2)
  rw [reckon_held] at this
  exact this
end
theorem c17 (G : Imm) (p : PV) (ac ao : Option Addr) (cc co : Nat) (hc : Arr G ac p.code) (ho : Arr G ao p.outs) (hR : rightP p = true) :
    Does Try.prog 17 [.agg #[.int .i64 p.ins, .int .i64 p.regs, .slice ac p.code.length cc, .slice ao p.outs.length co]] G [] (fun v G' Ho =>
      ∃ bc bo dc do_ j1 j2, v = .agg #[.int .i64 p.ins, .int .i64 p.regs, .slice bc (passP p).code.length dc, .slice bo (passP p).outs.length do_] ∧
        OwnA bc dc (passP p).code j1 ∧ OwnA bo do_ (passP p).outs j2 ∧ Ho = [(0, bc.map (·.block), Row 34 (passP p).code j1), (1, bo.map (·.block), Row 3 (passP p).outs j2)] ∧ G' = G) := by
  obtain ⟨r1, r2, r3, r4, r5, r6, r7, r8⟩ := right_facts hR
  refine Does.enter Try.func17 rfl Try.ntmps17 rfl (fun w => ?_)
  refine Wc.nilRow 0 (Row 34 ([] : List Sl.Instr) []) (Wc.nilRow 1 (Row 3 ([] : List Int) []) ?_)
  refine Wc.seq ?_
  refine Wc.region rfl ?_
  refine Wl.box 2 rfl rfl rfl (fun b1 => ?_)
  refine Wl.alloc 3 rfl T.zero25 (fun b2 => ?_)
  refine Wl.done ?_
  refine Ar.next ?_
  refine Wc.seq ?_
  refine Wc.region rfl ?_
  refine Wl.q rfl (Qy.loadAll 2 T.agg25 rfl rfl rfl) ?_
  refine Wl.call 4 rfl T.fn25 rfl (c25 _ _ _ _ _ _ (by omega)) (tags_of trivial) (fun v1 G1 Ho1 hle1 hp => ?_)
  obtain ⟨bs1, ta1, tc1, tj1, rfl, hto1, rfl, rfl⟩ := hp
  refine Wl.q rfl (Qy.assign rfl) ?_
  refine Wl.done ?_
  refine Ar.next ?_
  refine Wc.seq ?_
  refine Wc.region rfl ?_
  refine Wl.q rfl (Qy.fieldAddr T.fa25_0 rfl) ?_
  refine Wl.q rfl (Qy.load 2 T.one3 rfl rfl rfl) ?_
  refine Wl.q rfl (Qy.fieldAddr T.fa25_1 rfl) ?_
  refine Wl.q rfl (Qy.load 2 T.one3 rfl rfl rfl) ?_
  refine Wl.q rfl (Qy.build (cs := [_, _, _, _]) T.st25 rfl rfl rfl) ?_
  refine Wl.alloc 7 rfl T.zero25 (fun b3 => ?_)
  refine Wl.storeAll 7 T.size25 rfl rfl rfl rfl rfl rfl ?_
  refine Wl.done ?_
  refine Ar.next ?_
  refine Wc.seq ?_
  refine Wc.seq ?_
  refine Wc.region rfl ?_
  refine Wl.q rfl (Qy.assign rfl) ?_
  refine Wl.done ?_
  refine Ar.next ?_
  refine Wc.block ?_
  refine Wc.loop (ι := Nat × (List Int × List R6 × Int) × List Sl.Instr × (Option Addr × Nat × List Value) × (Option Addr × Nat × List Value) × (Option Addr × Nat × List Value)) (fun (k, (held, ks, nx), out, (a, c, junk), (b, d, j), (a', c', junk')) => ([(5, .int .i64 (k : Int)), (4, Go.Value.pointer (Option.some (Go.Addr.mk b3 0 Option.none))), (3, Go.Value.pointer (Option.some (Go.Addr.mk bs1 0 Option.none))), (2, Go.Value.pointer (Option.some (Go.Addr.mk b2 0 Option.none))), (1, Go.Value.pointer (Option.some (Go.Addr.mk b1 0 Option.none)))], [(4, some bs1, .cells #[.slice a held.length c, .slice b ks.length d, .int .i64 nx] 61), (5, a.map (·.block), Row 3 held junk), (6, b.map (·.block), Row 99 ks j), (7, some b3, .cells #[.int .i64 p.ins, .int .i64 p.regs, .slice a' out.length c', .slice none 0 0] 25), (0, a'.map (·.block), Row 34 out junk'), (3, Option.some b2, Go.Obj.cells #[Go.Value.int Go.IntKind.i64 0, Go.Value.int Go.IntKind.i64 0, Go.Value.slice Option.none 0 0, Go.Value.slice Option.none 0 0] 25), (2, Option.some b1, Go.Obj.cells #[Go.Value.int Go.IntKind.i64 (Go.Proofs.Ytfleehgbpgmcnaa.PV.ins p), Go.Value.int Go.IntKind.i64 (Go.Proofs.Ytfleehgbpgmcnaa.PV.regs p), Go.Value.slice ac (List.length (Go.Proofs.Ytfleehgbpgmcnaa.PV.code p)) cc, Go.Value.slice ao (List.length (Go.Proofs.Ytfleehgbpgmcnaa.PV.outs p)) co] 25), (1, Option.none, Go.Sl.Row (α := Int) 3 ([]) ([]))])) (fun (k, (held, ks, nx), out, (a, c, junk), (b, d, j), (a', c', junk')) => k ≤ p.code.length ∧ (tabOf held ks nx, out) = passTo p k ∧ OwnA a c held junk ∧ OwnA b d ks j ∧ OwnA a' c' out junk' ∧ (held.length : Int) = p.regs ∧ out.length ≤ k ∧ ks.length ≤ k ∧ 0 ≤ nx ∧ nx ≤ p.ins + 1 + k) (fun (k, (held, ks, nx), out, (a, c, junk), (b, d, j), (a', c', junk')) => p.code.length - k) ((0, (start p, [], p.ins + 1), [], (ta1, tc1, tj1), (none, 0, []), (none, 0, []))) (⟨Nat.zero_le _, rfl, hto1, OwnA.nil, OwnA.nil, by simp [start]; omega, Nat.zero_le _, Nat.zero_le _, by show 0 ≤ p.ins + 1; omega, by show p.ins + 1 ≤ p.ins + 1 + 0; omega⟩) ⟨rfl, rfl, rfl, rfl, rfl, trivial⟩ ⟨rfl, rfl, rfl, rfl, rfl, rfl, rfl, rfl, trivial⟩ (fun ⟨k, (held, ks, nx), out, (a, c, junk), (b, d, j), (a', c', junk')⟩ => fun (hk : k ≤ p.code.length ∧ (tabOf held ks nx, out) = passTo p k ∧ OwnA a c held junk ∧ OwnA b d ks j ∧ OwnA a' c' out junk' ∧ (held.length : Int) = p.regs ∧ out.length ≤ k ∧ ks.length ≤ k ∧ 0 ≤ nx ∧ nx ≤ p.ins + 1 + k) => ?_)
  obtain ⟨hk1, hpass, hoa, hob, hoa', hlen, hout, hksl, hn0, hn1⟩ := hk
  rcases Nat.lt_or_ge k p.code.length with hlt | hge
  · have hm : mayOk (p.code[((k : Nat) : Int).toNat]?.getD default) held.length = true := by
      rw [hlen]; refine r8 _ ?_
      rw [Int.toNat_natCast, List.getElem?_eq_getElem hlt]; simp
    have hm' := hm
    rw [mayOk_iff] at hm'
    obtain ⟨⟨hop1, hop2, hi1, hi2, ha1, ha2⟩, hbb⟩ := hm'
    have hb1 : (p.code[((k : Nat) : Int).toNat]?.getD default).op = 3 ∨ (p.code[((k : Nat) : Int).toNat]?.getD default).op = 4 → 0 ≤ (p.code[((k : Nat) : Int).toNat]?.getD default).b ∧ (p.code[((k : Nat) : Int).toNat]?.getD default).b < held.length := fun h => by rw [if_pos h] at hbb; omega
    have hb2 : ¬ ((p.code[((k : Nat) : Int).toNat]?.getD default).op = 3 ∨ (p.code[((k : Nat) : Int).toNat]?.getD default).op = 4) → (p.code[((k : Nat) : Int).toNat]?.getD default).b = 0 := fun h => by rw [if_neg h] at hbb; omega
    clear hbb
    refine Wc.seq ?_
    refine Wc.seq ?_
    refine Wc.region rfl ?_
    refine Wl.q rfl (Qy.move rfl) ?_
    refine Wl.q rfl (Qy.fieldAddr T.fa25_2 rfl) ?_
    refine Wl.q rfl (Qy.load 2 T.one22 rfl rfl rfl) ?_
    refine Wl.q rfl (Qy.len T.sl22 rfl) ?_
    refine Wl.q rfl (Qy.lss rfl rfl) ?_
    refine Wl.done ?_
    refine Ar.next ?_
    refine Wc.condP rfl (by first | assumption | omega) ?_
    refine Wc.skip ?_
    refine Ar.next ?_
    refine Wc.seq ?_
    refine Wc.block ?_
    refine Wc.seq ?_
    refine Wc.region rfl ?_
    refine Wl.q rfl (Qy.fieldAddr T.fa25_2 rfl) ?_
    refine Wl.q rfl (Qy.load 2 T.one22 rfl rfl rfl) ?_
    refine Wl.q rfl (Qy.move rfl) ?_
    refine Wl.q rfl (Qy.at (α := Instr) T.sl22 rfl rfl (by assumption) (by omega)) ?_
    refine Wl.q rfl (Qy.loadsG T.agg34 rfl (Arr.elem (by assumption) (by omega)) rfl) ?_
    refine Wl.alloc 8 rfl T.zero34 (fun b4 => ?_)
    refine Wl.storeAll 8 T.size34 rfl rfl rfl rfl rfl rfl ?_
    refine Wl.done ?_
    refine Ar.next ?_
    refine Wc.seq ?_
    refine Wc.region rfl ?_
    refine Wl.q rfl (Qy.move rfl) ?_
    refine Wl.q rfl (Qy.move rfl) ?_
    refine Wl.q rfl (Qy.loadAll 8 T.agg34 rfl rfl rfl) ?_
    refine Wl.call 4 rfl T.fn26 rfl (c26 _ _ _ _ _ _ _ _ _ _ _ _ _ (by assumption) (by assumption) (by omega) (by omega) (by assumption) (by omega)) (tags_of ⟨rfl, rfl, rfl, trivial⟩) (fun v2 G2 Ho2 hle2 hp => ?_)
    obtain ⟨ks2, kb2, kd2, kj2, rfl, htab2, hko2, hkl2, rfl, rfl⟩ := hp
    refine Wl.q rfl (Qy.move rfl) ?_
    refine Wl.q rfl (Qy.extract rfl rfl) ?_
    refine Wl.q rfl (Qy.extract rfl rfl) ?_
    refine Wl.q rfl (Qy.assign rfl) ?_
    refine Wl.q rfl (Qy.assign rfl) ?_
    refine Wl.done ?_
    refine Ar.next ?_
    refine Wc.seq ?_
    refine Wc.draw [1, 2, 3, 0, 7, 8, 6, 5, 4] [] T.mixed rfl ?_
    refine Gm.q 0 [] (by kernel_rfl) rfl rfl (Qy.move rfl) ?_
    refine Gm.q 1 [] (by kernel_rfl) rfl rfl (Qy.move rfl) ?_
    refine Gm.q 2 [] (by kernel_rfl) rfl rfl (Qy.nilCheck rfl) ?_
    refine Gm.q 3 [] (by kernel_rfl) rfl rfl (Qy.fieldAddr T.fa61_0 rfl) ?_
    refine Gm.q 4 [4] (by kernel_rfl) rfl rfl (Qy.load 4 T.one23 rfl rfl rfl) ?_
    refine Gm.q 5 [] (by kernel_rfl) rfl rfl (Qy.fieldAddr T.fa34_2 rfl) ?_
    refine Gm.q 6 [8] (by kernel_rfl) rfl rfl (Qy.load 8 T.one3 rfl rfl rfl) ?_
    refine Gm.q 7 [] (by kernel_rfl) rfl rfl (Qy.indexAddrO (α := Int) T.sl23 rfl rfl (by assumption) (by omega)) ?_
    refine Gm.q 8 [0, 5] (by kernel_rfl) rfl rfl (Qy.loadO 5 0 T.one3 rfl rfl (by assumption) (by omega) rfl rfl) ?_
    refine Gm.one 9 ⟨rfl, rfl, rfl, rfl, rfl, rfl, rfl, rfl, rfl, trivial⟩ (by first | exact Imm.le_refl _ | assumption) (by kernel_rfl) rfl ?_
    refine Wl.call1 4 rfl T.fn59 rfl (c59 _ _ _ _ _ _ _ _ _ _ _ _ (by assumption) (by omega)) (tags_of ⟨rfl, rfl, rfl, trivial⟩) ?_
    refine Wl.on0 ?_
    refine Gm.q 10 [] (by kernel_rfl) rfl rfl (Qy.assign rfl) ?_
    refine Gm.doneA (by kernel_rfl) ⟨rfl, rfl, rfl, rfl, rfl, rfl, rfl, rfl, rfl, trivial⟩ (by first | exact Imm.le_refl _ | assumption) ?_
    refine Ar.next ?_
    refine Wc.seq ?_
    refine Wc.region rfl ?_
    refine Wl.q rfl (Qy.assign rfl) ?_
    refine Wl.done ?_
    refine Ar.next ?_
    refine Wc.meet (ι := Int) (fun v => ([(10, .int .i64 v), (9, Go.Value.int Go.IntKind.i64 (Go.Proofs.Ytfleehgbpgmcnaa.holder held (Option.getD held[Int.toNat (Go.Sl.Instr.a (Option.getD (Go.Proofs.Ytfleehgbpgmcnaa.PV.code p)[Int.toNat (↑k : Int)]? Inhabited.default))]? Inhabited.default))), (7, Go.Value.int Go.IntKind.i64 (Prod.fst (Prod.fst (Go.Proofs.Ytfleehgbpgmcnaa.reckonP (Go.Proofs.Ytfleehgbpgmcnaa.tabOf held ks nx) (↑k : Int) (Option.getD (Go.Proofs.Ytfleehgbpgmcnaa.PV.code p)[Int.toNat (↑k : Int)]? Inhabited.default))))), (6, Go.Value.pointer (Option.some (Go.Addr.mk b4 0 Option.none))), (5, Go.Value.int Go.IntKind.i64 (↑k : Int)), (4, Go.Value.pointer (Option.some (Go.Addr.mk b3 0 Option.none))), (3, Go.Value.pointer (Option.some (Go.Addr.mk bs1 0 Option.none))), (2, Go.Value.pointer (Option.some (Go.Addr.mk b2 0 Option.none))), (1, Go.Value.pointer (Option.some (Go.Addr.mk b1 0 Option.none)))], [(4, Option.some bs1, Go.Obj.cells #[Go.Value.slice a (List.length held) c, Go.Value.slice kb2 (List.length ks2) kd2, Go.Value.int Go.IntKind.i64 (Go.Proofs.Ytfleehgbpgmcnaa.Tab.next (Prod.snd (Go.Proofs.Ytfleehgbpgmcnaa.reckonP (Go.Proofs.Ytfleehgbpgmcnaa.tabOf held ks nx) (↑k : Int) (Option.getD (Go.Proofs.Ytfleehgbpgmcnaa.PV.code p)[Int.toNat (↑k : Int)]? Inhabited.default))))] 61), (5, Option.map (fun x => Go.Addr.block x) a, Go.Sl.Row (α := Int) 3 (held) (junk)), (6, Option.map (fun x => Go.Addr.block x) kb2, Go.Sl.Row (α := Go.Sl.R6) 99 (ks2) (kj2)), (8, Option.some b4, Go.Obj.cells (List.toArray (Go.Sl.Cells.enc (Option.getD (Go.Proofs.Ytfleehgbpgmcnaa.PV.code p)[Int.toNat (↑k : Int)]? Inhabited.default))) 34), (7, Option.some b3, Go.Obj.cells #[Go.Value.int Go.IntKind.i64 (Go.Proofs.Ytfleehgbpgmcnaa.PV.ins p), Go.Value.int Go.IntKind.i64 (Go.Proofs.Ytfleehgbpgmcnaa.PV.regs p), Go.Value.slice a' (List.length out) c', Go.Value.slice Option.none 0 0] 25), (0, Option.map (fun x => Go.Addr.block x) a', Go.Sl.Row (α := Go.Sl.Instr) 34 (out) (junk')), (3, Option.some b2, Go.Obj.cells #[Go.Value.int Go.IntKind.i64 0, Go.Value.int Go.IntKind.i64 0, Go.Value.slice Option.none 0 0, Go.Value.slice Option.none 0 0] 25), (2, Option.some b1, Go.Obj.cells #[Go.Value.int Go.IntKind.i64 (Go.Proofs.Ytfleehgbpgmcnaa.PV.ins p), Go.Value.int Go.IntKind.i64 (Go.Proofs.Ytfleehgbpgmcnaa.PV.regs p), Go.Value.slice ac (List.length (Go.Proofs.Ytfleehgbpgmcnaa.PV.code p)) cc, Go.Value.slice ao (List.length (Go.Proofs.Ytfleehgbpgmcnaa.PV.outs p)) co] 25), (1, Option.none, Go.Sl.Row (α := Int) 3 ([]) ([]))])) (fun v => v = (askedP held (p.code[((k : Nat) : Int).toNat]?.getD default)).b) ?_ (fun v => fun (hk : v = (askedP held (p.code[((k : Nat) : Int).toNat]?.getD default)).b) => ?_)
    · refine Wc.seq ?_
      refine Wc.region rfl ?_
      refine Wl.q rfl (Qy.fieldAddr T.fa34_0 rfl) ?_
      refine Wl.q rfl (Qy.load 8 T.one3 rfl rfl rfl) ?_
      refine Wl.q rfl (Qy.eql rfl rfl) ?_
      refine Wl.q rfl (Qy.move rfl) ?_
      apply Wl.joinOr 4 52 56 rfl
      intro hg1
      refine Wl.want rfl rfl ?_
      refine Wl.q rfl (Qy.fieldAddr T.fa34_0 rfl) ?_
      refine Wl.want rfl rfl ?_
      refine Wl.q rfl (Qy.load 8 T.one3 rfl rfl rfl) ?_
      refine Wl.want rfl rfl ?_
      refine Wl.q rfl (Qy.eql rfl rfl) ?_
      refine Wl.q rfl (Qy.pick rfl rfl) ?_
      exact Wl.back 4 0 rfl rfl rfl rfl rfl
      intro hg1
      refine Wl.pass rfl rfl rfl ?_
      refine Wl.pass rfl rfl rfl ?_
      refine Wl.pass rfl rfl rfl ?_
      refine Wl.q rfl (Qy.pick rfl rfl) ?_
      exact Wl.back 4 0 rfl rfl rfl rfl rfl
      refine Wl.done ?_
      refine Ar.next ?_
      refine Wc.cond rfl (fun hc1 => ?_) (fun hc1 => ?_)
      refine Wc.draw [1, 2, 3, 0, 7, 8, 6, 5, 4] [] T.mixed rfl ?_
      refine Gm.q 0 [] (by kernel_rfl) rfl rfl (Qy.move rfl) ?_
      refine Gm.q 1 [] (by kernel_rfl) rfl rfl (Qy.move rfl) ?_
      refine Gm.q 2 [] (by kernel_rfl) rfl rfl (Qy.nilCheck rfl) ?_
      refine Gm.q 3 [] (by kernel_rfl) rfl rfl (Qy.fieldAddr T.fa61_0 rfl) ?_
      refine Gm.q 4 [4] (by kernel_rfl) rfl rfl (Qy.load 4 T.one23 rfl rfl rfl) ?_
      refine Gm.q 5 [] (by kernel_rfl) rfl rfl (Qy.fieldAddr T.fa34_3 rfl) ?_
      refine Gm.q 6 [8] (by kernel_rfl) rfl rfl (Qy.load 8 T.one3 rfl rfl rfl) ?_
      refine Gm.q 7 [] (by kernel_rfl) rfl rfl (Qy.indexAddrO (α := Int) T.sl23 rfl rfl (by assumption) (by omega)) ?_
      refine Gm.q 8 [0, 5] (by kernel_rfl) rfl rfl (Qy.loadO 5 0 T.one3 rfl rfl (by assumption) (by omega) rfl rfl) ?_
      refine Gm.one 9 ⟨rfl, rfl, rfl, rfl, rfl, rfl, rfl, rfl, rfl, trivial⟩ (by first | exact Imm.le_refl _ | assumption) (by kernel_rfl) rfl ?_
      refine Wl.call1 4 rfl T.fn59 rfl (c59 _ _ _ _ _ _ _ _ _ _ _ _ (by assumption) (by omega)) (tags_of ⟨rfl, rfl, rfl, trivial⟩) ?_
      refine Wl.on0 ?_
      refine Gm.q 10 [] (by kernel_rfl) rfl rfl (Qy.assign rfl) ?_
      refine Gm.doneA (by kernel_rfl) ⟨rfl, rfl, rfl, rfl, rfl, rfl, rfl, rfl, rfl, trivial⟩ (by first | exact Imm.le_refl _ | assumption) ?_
      rotate_left
      refine Wc.skip ?_
      rotate_left
      · refine Ar.meet (holder held (held[(p.code[((k : Nat) : Int).toNat]?.getD default).b.toNat]?.getD default)) ?_ rfl ⟨rfl, rfl, rfl, rfl, rfl, rfl, rfl, rfl, rfl, trivial⟩ ⟨rfl, rfl, rfl, rfl, rfl, rfl, rfl, rfl, rfl, trivial⟩
        exact (if_pos hc1).symm
      · refine Ar.meet (0) ?_ rfl ⟨rfl, rfl, rfl, rfl, rfl, rfl, rfl, rfl, rfl, trivial⟩ ⟨rfl, rfl, rfl, rfl, rfl, rfl, rfl, rfl, rfl, trivial⟩
        exact ((if_neg hc1).trans (hb2 hc1)).symm
    · refine Wc.seq ?_
      refine Wc.region rfl ?_
      refine Wl.q rfl (Qy.move rfl) ?_
      refine Wl.q rfl (Qy.move rfl) ?_
      refine Wl.call1 4 rfl T.fn59 rfl (c59 _ _ _ _ _ _ _ _ _ _ _ _ (by assumption) (by omega)) (tags_of ⟨rfl, rfl, rfl, trivial⟩) ?_
      refine Wl.q rfl (Qy.assign rfl) ?_
      refine Wl.done ?_
      refine Ar.next ?_
      refine Wc.seq ?_
      refine Wc.seq ?_
      refine Wc.draw [1, 2, 3, 0, 7, 8, 6, 5, 4] [] T.mixed rfl ?_
      refine Gm.q 0 [] (by kernel_rfl) rfl rfl (Qy.move rfl) ?_
      refine Gm.q 1 [] (by kernel_rfl) rfl rfl (Qy.nilCheck rfl) ?_
      refine Gm.q 2 [] (by kernel_rfl) rfl rfl (Qy.fieldAddr T.fa61_0 rfl) ?_
      refine Gm.q 3 [4] (by kernel_rfl) rfl rfl (Qy.load 4 T.one23 rfl rfl rfl) ?_
      refine Gm.q 4 [] (by kernel_rfl) rfl rfl (Qy.fieldAddr T.fa34_1 rfl) ?_
      refine Gm.q 5 [8] (by kernel_rfl) rfl rfl (Qy.load 8 T.one3 rfl rfl rfl) ?_
      refine Gm.q 6 [] (by kernel_rfl) rfl rfl (Qy.indexAddrO (α := Int) T.sl23 rfl rfl (by assumption) (by omega)) ?_
      refine Gm.q 7 [0, 5] (by kernel_rfl) rfl rfl (Qy.loadO 5 0 T.one3 rfl rfl (by assumption) (by omega) rfl rfl) ?_
      refine Gm.q 8 [] (by kernel_rfl) rfl rfl (Qy.move rfl) ?_
      refine Gm.q 9 [] (by kernel_rfl) rfl rfl (Qy.eql rfl rfl) ?_
      refine Gm.doneA (by kernel_rfl) ⟨rfl, rfl, rfl, rfl, rfl, rfl, rfl, rfl, rfl, trivial⟩ (by first | exact Imm.le_refl _ | assumption) ?_
      refine Ar.next ?_
      refine Wc.cond rfl (fun hc1 => ?_) (fun hc1 => ?_)
      refine Wc.exit ?_
      refine Ar.passExit ?_
      refine Ar.here ?_
      refine Ar.next ?_
      refine Wc.region rfl ?_
      refine Wl.q rfl (Qy.move rfl) ?_
      refine Wl.q rfl (Qy.add rfl rfl (by omega)) ?_
      refine Wl.q rfl (Qy.assign rfl) ?_
      refine Wl.done ?_
      rotate_left
      refine Wc.skip ?_
      refine Ar.next ?_
      refine Wc.seq ?_
      refine Wc.seq ?_
      refine Wc.region rfl ?_
      refine Wl.q rfl (Qy.move rfl) ?_
      refine Wl.q rfl (Qy.geq rfl rfl) ?_
      refine Wl.done ?_
      refine Ar.next ?_
      refine Wc.cond rfl (fun hc2 => ?_) (fun hc2 => ?_)
      refine Wc.region rfl ?_
      refine Wl.q rfl (Qy.fieldAddr T.fa25_2 rfl) ?_
      refine Wl.q rfl (Qy.load 7 T.one22 rfl rfl rfl) ?_
      refine Wl.q rfl (Qy.fieldAddr T.fa34_1 rfl) ?_
      refine Wl.q rfl (Qy.load 8 T.one3 rfl rfl rfl) ?_
      refine Wl.q rfl (Qy.move rfl) ?_
      refine Wl.q rfl (Qy.build (cs := [_, _, _, _, _]) T.st34 rfl rfl rfl) ?_
      refine Wl.lit (α := Instr) 9 [⟨1, Go.Sl.Instr.to (Option.getD (Go.Proofs.Ytfleehgbpgmcnaa.PV.code p)[Int.toNat (↑k : Int)]? Inhabited.default), Go.Proofs.Ytfleehgbpgmcnaa.holder held (Prod.fst (Prod.fst (Go.Proofs.Ytfleehgbpgmcnaa.reckonP (Go.Proofs.Ytfleehgbpgmcnaa.tabOf held ks nx) (↑k : Int) (Option.getD (Go.Proofs.Ytfleehgbpgmcnaa.PV.code p)[Int.toNat (↑k : Int)]? Inhabited.default)))), 0, 0⟩] rfl T.sl22 T.el34 rfl rfl rfl rfl rfl (fun b5 => ?_)
      refine Wl.append (α := Instr) 0 rfl T.sl22 T.el34 rfl rfl rfl (by first | assumption | exact OwnA.nil | exact OwnA.made (by simp)) (Src.row 9 rfl) (by first | omega | (simp only [List.length_append, List.length_cons, List.length_nil, maxLen]; omega)) (by first | omega | (simp only [List.length_append, List.length_cons, List.length_nil, maxLen]; omega)) (fun a1 c1 junk1 ho1 => ?_)
      refine Wl.q rfl (Qy.fieldAddr T.fa25_2 rfl) ?_
      refine Wl.store 7 T.one22 rfl rfl rfl rfl rfl ?_
      refine Wl.done ?_
      refine Ar.next ?_
      refine Wc.draw [1, 2, 3, 8, 6, 5, 4, 9, 0, 7] [(7, 8), (0, 8), (9, 8), (4, 8), (5, 8), (6, 8), (8, 8), (3, 8), (2, 8), (1, 8)] T.mixed rfl ?_
      refine Gm.q 0 [] (by kernel_rfl) rfl rfl (Qy.move rfl) ?_
      refine Gm.q 1 [] (by kernel_rfl) rfl rfl (Qy.nilCheck rfl) ?_
      refine Gm.q 2 [] (by kernel_rfl) rfl rfl (Qy.fieldAddr T.fa61_0 rfl) ?_
      refine Gm.q 3 [4] (by kernel_rfl) rfl rfl (Qy.load 4 T.one23 rfl rfl rfl) ?_
      refine Gm.q 4 [] (by kernel_rfl) rfl rfl (Qy.fieldAddr T.fa34_1 rfl) ?_
      refine Gm.q 5 [8] (by kernel_rfl) rfl rfl (Qy.load 8 T.one3 rfl rfl rfl) ?_
      refine Gm.q 6 [] (by kernel_rfl) rfl rfl (Qy.move rfl) ?_
      refine Gm.q 7 [] (by kernel_rfl) rfl rfl (Qy.indexAddrO (α := Int) T.sl23 rfl rfl (by assumption) (by omega)) ?_
      refine Gm.one 8 ⟨rfl, rfl, rfl, rfl, rfl, rfl, rfl, rfl, rfl, rfl, trivial⟩ (by first | exact Imm.le_refl _ | assumption) (by kernel_rfl) rfl ?_
      refine Wl.setO (z := _) 5 T.size3 rfl rfl rfl (by assumption) (by omega) rfl (fun ho2 => ?_)
      refine Wl.on0 ?_
      refine Gm.doneA (by kernel_rfl) trivial (by first | exact Imm.le_refl _ | assumption) ?_
      refine Ar.outNormal ?_
      refine Ar.next ?_
      refine Wc.region rfl ?_
      refine Wl.q rfl (Qy.move rfl) ?_
      refine Wl.q rfl (Qy.add rfl rfl (by omega)) ?_
      refine Wl.q rfl (Qy.assign rfl) ?_
      refine Wl.done ?_
      rotate_left
      refine Wc.region rfl ?_
      refine Wl.q rfl (Qy.fieldAddr T.fa25_2 rfl) ?_
      refine Wl.q rfl (Qy.load 7 T.one22 rfl rfl rfl) ?_
      refine Wl.q rfl (Qy.fieldAddr T.fa34_0 rfl) ?_
      refine Wl.q rfl (Qy.load 8 T.one3 rfl rfl rfl) ?_
      refine Wl.q rfl (Qy.fieldAddr T.fa34_1 rfl) ?_
      refine Wl.q rfl (Qy.load 8 T.one3 rfl rfl rfl) ?_
      refine Wl.q rfl (Qy.move rfl) ?_
      refine Wl.q rfl (Qy.move rfl) ?_
      refine Wl.q rfl (Qy.fieldAddr T.fa34_4 rfl) ?_
      refine Wl.q rfl (Qy.load 8 T.one3 rfl rfl rfl) ?_
      refine Wl.q rfl (Qy.build (cs := [_, _, _, _, _]) T.st34 rfl rfl rfl) ?_
      refine Wl.lit (α := Instr) 9 [⟨Go.Sl.Instr.op (Option.getD (Go.Proofs.Ytfleehgbpgmcnaa.PV.code p)[Int.toNat (↑k : Int)]? Inhabited.default), Go.Sl.Instr.to (Option.getD (Go.Proofs.Ytfleehgbpgmcnaa.PV.code p)[Int.toNat (↑k : Int)]? Inhabited.default), Go.Proofs.Ytfleehgbpgmcnaa.holder held (Option.getD held[Int.toNat (Go.Sl.Instr.a (Option.getD (Go.Proofs.Ytfleehgbpgmcnaa.PV.code p)[Int.toNat (↑k : Int)]? Inhabited.default))]? Inhabited.default), v, Go.Sl.Instr.c (Option.getD (Go.Proofs.Ytfleehgbpgmcnaa.PV.code p)[Int.toNat (↑k : Int)]? Inhabited.default)⟩] rfl T.sl22 T.el34 rfl rfl rfl rfl rfl (fun b5 => ?_)
      refine Wl.append (α := Instr) 0 rfl T.sl22 T.el34 rfl rfl rfl (by first | assumption | exact OwnA.nil | exact OwnA.made (by simp)) (Src.row 9 rfl) (by first | omega | (simp only [List.length_append, List.length_cons, List.length_nil, maxLen]; omega)) (by first | omega | (simp only [List.length_append, List.length_cons, List.length_nil, maxLen]; omega)) (fun a1 c1 junk1 ho1 => ?_)
      refine Wl.q rfl (Qy.fieldAddr T.fa25_2 rfl) ?_
      refine Wl.store 7 T.one22 rfl rfl rfl rfl rfl ?_
      refine Wl.done ?_
      refine Ar.next ?_
      refine Wc.draw [1, 2, 3, 8, 6, 5, 4, 9, 0, 7] [(7, 8), (0, 8), (9, 8), (4, 8), (5, 8), (6, 8), (8, 8), (3, 8), (2, 8), (1, 8)] T.mixed rfl ?_
      refine Gm.q 0 [] (by kernel_rfl) rfl rfl (Qy.move rfl) ?_
      refine Gm.q 1 [] (by kernel_rfl) rfl rfl (Qy.nilCheck rfl) ?_
      refine Gm.q 2 [] (by kernel_rfl) rfl rfl (Qy.fieldAddr T.fa61_0 rfl) ?_
      refine Gm.q 3 [4] (by kernel_rfl) rfl rfl (Qy.load 4 T.one23 rfl rfl rfl) ?_
      refine Gm.q 4 [] (by kernel_rfl) rfl rfl (Qy.fieldAddr T.fa34_1 rfl) ?_
      refine Gm.q 5 [8] (by kernel_rfl) rfl rfl (Qy.load 8 T.one3 rfl rfl rfl) ?_
      refine Gm.q 6 [] (by kernel_rfl) rfl rfl (Qy.move rfl) ?_
      refine Gm.q 7 [] (by kernel_rfl) rfl rfl (Qy.indexAddrO (α := Int) T.sl23 rfl rfl (by assumption) (by omega)) ?_
      refine Gm.one 8 ⟨rfl, rfl, rfl, rfl, rfl, rfl, rfl, rfl, rfl, rfl, trivial⟩ (by first | exact Imm.le_refl _ | assumption) (by kernel_rfl) rfl ?_
      refine Wl.setO (z := _) 5 T.size3 rfl rfl rfl (by assumption) (by omega) rfl (fun ho2 => ?_)
      refine Wl.on0 ?_
      refine Gm.doneA (by kernel_rfl) trivial (by first | exact Imm.le_refl _ | assumption) ?_
      refine Ar.outNormal ?_
      refine Ar.next ?_
      refine Wc.region rfl ?_
      refine Wl.q rfl (Qy.move rfl) ?_
      refine Wl.q rfl (Qy.add rfl rfl (by omega)) ?_
      refine Wl.q rfl (Qy.assign rfl) ?_
      refine Wl.done ?_
      rotate_left
      · generalize hI : p.code[((k : Nat) : Int).toNat]?.getD default = I at *
        refine Ar.again ((k + 1, (held, ks2, (reckonP (tabOf held ks nx) k I).2.next), out, (a, c, junk), (kb2, kd2, kj2), (a', c', junk'))) ?_ ?_ rfl ⟨rfl, rfl, rfl, rfl, rfl, trivial⟩ ⟨rfl, rfl, rfl, rfl, rfl, rfl, rfl, rfl, trivial⟩
        · refine ⟨by omega, ?_, hoa, hko2, hoa', hlen, by omega, by omega, (reckon_next hn0 k I).1, ?_⟩
          · show _ = passStep (passTo p k) k (p.code[((k : Nat) : Int).toNat]?.getD default)
            rw [← hpass, hI, passStep_same' hc1, ← htab2]
            rfl
          · have h1 : (reckonP (tabOf held ks nx) k I).2.next ≤ nx + 1 := (reckon_next (t := tabOf held ks nx) hn0 k I).2
            show (reckonP (tabOf held ks nx) k I).2.next ≤ _
            omega
        · show p.code.length - (k + 1) < p.code.length - k
          omega
      · generalize hI : p.code[((k : Nat) : Int).toNat]?.getD default = I at *
        refine Ar.reH 4 (.cells #[.slice a (held.set I.to.toNat (reckonP (tabOf held ks nx) k I).1.1).length c, .slice kb2 ks2.length kd2, .int .i64 (reckonP (tabOf held ks nx) k I).2.next] 61) rfl (by rw [List.length_set]) ?_
        refine Ar.again ((k + 1, (held.set I.to.toNat (reckonP (tabOf held ks nx) k I).1.1, ks2, (reckonP (tabOf held ks nx) k I).2.next), _, (a, c, junk), (kb2, kd2, kj2), (a1, c1, junk1))) ?_ ?_ rfl ⟨rfl, rfl, rfl, rfl, rfl, trivial⟩ ⟨rfl, rfl, rfl, rfl, rfl, rfl, rfl, rfl, trivial⟩
        · refine ⟨by omega, ?_, ho2, hko2, ho1, ?_, ?_, by omega, (reckon_next hn0 k I).1, ?_⟩
          · show _ = passStep (passTo p k) k (p.code[((k : Nat) : Int).toNat]?.getD default)
            rw [← hpass, hI, passStep_move' hc1 hc2, ← htab2]
            rfl
          · show ((held.set _ _).length : Int) = _
            rw [List.length_set]; exact hlen
          · rw [List.length_append]; simp only [List.length_cons, List.length_nil]; omega
          · have h1 : (reckonP (tabOf held ks nx) k I).2.next ≤ nx + 1 := (reckon_next (t := tabOf held ks nx) hn0 k I).2
            show (reckonP (tabOf held ks nx) k I).2.next ≤ _
            omega
        · show p.code.length - (k + 1) < p.code.length - k
          omega
      · generalize hI : p.code[((k : Nat) : Int).toNat]?.getD default = I at *
        refine Ar.reH 4 (.cells #[.slice a (held.set I.to.toNat (reckonP (tabOf held ks nx) k I).1.1).length c, .slice kb2 ks2.length kd2, .int .i64 (reckonP (tabOf held ks nx) k I).2.next] 61) rfl (by rw [List.length_set]) ?_
        refine Ar.again ((k + 1, (held.set I.to.toNat (reckonP (tabOf held ks nx) k I).1.1, ks2, (reckonP (tabOf held ks nx) k I).2.next), _, (a, c, junk), (kb2, kd2, kj2), (a1, c1, junk1))) ?_ ?_ rfl ⟨rfl, rfl, rfl, rfl, rfl, trivial⟩ ⟨rfl, rfl, rfl, rfl, rfl, rfl, rfl, rfl, trivial⟩
        · refine ⟨by omega, ?_, ho2, hko2, ho1, ?_, ?_, by omega, (reckon_next hn0 k I).1, ?_⟩
          · show _ = passStep (passTo p k) k (p.code[((k : Nat) : Int).toNat]?.getD default)
            rw [← hpass, hI, passStep_keep' hc1 hc2, ← htab2]
            rw [hk]; rfl
          · show ((held.set _ _).length : Int) = _
            rw [List.length_set]; exact hlen
          · rw [List.length_append]; simp only [List.length_cons, List.length_nil]; omega
          · have h1 : (reckonP (tabOf held ks nx) k I).2.next ≤ nx + 1 := (reckon_next (t := tabOf held ks nx) hn0 k I).2
            show (reckonP (tabOf held ks nx) k I).2.next ≤ _
            omega
        · show p.code.length - (k + 1) < p.code.length - k
          omega
  · have hk : k = p.code.length := by omega
    subst hk
    refine Wc.seq ?_
    refine Wc.seq ?_
    refine Wc.region rfl ?_
    refine Wl.q rfl (Qy.move rfl) ?_
    refine Wl.q rfl (Qy.fieldAddr T.fa25_2 rfl) ?_
    refine Wl.q rfl (Qy.load 2 T.one22 rfl rfl rfl) ?_
    refine Wl.q rfl (Qy.len T.sl22 rfl) ?_
    refine Wl.q rfl (Qy.lss rfl rfl) ?_
    refine Wl.done ?_
    refine Ar.next ?_
    refine Wc.condN rfl (by first | assumption | omega) ?_
    refine Wc.exit ?_
    refine Ar.passExit ?_
    refine Ar.passExit ?_
    refine Ar.here ?_
    refine Ar.next ?_
    refine Wc.seq ?_
    refine Wc.seq ?_
    refine Wc.region rfl ?_
    refine Wl.q rfl (Qy.assign rfl) ?_
    refine Wl.done ?_
    refine Ar.next ?_
    refine Wc.block ?_
    refine Wc.loop (ι := Nat × List Int × Option Addr × Nat × List Value) (fun (k, os, b', d', j') => ([(12, .int .i64 (k : Int)), (4, Go.Value.pointer (Option.some (Go.Addr.mk b3 0 Option.none))), (3, Go.Value.pointer (Option.some (Go.Addr.mk bs1 0 Option.none))), (2, Go.Value.pointer (Option.some (Go.Addr.mk b2 0 Option.none))), (1, Go.Value.pointer (Option.some (Go.Addr.mk b1 0 Option.none)))], [(7, some b3, .cells #[.int .i64 p.ins, .int .i64 p.regs, .slice a' out.length c', .slice b' os.length d'] 25), (1, b'.map (·.block), Row 3 os j'), (4, Option.some bs1, Go.Obj.cells #[Go.Value.slice a (List.length held) c, Go.Value.slice b (List.length ks) d, Go.Value.int Go.IntKind.i64 nx] 61), (5, Option.map (fun x => Go.Addr.block x) a, Go.Sl.Row (α := Int) 3 (held) (junk)), (6, Option.map (fun x => Go.Addr.block x) b, Go.Sl.Row (α := Go.Sl.R6) 99 (ks) (j)), (0, Option.map (fun x => Go.Addr.block x) a', Go.Sl.Row (α := Go.Sl.Instr) 34 (out) (junk')), (3, Option.some b2, Go.Obj.cells #[Go.Value.int Go.IntKind.i64 0, Go.Value.int Go.IntKind.i64 0, Go.Value.slice Option.none 0 0, Go.Value.slice Option.none 0 0] 25), (2, Option.some b1, Go.Obj.cells #[Go.Value.int Go.IntKind.i64 (Go.Proofs.Ytfleehgbpgmcnaa.PV.ins p), Go.Value.int Go.IntKind.i64 (Go.Proofs.Ytfleehgbpgmcnaa.PV.regs p), Go.Value.slice ac (List.length (Go.Proofs.Ytfleehgbpgmcnaa.PV.code p)) cc, Go.Value.slice ao (List.length (Go.Proofs.Ytfleehgbpgmcnaa.PV.outs p)) co] 25)])) (fun (k, os, b', d', j') => k ≤ p.outs.length ∧ os = (passOuts p held).take k ∧ OwnA b' d' os j') (fun (k, os, b', d', j') => p.outs.length - k) ((0, [], none, 0, [])) (⟨Nat.zero_le _, rfl, OwnA.nil⟩) ⟨rfl, rfl, rfl, rfl, rfl, trivial⟩ ⟨rfl, rfl, rfl, rfl, rfl, rfl, rfl, rfl, trivial⟩ (fun ⟨k, os, b', d', j'⟩ => fun (hk : k ≤ p.outs.length ∧ os = (passOuts p held).take k ∧ OwnA b' d' os j') => ?_)
    obtain ⟨hk2, hos, hob'⟩ := hk
    have hosl : os.length ≤ 128 := by rw [hos, List.length_take]; omega
    rcases Nat.lt_or_ge k p.outs.length with hlt | hge
    · have hr : 0 ≤ p.outs[((k : Nat) : Int).toNat]?.getD default ∧ p.outs[((k : Nat) : Int).toNat]?.getD default < held.length := by
        rw [hlen]; refine r7 _ ?_
        rw [Int.toNat_natCast, List.getElem?_eq_getElem hlt]; simp
      refine Wc.seq ?_
      refine Wc.seq ?_
      refine Wc.region rfl ?_
      refine Wl.q rfl (Qy.move rfl) ?_
      refine Wl.q rfl (Qy.fieldAddr T.fa25_3 rfl) ?_
      refine Wl.q rfl (Qy.load 2 T.one23 rfl rfl rfl) ?_
      refine Wl.q rfl (Qy.len T.sl23 rfl) ?_
      refine Wl.q rfl (Qy.lss rfl rfl) ?_
      refine Wl.done ?_
      refine Ar.next ?_
      refine Wc.condP rfl (by first | assumption | omega) ?_
      refine Wc.skip ?_
      refine Ar.next ?_
      refine Wc.seq ?_
      refine Wc.block ?_
      refine Wc.draw [2, 3, 0, 6, 5, 4, 1, 7] [(7, 18), (1, 16), (5, 16), (6, 16), (0, 16)] T.mixed rfl ?_
      refine Gm.q 0 [] (by kernel_rfl) rfl rfl (Qy.fieldAddr T.fa25_3 rfl) ?_
      refine Gm.q 1 [7] (by kernel_rfl) rfl rfl (Qy.load 7 T.one23 rfl rfl rfl) ?_
      refine Gm.q 2 [] (by kernel_rfl) rfl rfl (Qy.move rfl) ?_
      refine Gm.q 3 [] (by kernel_rfl) rfl rfl (Qy.move rfl) ?_
      refine Gm.q 4 [] (by kernel_rfl) rfl rfl (Qy.nilCheck rfl) ?_
      refine Gm.q 5 [] (by kernel_rfl) rfl rfl (Qy.fieldAddr T.fa61_0 rfl) ?_
      refine Gm.q 6 [4] (by kernel_rfl) rfl rfl (Qy.load 4 T.one23 rfl rfl rfl) ?_
      refine Gm.q 7 [] (by kernel_rfl) rfl rfl (Qy.fieldAddr T.fa25_3 rfl) ?_
      refine Gm.q 8 [2] (by kernel_rfl) rfl rfl (Qy.load 2 T.one23 rfl rfl rfl) ?_
      refine Gm.q 9 [] (by kernel_rfl) rfl rfl (Qy.move rfl) ?_
      refine Gm.q 10 [] (by kernel_rfl) rfl rfl (Qy.at (α := Int) T.sl23 rfl rfl (by assumption) (by omega)) ?_
      refine Gm.q 11 [] (by kernel_rfl) rfl rfl (Qy.loadG T.one3 rfl (Arr.cell (by assumption) (by omega) 0 rfl rfl)) ?_
      refine Gm.q 12 [] (by kernel_rfl) rfl rfl (Qy.indexAddrO (α := Int) T.sl23 rfl rfl (by assumption) (by omega)) ?_
      refine Gm.one 13 ⟨rfl, rfl, rfl, rfl, rfl, rfl, rfl, rfl, trivial⟩ (by first | exact Imm.le_refl _ | assumption) (by kernel_rfl) rfl ?_
      refine Wl.q rfl (Qy.loadO 5 0 T.one3 rfl rfl (by assumption) (by omega) rfl rfl) ?_
      refine Wl.on0 ?_
      refine Gm.one 14 ⟨rfl, rfl, rfl, rfl, rfl, rfl, rfl, rfl, trivial⟩ (by first | exact Imm.le_refl _ | assumption) (by kernel_rfl) rfl ?_
      refine Wl.call1 4 rfl T.fn59 rfl (c59 _ _ _ _ _ _ _ _ _ _ _ _ (by assumption) (by omega)) (tags_of ⟨rfl, rfl, rfl, trivial⟩) ?_
      refine Wl.on0 ?_
      refine Gm.one 15 ⟨rfl, rfl, rfl, rfl, rfl, rfl, rfl, rfl, trivial⟩ (by first | exact Imm.le_refl _ | assumption) (by kernel_rfl) rfl ?_
      refine Wl.lit (α := Int) 8 [(Go.Proofs.Ytfleehgbpgmcnaa.holder held (Option.getD held[Int.toNat (Option.getD (Go.Proofs.Ytfleehgbpgmcnaa.PV.outs p)[Int.toNat (↑k : Int)]? Inhabited.default)]? Inhabited.default))] rfl T.sl23 T.el3 rfl rfl rfl rfl rfl (fun b4 => ?_)
      refine Wl.on0 ?_
      refine Gm.one 16 ⟨rfl, rfl, rfl, rfl, rfl, rfl, rfl, rfl, trivial⟩ (by first | exact Imm.le_refl _ | assumption) (by kernel_rfl) rfl ?_
      refine Wl.append (α := Int) 1 rfl T.sl23 T.el3 rfl rfl rfl (by first | assumption | exact OwnA.nil | exact OwnA.made (by simp)) (Src.row 8 rfl) (by first | omega | (simp only [List.length_append, List.length_cons, List.length_nil, maxLen]; omega)) (by first | omega | (simp only [List.length_append, List.length_cons, List.length_nil, maxLen]; omega)) (fun a1 c1 junk1 ho1 => ?_)
      refine Wl.on0 ?_
      refine Gm.q 17 [] (by kernel_rfl) rfl rfl (Qy.fieldAddr T.fa25_3 rfl) ?_
      refine Gm.one 18 ⟨rfl, rfl, rfl, rfl, trivial⟩ (by first | exact Imm.le_refl _ | assumption) (by kernel_rfl) rfl ?_
      refine Wl.store 7 T.one23 rfl rfl rfl rfl rfl ?_
      refine Wl.on0 ?_
      refine Gm.doneA (by kernel_rfl) ⟨rfl, rfl, rfl, trivial⟩ (by first | exact Imm.le_refl _ | assumption) ?_
      refine Ar.outNormal ?_
      refine Ar.next ?_
      refine Wc.region rfl ?_
      refine Wl.q rfl (Qy.move rfl) ?_
      refine Wl.q rfl (Qy.add rfl rfl (by omega)) ?_
      refine Wl.q rfl (Qy.assign rfl) ?_
      refine Wl.done ?_
      refine Ar.again ((k + 1, _, a1, c1, junk1)) ?_ ?_ rfl ⟨rfl, rfl, rfl, rfl, rfl, trivial⟩ ⟨rfl, rfl, rfl, rfl, rfl, rfl, rfl, rfl, trivial⟩
      · refine ⟨by omega, ?_, ho1⟩
        have hst : (passOuts p held).take (k + 1) = (passOuts p held).take k ++ [holder held (held[(p.outs[((k : Nat) : Int).toNat]?.getD default).toNat]?.getD default)] := by
          rw [List.take_add_one]
          simp [passOuts, hlt]
        rw [hst, hos]
      · show p.outs.length - (k + 1) < p.outs.length - k
        omega
    · refine Wc.seq ?_
      refine Wc.seq ?_
      refine Wc.region rfl ?_
      refine Wl.q rfl (Qy.move rfl) ?_
      refine Wl.q rfl (Qy.fieldAddr T.fa25_3 rfl) ?_
      refine Wl.q rfl (Qy.load 2 T.one23 rfl rfl rfl) ?_
      refine Wl.q rfl (Qy.len T.sl23 rfl) ?_
      refine Wl.q rfl (Qy.lss rfl rfl) ?_
      refine Wl.done ?_
      refine Ar.next ?_
      refine Wc.condN rfl (by first | assumption | omega) ?_
      refine Wc.exit ?_
      refine Ar.passExit ?_
      refine Ar.passExit ?_
      refine Ar.here ?_
      refine Ar.next ?_
      refine Wc.seq ?_
      refine Wc.region rfl ?_
      refine Wl.q rfl (Qy.loadAll 7 T.agg25 rfl rfl rfl) ?_
      refine Wl.storeAll 3 T.size25 rfl rfl rfl rfl rfl rfl ?_
      refine Wl.done ?_
      refine Ar.next ?_
      refine Wc.ret ?_
      refine Ar.out1 (.inr rfl) (Ho := Hp.only _ [0, 1]) rfl (.agg 3 rfl rfl T.agg25) (Hp.sub_only _ _) ?_
      have ht : held = (passTo p p.code.length).1.held := congrArg (fun s => s.1.held) hpass
      have hou : out = (passP p).code := congrArg Prod.snd hpass
      have hos' : os = (passP p).outs := by
        rw [hos, List.take_of_length_le (by simp [passOuts]; omega), ht]; rfl
      rw [hou] at hoa' ⊢
      rw [hos'] at hob' ⊢
      exact ⟨a', b', c', d', junk', j', rfl, hoa', hob', rfl, rfl⟩
end Go.Proofs.Ytfleehgbpgmcnaa
