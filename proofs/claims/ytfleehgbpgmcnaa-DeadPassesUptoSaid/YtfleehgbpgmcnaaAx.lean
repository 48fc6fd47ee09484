import Derived.Test.YtfleehgbpgmcnaaSlP
import Derived.Test.YtfleehgbpgmcnaaAw
import Derived.Test.YtfleehgbpgmcnaaAt
namespace Go.Proofs.Ytfleehgbpgmcnaa
open Go Go.Sl
set_option maxRecDepth 100000

set_option maxHeartbeats 2000000
attribute [local irreducible] neededP
/-- the answer: r registers are known; of r it is being looked at -/
def AR (q : PV) (r : Nat) : List Bool := (List.range r).map (fun (r : Nat) => allAt q (r : Int) 0) ++ List.replicate (q.regs.toNat - r) false
def AM (q : PV) (r : Nat) (f : Bool) : List Bool := (List.range r).map (fun (r : Nat) => allAt q (r : Int) 0) ++ f :: List.replicate (q.regs.toNat - (r + 1)) false
theorem AR_open {q : PV} {r : Nat} (h : r < q.regs.toNat) : AR q r = AM q r false := by
  unfold AR AM
  obtain ⟨d, hd⟩ : ∃ d, q.regs.toNat - r = d + 1 := ⟨q.regs.toNat - r - 1, by omega⟩
  have e : q.regs.toNat - (r + 1) = d := by omega
  rw [hd, e, List.replicate_succ]
theorem AR_shut (q : PV) (r : Nat) : AM q r (allAt q (r : Int) 0) = AR q (r + 1) := by
  unfold AR AM
  rw [List.range_succ, List.map_append, List.append_assoc]; rfl
theorem AR_zero (q : PV) : AR q 0 = List.replicate q.regs.toNat false := by unfold AR; simp
theorem AR_all (q : PV) : AR q q.regs.toNat = askRef q := by unfold AR askRef; simp
theorem AM_len {q : PV} {r : Nat} (h : r < q.regs.toNat) (f : Bool) : (AM q r f).length = q.regs.toNat := by
  unfold AM; simp; omega
theorem AR_len {q : PV} {r : Nat} (h : r ≤ q.regs.toNat) : (AR q r).length = q.regs.toNat := by
  unfold AR; simp; omega
theorem AM_set (q : PV) (r : Nat) (f g : Bool) : (AM q r f).set ((r : Nat) : Int).toNat g = AM q r g := by
  unfold AM
  rw [Int.toNat_natCast, List.set_append_right _ _ (by simp)]
  simp
theorem AM_get (q : PV) (r : Nat) (f : Bool) : (AM q r f)[((r : Nat) : Int).toNat]?.getD default = f := by
  unfold AM
  rw [Int.toNat_natCast, List.getElem?_append_right (by simp)]
  simp
attribute [local irreducible] AR AM allAt askRef
theorem or_mem_step (f : Bool) (r : Int) (L : List Int) {b : Nat} (h : b < L.length) : (f || decide (r ∈ L.take (b + 1))) = ((f || decide (r ∈ L.take b)) || decide (L[((b : Nat) : Int).toNat]?.getD default = r)) := by
  rw [List.take_add_one, Int.toNat_natCast, List.getElem?_eq_getElem h]
  have e : (L[b]'h = r) ↔ r = L[b]'h := eq_comm
  simp only [List.mem_append, Option.toList_some, List.mem_singleton, Bool.decide_or, Bool.or_assoc, Option.getD_some, e]
theorem c36 (G : Imm) (p : PV) (ac ao : Option Addr) (cc co : Nat) (hc : Arr G ac p.code) (ho : Arr G ao p.outs) (hR : rightP p = true) :
    Does Try.prog 36 [.agg #[.int .i64 p.ins, .int .i64 p.regs, .slice ac p.code.length cc, .slice ao p.outs.length co]] G [] (fun v G' Ho => ∃ b c j, v = .slice b (askRef (deadP p)).length c ∧ OwnA b c (askRef (deadP p)) j ∧ Ho = [(0, b.map (·.block), Row 4 (askRef (deadP p)) j)] ∧ G' = G) := by
  obtain ⟨r1, r2, r3, r4, r5, r6, r7, r8⟩ := right_facts hR
  have hdl := dead_len hR
  have hdr : (deadP p).regs = p.regs := rfl
  have hdo : (deadP p).outs = p.outs := rfl
  refine Does.enter Try.func36 rfl Try.ntmps36 rfl (fun w => ?_)
  refine Wc.seq ?_
  refine Wc.region rfl ?_
  refine Wl.box 0 rfl rfl rfl (fun b1 => ?_)
  refine Wl.q rfl (Qy.assign rfl) ?_
  refine Wl.done ?_
  refine Ar.next ?_
  refine Wc.seq ?_
  refine Wc.region rfl ?_
  refine Wl.q rfl (Qy.loadAll 0 T.agg25 rfl rfl rfl) ?_
  refine Wl.call 1 rfl T.fn35 rfl (c35 _ _ _ _ _ _ (by assumption) (by assumption) (by assumption)) (tags_of trivial) (fun v1 G1 Ho1 hle1 hp => ?_)
  obtain ⟨qc1, qo1, qcc1, qoc1, qj1, qk1, rfl, hqc1, hqo1, rfl, rfl⟩ := hp
  refine Wl.alloc 3 rfl T.zero25 (fun b2 => ?_)
  refine Wl.storeAll 3 T.size25 rfl rfl rfl rfl rfl rfl ?_
  refine Wl.done ?_
  refine Ar.next ?_
  refine Wc.seq ?_
  refine Wc.region rfl ?_
  refine Wl.q rfl (Qy.fieldAddr T.fa25_1 rfl) ?_
  refine Wl.q rfl (Qy.load 0 T.one3 rfl rfl rfl) ?_
  refine Wl.make (α := Bool) 4 rfl T.sl64 T.el4 rfl rfl (by omega) (by omega) (fun b3 => ?_)
  refine Wl.q rfl (Qy.assign rfl) ?_
  refine Wl.done ?_
  refine Ar.next ?_
  refine Wc.seq ?_
  refine Wc.seq ?_
  refine Wc.region rfl ?_
  refine Wl.q rfl (Qy.assign rfl) ?_
  refine Wl.done ?_
  refine Ar.next ?_
  refine Wc.block ?_
  have hzr := dead_right hR
  obtain ⟨z1, z2, z3, z4, z5, z6, z7, z8⟩ := right_facts hzr
  generalize hz : deadP p = z at *
  have hOw : ∀ O : List Bool, O.length = p.regs.toNat → OwnA (some ⟨b3, 0, none⟩) p.regs.toNat O [] := fun O hO => .inr ⟨b3, rfl, by rw [hO]; simp, by omega, by simp only [maxLen]; omega⟩
  have hR0 : List.replicate p.regs.toNat (default : Bool) = AR z 0 := by rw [AR_zero, hdr]; rfl
  have hRl : (AR z 0).length = p.regs.toNat := by rw [AR_len (Nat.zero_le _), hdr]
  refine Wc.re 4 rfl (show _ = Value.slice (some ⟨b3, 0, none⟩) (AR z 0).length p.regs.toNat by rw [hR0, hRl]) (Wc.reH 4 (Row 4 (AR z 0) []) rfl (by rw [hR0]) ?_)
  refine Wc.loop (ι := Nat) (fun r => ([(5, .int .i64 (r : Int)), (4, .slice (some ⟨b3, 0, none⟩) (AR z r).length p.regs.toNat), (3, Go.Value.pointer (Option.some (Go.Addr.mk b2 0 Option.none))), (2, Go.Value.slice Option.none 0 0), (1, Go.Value.pointer (Option.some (Go.Addr.mk b1 0 Option.none)))], [(4, some b3, Row 4 (AR z r) []), (3, Option.some b2, Go.Obj.cells #[Go.Value.int Go.IntKind.i64 (Go.Proofs.Ytfleehgbpgmcnaa.PV.ins p), Go.Value.int Go.IntKind.i64 (Go.Proofs.Ytfleehgbpgmcnaa.PV.regs p), Go.Value.slice qc1 (List.length (Go.Proofs.Ytfleehgbpgmcnaa.PV.code z)) qcc1, Go.Value.slice qo1 (List.length (Go.Proofs.Ytfleehgbpgmcnaa.PV.outs p)) qoc1] 25), (1, Option.map (fun x => Go.Addr.block x) qc1, Go.Sl.Row (α := Go.Sl.Instr) 34 (Go.Proofs.Ytfleehgbpgmcnaa.PV.code z) (qj1)), (2, Option.map (fun x => Go.Addr.block x) qo1, Go.Sl.Row (α := Int) 3 (Go.Proofs.Ytfleehgbpgmcnaa.PV.outs p) (qk1)), (0, Option.some b1, Go.Obj.cells #[Go.Value.int Go.IntKind.i64 (Go.Proofs.Ytfleehgbpgmcnaa.PV.ins p), Go.Value.int Go.IntKind.i64 (Go.Proofs.Ytfleehgbpgmcnaa.PV.regs p), Go.Value.slice ac (List.length (Go.Proofs.Ytfleehgbpgmcnaa.PV.code p)) cc, Go.Value.slice ao (List.length (Go.Proofs.Ytfleehgbpgmcnaa.PV.outs p)) co] 25)])) (fun r => r ≤ p.regs.toNat) (fun r => p.regs.toNat - r) (0) (Nat.zero_le _) ⟨rfl, rfl, rfl, rfl, rfl, trivial⟩ ⟨rfl, rfl, rfl, rfl, rfl, trivial⟩ (fun r => fun (hk : r ≤ p.regs.toNat) => ?_)
  rcases Nat.lt_or_ge r p.regs.toNat with hlt | hge
  · have hltz : r < z.regs.toNat := by rw [hdr]; exact hlt
    refine Wc.re 4 rfl (show _ = Value.slice (some ⟨b3, 0, none⟩) (AM z r false).length p.regs.toNat by rw [AR_open hltz]) (Wc.reH 4 (Row 4 (AM z r false) []) rfl (by rw [AR_open hltz]) ?_)
    refine Wc.seq ?_
    refine Wc.seq ?_
    refine Wc.region rfl ?_
    refine Wl.q rfl (Qy.move rfl) ?_
    refine Wl.q rfl (Qy.fieldAddr T.fa25_1 rfl) ?_
    refine Wl.q rfl (Qy.load 0 T.one3 rfl rfl rfl) ?_
    refine Wl.q rfl (Qy.lss rfl rfl) ?_
    refine Wl.done ?_
    refine Ar.next ?_
    refine Wc.condP rfl (by first | assumption | omega) ?_
    refine Wc.skip ?_
    refine Ar.next ?_
    refine Wc.seq ?_
    refine Wc.block ?_
    refine Wc.seq ?_
    refine Wc.region rfl ?_
    refine Wl.q rfl (Qy.assign rfl) ?_
    refine Wl.done ?_
    refine Ar.next ?_
    refine Wc.seq ?_
    refine Wc.seq ?_
    refine Wc.region rfl ?_
    refine Wl.q rfl (Qy.assign rfl) ?_
    refine Wl.done ?_
    refine Ar.next ?_
    refine Wc.block ?_
    generalize hF : allAt z (r : Int) 0 = F at *
    refine Wc.loop (ι := Nat × Bool × Bool) (fun (k, st, f) => ([(7, .int .i64 (k : Int)), (1, .pointer (some ⟨b1, 0, none⟩)), (6, .bool st), (4, .slice (some ⟨b3, 0, none⟩) (AM z r f).length p.regs.toNat), (5, Go.Value.int Go.IntKind.i64 (↑r : Int)), (3, Go.Value.pointer (Option.some (Go.Addr.mk b2 0 Option.none))), (2, Go.Value.slice Option.none 0 0)], [(4, some b3, Row 4 (AM z r f) []), (3, Option.some b2, Go.Obj.cells #[Go.Value.int Go.IntKind.i64 (Go.Proofs.Ytfleehgbpgmcnaa.PV.ins p), Go.Value.int Go.IntKind.i64 (Go.Proofs.Ytfleehgbpgmcnaa.PV.regs p), Go.Value.slice qc1 (List.length (Go.Proofs.Ytfleehgbpgmcnaa.PV.code z)) qcc1, Go.Value.slice qo1 (List.length (Go.Proofs.Ytfleehgbpgmcnaa.PV.outs p)) qoc1] 25), (1, Option.map (fun x => Go.Addr.block x) qc1, Go.Sl.Row (α := Go.Sl.Instr) 34 (Go.Proofs.Ytfleehgbpgmcnaa.PV.code z) (qj1)), (2, Option.map (fun x => Go.Addr.block x) qo1, Go.Sl.Row (α := Int) 3 (Go.Proofs.Ytfleehgbpgmcnaa.PV.outs p) (qk1)), (0, Option.some b1, Go.Obj.cells #[Go.Value.int Go.IntKind.i64 (Go.Proofs.Ytfleehgbpgmcnaa.PV.ins p), Go.Value.int Go.IntKind.i64 (Go.Proofs.Ytfleehgbpgmcnaa.PV.regs p), Go.Value.slice ac (List.length (Go.Proofs.Ytfleehgbpgmcnaa.PV.code p)) cc, Go.Value.slice ao (List.length (Go.Proofs.Ytfleehgbpgmcnaa.PV.outs p)) co] 25)])) (fun (k, st, f) => k ≤ z.code.length ∧ (st = true → F = f) ∧ (st = false → F = (f || allAt z (r : Int) k))) (fun (k, st, f) => z.code.length - k) ((0, false, false)) (⟨Nat.zero_le _, fun h => Bool.noConfusion h, fun _ => (by rw [hF]; simp)⟩) ⟨rfl, rfl, rfl, rfl, rfl, rfl, rfl, trivial⟩ ⟨rfl, rfl, rfl, rfl, rfl, trivial⟩ (fun ⟨k, st, f⟩ => fun (hk : k ≤ z.code.length ∧ (st = true → F = f) ∧ (st = false → F = (f || allAt z (r : Int) k))) => ?_)
    obtain ⟨hk1, ht, hf⟩ := hk
    rcases Decidable.em (st = false ∧ k < z.code.length) with ⟨hst, hkl⟩ | hstop
    · subst hst
      have hf := hf rfl
      clear ht
      have hstep := allAt_step z (r : Int) hkl
      have hI : z.code[k]?.getD default = z.code[((k : Nat) : Int).toNat]?.getD default := by rw [Int.toNat_natCast]
      rw [hI] at hstep
      have hasks : (asks (z.code[((k : Nat) : Int).toNat]?.getD default)).length ≤ 2 := by unfold asks; split <;> (try split) <;> simp
      refine Wc.seq ?_
      refine Wc.seq ?_
      refine Wc.region rfl ?_
      refine Wl.q rfl (Qy.move rfl) ?_
      refine Wl.q rfl (Qy.fieldAddr T.fa25_2 rfl) ?_
      refine Wl.q rfl (Qy.load 3 T.one22 rfl rfl rfl) ?_
      refine Wl.q rfl (Qy.len T.sl22 rfl) ?_
      refine Wl.q rfl (Qy.lss rfl rfl) ?_
      refine Wl.q rfl (Qy.move rfl) ?_
      refine Wl.yes 27 rfl (by first | assumption | omega) ?_
      refine Wl.want rfl rfl ?_
      refine Wl.q rfl (Qy.move rfl) ?_
      refine Wl.want rfl rfl ?_
      refine Wl.q rfl (Qy.not rfl) ?_
      refine Wl.q rfl (Qy.pick rfl rfl) ?_
      refine Wl.done ?_
      refine Ar.next ?_
      refine Wc.condT rfl ?_
      refine Wc.skip ?_
      refine Ar.next ?_
      refine Wc.seq ?_
      refine Wc.block ?_
      refine Wc.seq ?_
      refine Wc.region rfl ?_
      refine Wl.q rfl (Qy.fieldAddr T.fa25_2 rfl) ?_
      refine Wl.q rfl (Qy.load 3 T.one22 rfl rfl rfl) ?_
      refine Wl.q rfl (Qy.move rfl) ?_
      refine Wl.q rfl (Qy.indexAddrO (α := Instr) T.sl22 rfl rfl (by assumption) (by omega)) ?_
      refine Wl.q rfl (Qy.loadsO 1 T.agg34 rfl rfl (by assumption) (by omega)) ?_
      refine Wl.call 5 rfl T.fn72 rfl (c72 _ _) (tags_of trivial) (fun v2 G2 Ho2 hle2 hp => ?_)
      obtain ⟨ad2, cd2, junk2, rfl, hoa2, rfl, rfl⟩ := hp
      refine Wl.q rfl (Qy.assign rfl) ?_
      refine Wl.done ?_
      refine Ar.next ?_
      refine Wc.seq ?_
      refine Wc.seq ?_
      refine Wc.region rfl ?_
      refine Wl.q rfl (Qy.assign rfl) ?_
      refine Wl.done ?_
      refine Ar.next ?_
      refine Wc.block ?_
      refine Wc.loop (ι := Nat × Bool) (fun (b, g) => ([(9, .int .i64 (b : Int)), (1, .pointer (some ⟨b1, 0, none⟩)), (4, .slice (some ⟨b3, 0, none⟩) (AM z r g).length p.regs.toNat), (8, Go.Value.slice ad2 (List.length (Go.Proofs.Ytfleehgbpgmcnaa.asks (Option.getD (Go.Proofs.Ytfleehgbpgmcnaa.PV.code z)[Int.toNat (↑k : Int)]? Inhabited.default))) cd2), (7, Go.Value.int Go.IntKind.i64 (↑k : Int)), (6, Go.Value.bool Bool.false), (5, Go.Value.int Go.IntKind.i64 (↑r : Int)), (3, Go.Value.pointer (Option.some (Go.Addr.mk b2 0 Option.none))), (2, Go.Value.slice Option.none 0 0)], [(4, some b3, Row 4 (AM z r g) []), (6, Option.map (fun x => Go.Addr.block x) ad2, Go.Sl.Row (α := Int) 3 (Go.Proofs.Ytfleehgbpgmcnaa.asks (Option.getD (Go.Proofs.Ytfleehgbpgmcnaa.PV.code z)[Int.toNat (↑k : Int)]? Inhabited.default)) (junk2)), (3, Option.some b2, Go.Obj.cells #[Go.Value.int Go.IntKind.i64 (Go.Proofs.Ytfleehgbpgmcnaa.PV.ins p), Go.Value.int Go.IntKind.i64 (Go.Proofs.Ytfleehgbpgmcnaa.PV.regs p), Go.Value.slice qc1 (List.length (Go.Proofs.Ytfleehgbpgmcnaa.PV.code z)) qcc1, Go.Value.slice qo1 (List.length (Go.Proofs.Ytfleehgbpgmcnaa.PV.outs p)) qoc1] 25), (1, Option.map (fun x => Go.Addr.block x) qc1, Go.Sl.Row (α := Go.Sl.Instr) 34 (Go.Proofs.Ytfleehgbpgmcnaa.PV.code z) (qj1)), (2, Option.map (fun x => Go.Addr.block x) qo1, Go.Sl.Row (α := Int) 3 (Go.Proofs.Ytfleehgbpgmcnaa.PV.outs p) (qk1)), (0, Option.some b1, Go.Obj.cells #[Go.Value.int Go.IntKind.i64 (Go.Proofs.Ytfleehgbpgmcnaa.PV.ins p), Go.Value.int Go.IntKind.i64 (Go.Proofs.Ytfleehgbpgmcnaa.PV.regs p), Go.Value.slice ac (List.length (Go.Proofs.Ytfleehgbpgmcnaa.PV.code p)) cc, Go.Value.slice ao (List.length (Go.Proofs.Ytfleehgbpgmcnaa.PV.outs p)) co] 25)])) (fun (b, g) => b ≤ (asks (z.code[((k : Nat) : Int).toNat]?.getD default)).length ∧ g = (f || decide ((r : Int) ∈ (asks (z.code[((k : Nat) : Int).toNat]?.getD default)).take b))) (fun (b, g) => (asks (z.code[((k : Nat) : Int).toNat]?.getD default)).length - b) ((0, f)) (⟨Nat.zero_le _, by simp⟩) ⟨rfl, rfl, rfl, rfl, rfl, rfl, rfl, rfl, rfl, trivial⟩ ⟨rfl, rfl, rfl, rfl, rfl, rfl, trivial⟩ (fun ⟨b, g⟩ => fun (hk : b ≤ (asks (z.code[((k : Nat) : Int).toNat]?.getD default)).length ∧ g = (f || decide ((r : Int) ∈ (asks (z.code[((k : Nat) : Int).toNat]?.getD default)).take b))) => ?_)
      obtain ⟨hb1, hg⟩ := hk
      have hoO := hOw (AM z r g) (by rw [AM_len hltz, hdr])
      have hOl := AM_len hltz g
      have hget := AM_get z r g
      rcases Nat.lt_or_ge b (asks (z.code[((k : Nat) : Int).toNat]?.getD default)).length with hblt | hbge
      · refine Wc.seq ?_
        refine Wc.seq ?_
        refine Wc.region rfl ?_
        refine Wl.q rfl (Qy.move rfl) ?_
        refine Wl.q rfl (Qy.move rfl) ?_
        refine Wl.q rfl (Qy.len T.sl23 rfl) ?_
        refine Wl.q rfl (Qy.lss rfl rfl) ?_
        refine Wl.done ?_
        refine Ar.next ?_
        refine Wc.condP rfl (by first | assumption | omega) ?_
        refine Wc.skip ?_
        refine Ar.next ?_
        refine Wc.seq ?_
        refine Wc.block ?_
        refine Wc.region rfl ?_
        refine Wl.q rfl (Qy.move rfl) ?_
        refine Wl.q rfl (Qy.move rfl) ?_
        refine Wl.q rfl (Qy.move rfl) ?_
        refine Wl.q rfl (Qy.move rfl) ?_
        refine Wl.q rfl (Qy.indexAddrO (α := Bool) T.sl64 rfl rfl (by assumption) (by omega)) ?_
        refine Wl.q rfl (Qy.loadO 4 0 T.one4 rfl rfl (by assumption) (by omega) rfl rfl) ?_
        refine Wl.q rfl (Qy.move rfl) ?_
        refine Wl.casesB 51 rfl (fun hg1 => ?_) (fun hg1 => ?_)
        refine Wl.pass rfl rfl rfl ?_
        refine Wl.pass rfl rfl rfl ?_
        refine Wl.pass rfl rfl rfl ?_
        refine Wl.pass rfl rfl rfl ?_
        refine Wl.pass rfl rfl rfl ?_
        refine Wl.pass rfl rfl rfl ?_
        refine Wl.q rfl (Qy.pick rfl rfl) ?_
        refine Wl.q rfl (Qy.indexAddrO (α := Bool) T.sl64 rfl rfl (by assumption) (by omega)) ?_
        refine Wl.setO (z := _) 4 T.size4 rfl rfl rfl (by assumption) (by omega) rfl (fun ho1 => ?_)
        refine Wl.done ?_
        refine Ar.outNormal ?_
        refine Ar.next ?_
        refine Wc.region rfl ?_
        refine Wl.q rfl (Qy.move rfl) ?_
        refine Wl.q rfl (Qy.add rfl rfl (by omega)) ?_
        refine Wl.q rfl (Qy.assign rfl) ?_
        refine Wl.done ?_
        rotate_left
        refine Wl.want rfl rfl ?_
        refine Wl.q rfl (Qy.move rfl) ?_
        refine Wl.want rfl rfl ?_
        refine Wl.q rfl (Qy.move rfl) ?_
        refine Wl.want rfl rfl ?_
        refine Wl.q rfl (Qy.indexAddrO (α := Int) T.sl23 rfl rfl (by assumption) (by omega)) ?_
        refine Wl.want rfl rfl ?_
        refine Wl.q rfl (Qy.loadO 6 0 T.one3 rfl rfl (by assumption) (by omega) rfl rfl) ?_
        refine Wl.want rfl rfl ?_
        refine Wl.q rfl (Qy.move rfl) ?_
        refine Wl.want rfl rfl ?_
        refine Wl.q rfl (Qy.eql rfl rfl) ?_
        refine Wl.q rfl (Qy.pick rfl rfl) ?_
        refine Wl.q rfl (Qy.indexAddrO (α := Bool) T.sl64 rfl rfl (by assumption) (by omega)) ?_
        refine Wl.setO (z := _) 4 T.size4 rfl rfl rfl (by assumption) (by omega) rfl (fun ho1 => ?_)
        refine Wl.done ?_
        refine Ar.outNormal ?_
        refine Ar.next ?_
        refine Wc.region rfl ?_
        refine Wl.q rfl (Qy.move rfl) ?_
        refine Wl.q rfl (Qy.add rfl rfl (by omega)) ?_
        refine Wl.q rfl (Qy.assign rfl) ?_
        refine Wl.done ?_
        rotate_left
        · have hgt : g = true := by rw [← hget]; exact hg1
          refine Ar.reH 4 (Row 4 (AM z r true) []) rfl (by rw [AM_set]) (Ar.re 4 rfl (show _ = Value.slice (some ⟨b3, 0, none⟩) (AM z r true).length p.regs.toNat by rw [AM_len hltz, AM_len hltz]) ?_)
          refine Ar.again ((b + 1, true)) ?_ ?_ rfl ⟨rfl, rfl, rfl, rfl, rfl, rfl, rfl, rfl, rfl, trivial⟩ ⟨rfl, rfl, rfl, rfl, rfl, rfl, trivial⟩
          · refine ⟨by omega, ?_⟩
            rw [or_mem_step _ _ _ hblt, ← hg, hgt]; rfl
          · show (asks (z.code[((k : Nat) : Int).toNat]?.getD default)).length - (b + 1) < (asks (z.code[((k : Nat) : Int).toNat]?.getD default)).length - b
            omega
        · have hgt : g = false := by rw [← hget]; exact hg1
          refine Ar.reH 4 (Row 4 (AM z r (decide ((asks (z.code[((k : Nat) : Int).toNat]?.getD default))[((b : Nat) : Int).toNat]?.getD default = (r : Int)))) []) rfl (by rw [AM_set]) (Ar.re 4 rfl (show _ = Value.slice (some ⟨b3, 0, none⟩) (AM z r (decide ((asks (z.code[((k : Nat) : Int).toNat]?.getD default))[((b : Nat) : Int).toNat]?.getD default = (r : Int)))).length p.regs.toNat by rw [AM_len hltz, AM_len hltz]) ?_)
          refine Ar.again ((b + 1, decide ((asks (z.code[((k : Nat) : Int).toNat]?.getD default))[((b : Nat) : Int).toNat]?.getD default = (r : Int)))) ?_ ?_ rfl ⟨rfl, rfl, rfl, rfl, rfl, rfl, rfl, rfl, rfl, trivial⟩ ⟨rfl, rfl, rfl, rfl, rfl, rfl, trivial⟩
          · refine ⟨by omega, ?_⟩
            rw [or_mem_step _ _ _ hblt, ← hg, hgt]; rfl
          · show (asks (z.code[((k : Nat) : Int).toNat]?.getD default)).length - (b + 1) < (asks (z.code[((k : Nat) : Int).toNat]?.getD default)).length - b
            omega
      · have hbb : b = (asks (z.code[((k : Nat) : Int).toNat]?.getD default)).length := by omega
        subst hbb
        rw [List.take_length] at hg
        refine Wc.seq ?_
        refine Wc.seq ?_
        refine Wc.region rfl ?_
        refine Wl.q rfl (Qy.move rfl) ?_
        refine Wl.q rfl (Qy.move rfl) ?_
        refine Wl.q rfl (Qy.len T.sl23 rfl) ?_
        refine Wl.q rfl (Qy.lss rfl rfl) ?_
        refine Wl.done ?_
        refine Ar.next ?_
        refine Wc.condN rfl (by first | assumption | omega) ?_
        refine Wc.exit ?_
        refine Ar.passExit ?_
        refine Ar.passExit ?_
        refine Ar.here ?_
        refine Ar.next ?_
        refine Wc.region rfl ?_
        refine Wl.q rfl (Qy.fieldAddr T.fa25_2 rfl) ?_
        refine Wl.q rfl (Qy.load 3 T.one22 rfl rfl rfl) ?_
        refine Wl.q rfl (Qy.move rfl) ?_
        refine Wl.q rfl (Qy.indexAddrO (α := Instr) T.sl22 rfl rfl (by assumption) (by omega)) ?_
        refine Wl.q rfl (Qy.fieldAddr T.fa34_1 rfl) ?_
        refine Wl.q rfl (Qy.loadO 1 1 T.one3 rfl rfl (by assumption) (by omega) rfl rfl) ?_
        refine Wl.q rfl (Qy.move rfl) ?_
        refine Wl.q rfl (Qy.eql rfl rfl) ?_
        refine Wl.q rfl (Qy.assign rfl) ?_
        refine Wl.done ?_
        refine Ar.outNormal ?_
        refine Ar.next ?_
        refine Wc.region rfl ?_
        refine Wl.q rfl (Qy.move rfl) ?_
        refine Wl.q rfl (Qy.add rfl rfl (by omega)) ?_
        refine Wl.q rfl (Qy.assign rfl) ?_
        refine Wl.done ?_
        refine Ar.again ((k + 1, decide ((z.code[((k : Nat) : Int).toNat]?.getD default).to = (r : Int)), g)) ?_ ?_ rfl ⟨rfl, rfl, rfl, rfl, rfl, rfl, rfl, trivial⟩ ⟨rfl, rfl, rfl, rfl, rfl, trivial⟩
        · refine ⟨by omega, fun h => ?_, fun h => ?_⟩
          · rw [hf, hstep, hg, h]; simp
          · rw [hf, hstep, hg, h]; simp [Bool.or_assoc]
        · show z.code.length - (k + 1) < z.code.length - k
          omega
    cases st
    · have hjn : z.code.length ≤ k := by
        rcases Nat.lt_or_ge k z.code.length with h | h
        · exact absurd ⟨rfl, h⟩ hstop
        · exact h
      have hf := hf rfl
      rw [allAt_end z _ hjn, hdo] at hf
      refine Wc.seq ?_
      refine Wc.seq ?_
      refine Wc.region rfl ?_
      refine Wl.q rfl (Qy.move rfl) ?_
      refine Wl.q rfl (Qy.fieldAddr T.fa25_2 rfl) ?_
      refine Wl.q rfl (Qy.load 3 T.one22 rfl rfl rfl) ?_
      refine Wl.q rfl (Qy.len T.sl22 rfl) ?_
      refine Wl.q rfl (Qy.lss rfl rfl) ?_
      refine Wl.q rfl (Qy.move rfl) ?_
      refine Wl.no 27 rfl (by first | assumption | omega) ?_
      refine Wl.pass rfl rfl rfl ?_
      refine Wl.pass rfl rfl rfl ?_
      refine Wl.q rfl (Qy.pick rfl rfl) ?_
      refine Wl.done ?_
      refine Ar.next ?_
      refine Wc.condF rfl ?_
      refine Wc.exit ?_
      refine Ar.passExit ?_
      refine Ar.passExit ?_
      refine Ar.here ?_
      refine Ar.next ?_
      refine Wc.seq ?_
      refine Wc.region rfl ?_
      refine Wl.q rfl (Qy.assign rfl) ?_
      refine Wl.done ?_
      refine Ar.next ?_
      refine Wc.block ?_
      refine Wc.loop (ι := Nat × Bool) (fun (b, g) => ([(10, .int .i64 (b : Int)), (1, .pointer (some ⟨b1, 0, none⟩)), (4, .slice (some ⟨b3, 0, none⟩) (AM z r g).length p.regs.toNat), (6, Go.Value.bool Bool.false), (5, Go.Value.int Go.IntKind.i64 (↑r : Int)), (3, Go.Value.pointer (Option.some (Go.Addr.mk b2 0 Option.none))), (2, Go.Value.slice Option.none 0 0)], [(4, some b3, Row 4 (AM z r g) []), (3, Option.some b2, Go.Obj.cells #[Go.Value.int Go.IntKind.i64 (Go.Proofs.Ytfleehgbpgmcnaa.PV.ins p), Go.Value.int Go.IntKind.i64 (Go.Proofs.Ytfleehgbpgmcnaa.PV.regs p), Go.Value.slice qc1 (List.length (Go.Proofs.Ytfleehgbpgmcnaa.PV.code z)) qcc1, Go.Value.slice qo1 (List.length (Go.Proofs.Ytfleehgbpgmcnaa.PV.outs p)) qoc1] 25), (1, Option.map (fun x => Go.Addr.block x) qc1, Go.Sl.Row (α := Go.Sl.Instr) 34 (Go.Proofs.Ytfleehgbpgmcnaa.PV.code z) (qj1)), (2, Option.map (fun x => Go.Addr.block x) qo1, Go.Sl.Row (α := Int) 3 (Go.Proofs.Ytfleehgbpgmcnaa.PV.outs p) (qk1)), (0, Option.some b1, Go.Obj.cells #[Go.Value.int Go.IntKind.i64 (Go.Proofs.Ytfleehgbpgmcnaa.PV.ins p), Go.Value.int Go.IntKind.i64 (Go.Proofs.Ytfleehgbpgmcnaa.PV.regs p), Go.Value.slice ac (List.length (Go.Proofs.Ytfleehgbpgmcnaa.PV.code p)) cc, Go.Value.slice ao (List.length (Go.Proofs.Ytfleehgbpgmcnaa.PV.outs p)) co] 25)])) (fun (b, g) => b ≤ p.outs.length ∧ g = (f || decide ((r : Int) ∈ p.outs.take b))) (fun (b, g) => p.outs.length - b) ((0, f)) (⟨Nat.zero_le _, by simp⟩) ⟨rfl, rfl, rfl, rfl, rfl, rfl, rfl, trivial⟩ ⟨rfl, rfl, rfl, rfl, rfl, trivial⟩ (fun ⟨b, g⟩ => fun (hk : b ≤ p.outs.length ∧ g = (f || decide ((r : Int) ∈ p.outs.take b))) => ?_)
      obtain ⟨hb1, hg⟩ := hk
      have hoO := hOw (AM z r g) (by rw [AM_len hltz, hdr])
      have hOl := AM_len hltz g
      have hget := AM_get z r g
      rcases Nat.lt_or_ge b p.outs.length with hblt | hbge
      · refine Wc.seq ?_
        refine Wc.seq ?_
        refine Wc.region rfl ?_
        refine Wl.q rfl (Qy.move rfl) ?_
        refine Wl.q rfl (Qy.fieldAddr T.fa25_3 rfl) ?_
        refine Wl.q rfl (Qy.load 3 T.one23 rfl rfl rfl) ?_
        refine Wl.q rfl (Qy.len T.sl23 rfl) ?_
        refine Wl.q rfl (Qy.lss rfl rfl) ?_
        refine Wl.q rfl (Qy.move rfl) ?_
        refine Wl.yes 73 rfl (by first | assumption | omega) ?_
        refine Wl.want rfl rfl ?_
        refine Wl.q rfl (Qy.move rfl) ?_
        refine Wl.want rfl rfl ?_
        refine Wl.q rfl (Qy.not rfl) ?_
        refine Wl.q rfl (Qy.pick rfl rfl) ?_
        refine Wl.done ?_
        refine Ar.next ?_
        refine Wc.condT rfl ?_
        refine Wc.skip ?_
        refine Ar.next ?_
        refine Wc.seq ?_
        refine Wc.block ?_
        refine Wc.region rfl ?_
        refine Wl.q rfl (Qy.move rfl) ?_
        refine Wl.q rfl (Qy.move rfl) ?_
        refine Wl.q rfl (Qy.move rfl) ?_
        refine Wl.q rfl (Qy.move rfl) ?_
        refine Wl.q rfl (Qy.indexAddrO (α := Bool) T.sl64 rfl rfl (by assumption) (by omega)) ?_
        refine Wl.q rfl (Qy.loadO 4 0 T.one4 rfl rfl (by assumption) (by omega) rfl rfl) ?_
        refine Wl.q rfl (Qy.move rfl) ?_
        refine Wl.casesB 85 rfl (fun hg1 => ?_) (fun hg1 => ?_)
        refine Wl.pass rfl rfl rfl ?_
        refine Wl.pass rfl rfl rfl ?_
        refine Wl.pass rfl rfl rfl ?_
        refine Wl.pass rfl rfl rfl ?_
        refine Wl.pass rfl rfl rfl ?_
        refine Wl.pass rfl rfl rfl ?_
        refine Wl.pass rfl rfl rfl ?_
        refine Wl.q rfl (Qy.pick rfl rfl) ?_
        refine Wl.q rfl (Qy.indexAddrO (α := Bool) T.sl64 rfl rfl (by assumption) (by omega)) ?_
        refine Wl.setO (z := _) 4 T.size4 rfl rfl rfl (by assumption) (by omega) rfl (fun ho1 => ?_)
        refine Wl.done ?_
        refine Ar.outNormal ?_
        refine Ar.next ?_
        refine Wc.region rfl ?_
        refine Wl.q rfl (Qy.move rfl) ?_
        refine Wl.q rfl (Qy.add rfl rfl (by omega)) ?_
        refine Wl.q rfl (Qy.assign rfl) ?_
        refine Wl.done ?_
        rotate_left
        refine Wl.want rfl rfl ?_
        refine Wl.q rfl (Qy.fieldAddr T.fa25_3 rfl) ?_
        refine Wl.want rfl rfl ?_
        refine Wl.q rfl (Qy.load 3 T.one23 rfl rfl rfl) ?_
        refine Wl.want rfl rfl ?_
        refine Wl.q rfl (Qy.move rfl) ?_
        refine Wl.want rfl rfl ?_
        refine Wl.q rfl (Qy.indexAddrO (α := Int) T.sl23 rfl rfl (by assumption) (by omega)) ?_
        refine Wl.want rfl rfl ?_
        refine Wl.q rfl (Qy.loadO 2 0 T.one3 rfl rfl (by assumption) (by omega) rfl rfl) ?_
        refine Wl.want rfl rfl ?_
        refine Wl.q rfl (Qy.move rfl) ?_
        refine Wl.want rfl rfl ?_
        refine Wl.q rfl (Qy.eql rfl rfl) ?_
        refine Wl.q rfl (Qy.pick rfl rfl) ?_
        refine Wl.q rfl (Qy.indexAddrO (α := Bool) T.sl64 rfl rfl (by assumption) (by omega)) ?_
        refine Wl.setO (z := _) 4 T.size4 rfl rfl rfl (by assumption) (by omega) rfl (fun ho1 => ?_)
        refine Wl.done ?_
        refine Ar.outNormal ?_
        refine Ar.next ?_
        refine Wc.region rfl ?_
        refine Wl.q rfl (Qy.move rfl) ?_
        refine Wl.q rfl (Qy.add rfl rfl (by omega)) ?_
        refine Wl.q rfl (Qy.assign rfl) ?_
        refine Wl.done ?_
        rotate_left
        · have hgt : g = true := by rw [← hget]; exact hg1
          refine Ar.reH 4 (Row 4 (AM z r true) []) rfl (by rw [AM_set]) (Ar.re 4 rfl (show _ = Value.slice (some ⟨b3, 0, none⟩) (AM z r true).length p.regs.toNat by rw [AM_len hltz, AM_len hltz]) ?_)
          refine Ar.again ((b + 1, true)) ?_ ?_ rfl ⟨rfl, rfl, rfl, rfl, rfl, rfl, rfl, trivial⟩ ⟨rfl, rfl, rfl, rfl, rfl, trivial⟩
          · refine ⟨by omega, ?_⟩
            rw [or_mem_step _ _ _ hblt, ← hg, hgt]; rfl
          · show p.outs.length - (b + 1) < p.outs.length - b
            omega
        · have hgt : g = false := by rw [← hget]; exact hg1
          refine Ar.reH 4 (Row 4 (AM z r (decide (p.outs[((b : Nat) : Int).toNat]?.getD default = (r : Int)))) []) rfl (by rw [AM_set]) (Ar.re 4 rfl (show _ = Value.slice (some ⟨b3, 0, none⟩) (AM z r (decide (p.outs[((b : Nat) : Int).toNat]?.getD default = (r : Int)))).length p.regs.toNat by rw [AM_len hltz, AM_len hltz]) ?_)
          refine Ar.again ((b + 1, decide (p.outs[((b : Nat) : Int).toNat]?.getD default = (r : Int)))) ?_ ?_ rfl ⟨rfl, rfl, rfl, rfl, rfl, rfl, rfl, trivial⟩ ⟨rfl, rfl, rfl, rfl, rfl, trivial⟩
          · refine ⟨by omega, ?_⟩
            rw [or_mem_step _ _ _ hblt, ← hg, hgt]; rfl
          · show p.outs.length - (b + 1) < p.outs.length - b
            omega
      · have hbb : b = p.outs.length := by omega
        subst hbb
        rw [List.take_length, ← hf] at hg
        subst hg
        have hON : AM z r g = AR z (r + 1) := by rw [← hF]; exact AR_shut z r
        refine Wc.seq ?_
        refine Wc.seq ?_
        refine Wc.region rfl ?_
        refine Wl.q rfl (Qy.move rfl) ?_
        refine Wl.q rfl (Qy.fieldAddr T.fa25_3 rfl) ?_
        refine Wl.q rfl (Qy.load 3 T.one23 rfl rfl rfl) ?_
        refine Wl.q rfl (Qy.len T.sl23 rfl) ?_
        refine Wl.q rfl (Qy.lss rfl rfl) ?_
        refine Wl.q rfl (Qy.move rfl) ?_
        refine Wl.no 73 rfl (by first | assumption | omega) ?_
        refine Wl.pass rfl rfl rfl ?_
        refine Wl.pass rfl rfl rfl ?_
        refine Wl.q rfl (Qy.pick rfl rfl) ?_
        refine Wl.done ?_
        refine Ar.next ?_
        refine Wc.condF rfl ?_
        refine Wc.exit ?_
        refine Ar.passExit ?_
        refine Ar.passExit ?_
        refine Ar.here ?_
        refine Ar.outNormal ?_
        refine Ar.next ?_
        refine Wc.region rfl ?_
        refine Wl.q rfl (Qy.move rfl) ?_
        refine Wl.q rfl (Qy.add rfl rfl (by omega)) ?_
        refine Wl.q rfl (Qy.assign rfl) ?_
        refine Wl.done ?_
        refine Ar.reH 4 (Row 4 (AR z (r + 1)) []) rfl (by rw [hON]) (Ar.re 4 rfl (show _ = Value.slice (some ⟨b3, 0, none⟩) (AR z (r + 1)).length p.regs.toNat by rw [hON]) ?_)
        refine Ar.again (r + 1) ?_ ?_ rfl ⟨rfl, rfl, rfl, rfl, rfl, trivial⟩ ⟨rfl, rfl, rfl, rfl, rfl, trivial⟩
        · show r + 1 ≤ p.regs.toNat
          omega
        · show p.regs.toNat - (r + 1) < p.regs.toNat - r
          omega
    · have hgF : F = f := ht rfl
      subst hgF
      have hON : AM z r F = AR z (r + 1) := by rw [← hF]; exact AR_shut z r
      rcases Nat.lt_or_ge k z.code.length with hjl | hjl
      · refine Wc.seq ?_
        refine Wc.seq ?_
        refine Wc.region rfl ?_
        refine Wl.q rfl (Qy.move rfl) ?_
        refine Wl.q rfl (Qy.fieldAddr T.fa25_2 rfl) ?_
        refine Wl.q rfl (Qy.load 3 T.one22 rfl rfl rfl) ?_
        refine Wl.q rfl (Qy.len T.sl22 rfl) ?_
        refine Wl.q rfl (Qy.lss rfl rfl) ?_
        refine Wl.q rfl (Qy.move rfl) ?_
        refine Wl.yes 27 rfl (by first | assumption | omega) ?_
        refine Wl.want rfl rfl ?_
        refine Wl.q rfl (Qy.move rfl) ?_
        refine Wl.want rfl rfl ?_
        refine Wl.q rfl (Qy.not rfl) ?_
        refine Wl.q rfl (Qy.pick rfl rfl) ?_
        refine Wl.done ?_
        refine Ar.next ?_
        refine Wc.condF rfl ?_
        refine Wc.exit ?_
        refine Ar.passExit ?_
        refine Ar.passExit ?_
        refine Ar.here ?_
        refine Ar.next ?_
        refine Wc.seq ?_
        refine Wc.region rfl ?_
        refine Wl.q rfl (Qy.assign rfl) ?_
        refine Wl.done ?_
        refine Ar.next ?_
        refine Wc.block ?_
        refine Wc.loop (ι := Nat) (fun b => ([(10, .int .i64 (b : Int)), (1, .pointer (some ⟨b1, 0, none⟩)), (6, Go.Value.bool Bool.true), (4, Go.Value.slice (Option.some (Go.Addr.mk b3 0 Option.none)) (List.length (Go.Proofs.Ytfleehgbpgmcnaa.AM z r F)) (Int.toNat (Go.Proofs.Ytfleehgbpgmcnaa.PV.regs p))), (5, Go.Value.int Go.IntKind.i64 (↑r : Int)), (3, Go.Value.pointer (Option.some (Go.Addr.mk b2 0 Option.none))), (2, Go.Value.slice Option.none 0 0)], [(4, Option.some b3, Go.Sl.Row (α := Bool) 4 (Go.Proofs.Ytfleehgbpgmcnaa.AM z r F) ([])), (3, Option.some b2, Go.Obj.cells #[Go.Value.int Go.IntKind.i64 (Go.Proofs.Ytfleehgbpgmcnaa.PV.ins p), Go.Value.int Go.IntKind.i64 (Go.Proofs.Ytfleehgbpgmcnaa.PV.regs p), Go.Value.slice qc1 (List.length (Go.Proofs.Ytfleehgbpgmcnaa.PV.code z)) qcc1, Go.Value.slice qo1 (List.length (Go.Proofs.Ytfleehgbpgmcnaa.PV.outs p)) qoc1] 25), (1, Option.map (fun x => Go.Addr.block x) qc1, Go.Sl.Row (α := Go.Sl.Instr) 34 (Go.Proofs.Ytfleehgbpgmcnaa.PV.code z) (qj1)), (2, Option.map (fun x => Go.Addr.block x) qo1, Go.Sl.Row (α := Int) 3 (Go.Proofs.Ytfleehgbpgmcnaa.PV.outs p) (qk1)), (0, Option.some b1, Go.Obj.cells #[Go.Value.int Go.IntKind.i64 (Go.Proofs.Ytfleehgbpgmcnaa.PV.ins p), Go.Value.int Go.IntKind.i64 (Go.Proofs.Ytfleehgbpgmcnaa.PV.regs p), Go.Value.slice ac (List.length (Go.Proofs.Ytfleehgbpgmcnaa.PV.code p)) cc, Go.Value.slice ao (List.length (Go.Proofs.Ytfleehgbpgmcnaa.PV.outs p)) co] 25)])) (fun b => b = 0) (fun b => b) (0) (rfl) ⟨rfl, rfl, rfl, rfl, rfl, rfl, rfl, trivial⟩ ⟨rfl, rfl, rfl, rfl, rfl, trivial⟩ (fun b => fun (hk : b = 0) => ?_)
        subst hk
        refine Wc.seq ?_
        refine Wc.seq ?_
        refine Wc.region rfl ?_
        refine Wl.q rfl (Qy.move rfl) ?_
        refine Wl.q rfl (Qy.fieldAddr T.fa25_3 rfl) ?_
        refine Wl.q rfl (Qy.load 3 T.one23 rfl rfl rfl) ?_
        refine Wl.q rfl (Qy.len T.sl23 rfl) ?_
        refine Wl.q rfl (Qy.lss rfl rfl) ?_
        refine Wl.q rfl (Qy.move rfl) ?_
        refine Wl.yes 73 rfl (by first | assumption | omega) ?_
        refine Wl.want rfl rfl ?_
        refine Wl.q rfl (Qy.move rfl) ?_
        refine Wl.want rfl rfl ?_
        refine Wl.q rfl (Qy.not rfl) ?_
        refine Wl.q rfl (Qy.pick rfl rfl) ?_
        refine Wl.done ?_
        refine Ar.next ?_
        refine Wc.condF rfl ?_
        refine Wc.exit ?_
        refine Ar.passExit ?_
        refine Ar.passExit ?_
        refine Ar.here ?_
        refine Ar.outNormal ?_
        refine Ar.next ?_
        refine Wc.region rfl ?_
        refine Wl.q rfl (Qy.move rfl) ?_
        refine Wl.q rfl (Qy.add rfl rfl (by omega)) ?_
        refine Wl.q rfl (Qy.assign rfl) ?_
        refine Wl.done ?_
        refine Ar.reH 4 (Row 4 (AR z (r + 1)) []) rfl (by rw [hON]) (Ar.re 4 rfl (show _ = Value.slice (some ⟨b3, 0, none⟩) (AR z (r + 1)).length p.regs.toNat by rw [hON]) ?_)
        refine Ar.again (r + 1) ?_ ?_ rfl ⟨rfl, rfl, rfl, rfl, rfl, trivial⟩ ⟨rfl, rfl, rfl, rfl, rfl, trivial⟩
        · show r + 1 ≤ p.regs.toNat
          omega
        · show p.regs.toNat - (r + 1) < p.regs.toNat - r
          omega
      · refine Wc.seq ?_
        refine Wc.seq ?_
        refine Wc.region rfl ?_
        refine Wl.q rfl (Qy.move rfl) ?_
        refine Wl.q rfl (Qy.fieldAddr T.fa25_2 rfl) ?_
        refine Wl.q rfl (Qy.load 3 T.one22 rfl rfl rfl) ?_
        refine Wl.q rfl (Qy.len T.sl22 rfl) ?_
        refine Wl.q rfl (Qy.lss rfl rfl) ?_
        refine Wl.q rfl (Qy.move rfl) ?_
        refine Wl.no 27 rfl (by first | assumption | omega) ?_
        refine Wl.pass rfl rfl rfl ?_
        refine Wl.pass rfl rfl rfl ?_
        refine Wl.q rfl (Qy.pick rfl rfl) ?_
        refine Wl.done ?_
        refine Ar.next ?_
        refine Wc.condF rfl ?_
        refine Wc.exit ?_
        refine Ar.passExit ?_
        refine Ar.passExit ?_
        refine Ar.here ?_
        refine Ar.next ?_
        refine Wc.seq ?_
        refine Wc.region rfl ?_
        refine Wl.q rfl (Qy.assign rfl) ?_
        refine Wl.done ?_
        refine Ar.next ?_
        refine Wc.block ?_
        refine Wc.loop (ι := Nat) (fun b => ([(10, .int .i64 (b : Int)), (1, .pointer (some ⟨b1, 0, none⟩)), (6, Go.Value.bool Bool.true), (4, Go.Value.slice (Option.some (Go.Addr.mk b3 0 Option.none)) (List.length (Go.Proofs.Ytfleehgbpgmcnaa.AM z r F)) (Int.toNat (Go.Proofs.Ytfleehgbpgmcnaa.PV.regs p))), (5, Go.Value.int Go.IntKind.i64 (↑r : Int)), (3, Go.Value.pointer (Option.some (Go.Addr.mk b2 0 Option.none))), (2, Go.Value.slice Option.none 0 0)], [(4, Option.some b3, Go.Sl.Row (α := Bool) 4 (Go.Proofs.Ytfleehgbpgmcnaa.AM z r F) ([])), (3, Option.some b2, Go.Obj.cells #[Go.Value.int Go.IntKind.i64 (Go.Proofs.Ytfleehgbpgmcnaa.PV.ins p), Go.Value.int Go.IntKind.i64 (Go.Proofs.Ytfleehgbpgmcnaa.PV.regs p), Go.Value.slice qc1 (List.length (Go.Proofs.Ytfleehgbpgmcnaa.PV.code z)) qcc1, Go.Value.slice qo1 (List.length (Go.Proofs.Ytfleehgbpgmcnaa.PV.outs p)) qoc1] 25), (1, Option.map (fun x => Go.Addr.block x) qc1, Go.Sl.Row (α := Go.Sl.Instr) 34 (Go.Proofs.Ytfleehgbpgmcnaa.PV.code z) (qj1)), (2, Option.map (fun x => Go.Addr.block x) qo1, Go.Sl.Row (α := Int) 3 (Go.Proofs.Ytfleehgbpgmcnaa.PV.outs p) (qk1)), (0, Option.some b1, Go.Obj.cells #[Go.Value.int Go.IntKind.i64 (Go.Proofs.Ytfleehgbpgmcnaa.PV.ins p), Go.Value.int Go.IntKind.i64 (Go.Proofs.Ytfleehgbpgmcnaa.PV.regs p), Go.Value.slice ac (List.length (Go.Proofs.Ytfleehgbpgmcnaa.PV.code p)) cc, Go.Value.slice ao (List.length (Go.Proofs.Ytfleehgbpgmcnaa.PV.outs p)) co] 25)])) (fun b => b = 0) (fun b => b) (0) (rfl) ⟨rfl, rfl, rfl, rfl, rfl, rfl, rfl, trivial⟩ ⟨rfl, rfl, rfl, rfl, rfl, trivial⟩ (fun b => fun (hk : b = 0) => ?_)
        subst hk
        refine Wc.seq ?_
        refine Wc.seq ?_
        refine Wc.region rfl ?_
        refine Wl.q rfl (Qy.move rfl) ?_
        refine Wl.q rfl (Qy.fieldAddr T.fa25_3 rfl) ?_
        refine Wl.q rfl (Qy.load 3 T.one23 rfl rfl rfl) ?_
        refine Wl.q rfl (Qy.len T.sl23 rfl) ?_
        refine Wl.q rfl (Qy.lss rfl rfl) ?_
        refine Wl.q rfl (Qy.move rfl) ?_
        refine Wl.yes 73 rfl (by first | assumption | omega) ?_
        refine Wl.want rfl rfl ?_
        refine Wl.q rfl (Qy.move rfl) ?_
        refine Wl.want rfl rfl ?_
        refine Wl.q rfl (Qy.not rfl) ?_
        refine Wl.q rfl (Qy.pick rfl rfl) ?_
        refine Wl.done ?_
        refine Ar.next ?_
        refine Wc.condF rfl ?_
        refine Wc.exit ?_
        refine Ar.passExit ?_
        refine Ar.passExit ?_
        refine Ar.here ?_
        refine Ar.outNormal ?_
        refine Ar.next ?_
        refine Wc.region rfl ?_
        refine Wl.q rfl (Qy.move rfl) ?_
        refine Wl.q rfl (Qy.add rfl rfl (by omega)) ?_
        refine Wl.q rfl (Qy.assign rfl) ?_
        refine Wl.done ?_
        refine Ar.reH 4 (Row 4 (AR z (r + 1)) []) rfl (by rw [hON]) (Ar.re 4 rfl (show _ = Value.slice (some ⟨b3, 0, none⟩) (AR z (r + 1)).length p.regs.toNat by rw [hON]) ?_)
        refine Ar.again (r + 1) ?_ ?_ rfl ⟨rfl, rfl, rfl, rfl, rfl, trivial⟩ ⟨rfl, rfl, rfl, rfl, rfl, trivial⟩
        · show r + 1 ≤ p.regs.toNat
          omega
        · show p.regs.toNat - (r + 1) < p.regs.toNat - r
          omega
  · have hk : r = p.regs.toNat := by omega
    subst hk
    refine Wc.seq ?_
    refine Wc.seq ?_
    refine Wc.region rfl ?_
    refine Wl.q rfl (Qy.move rfl) ?_
    refine Wl.q rfl (Qy.fieldAddr T.fa25_1 rfl) ?_
    refine Wl.q rfl (Qy.load 0 T.one3 rfl rfl rfl) ?_
    refine Wl.q rfl (Qy.lss rfl rfl) ?_
    refine Wl.done ?_
    refine Ar.next ?_
    refine Wc.condN rfl (by first | assumption | omega) ?_
    refine Wc.exit ?_
    refine Ar.passExit ?_
    refine Ar.passExit ?_
    refine Ar.here ?_
    refine Ar.next ?_
    refine Wc.seq ?_
    refine Wc.region rfl ?_
    refine Wl.q rfl (Qy.move rfl) ?_
    refine Wl.q rfl (Qy.assign rfl) ?_
    refine Wl.done ?_
    refine Ar.next ?_
    refine Wc.ret ?_
    refine Ar.pick [4] (by decide) (Ar.out1 (.inr rfl) rfl (.tmp rfl) (Hp.sub_self 0 _) ?_)
    have hA : AR z p.regs.toNat = askRef z := by rw [← hdr]; exact AR_all z
    rw [hA]
    exact ⟨_, _, _, rfl, hOw _ (by rw [← hA, AR_len (by rw [hdr]; omega), hdr]), rfl, rfl⟩
end Go.Proofs.Ytfleehgbpgmcnaa
