import Derived.Test.YtfleehgbpgmcnaaSlP
import Derived.Test.YtfleehgbpgmcnaaAu
namespace Go.Proofs.Ytfleehgbpgmcnaa
open Go Go.Sl
set_option maxRecDepth 100000

set_option maxHeartbeats 2000000
theorem c72 (G : Imm) (i : Sl.Instr) : Does Try.prog 72 [.agg (Cells.enc i).toArray] G [] (fun v G' Ho => ∃ a c junk, v = .slice a (asks i).length c ∧ OwnA a c (asks i) junk ∧ Ho = [(1, a.map (·.block), Row 3 (asks i) junk)] ∧ G' = G) := by
  refine Does.enter Try.func72 rfl Try.ntmps72 rfl (fun w => ?_)
  refine Wc.seq ?_
  refine Wc.region rfl ?_
  refine Wl.box 0 rfl rfl rfl (fun b1 => ?_)
  refine Wl.q rfl (Qy.assign rfl) ?_
  refine Wl.done ?_
  refine Ar.next ?_
  refine Wc.seq ?_
  refine Wc.seq ?_
  refine Wc.region rfl ?_
  refine Wl.q rfl (Qy.fieldAddr T.fa34_0 rfl) ?_
  refine Wl.q rfl (Qy.load 0 T.one3 rfl rfl rfl) ?_
  refine Wl.q rfl (Qy.eql rfl rfl) ?_
  refine Wl.q rfl (Qy.move rfl) ?_
  apply Wl.joinOr 4 6 10 rfl
  intro hg1
  refine Wl.want rfl rfl ?_
  refine Wl.q rfl (Qy.fieldAddr T.fa34_0 rfl) ?_
  refine Wl.want rfl rfl ?_
  refine Wl.q rfl (Qy.load 0 T.one3 rfl rfl rfl) ?_
  refine Wl.want rfl rfl ?_
  refine Wl.q rfl (Qy.eql rfl rfl) ?_
  refine Wl.q rfl (Qy.pick rfl rfl) ?_
  exact Wl.back 4 0 rfl rfl rfl rfl rfl
  intro hg1
  refine Wl.pass rfl rfl rfl ?_
  refine Wl.pass rfl rfl rfl ?_
  refine Wl.pass rfl rfl rfl ?_
  refine Wl.q rfl (Qy.pick rfl rfl) ?_
  exact Wl.back 4 0 rfl rfl rfl rfl rfl
  refine Wl.done ?_
  refine Ar.next ?_
  refine Wc.cond rfl (fun hc1 => ?_) (fun hc1 => ?_)
  refine Wc.seq ?_
  refine Wc.region rfl ?_
  refine Wl.q rfl (Qy.fieldAddr T.fa34_2 rfl) ?_
  refine Wl.q rfl (Qy.load 0 T.one3 rfl rfl rfl) ?_
  refine Wl.q rfl (Qy.fieldAddr T.fa34_3 rfl) ?_
  refine Wl.q rfl (Qy.load 0 T.one3 rfl rfl rfl) ?_
  refine Wl.lit (α := Int) 1 [(Go.Sl.Instr.a i), (Go.Sl.Instr.b i)] rfl T.sl23 T.el3 rfl rfl rfl rfl rfl (fun b2 => ?_)
  refine Wl.q rfl (Qy.assign rfl) ?_
  refine Wl.done ?_
  refine Ar.next ?_
  refine Wc.ret ?_
  refine Ar.passRet ?_
  rotate_left
  refine Wc.skip ?_
  refine Ar.next ?_
  refine Wc.seq ?_
  refine Wc.seq ?_
  refine Wc.region rfl ?_
  refine Wl.q rfl (Qy.fieldAddr T.fa34_0 rfl) ?_
  refine Wl.q rfl (Qy.load 0 T.one3 rfl rfl rfl) ?_
  refine Wl.q rfl (Qy.geq rfl rfl) ?_
  refine Wl.q rfl (Qy.move rfl) ?_
  apply Wl.joinAnd 4 19 23 rfl
  intro hg1
  refine Wl.want rfl rfl ?_
  refine Wl.q rfl (Qy.fieldAddr T.fa34_0 rfl) ?_
  refine Wl.want rfl rfl ?_
  refine Wl.q rfl (Qy.load 0 T.one3 rfl rfl rfl) ?_
  refine Wl.want rfl rfl ?_
  refine Wl.q rfl (Qy.leq rfl rfl) ?_
  refine Wl.q rfl (Qy.pick rfl rfl) ?_
  exact Wl.back 4 0 rfl rfl rfl rfl rfl
  intro hg1
  refine Wl.pass rfl rfl rfl ?_
  refine Wl.pass rfl rfl rfl ?_
  refine Wl.pass rfl rfl rfl ?_
  refine Wl.q rfl (Qy.pick rfl rfl) ?_
  exact Wl.back 4 0 rfl rfl rfl rfl rfl
  refine Wl.done ?_
  refine Ar.next ?_
  refine Wc.cond rfl (fun hc2 => ?_) (fun hc2 => ?_)
  refine Wc.seq ?_
  refine Wc.region rfl ?_
  refine Wl.q rfl (Qy.fieldAddr T.fa34_2 rfl) ?_
  refine Wl.q rfl (Qy.load 0 T.one3 rfl rfl rfl) ?_
  refine Wl.lit (α := Int) 1 [(Go.Sl.Instr.a i)] rfl T.sl23 T.el3 rfl rfl rfl rfl rfl (fun b2 => ?_)
  refine Wl.q rfl (Qy.assign rfl) ?_
  refine Wl.done ?_
  refine Ar.next ?_
  refine Wc.ret ?_
  refine Ar.passRet ?_
  rotate_left
  refine Wc.skip ?_
  refine Ar.next ?_
  refine Wc.seq ?_
  refine Wc.region rfl ?_
  refine Wl.q rfl (Qy.assign rfl) ?_
  refine Wl.done ?_
  refine Ar.next ?_
  refine Wc.ret ?_
  rotate_left
  rotate_right
  · have h : asks i = [] := by unfold asks; rw [if_neg (by omega), if_neg (by omega)]
    refine Ar.nilRow 1 (Row 3 ([] : List Int) []) ?_
    refine Ar.out1 (.inr rfl) (Ho := Hp.only _ [1]) rfl (.tmp rfl) (Hp.sub_only _ _) ?_
    rw [h]; exact ⟨_, _, _, rfl, OwnA.nil, rfl, rfl⟩
  all_goals first | refine Ar.out1 (.inr rfl) (Ho := Hp.only _ [1]) rfl (.tmp rfl) (Hp.sub_only _ _) ?_
  all_goals first
    | (have h : asks i = [i.a, i.b] := by unfold asks; rw [if_pos (by omega)]
       rw [h]; exact ⟨_, _, _, rfl, OwnA.made (by simp [maxLen]), rfl, rfl⟩)
    | (have h : asks i = [i.a] := by unfold asks; rw [if_neg (by omega), if_pos (by omega)]
       rw [h]; exact ⟨_, _, _, rfl, OwnA.made (by simp [maxLen]), rfl, rfl⟩)
    | skip
/-- the marks: m are not yet set; .. of a it is being looked at -/
def ON (p : PV) (m : Nat) : List Bool := List.replicate m false ++ rf p (p.code.drop m)
def OM (p : PV) (a : Nat) (f : Bool) : List Bool := List.replicate a false ++ f :: rf p (p.code.drop (a + 1))
theorem ON_succ (p : PV) (a : Nat) : ON p (a + 1) = OM p a false := by
  unfold ON OM; rw [List.replicate_succ', List.append_assoc]; rfl
theorem OM_len {p : PV} {a : Nat} (h : a < p.code.length) (f : Bool) : (OM p a f).length = p.code.length := by
  unfold OM; simp [rf_len]; omega
theorem OM_set (p : PV) (a : Nat) (f : Bool) : (OM p a f).set ((a : Nat) : Int).toNat true = OM p a true := by
  unfold OM
  rw [Int.toNat_natCast, List.set_append_right _ _ (by simp)]
  simp
theorem OM_get {p : PV} {a j : Nat} (h : a + 1 ≤ j) (hj : j < p.code.length) (f : Bool) : (OM p a f)[((j : Nat) : Int).toNat]?.getD default = fromAt p (p.code[((j : Nat) : Int).toNat]?.getD default).to (j + 1) := by
  unfold OM
  rw [Int.toNat_natCast, List.getElem?_append_right (by simp; omega), List.length_replicate]
  obtain ⟨d, hd⟩ : ∃ d, j = a + 1 + d := ⟨j - (a + 1), by omega⟩
  have e : j - a = d + 1 := by omega
  rw [e, List.getElem?_cons_succ]
  have h1 := rf_drop p (p.code.drop (a + 1)) d
  rw [List.drop_drop, ← hd, rf_at p hj] at h1
  have h2 : (rf p (p.code.drop (a + 1)))[d]? = ((rf p (p.code.drop (a + 1))).drop d)[0]? := by rw [List.getElem?_drop]; simp
  rw [h2, h1]; rfl
theorem OM_done {p : PV} {a : Nat} (h : a < p.code.length) : OM p a (fromAt p (p.code[((a : Nat) : Int).toNat]?.getD default).to (a + 1)) = ON p a := by
  unfold OM ON
  rw [rf_at p h, Int.toNat_natCast]
theorem ON_all (p : PV) : ON p p.code.length = List.replicate p.code.length false := by
  unfold ON; rw [List.drop_length]; simp [rf]
theorem ON_zero (p : PV) : ON p 0 = rf p p.code := by unfold ON; simp
attribute [local irreducible] ON OM rf fromAt
theorem c51 (G : Imm) (p : PV) (ac ao : Option Addr) (cc co : Nat) (hc : Arr G ac p.code) (ho : Arr G ao p.outs) (hR : rightP p = true) :
    Does Try.prog 51 [.agg #[.int .i64 p.ins, .int .i64 p.regs, .slice ac p.code.length cc, .slice ao p.outs.length co]] G [] (fun v G' Ho => ∃ b c j, v = .slice b (neededP p).length c ∧ OwnA b c (neededP p) j ∧ Ho = [(0, b.map (·.block), Row 4 (neededP p) j)] ∧ G' = G) := by
  obtain ⟨r1, r2, r3, r4, r5, r6, r7, r8⟩ := right_facts hR
  have hnr := needed_rf hR
  refine Does.enter Try.func51 rfl Try.ntmps51 rfl (fun w => ?_)
  refine Wc.seq ?_
  refine Wc.region rfl ?_
  refine Wl.box 0 rfl rfl rfl (fun b1 => ?_)
  refine Wl.q rfl (Qy.assign rfl) ?_
  refine Wl.done ?_
  refine Ar.next ?_
  refine Wc.seq ?_
  refine Wc.region rfl ?_
  refine Wl.q rfl (Qy.fieldAddr T.fa25_2 rfl) ?_
  refine Wl.q rfl (Qy.load 0 T.one22 rfl rfl rfl) ?_
  refine Wl.q rfl (Qy.len T.sl22 rfl) ?_
  refine Wl.make (α := Bool) 1 rfl T.sl64 T.el4 rfl rfl (by omega) (by omega) (fun b2 => ?_)
  refine Wl.q rfl (Qy.assign rfl) ?_
  refine Wl.done ?_
  refine Ar.next ?_
  refine Wc.seq ?_
  refine Wc.seq ?_
  refine Wc.region rfl ?_
  refine Wl.q rfl (Qy.fieldAddr T.fa25_2 rfl) ?_
  refine Wl.q rfl (Qy.load 0 T.one22 rfl rfl rfl) ?_
  refine Wl.q rfl (Qy.len T.sl22 rfl) ?_
  refine Wl.q rfl (Qy.sub rfl rfl (by omega)) ?_
  refine Wl.q rfl (Qy.assign rfl) ?_
  refine Wl.done ?_
  refine Ar.next ?_
  refine Wc.block ?_
  generalize hS0 : List.replicate ((p.code.length : Int)).toNat (default : Bool) = S0 at *
  have hS0l : S0.length = p.code.length := by rw [← hS0, List.length_replicate]; omega
  have hS1 : S0 = ON p p.code.length := by rw [ON_all, ← hS0]; rfl
  have hOw : ∀ O : List Bool, O.length = p.code.length → OwnA (some ⟨b2, 0, none⟩) S0.length O [] := fun O hO => .inr ⟨b2, rfl, by rw [hO, hS0l]; simp, by omega, by simp only [maxLen]; omega⟩
  refine Wc.re 3 rfl (show _ = Value.slice (some ⟨b2, 0, none⟩) (ON p p.code.length).length S0.length by rw [hS1]) (Wc.reH 1 (Row 4 (ON p p.code.length) []) rfl (by rw [hS1]) ?_)
  refine Wc.loop (ι := Nat) (fun m => ([(4, .int .i64 ((m : Int) - 1)), (3, .slice (some ⟨b2, 0, none⟩) (ON p m).length S0.length), (2, Go.Value.slice Option.none 0 0), (1, Go.Value.pointer (Option.some (Go.Addr.mk b1 0 Option.none)))], [(1, some b2, Row 4 (ON p m) []), (0, Option.some b1, Go.Obj.cells #[Go.Value.int Go.IntKind.i64 (Go.Proofs.Ytfleehgbpgmcnaa.PV.ins p), Go.Value.int Go.IntKind.i64 (Go.Proofs.Ytfleehgbpgmcnaa.PV.regs p), Go.Value.slice ac (List.length (Go.Proofs.Ytfleehgbpgmcnaa.PV.code p)) cc, Go.Value.slice ao (List.length (Go.Proofs.Ytfleehgbpgmcnaa.PV.outs p)) co] 25)])) (fun m => m ≤ p.code.length) (fun m => m) (p.code.length) (Nat.le_refl _) ⟨rfl, rfl, rfl, rfl, trivial⟩ ⟨rfl, rfl, trivial⟩ (fun m => fun (hk : m ≤ p.code.length) => ?_)
  rcases m with _ | a
  · refine Wc.seq ?_
    refine Wc.seq ?_
    refine Wc.region rfl ?_
    refine Wl.q rfl (Qy.move rfl) ?_
    refine Wl.q rfl (Qy.geq rfl rfl) ?_
    refine Wl.done ?_
    refine Ar.next ?_
    refine Wc.condN rfl (by first | assumption | omega) ?_
    refine Wc.exit ?_
    refine Ar.passExit ?_
    refine Ar.passExit ?_
    refine Ar.here ?_
    refine Ar.next ?_
    refine Wc.seq ?_
    refine Wc.region rfl ?_
    refine Wl.q rfl (Qy.move rfl) ?_
    refine Wl.q rfl (Qy.assign rfl) ?_
    refine Wl.done ?_
    refine Ar.next ?_
    refine Wc.ret ?_
    refine Ar.pick [1] (by decide) (Ar.out1 (.inr rfl) rfl (.tmp rfl) (Hp.sub_self 0 _) ?_)
    rw [hnr, ← ON_zero]
    exact ⟨_, _, _, rfl, hOw _ (by rw [ON_zero, rf_len]), rfl, rfl⟩
  have hal : a < p.code.length := hk
  refine Wc.re 4 rfl (show _ = Value.int .i64 (a : Int) by congr 1; omega) (Wc.re 3 rfl (show _ = Value.slice (some ⟨b2, 0, none⟩) (OM p a false).length S0.length by rw [ON_succ]) (Wc.reH 1 (Row 4 (OM p a false) []) rfl (by rw [ON_succ]) ?_))
  refine Wc.seq ?_
  refine Wc.seq ?_
  refine Wc.region rfl ?_
  refine Wl.q rfl (Qy.move rfl) ?_
  refine Wl.q rfl (Qy.geq rfl rfl) ?_
  refine Wl.done ?_
  refine Ar.next ?_
  refine Wc.condP rfl (by first | assumption | omega) ?_
  refine Wc.skip ?_
  refine Ar.next ?_
  refine Wc.seq ?_
  refine Wc.block ?_
  refine Wc.seq ?_
  refine Wc.region rfl ?_
  refine Wl.q rfl (Qy.fieldAddr T.fa25_2 rfl) ?_
  refine Wl.q rfl (Qy.load 0 T.one22 rfl rfl rfl) ?_
  refine Wl.q rfl (Qy.move rfl) ?_
  refine Wl.q rfl (Qy.at (α := Instr) T.sl22 rfl rfl (by assumption) (by omega)) ?_
  refine Wl.q rfl (Qy.fieldAddr T.fa34_1 rfl) ?_
  refine Wl.q rfl (Qy.loadG T.one3 rfl (Arr.cell (by assumption) (by omega) 1 rfl rfl)) ?_
  refine Wl.q rfl (Qy.assign rfl) ?_
  refine Wl.done ?_
  refine Ar.next ?_
  refine Wc.seq ?_
  refine Wc.region rfl ?_
  refine Wl.q rfl (Qy.assign rfl) ?_
  refine Wl.done ?_
  refine Ar.next ?_
  refine Wc.seq ?_
  refine Wc.seq ?_
  refine Wc.region rfl ?_
  refine Wl.q rfl (Qy.move rfl) ?_
  refine Wl.q rfl (Qy.add rfl rfl (by omega)) ?_
  refine Wl.q rfl (Qy.assign rfl) ?_
  refine Wl.done ?_
  refine Ar.next ?_
  refine Wc.block ?_
  generalize hF : fromAt p (p.code[((a : Nat) : Int).toNat]?.getD default).to (a + 1) = F at *
  refine Wc.loop (ι := Nat × Bool × Bool) (fun (j, ov, f) => ([(7, .int .i64 (j : Int)), (6, .bool ov), (3, .slice (some ⟨b2, 0, none⟩) (OM p a f).length S0.length), (5, Go.Value.int Go.IntKind.i64 (Go.Sl.Instr.to (Option.getD (Go.Proofs.Ytfleehgbpgmcnaa.PV.code p)[Int.toNat (↑a : Int)]? Inhabited.default))), (4, Go.Value.int Go.IntKind.i64 (↑a : Int)), (2, Go.Value.slice Option.none 0 0), (1, Go.Value.pointer (Option.some (Go.Addr.mk b1 0 Option.none)))], [(1, some b2, Row 4 (OM p a f) []), (0, Option.some b1, Go.Obj.cells #[Go.Value.int Go.IntKind.i64 (Go.Proofs.Ytfleehgbpgmcnaa.PV.ins p), Go.Value.int Go.IntKind.i64 (Go.Proofs.Ytfleehgbpgmcnaa.PV.regs p), Go.Value.slice ac (List.length (Go.Proofs.Ytfleehgbpgmcnaa.PV.code p)) cc, Go.Value.slice ao (List.length (Go.Proofs.Ytfleehgbpgmcnaa.PV.outs p)) co] 25)])) (fun (j, ov, f) => a + 1 ≤ j ∧ j ≤ p.code.length ∧ (ov = true → F = f) ∧ (ov = false → F = (f || fromAt p (p.code[((a : Nat) : Int).toNat]?.getD default).to j))) (fun (j, ov, f) => p.code.length - j) ((a + 1, false, false)) (⟨Nat.le_refl _, hk, fun h => Bool.noConfusion h, fun _ => (by rw [hF]; simp)⟩) ⟨rfl, rfl, rfl, rfl, rfl, rfl, rfl, trivial⟩ ⟨rfl, rfl, trivial⟩ (fun ⟨j, ov, f⟩ => fun (hk : a + 1 ≤ j ∧ j ≤ p.code.length ∧ (ov = true → F = f) ∧ (ov = false → F = (f || fromAt p (p.code[((a : Nat) : Int).toNat]?.getD default).to j))) => ?_)
  obtain ⟨hj1, hj2, ht, hf⟩ := hk
  have hoO := hOw (OM p a f) (OM_len hal f)
  have hOl := OM_len hal f
  rcases Decidable.em (ov = false ∧ j < p.code.length) with ⟨hov, hlt⟩ | hstop
  · subst hov
    have hf := hf rfl
    clear ht
    have hX := OM_get hj1 hlt f
    have hst := fromAt_step p (p.code[((a : Nat) : Int).toNat]?.getD default).to hlt
    have hI : p.code[j]?.getD default = p.code[((j : Nat) : Int).toNat]?.getD default := by rw [Int.toNat_natCast]
    rw [hI] at hst
    generalize hX2 : fromAt p (p.code[((j : Nat) : Int).toNat]?.getD default).to (j + 1) = X at *
    have hasks : (asks (p.code[((j : Nat) : Int).toNat]?.getD default)).length ≤ 2 := by unfold asks; split <;> (try split) <;> simp
    refine Wc.seq ?_
    refine Wc.seq ?_
    refine Wc.region rfl ?_
    refine Wl.q rfl (Qy.move rfl) ?_
    refine Wl.q rfl (Qy.fieldAddr T.fa25_2 rfl) ?_
    refine Wl.q rfl (Qy.load 0 T.one22 rfl rfl rfl) ?_
    refine Wl.q rfl (Qy.len T.sl22 rfl) ?_
    refine Wl.q rfl (Qy.lss rfl rfl) ?_
    refine Wl.q rfl (Qy.move rfl) ?_
    refine Wl.yes 36 rfl (by first | assumption | omega) ?_
    refine Wl.want rfl rfl ?_
    refine Wl.q rfl (Qy.move rfl) ?_
    refine Wl.want rfl rfl ?_
    refine Wl.q rfl (Qy.not rfl) ?_
    refine Wl.q rfl (Qy.pick rfl rfl) ?_
    refine Wl.done ?_
    refine Ar.next ?_
    refine Wc.condT rfl ?_
    refine Wc.skip ?_
    refine Ar.next ?_
    refine Wc.seq ?_
    refine Wc.block ?_
    refine Wc.seq ?_
    refine Wc.region rfl ?_
    refine Wl.q rfl (Qy.fieldAddr T.fa25_2 rfl) ?_
    refine Wl.q rfl (Qy.load 0 T.one22 rfl rfl rfl) ?_
    refine Wl.q rfl (Qy.move rfl) ?_
    refine Wl.q rfl (Qy.at (α := Instr) T.sl22 rfl rfl (by assumption) (by omega)) ?_
    refine Wl.q rfl (Qy.loadsG T.agg34 rfl (Arr.elem (by assumption) (by omega)) rfl) ?_
    refine Wl.call 2 rfl T.fn72 rfl (c72 _ _) (tags_of trivial) (fun v1 G1 Ho1 hle1 hp => ?_)
    obtain ⟨ad1, cd1, junk1, rfl, hoa1, rfl, rfl⟩ := hp
    refine Wl.q rfl (Qy.assign rfl) ?_
    refine Wl.done ?_
    refine Ar.next ?_
    refine Wc.seq ?_
    refine Wc.seq ?_
    refine Wc.region rfl ?_
    refine Wl.q rfl (Qy.assign rfl) ?_
    refine Wl.done ?_
    refine Ar.next ?_
    refine Wc.block ?_
    refine Wc.loop (ι := Nat × Bool) (fun (b, g) => ([(9, .int .i64 (b : Int)), (3, .slice (some ⟨b2, 0, none⟩) (OM p a g).length S0.length), (8, Go.Value.slice ad1 (List.length (Go.Proofs.Ytfleehgbpgmcnaa.asks (Option.getD (Go.Proofs.Ytfleehgbpgmcnaa.PV.code p)[Int.toNat (↑j : Int)]? Inhabited.default))) cd1), (7, Go.Value.int Go.IntKind.i64 (↑j : Int)), (6, Go.Value.bool Bool.false), (5, Go.Value.int Go.IntKind.i64 (Go.Sl.Instr.to (Option.getD (Go.Proofs.Ytfleehgbpgmcnaa.PV.code p)[Int.toNat (↑a : Int)]? Inhabited.default))), (4, Go.Value.int Go.IntKind.i64 (↑a : Int)), (2, Go.Value.slice Option.none 0 0), (1, Go.Value.pointer (Option.some (Go.Addr.mk b1 0 Option.none)))], [(1, some b2, Row 4 (OM p a g) []), (3, Option.map (fun x => Go.Addr.block x) ad1, Go.Sl.Row (α := Int) 3 (Go.Proofs.Ytfleehgbpgmcnaa.asks (Option.getD (Go.Proofs.Ytfleehgbpgmcnaa.PV.code p)[Int.toNat (↑j : Int)]? Inhabited.default)) (junk1)), (0, Option.some b1, Go.Obj.cells #[Go.Value.int Go.IntKind.i64 (Go.Proofs.Ytfleehgbpgmcnaa.PV.ins p), Go.Value.int Go.IntKind.i64 (Go.Proofs.Ytfleehgbpgmcnaa.PV.regs p), Go.Value.slice ac (List.length (Go.Proofs.Ytfleehgbpgmcnaa.PV.code p)) cc, Go.Value.slice ao (List.length (Go.Proofs.Ytfleehgbpgmcnaa.PV.outs p)) co] 25)])) (fun (b, g) => b ≤ (asks (p.code[((j : Nat) : Int).toNat]?.getD default)).length ∧ g = (f || (X && decide ((p.code[((a : Nat) : Int).toNat]?.getD default).to ∈ (asks (p.code[((j : Nat) : Int).toNat]?.getD default)).take b)))) (fun (b, g) => (asks (p.code[((j : Nat) : Int).toNat]?.getD default)).length - b) ((0, f)) (⟨Nat.zero_le _, by simp⟩) ⟨rfl, rfl, rfl, rfl, rfl, rfl, rfl, rfl, rfl, trivial⟩ ⟨rfl, rfl, rfl, trivial⟩ (fun ⟨b, g⟩ => fun (hk : b ≤ (asks (p.code[((j : Nat) : Int).toNat]?.getD default)).length ∧ g = (f || (X && decide ((p.code[((a : Nat) : Int).toNat]?.getD default).to ∈ (asks (p.code[((j : Nat) : Int).toNat]?.getD default)).take b)))) => ?_)
    obtain ⟨hb1, hg⟩ := hk
    have hoO := hOw (OM p a g) (OM_len hal g)
    have hOl := OM_len hal g
    have hXg := OM_get hj1 hlt g
    rw [hX2] at hXg
    rcases Nat.lt_or_ge b (asks (p.code[((j : Nat) : Int).toNat]?.getD default)).length with hblt | hbge
    · have htk : (asks (p.code[((j : Nat) : Int).toNat]?.getD default)).take (b + 1) = (asks (p.code[((j : Nat) : Int).toNat]?.getD default)).take b ++ [(asks (p.code[((j : Nat) : Int).toNat]?.getD default))[((b : Nat) : Int).toNat]?.getD default] := by
        have e : ((b : Nat) : Int).toNat = b := Int.toNat_natCast b
        rw [List.take_add_one, e, List.getElem?_eq_getElem hblt]; rfl
      by_cases hq : (asks (p.code[((j : Nat) : Int).toNat]?.getD default))[((b : Nat) : Int).toNat]?.getD default = (p.code[((a : Nat) : Int).toNat]?.getD default).to
      · refine Wc.seq ?_
        refine Wc.seq ?_
        refine Wc.region rfl ?_
        refine Wl.q rfl (Qy.move rfl) ?_
        refine Wl.q rfl (Qy.move rfl) ?_
        refine Wl.q rfl (Qy.len T.sl23 rfl) ?_
        refine Wl.q rfl (Qy.lss rfl rfl) ?_
        refine Wl.done ?_
        refine Ar.next ?_
        refine Wc.condP rfl (by first | assumption | omega) ?_
        refine Wc.skip ?_
        refine Ar.next ?_
        refine Wc.seq ?_
        refine Wc.block ?_
        refine Wc.seq ?_
        refine Wc.region rfl ?_
        refine Wl.q rfl (Qy.move rfl) ?_
        refine Wl.q rfl (Qy.move rfl) ?_
        refine Wl.q rfl (Qy.indexAddrO (α := Int) T.sl23 rfl rfl (by assumption) (by omega)) ?_
        refine Wl.q rfl (Qy.loadO 3 0 T.one3 rfl rfl (by assumption) (by omega) rfl rfl) ?_
        refine Wl.q rfl (Qy.move rfl) ?_
        refine Wl.q rfl (Qy.eql rfl rfl) ?_
        refine Wl.q rfl (Qy.move rfl) ?_
        refine Wl.yes 60 rfl (by first | assumption | omega) ?_
        refine Wl.want rfl rfl ?_
        refine Wl.q rfl (Qy.move rfl) ?_
        refine Wl.want rfl rfl ?_
        refine Wl.q rfl (Qy.move rfl) ?_
        refine Wl.want rfl rfl ?_
        refine Wl.q rfl (Qy.indexAddrO (α := Bool) T.sl64 rfl rfl (by assumption) (by omega)) ?_
        refine Wl.want rfl rfl ?_
        refine Wl.q rfl (Qy.loadO 1 0 T.one4 rfl rfl (by assumption) (by omega) rfl rfl) ?_
        refine Wl.q rfl (Qy.pick rfl rfl) ?_
        refine Wl.done ?_
        refine Ar.next ?_
        refine Wc.ite rfl (fun hc1 => ?_) (fun hc1 => ?_)
        refine Wc.region rfl ?_
        refine Wl.q rfl (Qy.move rfl) ?_
        refine Wl.q rfl (Qy.move rfl) ?_
        refine Wl.q rfl (Qy.indexAddrO (α := Bool) T.sl64 rfl rfl (by assumption) (by omega)) ?_
        refine Wl.setO (z := _) 1 T.size4 rfl rfl rfl (by assumption) (by omega) rfl (fun ho1 => ?_)
        refine Wl.done ?_
        refine Ar.outNormal ?_
        refine Ar.next ?_
        refine Wc.region rfl ?_
        refine Wl.q rfl (Qy.move rfl) ?_
        refine Wl.q rfl (Qy.add rfl rfl (by omega)) ?_
        refine Wl.q rfl (Qy.assign rfl) ?_
        refine Wl.done ?_
        rotate_left
        refine Wc.skip ?_
        refine Ar.outNormal ?_
        refine Ar.next ?_
        refine Wc.region rfl ?_
        refine Wl.q rfl (Qy.move rfl) ?_
        refine Wl.q rfl (Qy.add rfl rfl (by omega)) ?_
        refine Wl.q rfl (Qy.assign rfl) ?_
        refine Wl.done ?_
        rotate_left
        · have hXt : X = true := by rw [← hXg]; exact hc1
          have hset := OM_set p a g
          refine Ar.reH 1 (Row 4 (OM p a true) []) rfl (by rw [hset]) (Ar.re 3 rfl (show _ = Value.slice (some ⟨b2, 0, none⟩) (OM p a true).length S0.length by rw [OM_len hal, OM_len hal]) ?_)
          refine Ar.again ((b + 1, true)) ?_ ?_ rfl ⟨rfl, rfl, rfl, rfl, rfl, rfl, rfl, rfl, rfl, trivial⟩ ⟨rfl, rfl, rfl, trivial⟩
          · have hmem : (p.code[((a : Nat) : Int).toNat]?.getD default).to ∈ (asks (p.code[((j : Nat) : Int).toNat]?.getD default)).take (b + 1) := by rw [htk, ← hq]; exact List.mem_append_right _ (List.mem_singleton.2 rfl)
            exact ⟨by omega, by rw [hXt, decide_eq_true hmem]; simp⟩
          · show (asks (p.code[((j : Nat) : Int).toNat]?.getD default)).length - (b + 1) < (asks (p.code[((j : Nat) : Int).toNat]?.getD default)).length - b
            omega
        · have hXf : X = false := by rw [← hXg]; exact hc1
          refine Ar.again ((b + 1, g)) ?_ ?_ rfl ⟨rfl, rfl, rfl, rfl, rfl, rfl, rfl, rfl, rfl, trivial⟩ ⟨rfl, rfl, rfl, trivial⟩
          · exact ⟨by omega, by rw [hg, hXf]; simp⟩
          · show (asks (p.code[((j : Nat) : Int).toNat]?.getD default)).length - (b + 1) < (asks (p.code[((j : Nat) : Int).toNat]?.getD default)).length - b
            omega
      · refine Wc.seq ?_
        refine Wc.seq ?_
        refine Wc.region rfl ?_
        refine Wl.q rfl (Qy.move rfl) ?_
        refine Wl.q rfl (Qy.move rfl) ?_
        refine Wl.q rfl (Qy.len T.sl23 rfl) ?_
        refine Wl.q rfl (Qy.lss rfl rfl) ?_
        refine Wl.done ?_
        refine Ar.next ?_
        refine Wc.condP rfl (by first | assumption | omega) ?_
        refine Wc.skip ?_
        refine Ar.next ?_
        refine Wc.seq ?_
        refine Wc.block ?_
        refine Wc.seq ?_
        refine Wc.region rfl ?_
        refine Wl.q rfl (Qy.move rfl) ?_
        refine Wl.q rfl (Qy.move rfl) ?_
        refine Wl.q rfl (Qy.indexAddrO (α := Int) T.sl23 rfl rfl (by assumption) (by omega)) ?_
        refine Wl.q rfl (Qy.loadO 3 0 T.one3 rfl rfl (by assumption) (by omega) rfl rfl) ?_
        refine Wl.q rfl (Qy.move rfl) ?_
        refine Wl.q rfl (Qy.eql rfl rfl) ?_
        refine Wl.q rfl (Qy.move rfl) ?_
        refine Wl.no 60 rfl (by first | assumption | omega) ?_
        refine Wl.pass rfl rfl rfl ?_
        refine Wl.pass rfl rfl rfl ?_
        refine Wl.pass rfl rfl rfl ?_
        refine Wl.pass rfl rfl rfl ?_
        refine Wl.q rfl (Qy.pick rfl rfl) ?_
        refine Wl.done ?_
        refine Ar.next ?_
        refine Wc.condF rfl ?_
        refine Wc.skip ?_
        refine Ar.outNormal ?_
        refine Ar.next ?_
        refine Wc.region rfl ?_
        refine Wl.q rfl (Qy.move rfl) ?_
        refine Wl.q rfl (Qy.add rfl rfl (by omega)) ?_
        refine Wl.q rfl (Qy.assign rfl) ?_
        refine Wl.done ?_
        refine Ar.again ((b + 1, g)) ?_ ?_ rfl ⟨rfl, rfl, rfl, rfl, rfl, rfl, rfl, rfl, rfl, trivial⟩ ⟨rfl, rfl, rfl, trivial⟩
        · refine ⟨by omega, ?_⟩
          rw [htk, hg]
          have hq' : ¬ (p.code[((a : Nat) : Int).toNat]?.getD default).to = (asks (p.code[((j : Nat) : Int).toNat]?.getD default))[((b : Nat) : Int).toNat]?.getD default := fun h => hq h.symm
          simp only [List.mem_append, List.mem_singleton, hq', or_false]
        · show (asks (p.code[((j : Nat) : Int).toNat]?.getD default)).length - (b + 1) < (asks (p.code[((j : Nat) : Int).toNat]?.getD default)).length - b
          omega
    · have hbb : b = (asks (p.code[((j : Nat) : Int).toNat]?.getD default)).length := by omega
      subst hbb
      rw [List.take_length] at hg
      refine Wc.seq ?_
      refine Wc.seq ?_
      refine Wc.region rfl ?_
      refine Wl.q rfl (Qy.move rfl) ?_
      refine Wl.q rfl (Qy.move rfl) ?_
      refine Wl.q rfl (Qy.len T.sl23 rfl) ?_
      refine Wl.q rfl (Qy.lss rfl rfl) ?_
      refine Wl.done ?_
      refine Ar.next ?_
      refine Wc.condN rfl (by first | assumption | omega) ?_
      refine Wc.exit ?_
      refine Ar.passExit ?_
      refine Ar.passExit ?_
      refine Ar.here ?_
      refine Ar.next ?_
      refine Wc.region rfl ?_
      refine Wl.q rfl (Qy.fieldAddr T.fa25_2 rfl) ?_
      refine Wl.q rfl (Qy.load 0 T.one22 rfl rfl rfl) ?_
      refine Wl.q rfl (Qy.move rfl) ?_
      refine Wl.q rfl (Qy.at (α := Instr) T.sl22 rfl rfl (by assumption) (by omega)) ?_
      refine Wl.q rfl (Qy.fieldAddr T.fa34_1 rfl) ?_
      refine Wl.q rfl (Qy.loadG T.one3 rfl (Arr.cell (by assumption) (by omega) 1 rfl rfl)) ?_
      refine Wl.q rfl (Qy.move rfl) ?_
      refine Wl.q rfl (Qy.eql rfl rfl) ?_
      refine Wl.q rfl (Qy.assign rfl) ?_
      refine Wl.done ?_
      refine Ar.outNormal ?_
      refine Ar.next ?_
      refine Wc.region rfl ?_
      refine Wl.q rfl (Qy.move rfl) ?_
      refine Wl.q rfl (Qy.add rfl rfl (by omega)) ?_
      refine Wl.q rfl (Qy.assign rfl) ?_
      refine Wl.done ?_
      refine Ar.again ((j + 1, decide ((p.code[((j : Nat) : Int).toNat]?.getD default).to = (p.code[((a : Nat) : Int).toNat]?.getD default).to), g)) ?_ ?_ rfl ⟨rfl, rfl, rfl, rfl, rfl, rfl, rfl, trivial⟩ ⟨rfl, rfl, trivial⟩
      · refine ⟨by omega, by omega, fun h => ?_, fun h => ?_⟩
        · rw [hf, hst, hg, h]; simp
        · rw [hf, hst, hg, h]; simp [Bool.or_assoc]
      · show p.code.length - (j + 1) < p.code.length - j
        omega
  cases ov
  · have hjn : p.code.length ≤ j := by
      rcases Nat.lt_or_ge j p.code.length with h | h
      · exact absurd ⟨rfl, h⟩ hstop
      · exact h
    have hf := hf rfl
    rw [fromAt_end p _ hjn] at hf
    refine Wc.seq ?_
    refine Wc.seq ?_
    refine Wc.region rfl ?_
    refine Wl.q rfl (Qy.move rfl) ?_
    refine Wl.q rfl (Qy.fieldAddr T.fa25_2 rfl) ?_
    refine Wl.q rfl (Qy.load 0 T.one22 rfl rfl rfl) ?_
    refine Wl.q rfl (Qy.len T.sl22 rfl) ?_
    refine Wl.q rfl (Qy.lss rfl rfl) ?_
    refine Wl.q rfl (Qy.move rfl) ?_
    refine Wl.no 36 rfl (by first | assumption | omega) ?_
    refine Wl.pass rfl rfl rfl ?_
    refine Wl.pass rfl rfl rfl ?_
    refine Wl.q rfl (Qy.pick rfl rfl) ?_
    refine Wl.done ?_
    refine Ar.next ?_
    refine Wc.condF rfl ?_
    refine Wc.exit ?_
    refine Ar.passExit ?_
    refine Ar.passExit ?_
    refine Ar.here ?_
    refine Ar.next ?_
    refine Wc.seq ?_
    refine Wc.region rfl ?_
    refine Wl.q rfl (Qy.assign rfl) ?_
    refine Wl.done ?_
    refine Ar.next ?_
    refine Wc.block ?_
    refine Wc.loop (ι := Nat × Bool) (fun (b, g) => ([(10, .int .i64 (b : Int)), (3, .slice (some ⟨b2, 0, none⟩) (OM p a g).length S0.length), (6, Go.Value.bool Bool.false), (5, Go.Value.int Go.IntKind.i64 (Go.Sl.Instr.to (Option.getD (Go.Proofs.Ytfleehgbpgmcnaa.PV.code p)[Int.toNat (↑a : Int)]? Inhabited.default))), (4, Go.Value.int Go.IntKind.i64 (↑a : Int)), (2, Go.Value.slice Option.none 0 0), (1, Go.Value.pointer (Option.some (Go.Addr.mk b1 0 Option.none)))], [(1, some b2, Row 4 (OM p a g) []), (0, Option.some b1, Go.Obj.cells #[Go.Value.int Go.IntKind.i64 (Go.Proofs.Ytfleehgbpgmcnaa.PV.ins p), Go.Value.int Go.IntKind.i64 (Go.Proofs.Ytfleehgbpgmcnaa.PV.regs p), Go.Value.slice ac (List.length (Go.Proofs.Ytfleehgbpgmcnaa.PV.code p)) cc, Go.Value.slice ao (List.length (Go.Proofs.Ytfleehgbpgmcnaa.PV.outs p)) co] 25)])) (fun (b, g) => b ≤ p.outs.length ∧ g = (f || decide ((p.code[((a : Nat) : Int).toNat]?.getD default).to ∈ p.outs.take b))) (fun (b, g) => p.outs.length - b) ((0, f)) (⟨Nat.zero_le _, by simp⟩) ⟨rfl, rfl, rfl, rfl, rfl, rfl, rfl, trivial⟩ ⟨rfl, rfl, trivial⟩ (fun ⟨b, g⟩ => fun (hk : b ≤ p.outs.length ∧ g = (f || decide ((p.code[((a : Nat) : Int).toNat]?.getD default).to ∈ p.outs.take b))) => ?_)
    obtain ⟨hb1, hg⟩ := hk
    have hoO := hOw (OM p a g) (OM_len hal g)
    have hOl := OM_len hal g
    rcases Nat.lt_or_ge b p.outs.length with hblt | hbge
    · have htk : p.outs.take (b + 1) = p.outs.take b ++ [p.outs[((b : Nat) : Int).toNat]?.getD default] := by
        have e : ((b : Nat) : Int).toNat = b := Int.toNat_natCast b
        rw [List.take_add_one, e, List.getElem?_eq_getElem hblt]; rfl
      by_cases hq : p.outs[((b : Nat) : Int).toNat]?.getD default = (p.code[((a : Nat) : Int).toNat]?.getD default).to
      · refine Wc.seq ?_
        refine Wc.seq ?_
        refine Wc.region rfl ?_
        refine Wl.q rfl (Qy.move rfl) ?_
        refine Wl.q rfl (Qy.fieldAddr T.fa25_3 rfl) ?_
        refine Wl.q rfl (Qy.load 0 T.one23 rfl rfl rfl) ?_
        refine Wl.q rfl (Qy.len T.sl23 rfl) ?_
        refine Wl.q rfl (Qy.lss rfl rfl) ?_
        refine Wl.q rfl (Qy.move rfl) ?_
        refine Wl.yes 82 rfl (by first | assumption | omega) ?_
        refine Wl.want rfl rfl ?_
        refine Wl.q rfl (Qy.move rfl) ?_
        refine Wl.want rfl rfl ?_
        refine Wl.q rfl (Qy.not rfl) ?_
        refine Wl.q rfl (Qy.pick rfl rfl) ?_
        refine Wl.done ?_
        refine Ar.next ?_
        refine Wc.condT rfl ?_
        refine Wc.skip ?_
        refine Ar.next ?_
        refine Wc.seq ?_
        refine Wc.block ?_
        refine Wc.seq ?_
        refine Wc.region rfl ?_
        refine Wl.q rfl (Qy.fieldAddr T.fa25_3 rfl) ?_
        refine Wl.q rfl (Qy.load 0 T.one23 rfl rfl rfl) ?_
        refine Wl.q rfl (Qy.move rfl) ?_
        refine Wl.q rfl (Qy.at (α := Int) T.sl23 rfl rfl (by assumption) (by omega)) ?_
        refine Wl.q rfl (Qy.loadG T.one3 rfl (Arr.cell (by assumption) (by omega) 0 rfl rfl)) ?_
        refine Wl.q rfl (Qy.move rfl) ?_
        refine Wl.q rfl (Qy.eql rfl rfl) ?_
        refine Wl.done ?_
        refine Ar.next ?_
        refine Wc.condP rfl (by first | assumption | omega) ?_
        refine Wc.region rfl ?_
        refine Wl.q rfl (Qy.move rfl) ?_
        refine Wl.q rfl (Qy.move rfl) ?_
        refine Wl.q rfl (Qy.indexAddrO (α := Bool) T.sl64 rfl rfl (by assumption) (by omega)) ?_
        refine Wl.setO (z := _) 1 T.size4 rfl rfl rfl (by assumption) (by omega) rfl (fun ho1 => ?_)
        refine Wl.done ?_
        refine Ar.outNormal ?_
        refine Ar.next ?_
        refine Wc.region rfl ?_
        refine Wl.q rfl (Qy.move rfl) ?_
        refine Wl.q rfl (Qy.add rfl rfl (by omega)) ?_
        refine Wl.q rfl (Qy.assign rfl) ?_
        refine Wl.done ?_
        have hset := OM_set p a g
        refine Ar.reH 1 (Row 4 (OM p a true) []) rfl (by rw [hset]) (Ar.re 3 rfl (show _ = Value.slice (some ⟨b2, 0, none⟩) (OM p a true).length S0.length by rw [OM_len hal, OM_len hal]) ?_)
        refine Ar.again ((b + 1, true)) ?_ ?_ rfl ⟨rfl, rfl, rfl, rfl, rfl, rfl, rfl, trivial⟩ ⟨rfl, rfl, trivial⟩
        · have hmem : (p.code[((a : Nat) : Int).toNat]?.getD default).to ∈ p.outs.take (b + 1) := by rw [htk, ← hq]; exact List.mem_append_right _ (List.mem_singleton.2 rfl)
          exact ⟨by omega, by rw [decide_eq_true hmem]; simp⟩
        · show p.outs.length - (b + 1) < p.outs.length - b
          omega
      · refine Wc.seq ?_
        refine Wc.seq ?_
        refine Wc.region rfl ?_
        refine Wl.q rfl (Qy.move rfl) ?_
        refine Wl.q rfl (Qy.fieldAddr T.fa25_3 rfl) ?_
        refine Wl.q rfl (Qy.load 0 T.one23 rfl rfl rfl) ?_
        refine Wl.q rfl (Qy.len T.sl23 rfl) ?_
        refine Wl.q rfl (Qy.lss rfl rfl) ?_
        refine Wl.q rfl (Qy.move rfl) ?_
        refine Wl.yes 82 rfl (by first | assumption | omega) ?_
        refine Wl.want rfl rfl ?_
        refine Wl.q rfl (Qy.move rfl) ?_
        refine Wl.want rfl rfl ?_
        refine Wl.q rfl (Qy.not rfl) ?_
        refine Wl.q rfl (Qy.pick rfl rfl) ?_
        refine Wl.done ?_
        refine Ar.next ?_
        refine Wc.condT rfl ?_
        refine Wc.skip ?_
        refine Ar.next ?_
        refine Wc.seq ?_
        refine Wc.block ?_
        refine Wc.seq ?_
        refine Wc.region rfl ?_
        refine Wl.q rfl (Qy.fieldAddr T.fa25_3 rfl) ?_
        refine Wl.q rfl (Qy.load 0 T.one23 rfl rfl rfl) ?_
        refine Wl.q rfl (Qy.move rfl) ?_
        refine Wl.q rfl (Qy.at (α := Int) T.sl23 rfl rfl (by assumption) (by omega)) ?_
        refine Wl.q rfl (Qy.loadG T.one3 rfl (Arr.cell (by assumption) (by omega) 0 rfl rfl)) ?_
        refine Wl.q rfl (Qy.move rfl) ?_
        refine Wl.q rfl (Qy.eql rfl rfl) ?_
        refine Wl.done ?_
        refine Ar.next ?_
        refine Wc.condN rfl (by first | assumption | omega) ?_
        refine Wc.skip ?_
        refine Ar.outNormal ?_
        refine Ar.next ?_
        refine Wc.region rfl ?_
        refine Wl.q rfl (Qy.move rfl) ?_
        refine Wl.q rfl (Qy.add rfl rfl (by omega)) ?_
        refine Wl.q rfl (Qy.assign rfl) ?_
        refine Wl.done ?_
        refine Ar.again ((b + 1, g)) ?_ ?_ rfl ⟨rfl, rfl, rfl, rfl, rfl, rfl, rfl, trivial⟩ ⟨rfl, rfl, trivial⟩
        · refine ⟨by omega, ?_⟩
          rw [htk, hg]
          have hq' : ¬ (p.code[((a : Nat) : Int).toNat]?.getD default).to = p.outs[((b : Nat) : Int).toNat]?.getD default := fun h => hq h.symm
          simp only [List.mem_append, List.mem_singleton, hq', or_false]
        · show p.outs.length - (b + 1) < p.outs.length - b
          omega
    · have hbb : b = p.outs.length := by omega
      subst hbb
      rw [List.take_length] at hg
      have hgF : g = F := by rw [hg, hf]
      subst hgF
      have hON : OM p a g = ON p a := by rw [← hF]; exact OM_done hal
      refine Wc.seq ?_
      refine Wc.seq ?_
      refine Wc.region rfl ?_
      refine Wl.q rfl (Qy.move rfl) ?_
      refine Wl.q rfl (Qy.fieldAddr T.fa25_3 rfl) ?_
      refine Wl.q rfl (Qy.load 0 T.one23 rfl rfl rfl) ?_
      refine Wl.q rfl (Qy.len T.sl23 rfl) ?_
      refine Wl.q rfl (Qy.lss rfl rfl) ?_
      refine Wl.q rfl (Qy.move rfl) ?_
      refine Wl.no 82 rfl (by first | assumption | omega) ?_
      refine Wl.pass rfl rfl rfl ?_
      refine Wl.pass rfl rfl rfl ?_
      refine Wl.q rfl (Qy.pick rfl rfl) ?_
      refine Wl.done ?_
      refine Ar.next ?_
      refine Wc.condF rfl ?_
      refine Wc.exit ?_
      refine Ar.passExit ?_
      refine Ar.passExit ?_
      refine Ar.here ?_
      refine Ar.outNormal ?_
      refine Ar.next ?_
      refine Wc.region rfl ?_
      refine Wl.q rfl (Qy.move rfl) ?_
      refine Wl.q rfl (Qy.sub rfl rfl (by omega)) ?_
      refine Wl.q rfl (Qy.assign rfl) ?_
      refine Wl.done ?_
      refine Ar.reH 1 (Row 4 (ON p a) []) rfl (by rw [hON]) (Ar.re 3 rfl (show _ = Value.slice (some ⟨b2, 0, none⟩) (ON p a).length S0.length by rw [hON]) ?_)
      refine Ar.again (a) ?_ ?_ rfl ⟨rfl, rfl, rfl, rfl, trivial⟩ ⟨rfl, rfl, trivial⟩
      · show a ≤ p.code.length
        omega
      · show a < a + 1
        omega
  · have hgF : F = f := ht rfl
    subst hgF
    have hON : OM p a F = ON p a := by rw [← hF]; exact OM_done hal
    rcases Nat.lt_or_ge j p.code.length with hjl | hjl
    · refine Wc.seq ?_
      refine Wc.seq ?_
      refine Wc.region rfl ?_
      refine Wl.q rfl (Qy.move rfl) ?_
      refine Wl.q rfl (Qy.fieldAddr T.fa25_2 rfl) ?_
      refine Wl.q rfl (Qy.load 0 T.one22 rfl rfl rfl) ?_
      refine Wl.q rfl (Qy.len T.sl22 rfl) ?_
      refine Wl.q rfl (Qy.lss rfl rfl) ?_
      refine Wl.q rfl (Qy.move rfl) ?_
      refine Wl.yes 36 rfl (by first | assumption | omega) ?_
      refine Wl.want rfl rfl ?_
      refine Wl.q rfl (Qy.move rfl) ?_
      refine Wl.want rfl rfl ?_
      refine Wl.q rfl (Qy.not rfl) ?_
      refine Wl.q rfl (Qy.pick rfl rfl) ?_
      refine Wl.done ?_
      refine Ar.next ?_
      refine Wc.condF rfl ?_
      refine Wc.exit ?_
      refine Ar.passExit ?_
      refine Ar.passExit ?_
      refine Ar.here ?_
      refine Ar.next ?_
      refine Wc.seq ?_
      refine Wc.region rfl ?_
      refine Wl.q rfl (Qy.assign rfl) ?_
      refine Wl.done ?_
      refine Ar.next ?_
      refine Wc.block ?_
      refine Wc.loop (ι := Nat) (fun b => ([(10, .int .i64 (b : Int)), (6, Go.Value.bool Bool.true), (3, Go.Value.slice (Option.some (Go.Addr.mk b2 0 Option.none)) (List.length (Go.Proofs.Ytfleehgbpgmcnaa.OM p a F)) (List.length S0)), (5, Go.Value.int Go.IntKind.i64 (Go.Sl.Instr.to (Option.getD (Go.Proofs.Ytfleehgbpgmcnaa.PV.code p)[Int.toNat (↑a : Int)]? Inhabited.default))), (4, Go.Value.int Go.IntKind.i64 (↑a : Int)), (2, Go.Value.slice Option.none 0 0), (1, Go.Value.pointer (Option.some (Go.Addr.mk b1 0 Option.none)))], [(1, Option.some b2, Go.Sl.Row (α := Bool) 4 (Go.Proofs.Ytfleehgbpgmcnaa.OM p a F) ([])), (0, Option.some b1, Go.Obj.cells #[Go.Value.int Go.IntKind.i64 (Go.Proofs.Ytfleehgbpgmcnaa.PV.ins p), Go.Value.int Go.IntKind.i64 (Go.Proofs.Ytfleehgbpgmcnaa.PV.regs p), Go.Value.slice ac (List.length (Go.Proofs.Ytfleehgbpgmcnaa.PV.code p)) cc, Go.Value.slice ao (List.length (Go.Proofs.Ytfleehgbpgmcnaa.PV.outs p)) co] 25)])) (fun b => b = 0) (fun b => b) (0) (rfl) ⟨rfl, rfl, rfl, rfl, rfl, rfl, rfl, trivial⟩ ⟨rfl, rfl, trivial⟩ (fun b => fun (hk : b = 0) => ?_)
      subst hk
      refine Wc.seq ?_
      refine Wc.seq ?_
      refine Wc.region rfl ?_
      refine Wl.q rfl (Qy.move rfl) ?_
      refine Wl.q rfl (Qy.fieldAddr T.fa25_3 rfl) ?_
      refine Wl.q rfl (Qy.load 0 T.one23 rfl rfl rfl) ?_
      refine Wl.q rfl (Qy.len T.sl23 rfl) ?_
      refine Wl.q rfl (Qy.lss rfl rfl) ?_
      refine Wl.q rfl (Qy.move rfl) ?_
      refine Wl.yes 82 rfl (by first | assumption | omega) ?_
      refine Wl.want rfl rfl ?_
      refine Wl.q rfl (Qy.move rfl) ?_
      refine Wl.want rfl rfl ?_
      refine Wl.q rfl (Qy.not rfl) ?_
      refine Wl.q rfl (Qy.pick rfl rfl) ?_
      refine Wl.done ?_
      refine Ar.next ?_
      refine Wc.condF rfl ?_
      refine Wc.exit ?_
      refine Ar.passExit ?_
      refine Ar.passExit ?_
      refine Ar.here ?_
      refine Ar.outNormal ?_
      refine Ar.next ?_
      refine Wc.region rfl ?_
      refine Wl.q rfl (Qy.move rfl) ?_
      refine Wl.q rfl (Qy.sub rfl rfl (by omega)) ?_
      refine Wl.q rfl (Qy.assign rfl) ?_
      refine Wl.done ?_
      refine Ar.reH 1 (Row 4 (ON p a) []) rfl (by rw [hON]) (Ar.re 3 rfl (show _ = Value.slice (some ⟨b2, 0, none⟩) (ON p a).length S0.length by rw [hON]) ?_)
      refine Ar.again (a) ?_ ?_ rfl ⟨rfl, rfl, rfl, rfl, trivial⟩ ⟨rfl, rfl, trivial⟩
      · show a ≤ p.code.length
        omega
      · show a < a + 1
        omega
    · refine Wc.seq ?_
      refine Wc.seq ?_
      refine Wc.region rfl ?_
      refine Wl.q rfl (Qy.move rfl) ?_
      refine Wl.q rfl (Qy.fieldAddr T.fa25_2 rfl) ?_
      refine Wl.q rfl (Qy.load 0 T.one22 rfl rfl rfl) ?_
      refine Wl.q rfl (Qy.len T.sl22 rfl) ?_
      refine Wl.q rfl (Qy.lss rfl rfl) ?_
      refine Wl.q rfl (Qy.move rfl) ?_
      refine Wl.no 36 rfl (by first | assumption | omega) ?_
      refine Wl.pass rfl rfl rfl ?_
      refine Wl.pass rfl rfl rfl ?_
      refine Wl.q rfl (Qy.pick rfl rfl) ?_
      refine Wl.done ?_
      refine Ar.next ?_
      refine Wc.condF rfl ?_
      refine Wc.exit ?_
      refine Ar.passExit ?_
      refine Ar.passExit ?_
      refine Ar.here ?_
      refine Ar.next ?_
      refine Wc.seq ?_
      refine Wc.region rfl ?_
      refine Wl.q rfl (Qy.assign rfl) ?_
      refine Wl.done ?_
      refine Ar.next ?_
      refine Wc.block ?_
      refine Wc.loop (ι := Nat) (fun b => ([(10, .int .i64 (b : Int)), (6, Go.Value.bool Bool.true), (3, Go.Value.slice (Option.some (Go.Addr.mk b2 0 Option.none)) (List.length (Go.Proofs.Ytfleehgbpgmcnaa.OM p a F)) (List.length S0)), (5, Go.Value.int Go.IntKind.i64 (Go.Sl.Instr.to (Option.getD (Go.Proofs.Ytfleehgbpgmcnaa.PV.code p)[Int.toNat (↑a : Int)]? Inhabited.default))), (4, Go.Value.int Go.IntKind.i64 (↑a : Int)), (2, Go.Value.slice Option.none 0 0), (1, Go.Value.pointer (Option.some (Go.Addr.mk b1 0 Option.none)))], [(1, Option.some b2, Go.Sl.Row (α := Bool) 4 (Go.Proofs.Ytfleehgbpgmcnaa.OM p a F) ([])), (0, Option.some b1, Go.Obj.cells #[Go.Value.int Go.IntKind.i64 (Go.Proofs.Ytfleehgbpgmcnaa.PV.ins p), Go.Value.int Go.IntKind.i64 (Go.Proofs.Ytfleehgbpgmcnaa.PV.regs p), Go.Value.slice ac (List.length (Go.Proofs.Ytfleehgbpgmcnaa.PV.code p)) cc, Go.Value.slice ao (List.length (Go.Proofs.Ytfleehgbpgmcnaa.PV.outs p)) co] 25)])) (fun b => b = 0) (fun b => b) (0) (rfl) ⟨rfl, rfl, rfl, rfl, rfl, rfl, rfl, trivial⟩ ⟨rfl, rfl, trivial⟩ (fun b => fun (hk : b = 0) => ?_)
      subst hk
      refine Wc.seq ?_
      refine Wc.seq ?_
      refine Wc.region rfl ?_
      refine Wl.q rfl (Qy.move rfl) ?_
      refine Wl.q rfl (Qy.fieldAddr T.fa25_3 rfl) ?_
      refine Wl.q rfl (Qy.load 0 T.one23 rfl rfl rfl) ?_
      refine Wl.q rfl (Qy.len T.sl23 rfl) ?_
      refine Wl.q rfl (Qy.lss rfl rfl) ?_
      refine Wl.q rfl (Qy.move rfl) ?_
      refine Wl.yes 82 rfl (by first | assumption | omega) ?_
      refine Wl.want rfl rfl ?_
      refine Wl.q rfl (Qy.move rfl) ?_
      refine Wl.want rfl rfl ?_
      refine Wl.q rfl (Qy.not rfl) ?_
      refine Wl.q rfl (Qy.pick rfl rfl) ?_
      refine Wl.done ?_
      refine Ar.next ?_
      refine Wc.condF rfl ?_
      refine Wc.exit ?_
      refine Ar.passExit ?_
      refine Ar.passExit ?_
      refine Ar.here ?_
      refine Ar.outNormal ?_
      refine Ar.next ?_
      refine Wc.region rfl ?_
      refine Wl.q rfl (Qy.move rfl) ?_
      refine Wl.q rfl (Qy.sub rfl rfl (by omega)) ?_
      refine Wl.q rfl (Qy.assign rfl) ?_
      refine Wl.done ?_
      refine Ar.reH 1 (Row 4 (ON p a) []) rfl (by rw [hON]) (Ar.re 3 rfl (show _ = Value.slice (some ⟨b2, 0, none⟩) (ON p a).length S0.length by rw [hON]) ?_)
      refine Ar.again (a) ?_ ?_ rfl ⟨rfl, rfl, rfl, rfl, trivial⟩ ⟨rfl, rfl, trivial⟩
      · show a ≤ p.code.length
        omega
      · show a < a + 1
        omega
end Go.Proofs.Ytfleehgbpgmcnaa
