import Derived.Test.YtfleehgbpgmcnaaSlN
import Derived.Test.YtfleehgbpgmcnaaAm
namespace Go.Proofs.Ytfleehgbpgmcnaa
open Go Go.Sl
set_option maxRecDepth 100000

set_option maxHeartbeats 2000000
theorem c67 (G : Imm) (i : Sl.Instr) : Does Try.prog 67 [.agg (Cells.enc i).toArray] G [] (fun v G' Ho => v = .bool (decide (i.op = 1 ∧ i.to = i.a)) ∧ G' = G ∧ Ho = []) := by
  refine Does.enter Try.func67 rfl Try.ntmps67 rfl (fun w => ?_)
  refine Wc.seq ?_
  refine Wc.region rfl ?_
  refine Wl.box 0 rfl rfl rfl (fun b1 => ?_)
  refine Wl.q rfl (Qy.assign rfl) ?_
  refine Wl.done ?_
  refine Ar.next ?_
  refine Wc.seq ?_
  refine Wc.region rfl ?_
  refine Wl.q rfl (Qy.fieldAddr T.fa34_0 rfl) ?_
  refine Wl.q rfl (Qy.load 0 T.one3 rfl rfl rfl) ?_
  refine Wl.q rfl (Qy.eql rfl rfl) ?_
  refine Wl.q rfl (Qy.move rfl) ?_
  apply Wl.joinAnd 6 6 12 rfl
  intro hg1
  refine Wl.want rfl rfl ?_
  refine Wl.q rfl (Qy.fieldAddr T.fa34_1 rfl) ?_
  refine Wl.want rfl rfl ?_
  refine Wl.q rfl (Qy.load 0 T.one3 rfl rfl rfl) ?_
  refine Wl.want rfl rfl ?_
  refine Wl.q rfl (Qy.fieldAddr T.fa34_2 rfl) ?_
  refine Wl.want rfl rfl ?_
  refine Wl.q rfl (Qy.load 0 T.one3 rfl rfl rfl) ?_
  refine Wl.want rfl rfl ?_
  refine Wl.q rfl (Qy.eql rfl rfl) ?_
  refine Wl.q rfl (Qy.pick rfl rfl) ?_
  exact Wl.back 6 0 rfl rfl rfl rfl rfl
  intro hg1
  refine Wl.pass rfl rfl rfl ?_
  refine Wl.pass rfl rfl rfl ?_
  refine Wl.pass rfl rfl rfl ?_
  refine Wl.pass rfl rfl rfl ?_
  refine Wl.pass rfl rfl rfl ?_
  refine Wl.q rfl (Qy.pick rfl rfl) ?_
  exact Wl.back 6 0 rfl rfl rfl rfl rfl
  refine Wl.q rfl (Qy.assign rfl) ?_
  refine Wl.done ?_
  refine Ar.next ?_
  refine Wc.ret ?_
  refine Ar.out1 (.inr rfl) (Ho := Hp.only _ []) rfl (.tmp rfl) (Hp.sub_only _ _) ?_
  exact ⟨rfl, rfl, rfl⟩
theorem c68 (G : Imm) (a : Option Addr) (c : Nat) (xs : List Int) (hx : Arr G a xs) (hl : xs.length ≤ 1099511627776) :
    Does Try.prog 68 [.slice a xs.length c] G [] (fun v G' Ho => ∃ b d j, v = .slice b xs.length d ∧ OwnA b d xs j ∧ Ho = [(0, b.map (·.block), Row 3 xs j)] ∧ G' = G) := by
  refine Does.enter Try.func68 rfl Try.ntmps68 rfl (fun w => ?_)
  refine Wc.seq ?_
  refine Wc.region rfl ?_
  refine Wl.q rfl (Qy.assign rfl) ?_
  refine Wl.done ?_
  refine Ar.next ?_
  refine Wc.seq ?_
  refine Wc.seq ?_
  refine Wc.region rfl ?_
  refine Wl.q rfl (Qy.move rfl) ?_
  refine Wl.q rfl (Qy.eqlSliceNil T.sl23 rfl rfl) ?_
  refine Wl.done ?_
  refine Ar.next ?_
  refine Wc.cond rfl (fun hc1 => ?_) (fun hc1 => ?_)
  refine Wc.seq ?_
  refine Wc.region rfl ?_
  refine Wl.q rfl (Qy.assign rfl) ?_
  refine Wl.done ?_
  refine Ar.next ?_
  refine Wc.ret ?_
  refine Ar.passRet ?_
  rotate_left
  refine Wc.skip ?_
  refine Ar.next ?_
  refine Wc.seq ?_
  refine Wc.region rfl ?_
  refine Wl.lit0 0 rfl T.sl23 (fun b1 => ?_)
  refine Wl.q rfl (Qy.move rfl) ?_
  rotate_left
  · subst hc1
    have hn : xs = [] := by
      rcases hx.2 with h | ⟨b, o, h, _⟩
      · exact List.eq_nil_of_length_eq_zero h
      · cases h
    subst hn
    refine Ar.nilRow 0 (Row 3 ([] : List Int) []) ?_
    refine Ar.out1 (.inr rfl) (Ho := Hp.only _ [0]) rfl (.tmp rfl) (Hp.sub_only _ _) ?_
    exact ⟨none, 0, [], rfl, OwnA.nil, rfl, rfl⟩
  · refine Wl.reH 0 (Row 3 ([] : List Int) []) rfl rfl ?_
    refine Wl.append (α := Int) 0 rfl T.sl23 T.el3 rfl rfl rfl (OwnA.made (by simp)) (Src.arr (by assumption)) (by simp only [List.length_nil]; omega) (by simp only [List.length_nil, maxLen]; omega) (fun a1 c1 junk1 ho1 => ?_)
    refine Wl.q rfl (Qy.assign rfl) ?_
    refine Wl.done ?_
    refine Ar.next ?_
    refine Wc.ret ?_
    refine Ar.out1 (.inr rfl) (Ho := Hp.only _ [0]) rfl (.tmp rfl) (Hp.sub_only _ _) ?_
    exact ⟨_, _, _, rfl, ho1, rfl, rfl⟩
/-- what is left: what is needed and does something -/
def keepTo (p : PV) : Nat → List Sl.Instr
  | 0 => []
  | k + 1 => if (neededP p)[((k : Nat) : Int).toNat]?.getD default = true ∧ ¬ ((p.code[((k : Nat) : Int).toNat]?.getD default).op = 1 ∧ (p.code[((k : Nat) : Int).toNat]?.getD default).to = (p.code[((k : Nat) : Int).toNat]?.getD default).a)
      then keepTo p k ++ [p.code[((k : Nat) : Int).toNat]?.getD default] else keepTo p k
theorem keepTo_len (p : PV) (k : Nat) : (keepTo p k).length ≤ k := by
  induction k with
  | zero => simp [keepTo]
  | succ k ih =>
    simp only [keepTo]
    split
    · rw [List.length_append]; simp only [List.length_cons, List.length_nil]; omega
    · omega
def deadP (p : PV) : PV := ⟨p.ins, p.regs, keepTo p p.code.length, p.outs⟩
theorem c28R (G : Imm) (p : PV) (ac ao : Option Addr) (cc co : Nat) (hc : Arr G ac p.code) (ho : Arr G ao p.outs) (h1 : p.code.length ≤ 1099511627776) (h2 : p.outs.length ≤ 1099511627776) (hR : rightP p = true) :
    Does Try.prog 28 [.agg #[.int .i64 p.ins, .int .i64 p.regs, .slice ac p.code.length cc, .slice ao p.outs.length co]] G [] (fun v G' Ho =>
      ∃ bc bo dc do_ j1 j2, v = .tuple #[.agg #[.int .i64 p.ins, .int .i64 p.regs, .slice bc (deadP p).code.length dc, .slice bo p.outs.length do_], .int .i64 0] ∧
        OwnA bc dc (deadP p).code j1 ∧ OwnA bo do_ p.outs j2 ∧ Ho = [(0, bc.map (·.block), Row 34 (deadP p).code j1), (1, bo.map (·.block), Row 3 p.outs j2)] ∧ G' = G) := by
  obtain ⟨r1, r2, r3, r4, r5, r6, r7, r8⟩ := right_facts hR
  have hcheck : (checkP p).2 = false := by simpa [rightP] using hR
  refine Does.enter Try.func28 rfl Try.ntmps28 rfl (fun w => ?_)
  refine Wc.nilRow 0 (Row 34 ([] : List Sl.Instr) []) ?_
  refine Wc.seq ?_
  refine Wc.region rfl ?_
  refine Wl.box 1 rfl rfl rfl (fun b1 => ?_)
  refine Wl.alloc 2 rfl T.zero25 (fun b2 => ?_)
  refine Wl.q rfl (Qy.assign rfl) ?_
  refine Wl.done ?_
  refine Ar.next ?_
  refine Wc.seq ?_
  refine Wc.region rfl ?_
  refine Wl.q rfl (Qy.loadAll 1 T.agg25 rfl rfl rfl) ?_
  refine Wl.call0 rfl T.fn53 rfl (c53 _ _ _ _ _ _ (by assumption) (by assumption) (by omega) (by omega)) ?_
  refine Wl.q rfl (Qy.move rfl) ?_
  refine Wl.q rfl (Qy.extract rfl rfl) ?_
  refine Wl.q rfl (Qy.extract rfl rfl) ?_
  refine Wl.q rfl (Qy.assign rfl) ?_
  refine Wl.q rfl (Qy.assign rfl) ?_
  refine Wl.done ?_
  refine Ar.next ?_
  refine Wc.seq ?_
  refine Wc.seq ?_
  refine Wc.region rfl ?_
  refine Wl.q rfl (Qy.move rfl) ?_
  refine Wl.q rfl (Qy.neq rfl rfl) ?_
  refine Wl.done ?_
  refine Ar.next ?_
  refine Wc.cond rfl (fun hc1 => ?_) (fun hc1 => ?_)
  refine Wc.seq ?_
  refine Wc.region rfl ?_
  refine Wl.q rfl (Qy.build (cs := [_, _, _, _]) T.st25 rfl rfl rfl) ?_
  refine Wl.q rfl (Qy.move rfl) ?_
  refine Wl.storeAll 2 T.size25 rfl rfl rfl rfl rfl rfl ?_
  refine Wl.q rfl (Qy.assign rfl) ?_
  refine Wl.done ?_
  refine Ar.next ?_
  refine Wc.ret ?_
  refine Ar.passRet ?_
  rotate_left
  refine Wc.skip ?_
  refine Ar.next ?_
  refine Wc.seq ?_
  refine Wc.region rfl ?_
  refine Wl.q rfl (Qy.assign rfl) ?_
  refine Wl.done ?_
  refine Ar.next ?_
  refine Wc.seq ?_
  refine Wc.seq ?_
  refine Wc.region rfl ?_
  refine Wl.q rfl (Qy.loadAll 1 T.agg25 rfl rfl rfl) ?_
  refine Wl.call 3 rfl T.fn66 rfl (c66 _ _ _ _ _ _ (by assumption) (by assumption) (by omega) (by omega) (by assumption)) (tags_of trivial) (fun v1 G1 Ho1 hle1 hp => ?_)
  obtain ⟨nb1, nc1, nj1, rfl, hnb1, rfl, rfl⟩ := hp
  refine Wl.q rfl (Qy.len T.sl64 rfl) ?_
  refine Wl.q rfl (Qy.move rfl) ?_
  refine Wl.done ?_
  refine Ar.next ?_
  refine Wc.block ?_
  rotate_left
  · rw [hcheck] at hc1; exact absurd rfl hc1
  have hnl : (neededP p).length = p.code.length := (needTo_len p _).2
  refine Wc.loop (ι := Nat × List Sl.Instr × (Option Addr × Nat × List Value)) (fun (k, xs, (b, d, j)) => ([(21, .int .i64 (k : Int)), (6, .slice b xs.length d), (20, Go.Value.int Go.IntKind.i64 (↑(List.length (Go.Proofs.Ytfleehgbpgmcnaa.neededP p)) : Int)), (19, Go.Value.slice nb1 (List.length (Go.Proofs.Ytfleehgbpgmcnaa.neededP p)) nc1), (3, Go.Value.int Go.IntKind.i64 0), (2, Go.Value.pointer (Option.some (Go.Addr.mk b2 0 Option.none))), (1, Go.Value.pointer (Option.some (Go.Addr.mk b1 0 Option.none)))], [(0, b.map (·.block), Row 34 xs j), (3, Option.map (fun x => Go.Addr.block x) nb1, Go.Sl.Row (α := Bool) 4 (Go.Proofs.Ytfleehgbpgmcnaa.neededP p) (nj1)), (2, Option.some b2, Go.Obj.cells #[Go.Value.int Go.IntKind.i64 0, Go.Value.int Go.IntKind.i64 0, Go.Value.slice Option.none 0 0, Go.Value.slice Option.none 0 0] 25), (1, Option.some b1, Go.Obj.cells #[Go.Value.int Go.IntKind.i64 (Go.Proofs.Ytfleehgbpgmcnaa.PV.ins p), Go.Value.int Go.IntKind.i64 (Go.Proofs.Ytfleehgbpgmcnaa.PV.regs p), Go.Value.slice ac (List.length (Go.Proofs.Ytfleehgbpgmcnaa.PV.code p)) cc, Go.Value.slice ao (List.length (Go.Proofs.Ytfleehgbpgmcnaa.PV.outs p)) co] 25)])) (fun (k, xs, (b, d, j)) => k ≤ p.code.length ∧ xs = keepTo p k ∧ OwnA b d xs j) (fun (k, xs, (b, d, j)) => p.code.length - k) ((0, [], (none, 0, []))) (⟨Nat.zero_le _, rfl, OwnA.nil⟩) ⟨rfl, rfl, rfl, rfl, rfl, rfl, rfl, trivial⟩ ⟨rfl, rfl, rfl, rfl, trivial⟩ (fun ⟨k, xs, (b, d, j)⟩ => fun (hk : k ≤ p.code.length ∧ xs = keepTo p k ∧ OwnA b d xs j) => ?_)
  obtain ⟨hk1, hxs, hob⟩ := hk
  have hxl : xs.length ≤ k := by rw [hxs]; exact keepTo_len p k
  rcases Nat.lt_or_ge k p.code.length with hlt | hge
  · have hst : keepTo p (k + 1) = if (neededP p)[((k : Nat) : Int).toNat]?.getD default = true ∧ ¬ ((p.code[((k : Nat) : Int).toNat]?.getD default).op = 1 ∧ (p.code[((k : Nat) : Int).toNat]?.getD default).to = (p.code[((k : Nat) : Int).toNat]?.getD default).a)
      then keepTo p k ++ [p.code[((k : Nat) : Int).toNat]?.getD default] else keepTo p k := rfl
    refine Wc.seq ?_
    refine Wc.region rfl ?_
    refine Wl.q rfl (Qy.lss rfl rfl) ?_
    refine Wl.done ?_
    refine Ar.next ?_
    refine Wc.seq ?_
    refine Wc.condP rfl (by first | assumption | omega) ?_
    refine Wc.skip ?_
    refine Ar.next ?_
    refine Wc.seq ?_
    refine Wc.block ?_
    refine Wc.seq ?_
    refine Wc.region rfl ?_
    refine Wl.q rfl (Qy.move rfl) ?_
    refine Wl.q rfl (Qy.indexAddrO (α := Bool) T.sl64 rfl rfl (by assumption) (by omega)) ?_
    refine Wl.q rfl (Qy.loadO 3 0 T.one4 rfl rfl (by assumption) (by omega) rfl rfl) ?_
    refine Wl.q rfl (Qy.assign rfl) ?_
    refine Wl.q rfl (Qy.assign rfl) ?_
    refine Wl.done ?_
    refine Ar.next ?_
    refine Wc.seq ?_
    refine Wc.region rfl ?_
    refine Wl.q rfl (Qy.move rfl) ?_
    refine Wl.q rfl (Qy.move rfl) ?_
    refine Wl.casesB 27 rfl (fun hg1 => ?_) (fun hg1 => ?_)
    refine Wl.want rfl rfl ?_
    refine Wl.q rfl (Qy.fieldAddr T.fa25_2 rfl) ?_
    refine Wl.want rfl rfl ?_
    refine Wl.q rfl (Qy.load 1 T.one22 rfl rfl rfl) ?_
    refine Wl.want rfl rfl ?_
    refine Wl.q rfl (Qy.move rfl) ?_
    refine Wl.want rfl rfl ?_
    refine Wl.q rfl (Qy.at (α := Instr) T.sl22 rfl rfl (by assumption) (by omega)) ?_
    refine Wl.want rfl rfl ?_
    refine Wl.q rfl (Qy.loadsG T.agg34 rfl (Arr.elem (by assumption) (by omega)) rfl) ?_
    refine Wl.want rfl rfl ?_
    refine Wl.call0 rfl T.fn67 rfl (c67 _ _) ?_
    refine Wl.want rfl rfl ?_
    refine Wl.q rfl (Qy.notD rfl) ?_
    refine Wl.q rfl (Qy.pick rfl rfl) ?_
    refine Wl.done ?_
    refine Ar.next ?_
    refine Wc.cond rfl (fun hc2 => ?_) (fun hc2 => ?_)
    refine Wc.region rfl ?_
    refine Wl.q rfl (Qy.move rfl) ?_
    refine Wl.q rfl (Qy.fieldAddr T.fa25_2 rfl) ?_
    refine Wl.q rfl (Qy.load 1 T.one22 rfl rfl rfl) ?_
    refine Wl.q rfl (Qy.move rfl) ?_
    refine Wl.q rfl (Qy.at (α := Instr) T.sl22 rfl rfl (by assumption) (by omega)) ?_
    refine Wl.q rfl (Qy.loadsG T.agg34 rfl (Arr.elem (by assumption) (by omega)) rfl) ?_
    refine Wl.lit (α := Instr) 4 [(Option.getD (Go.Proofs.Ytfleehgbpgmcnaa.PV.code p)[Int.toNat (↑k : Int)]? Inhabited.default)] rfl T.sl22 T.el34 rfl rfl rfl rfl rfl (fun b3 => ?_)
    refine Wl.append (α := Instr) 0 rfl T.sl22 T.el34 rfl rfl rfl (by first | assumption | exact OwnA.nil | exact OwnA.made (by simp)) (Src.row 4 rfl) (by first | omega | (simp only [List.length_append, List.length_cons, List.length_nil, maxLen]; omega)) (by first | omega | (simp only [List.length_append, List.length_cons, List.length_nil, maxLen]; omega)) (fun a1 c1 junk1 ho1 => ?_)
    refine Wl.q rfl (Qy.assign rfl) ?_
    refine Wl.done ?_
    refine Ar.outNormal ?_
    refine Ar.next ?_
    refine Wc.region rfl ?_
    refine Wl.q rfl (Qy.add rfl rfl (by omega)) ?_
    refine Wl.q rfl (Qy.move rfl) ?_
    refine Wl.done ?_
    rotate_left
    refine Wc.skip ?_
    refine Ar.outNormal ?_
    refine Ar.next ?_
    refine Wc.region rfl ?_
    refine Wl.q rfl (Qy.add rfl rfl (by omega)) ?_
    refine Wl.q rfl (Qy.move rfl) ?_
    refine Wl.done ?_
    rotate_left
    refine Wl.pass rfl rfl rfl ?_
    refine Wl.pass rfl rfl rfl ?_
    refine Wl.pass rfl rfl rfl ?_
    refine Wl.pass rfl rfl rfl ?_
    refine Wl.pass rfl rfl rfl ?_
    refine Wl.pass rfl rfl rfl ?_
    refine Wl.pass rfl rfl rfl ?_
    refine Wl.q rfl (Qy.pick rfl rfl) ?_
    refine Wl.done ?_
    refine Ar.next ?_
    refine Wc.condF rfl ?_
    refine Wc.skip ?_
    refine Ar.outNormal ?_
    refine Ar.next ?_
    refine Wc.region rfl ?_
    refine Wl.q rfl (Qy.add rfl rfl (by omega)) ?_
    refine Wl.q rfl (Qy.move rfl) ?_
    refine Wl.done ?_
    rotate_left
    · refine Ar.again ((k + 1, _, (a1, c1, junk1))) ?_ ?_ rfl ⟨rfl, rfl, rfl, rfl, rfl, rfl, rfl, trivial⟩ ⟨rfl, rfl, rfl, rfl, trivial⟩
      · exact ⟨by omega, by rw [hst, if_pos ⟨hg1, hc2⟩, hxs], ho1⟩
      · show p.code.length - (k + 1) < p.code.length - k
        omega
    · refine Ar.again ((k + 1, xs, (b, d, j))) ?_ ?_ rfl ⟨rfl, rfl, rfl, rfl, rfl, rfl, rfl, trivial⟩ ⟨rfl, rfl, rfl, rfl, trivial⟩
      · exact ⟨by omega, by rw [hst, if_neg (fun h => hc2 h.2), hxs], hob⟩
      · show p.code.length - (k + 1) < p.code.length - k
        omega
    · refine Ar.again ((k + 1, xs, (b, d, j))) ?_ ?_ rfl ⟨rfl, rfl, rfl, rfl, rfl, rfl, rfl, trivial⟩ ⟨rfl, rfl, rfl, rfl, trivial⟩
      · exact ⟨by omega, by rw [hst, if_neg (fun h => by rw [hg1] at h; cases h.1), hxs], hob⟩
      · show p.code.length - (k + 1) < p.code.length - k
        omega
  · have hk : k = p.code.length := by omega
    subst hk
    have hxs' : xs = (deadP p).code := hxs
    rw [hxs'] at hob ⊢
    refine Wc.seq ?_
    refine Wc.region rfl ?_
    refine Wl.q rfl (Qy.lss rfl rfl) ?_
    refine Wl.done ?_
    refine Ar.next ?_
    refine Wc.seq ?_
    refine Wc.condN rfl (by first | assumption | omega) ?_
    refine Wc.exit ?_
    refine Ar.passExit ?_
    refine Ar.passExit ?_
    refine Ar.here ?_
    refine Ar.next ?_
    refine Wc.seq ?_
    refine Wc.draw [1, 2, 3, 0] [(2, 9)] T.mixed rfl ?_
    refine Gm.q 0 [] (by kernel_rfl) rfl rfl (Qy.fieldAddr T.fa25_0 rfl) ?_
    refine Gm.q 1 [1] (by kernel_rfl) rfl rfl (Qy.load 1 T.one3 rfl rfl rfl) ?_
    refine Gm.q 2 [] (by kernel_rfl) rfl rfl (Qy.fieldAddr T.fa25_1 rfl) ?_
    refine Gm.q 3 [1] (by kernel_rfl) rfl rfl (Qy.load 1 T.one3 rfl rfl rfl) ?_
    refine Gm.q 4 [] (by kernel_rfl) rfl rfl (Qy.move rfl) ?_
    refine Gm.q 5 [] (by kernel_rfl) rfl rfl (Qy.fieldAddr T.fa25_3 rfl) ?_
    refine Gm.q 6 [1] (by kernel_rfl) rfl rfl (Qy.load 1 T.one23 rfl rfl rfl) ?_
    refine Gm.one 7 ⟨rfl, rfl, rfl, rfl, trivial⟩ (by first | exact Imm.le_refl _ | assumption) (by kernel_rfl) rfl ?_
    refine Wl.call 4 rfl T.fn68 rfl (c68 _ _ _ _ (by assumption) (by omega)) (tags_of trivial) (fun v2 G2 Ho2 hle2 hp => ?_)
    obtain ⟨lb2, ld2, lj2, rfl, hlb2, rfl, rfl⟩ := hp
    refine Wl.on0 ?_
    refine Gm.q 8 [] (by kernel_rfl) rfl rfl (Qy.build (cs := [_, _, _, _]) T.st25 rfl rfl rfl) ?_
    refine Gm.one 9 ⟨rfl, rfl, rfl, rfl, trivial⟩ (by first | exact Imm.le_refl _ | assumption) (by kernel_rfl) rfl ?_
    refine Wl.storeAll 2 T.size25 rfl rfl rfl rfl rfl rfl ?_
    refine Wl.on0 ?_
    refine Gm.q 10 [] (by kernel_rfl) rfl rfl (Qy.assign rfl) ?_
    refine Gm.doneA (by kernel_rfl) ⟨rfl, rfl, rfl, trivial⟩ (by first | exact Imm.le_refl _ | assumption) ?_
    refine Ar.next ?_
    refine Wc.ret ?_
    refine Ar.pick [0, 4, 2] (by decide) (Ar.out2 (.inr rfl) (Ho := Hp.only _ [0, 1]) rfl (.agg 2 rfl rfl T.agg25) (.tmp rfl) (Hp.sub_only _ _) ?_)
    exact ⟨_, _, _, _, _, _, rfl, hob, hlb2, rfl, rfl⟩
theorem c28W (G : Imm) (p : PV) (ac ao : Option Addr) (cc co : Nat) (hc : Arr G ac p.code) (ho : Arr G ao p.outs) (h1 : p.code.length ≤ 1099511627776) (h2 : p.outs.length ≤ 1099511627776) (hR : ¬ rightP p = true) :
    Does Try.prog 28 [.agg #[.int .i64 p.ins, .int .i64 p.regs, .slice ac p.code.length cc, .slice ao p.outs.length co]] G [] (fun v G' Ho =>
      v = .tuple #[.agg #[.int .i64 0, .int .i64 0, .slice none 0 0, .slice none 0 0], .int .i64 80] ∧
        Ho = [(0, none, Row 34 ([] : List Sl.Instr) []), (1, none, Row 3 ([] : List Int) [])] ∧ G' = G) := by
  have hcheck : (checkP p).2 = true := by simpa [rightP] using hR
  refine Does.enter Try.func28 rfl Try.ntmps28 rfl (fun w => ?_)
  refine Wc.nilRow 5 (Row 34 ([] : List Sl.Instr) []) (Wc.nilRow 6 (Row 3 ([] : List Int) []) ?_)
  refine Wc.seq ?_
  refine Wc.region rfl ?_
  refine Wl.box 7 rfl rfl rfl (fun b1 => ?_)
  refine Wl.alloc 8 rfl T.zero25 (fun b2 => ?_)
  refine Wl.q rfl (Qy.assign rfl) ?_
  refine Wl.done ?_
  refine Ar.next ?_
  refine Wc.seq ?_
  refine Wc.region rfl ?_
  refine Wl.q rfl (Qy.loadAll 7 T.agg25 rfl rfl rfl) ?_
  refine Wl.call0 rfl T.fn53 rfl (c53 _ _ _ _ _ _ (by assumption) (by assumption) (by omega) (by omega)) ?_
  refine Wl.q rfl (Qy.move rfl) ?_
  refine Wl.q rfl (Qy.extract rfl rfl) ?_
  refine Wl.q rfl (Qy.extract rfl rfl) ?_
  refine Wl.q rfl (Qy.assign rfl) ?_
  refine Wl.q rfl (Qy.assign rfl) ?_
  refine Wl.done ?_
  refine Ar.next ?_
  refine Wc.seq ?_
  refine Wc.seq ?_
  refine Wc.region rfl ?_
  refine Wl.q rfl (Qy.move rfl) ?_
  refine Wl.q rfl (Qy.neq rfl rfl) ?_
  refine Wl.done ?_
  refine Ar.next ?_
  refine Wc.cond rfl (fun hc1 => ?_) (fun hc1 => ?_)
  refine Wc.seq ?_
  refine Wc.region rfl ?_
  refine Wl.q rfl (Qy.build (cs := [_, _, _, _]) T.st25 rfl rfl rfl) ?_
  refine Wl.q rfl (Qy.move rfl) ?_
  refine Wl.storeAll 8 T.size25 rfl rfl rfl rfl rfl rfl ?_
  refine Wl.q rfl (Qy.assign rfl) ?_
  refine Wl.done ?_
  refine Ar.next ?_
  refine Wc.ret ?_
  refine Ar.passRet ?_
  rotate_left
  refine Wc.skip ?_
  refine Ar.next ?_
  refine Wc.seq ?_
  refine Wc.region rfl ?_
  refine Wl.q rfl (Qy.assign rfl) ?_
  refine Wl.done ?_
  refine Ar.next ?_
  refine Wc.seq ?_
  refine Wc.seq ?_
  refine Wc.region rfl ?_
  refine Wl.q rfl (Qy.loadAll 7 T.agg25 rfl rfl rfl) ?_
  rotate_left
  · refine Ar.pick [5, 6, 8] (by decide) (Ar.out2 (.inr rfl) (Ho := Hp.only _ [0, 1]) rfl (.agg 2 rfl rfl T.agg25) (.tmp rfl) (Hp.sub_only _ _) ?_)
    rw [hcheck]; exact ⟨rfl, rfl, rfl⟩
  · rw [hcheck] at hc1; exact absurd (by decide) hc1
/-- what the pass makes of any program -/
def deadE (p : PV) : PV := if rightP p then deadP p else ⟨0, 0, [], []⟩
def errP (p : PV) : Int := if rightP p then 0 else 80
theorem c28 (G : Imm) (p : PV) (ac ao : Option Addr) (cc co : Nat) (hc : Arr G ac p.code) (ho : Arr G ao p.outs) (h1 : p.code.length ≤ 1099511627776) (h2 : p.outs.length ≤ 1099511627776) :
    Does Try.prog 28 [.agg #[.int .i64 p.ins, .int .i64 p.regs, .slice ac p.code.length cc, .slice ao p.outs.length co]] G [] (fun v G' Ho =>
      ∃ q e bc bo dc do_ j1 j2, v = .tuple #[.agg #[.int .i64 q.ins, .int .i64 q.regs, .slice bc q.code.length dc, .slice bo q.outs.length do_], .int .i64 e] ∧ (q = deadE p ∧ e = errP p) ∧
        OwnA bc dc q.code j1 ∧ OwnA bo do_ q.outs j2 ∧ Ho = [(0, bc.map (·.block), Row 34 q.code j1), (1, bo.map (·.block), Row 3 q.outs j2)] ∧ G' = G) := by
  by_cases hR : rightP p = true
  · refine (c28R G p ac ao cc co hc ho h1 h2 hR).mono fun v G' Ho _ ⟨bc, bo, dc, do_, j1, j2, q1, q2, q3, q4, q5⟩ => ?_
    exact ⟨deadP p, 0, bc, bo, dc, do_, j1, j2, q1, ⟨(if_pos hR).symm, (if_pos hR).symm⟩, q2, q3, q4, q5⟩
  · refine (c28W G p ac ao cc co hc ho h1 h2 hR).mono fun v G' Ho _ ⟨q1, q2, q3⟩ => ?_
    exact ⟨⟨0, 0, [], []⟩, 80, none, none, 0, 0, [], [], q1, ⟨(if_neg hR).symm, (if_neg hR).symm⟩, OwnA.nil, OwnA.nil, q2, q3⟩
end Go.Proofs.Ytfleehgbpgmcnaa
