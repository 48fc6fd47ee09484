import Derived.Test.YtfleehgbpgmcnaaSlO
import Derived.Test.YtfleehgbpgmcnaaAp
namespace Go.Proofs.Ytfleehgbpgmcnaa
open Go Go.Sl
set_option maxRecDepth 100000

set_option maxHeartbeats 2000000
theorem c65F (G : Imm) : Does Try.prog 65 [] G [] (fun v G' Ho => ∃ a b c d, v = .agg #[.int .i64 exD.ins, .int .i64 exD.regs, .slice a exD.code.length c, .slice b exD.outs.length d] ∧ Arr G' a exD.code ∧ Arr G' b exD.outs ∧ Ho = []) := by
  refine (Does.frz2 (α := Sl.Instr) (β := Int) (E := 34) (E' := 3) (q := fun v a c xs b d ys => v = .agg #[.int .i64 exD.ins, .int .i64 exD.regs, .slice a xs.length c, .slice b ys.length d] ∧ xs = exD.code ∧ ys = exD.outs)
    ((c65 G).mono fun v G' Ho _ ⟨b, d, h1, h2, h3⟩ => ⟨_, _, exD.code, [], _, _, exD.outs, [], ⟨h1, rfl, rfl⟩, OwnA.made (by simp [maxLen, exD]), OwnA.made (by simp [maxLen, exD]), h2, h3⟩)).mono
    fun v G' Ho _ ⟨a, c, xs, b, d, ys, ⟨h1, hx, hy⟩, h2, h3, h4⟩ => ?_
  subst hx hy
  exact ⟨a, b, c, d, h1, h2, h3, h4⟩
theorem c28F (G : Imm) (p : PV) (ac ao : Option Addr) (cc co : Nat) (hc : Arr G ac p.code) (ho : Arr G ao p.outs) (h1 : p.code.length ≤ 1099511627776) (h2 : p.outs.length ≤ 1099511627776) :
    Does Try.prog 28 [.agg #[.int .i64 p.ins, .int .i64 p.regs, .slice ac p.code.length cc, .slice ao p.outs.length co]] G [] (fun v G' Ho =>
      ∃ q e bc bo dc do_, v = .tuple #[.agg #[.int .i64 q.ins, .int .i64 q.regs, .slice bc q.code.length dc, .slice bo q.outs.length do_], .int .i64 e] ∧ (q = deadE p ∧ e = errP p) ∧ Arr G' bc q.code ∧ Arr G' bo q.outs ∧ Ho = []) := by
  refine (Does.frz2 (α := Sl.Instr) (β := Int) (E := 34) (E' := 3) (q := fun v a c xs b d ys => ∃ q e, v = .tuple #[.agg #[.int .i64 q.ins, .int .i64 q.regs, .slice a q.code.length c, .slice b q.outs.length d], .int .i64 e] ∧ (q = deadE p ∧ e = errP p) ∧ xs = q.code ∧ ys = q.outs)
    ((c28 G p ac ao cc co hc ho h1 h2).mono fun v G' Ho _ ⟨q, e, bc, bo, dc, do_, j1, j2, g1, g2, g3, g4, g5, g6⟩ => ⟨bc, dc, q.code, j1, bo, do_, q.outs, j2, ⟨q, e, g1, g2, rfl, rfl⟩, g3, g4, g5, g6⟩)).mono
    fun v G' Ho _ ⟨a, c, xs, b, d, ys, ⟨q, e, g1, g2, hx, hy⟩, h2, h3, h4⟩ => ?_
  subst hx hy
  exact ⟨q, e, a, b, c, d, g1, g2, h2, h3, h4⟩
theorem c29F (G : Imm) (p : PV) (ac ao : Option Addr) (cc co : Nat) (hc : Arr G ac p.code) (ho : Arr G ao p.outs) (h1 : p.code.length ≤ 1099511627776) (h2 : p.outs.length ≤ 1099511627776) :
    Does Try.prog 29 [.agg #[.int .i64 p.ins, .int .i64 p.regs, .slice ac p.code.length cc, .slice ao p.outs.length co]] G [] (fun v G' Ho => ∃ l e b c, v = .tuple #[.slice b l.length c, .int .i64 e] ∧ (l = askE p ∧ e = errP p) ∧ (rightP p ≠ true → b = none) ∧
      Arr G' b l ∧ Ho = []) := by
  refine (Does.frz1 (α := Bool) (E := 4) (q := fun v a c xs => ∃ e, v = .tuple #[.slice a xs.length c, .int .i64 e] ∧ (xs = askE p ∧ e = errP p) ∧ (rightP p ≠ true → a = none))
    ((c29 G p ac ao cc co hc ho h1 h2).mono fun v G' Ho _ ⟨l, e, b, c, j, g1, ⟨g2, g3, g4⟩, g5, g6, g7⟩ => ⟨b, c, l, j, ⟨e, g1, ⟨g2, g3⟩, g4⟩, g5, g6, g7⟩)).mono
    fun v G' Ho _ ⟨a, c, xs, ⟨e, g1, g2, g3⟩, h2, h3⟩ => ⟨xs, e, a, c, g1, g2, g3, h2, h3⟩
theorem c31F (G : Imm) (p : PV) (ac ao : Option Addr) (cc co : Nat) (hc : Arr G ac p.code) (ho : Arr G ao p.outs) (h1 : p.code.length ≤ 1048576) (h2 : p.outs.length ≤ 1048576) :
    Does Try.prog 31 [.agg #[.int .i64 p.ins, .int .i64 p.regs, .slice ac p.code.length cc, .slice ao p.outs.length co]] G [] (fun v G' Ho => ∃ l b d, v = .slice b l.length d ∧ (l = idleP p ∧ (l = [] ↔ b = none)) ∧ Arr G' b l ∧ Ho = []) := by
  refine (Does.frz1 (α := Int) (E := 3) (q := fun v a c xs => v = .slice a xs.length c ∧ xs = idleP p ∧ (xs = [] ↔ a = none))
    ((c31 G p ac ao cc co hc ho h1 h2).mono fun v G' Ho _ ⟨b, d, j, g1, g2, g3, g4, g5⟩ => ⟨b, d, idleP p, j, ⟨g1, rfl, g2, fun hb => ?_⟩, g3, g4, g5⟩)).mono
    fun v G' Ho _ ⟨a, c, xs, ⟨g1, g2⟩, h2, h3⟩ => ⟨xs, a, c, g1, g2, h2, h3⟩
  rcases g3 with ⟨_, h, _⟩ | ⟨b', h, _⟩
  · exact h
  · rw [hb] at h; cases h
def exD2 : PV := ⟨2, 4, [⟨4, 2, 0, 1, 0⟩], [2, 0]⟩
theorem exD_right : rightP exD = true := by decide
theorem exD_dead : deadE exD = exD2 := by rw [deadE, if_pos exD_right]; rfl
theorem exD_err : errP exD = 0 := if_pos exD_right
theorem exD_ask : askE exD = [true, true, false, false] := by unfold askE; rw [if_pos exD_right]; rfl
theorem exD_idle : idleP exD = [0, 1, 3] := by unfold idleP; rw [if_pos exD_right]; rfl
def pk1 : PV := ⟨2, 3, [⟨6, 2, 1, 0, 7⟩], [0]⟩
def pk2 : PV := ⟨1, 3, [⟨3, 1, 2, 0, 0⟩, ⟨1, 2, 1, 0, 0⟩], [2, 2]⟩
def pk0 : PV := ⟨0, 0, [], []⟩
theorem pk1_right : rightP pk1 = true := by decide
theorem pk2_right : rightP pk2 = true := by decide
theorem pk0_right : ¬ rightP pk0 = true := by decide
theorem pk1_dead : deadE pk1 = ⟨2, 3, [], [0]⟩ := by rw [deadE, if_pos pk1_right]; rfl
theorem pk1_err : errP pk1 = 0 := by rw [errP, if_pos pk1_right]
theorem pk1_ask : askE pk1 = [true, false, false] := by rw [askE, if_pos pk1_right]; rfl
theorem pk2_err : errP pk2 = 0 := by rw [errP, if_pos pk2_right]
theorem pk2_ask : askE pk2 = [true, false, true] := by rw [askE, if_pos pk2_right]; rfl
theorem pk0_err : errP pk0 = 80 := by rw [errP, if_neg pk0_right]
theorem pk0_idle : idleP pk0 = [] := by rw [idleP, if_neg pk0_right]
attribute [local irreducible] deadE errP askE idleP
theorem c27 (G : Imm) : Does Try.prog 27 [] G [] (fun v G' Ho => v = .bool true ∧ G' = G ∧ Ho = []) := by
  have hd := exD_dead
  have he := exD_err
  have ha := exD_ask
  have hi := exD_idle
  refine Does.enter Try.func27 rfl Try.ntmps27 rfl (fun w => ?_)
  refine Wc.seq ?_
  refine Wc.region rfl ?_
  refine Wl.q rfl (Qy.assign rfl) ?_
  refine Wl.done ?_
  refine Ar.next ?_
  refine Wc.seq ?_
  refine Wc.region rfl ?_
  refine Wl.call 0 rfl T.fn65 rfl (c65F _) (tags_of trivial) (fun v1 G1 Ho1 hle1 hp => ?_)
  obtain ⟨xa1, xo1, xc1, xd1, rfl, hxa1, hxo1, rfl⟩ := hp
  refine Wl.call 0 rfl T.fn28 rfl (c28F _ exD _ _ _ _ (by assumption) (by assumption) (by decide) (by decide)) (tags_of trivial) (fun v2 G2 Ho2 hle2 hp => ?_)
  obtain ⟨_, _, qc2, qo2, qcc2, qoc2, rfl, ⟨rfl, rfl⟩, hqc2, hqo2, rfl⟩ := hp
  replace hxa1 := hxa1.up hle2
  replace hxo1 := hxo1.up hle2
  refine Wl.q rfl (Qy.move rfl) ?_
  refine Wl.q rfl (Qy.extract rfl rfl) ?_
  refine Wl.q rfl (Qy.extract rfl rfl) ?_
  refine Wl.alloc 0 rfl T.zero25 (fun b1 => ?_)
  refine Wl.storeAll 0 T.size25 rfl rfl rfl rfl rfl rfl ?_
  refine Wl.q rfl (Qy.assign rfl) ?_
  refine Wl.done ?_
  refine Ar.next ?_
  refine Wc.seq ?_
  refine Wc.region rfl ?_
  refine Wl.call 1 rfl T.fn65 rfl (c65F _) (tags_of trivial) (fun v3 G3 Ho3 hle3 hp => ?_)
  obtain ⟨xa3, xo3, xc3, xd3, rfl, hxa3, hxo3, rfl⟩ := hp
  replace hqc2 := hqc2.up hle3
  replace hqo2 := hqo2.up hle3
  replace hxa1 := hxa1.up hle3
  replace hxo1 := hxo1.up hle3
  refine Wl.call 1 rfl T.fn29 rfl (c29F _ exD _ _ _ _ (by assumption) (by assumption) (by decide) (by decide)) (tags_of trivial) (fun v4 G4 Ho4 hle4 hp => ?_)
  obtain ⟨_, _, lb4, lc4, rfl, ⟨rfl, rfl⟩, hln4, hla4, rfl⟩ := hp
  replace hxa3 := hxa3.up hle4
  replace hxo3 := hxo3.up hle4
  replace hqc2 := hqc2.up hle4
  replace hqo2 := hqo2.up hle4
  replace hxa1 := hxa1.up hle4
  replace hxo1 := hxo1.up hle4
  refine Wl.q rfl (Qy.move rfl) ?_
  refine Wl.q rfl (Qy.extract rfl rfl) ?_
  refine Wl.q rfl (Qy.extract rfl rfl) ?_
  refine Wl.q rfl (Qy.assign rfl) ?_
  refine Wl.q rfl (Qy.assign rfl) ?_
  refine Wl.done ?_
  refine Ar.next ?_
  refine Wc.seq ?_
  refine Wc.region rfl ?_
  refine Wl.q rfl (Qy.move rfl) ?_
  refine Wl.q rfl (Qy.eql rfl rfl) ?_
  refine Wl.q rfl (Qy.move rfl) ?_
  refine Wl.yes 17 rfl (by first | assumption | omega) ?_
  refine Wl.want rfl rfl ?_
  refine Wl.q rfl (Qy.move rfl) ?_
  refine Wl.want rfl rfl ?_
  refine Wl.q rfl (Qy.eql rfl rfl) ?_
  refine Wl.q rfl (Qy.pick rfl rfl) ?_
  refine Wl.q rfl (Qy.move rfl) ?_
  refine Wl.yes 21 rfl (by first | assumption | omega) ?_
  refine Wl.want rfl rfl ?_
  refine Wl.q rfl (Qy.loadAll 0 T.agg25 rfl rfl rfl) ?_
  refine Wl.want rfl rfl ?_
  refine Wl.q rfl (Qy.build (cs := [_, _, _, _, _]) T.st34 rfl rfl rfl) ?_
  refine Wl.want rfl rfl ?_
  refine Wl.lit (α := Instr) 1 [⟨4, 2, 0, 1, 0⟩] rfl T.sl22 T.el34 rfl rfl rfl rfl rfl (fun b2 => ?_)
  refine Wl.want rfl rfl ?_
  refine Wl.lit (α := Int) 2 [(2), (0)] rfl T.sl23 T.el3 rfl rfl rfl rfl rfl (fun b3 => ?_)
  refine Wl.want rfl rfl ?_
  refine Wl.q rfl (Qy.build (cs := [_, _, _, _]) T.st25 rfl rfl rfl) ?_
  refine Wl.want rfl rfl ?_
  refine Wl.callB 5 rfl T.fn18 rfl (fun Gx hGx hgx => c18 Gx (deadE exD) exD2 _ _ _ _ _ _ _ _ (hqc2.up hGx) (hqo2.up hGx) (Arr.own hgx 1 rfl (OwnA.made (by simp [maxLen, exD2]))) (Arr.own hgx 2 rfl (OwnA.made (by simp [maxLen, exD2]))) (by rw [hd]; decide) (by rw [hd]; decide)) (fun v5 Gx5 G5 Ho5 hlx5 hp => ?_)
  obtain ⟨rfl, rfl, rfl⟩ := hp
  refine Wl.q rfl (Qy.pick rfl rfl) ?_
  refine Wl.q rfl (Qy.move rfl) ?_
  refine Wl.yes 29 rfl (by first | assumption | omega) ?_
  refine Wl.want rfl rfl ?_
  refine Wl.q rfl (Qy.move rfl) ?_
  refine Wl.want rfl rfl ?_
  refine Wl.lit (α := Bool) 3 [(Bool.true), (Bool.true), (Bool.false), (Bool.false)] rfl T.sl64 T.el4 rfl rfl rfl rfl rfl (fun b4 => ?_)
  refine Wl.want rfl rfl ?_
  refine Wl.callB 6 rfl T.fn30 rfl (fun Gx hGx hgx => c30 Gx (askE exD) [true, true, false, false] _ _ _ _ (hla4.up hGx) (Arr.own hgx 3 rfl (OwnA.made (by simp [maxLen]))) (by rw [ha]; decide) (by decide)) (fun v6 Gx6 G6 Ho6 hlx6 hp => ?_)
  obtain ⟨rfl, rfl, rfl⟩ := hp
  refine Wl.q rfl (Qy.pick rfl rfl) ?_
  refine Wl.q rfl (Qy.move rfl) ?_
  refine Wl.yes 34 rfl (by first | assumption | omega) ?_
  refine Wl.want rfl rfl ?_
  refine Wl.call 4 rfl T.fn65 rfl (c65F _) (tags_of trivial) (fun v5 G5 Ho5 hle5 hp => ?_)
  obtain ⟨xa5, xo5, xc5, xd5, rfl, hxa5, hxo5, rfl⟩ := hp
  replace hla4 := hla4.up hle5
  replace hxa3 := hxa3.up hle5
  replace hxo3 := hxo3.up hle5
  replace hqc2 := hqc2.up hle5
  replace hqo2 := hqo2.up hle5
  replace hxa1 := hxa1.up hle5
  replace hxo1 := hxo1.up hle5
  refine Wl.want rfl rfl ?_
  refine Wl.call 4 rfl T.fn31 rfl (c31F _ exD _ _ _ _ (by assumption) (by assumption) (by decide) (by decide)) (tags_of trivial) (fun v6 G6 Ho6 hle6 hp => ?_)
  obtain ⟨_, ib6, id6, rfl, ⟨rfl, hin6⟩, hia6, rfl⟩ := hp
  replace hxa5 := hxa5.up hle6
  replace hxo5 := hxo5.up hle6
  replace hla4 := hla4.up hle6
  replace hxa3 := hxa3.up hle6
  replace hxo3 := hxo3.up hle6
  replace hqc2 := hqc2.up hle6
  replace hqo2 := hqo2.up hle6
  replace hxa1 := hxa1.up hle6
  replace hxo1 := hxo1.up hle6
  refine Wl.want rfl rfl ?_
  refine Wl.lit (α := Int) 4 [(0), (1), (3)] rfl T.sl23 T.el3 rfl rfl rfl rfl rfl (fun b5 => ?_)
  refine Wl.want rfl rfl ?_
  refine Wl.callB 8 rfl T.fn37 rfl (fun Gx hGx hgx => c37 Gx (idleP exD) [0, 1, 3] _ _ _ _ (Arr.up (by assumption) hGx) (Arr.own hgx 4 rfl (OwnA.made (by simp [maxLen]))) (by rw [hi]; decide) (by decide)) (fun v9 Gx9 G9 Ho9 hlx9 hp => ?_)
  obtain ⟨rfl, rfl, rfl⟩ := hp
  refine Wl.q rfl (Qy.pick rfl rfl) ?_
  refine Wl.q rfl (Qy.assign rfl) ?_
  refine Wl.done ?_
  refine Ar.next ?_
  refine Wc.ret ?_
  refine Ar.base (Ar.out1 (.inr rfl) (Ho := []) rfl (.tmp rfl) trivial ?_)
  exact ⟨by simp [hi], rfl, rfl⟩
theorem c6 (G : Imm) : Does Try.prog 6 [] G [] (fun v G' Ho => v = .bool true) := by
  have hd := pk1_dead
  have hdl : (deadE pk1).code.length = 0 := by rw [hd]; rfl
  have he := pk1_err
  have ha := pk1_ask
  have he2 := pk2_err
  have ha2 := pk2_ask
  have he0 := pk0_err
  have hi0 := pk0_idle
  refine Does.enter Try.func6 rfl Try.ntmps6 rfl (fun w => ?_)
  refine Wc.seq ?_
  refine Wc.region rfl ?_
  refine Wl.q rfl (Qy.assign rfl) ?_
  refine Wl.done ?_
  refine Ar.next ?_
  refine Wc.seq ?_
  refine Wc.seq ?_
  refine Wc.region rfl ?_
  refine Wl.call0 rfl T.fn27 rfl (c27 _) ?_
  refine Wl.q rfl (Qy.not rfl) ?_
  refine Wl.done ?_
  refine Ar.next ?_
  refine Wc.condF rfl ?_
  refine Wc.skip ?_
  refine Ar.next ?_
  refine Wc.seq ?_
  refine Wc.region rfl ?_
  refine Wl.q rfl (Qy.build (cs := [_, _, _, _, _]) T.st34 rfl rfl rfl) ?_
  refine Wl.lit (α := Instr) 0 [⟨6, 2, 1, 0, 7⟩] rfl T.sl22 T.el34 rfl rfl rfl rfl rfl (fun b1 => ?_)
  refine Wl.lit (α := Int) 1 [(0)] rfl T.sl23 T.el3 rfl rfl rfl rfl rfl (fun b2 => ?_)
  refine Wl.q rfl (Qy.build (cs := [_, _, _, _]) T.st25 rfl rfl rfl) ?_
  refine Wl.alloc 2 rfl T.zero25 (fun b3 => ?_)
  refine Wl.storeAll 2 T.size25 rfl rfl rfl rfl rfl rfl ?_
  refine Wl.done ?_
  refine Ar.next ?_
  refine Wc.seq ?_
  refine Wc.region rfl ?_
  refine Wl.q rfl (Qy.loadAll 2 T.agg25 rfl rfl rfl) ?_
  refine Wl.freezeRow 0 rfl (OwnA.made (by simp [maxLen])) (fun G1 hle1 hA1 => Wl.freezeRow 1 rfl (OwnA.made (by simp [maxLen])) (fun G2 hle2 hA2 => ?_))
  replace hA1 := hA1.up hle2
  refine Wl.call 20 rfl T.fn28 rfl (c28F _ pk1 _ _ _ _ hA1 hA2 (by decide) (by decide)) (tags_of trivial) (fun v3 G3 Ho3 hle3 hp => ?_)
  obtain ⟨_, _, qc3, qo3, qcc3, qoc3, rfl, ⟨rfl, rfl⟩, hqc3, hqo3, rfl⟩ := hp
  replace hA1 := hA1.up hle3
  replace hA2 := hA2.up hle3
  refine Wl.q rfl (Qy.move rfl) ?_
  refine Wl.q rfl (Qy.extract rfl rfl) ?_
  refine Wl.q rfl (Qy.extract rfl rfl) ?_
  refine Wl.alloc 3 rfl T.zero25 (fun b4 => ?_)
  refine Wl.storeAll 3 T.size25 rfl rfl rfl rfl rfl rfl ?_
  refine Wl.q rfl (Qy.assign rfl) ?_
  refine Wl.done ?_
  refine Ar.next ?_
  refine Wc.seq ?_
  refine Wc.region rfl ?_
  refine Wl.q rfl (Qy.loadAll 2 T.agg25 rfl rfl rfl) ?_
  refine Wl.call 20 rfl T.fn29 rfl (c29F _ pk1 _ _ _ _ hA1 hA2 (by decide) (by decide)) (tags_of trivial) (fun v4 G4 Ho4 hle4 hp => ?_)
  obtain ⟨_, _, lb4, lc4, rfl, ⟨rfl, rfl⟩, hln4, hla4, rfl⟩ := hp
  replace hqc3 := hqc3.up hle4
  replace hqo3 := hqo3.up hle4
  clear hA1 hA2
  refine Wl.q rfl (Qy.move rfl) ?_
  refine Wl.q rfl (Qy.extract rfl rfl) ?_
  refine Wl.q rfl (Qy.extract rfl rfl) ?_
  refine Wl.q rfl (Qy.assign rfl) ?_
  refine Wl.q rfl (Qy.assign rfl) ?_
  refine Wl.done ?_
  refine Ar.next ?_
  refine Wc.seq ?_
  refine Wc.region rfl ?_
  refine Wl.q rfl (Qy.build (cs := [_, _, _, _, _]) T.st34 rfl rfl rfl) ?_
  refine Wl.q rfl (Qy.build (cs := [_, _, _, _, _]) T.st34 rfl rfl rfl) ?_
  refine Wl.lit (α := Instr) 4 [⟨3, 1, 2, 0, 0⟩, ⟨1, 2, 1, 0, 0⟩] rfl T.sl22 T.el34 rfl rfl rfl rfl rfl (fun b5 => ?_)
  refine Wl.lit (α := Int) 5 [(2), (2)] rfl T.sl23 T.el3 rfl rfl rfl rfl rfl (fun b6 => ?_)
  refine Wl.q rfl (Qy.build (cs := [_, _, _, _]) T.st25 rfl rfl rfl) ?_
  refine Wl.freezeRow 4 rfl (OwnA.made (by simp [maxLen])) (fun G5 hle5 hA1 => Wl.freezeRow 5 rfl (OwnA.made (by simp [maxLen])) (fun G6 hle6 hA2 => ?_))
  replace hA1 := hA1.up hle6
  refine Wl.call 20 rfl T.fn29 rfl (c29F _ pk2 _ _ _ _ hA1 hA2 (by decide) (by decide)) (tags_of trivial) (fun v7 G7 Ho7 hle7 hp => ?_)
  obtain ⟨_, _, lb7, lc7, rfl, ⟨rfl, rfl⟩, hln7, hla7, rfl⟩ := hp
  replace hla4 := (hla4.up hle5).up (Imm.le_trans hle6 hle7)
  clear hA1 hA2
  refine Wl.q rfl (Qy.move rfl) ?_
  refine Wl.q rfl (Qy.extract rfl rfl) ?_
  refine Wl.q rfl (Qy.extract rfl rfl) ?_
  refine Wl.q rfl (Qy.assign rfl) ?_
  refine Wl.q rfl (Qy.assign rfl) ?_
  refine Wl.done ?_
  refine Ar.next ?_
  refine Wc.seq ?_
  refine Wc.region rfl ?_
  refine Wl.q rfl (Qy.build (cs := [_, _, _, _]) T.st25 rfl rfl rfl) ?_
  refine Wl.call 20 rfl T.fn28 rfl (c28F _ pk0 _ _ _ _ (Arr.nil _) (Arr.nil _) (by decide) (by decide)) (tags_of trivial) (fun v8 G8 Ho8 hle8 hp => ?_)
  obtain ⟨_, _, qc8, qo8, qcc8, qoc8, rfl, ⟨rfl, rfl⟩, hqc8, hqo8, rfl⟩ := hp
  replace hla4 := hla4.up hle8
  replace hla7 := hla7.up hle8
  refine Wl.q rfl (Qy.move rfl) ?_
  refine Wl.q rfl (Qy.extract rfl rfl) ?_
  refine Wl.q rfl (Qy.extract rfl rfl) ?_
  refine Wl.alloc 6 rfl T.zero25 (fun b7 => ?_)
  refine Wl.storeAll 6 T.size25 rfl rfl rfl rfl rfl rfl ?_
  refine Wl.q rfl (Qy.assign rfl) ?_
  refine Wl.done ?_
  refine Ar.next ?_
  refine Wc.seq ?_
  refine Wc.region rfl ?_
  refine Wl.q rfl (Qy.build (cs := [_, _, _, _]) T.st25 rfl rfl rfl) ?_
  refine Wl.call 20 rfl T.fn29 rfl (c29F _ pk0 _ _ _ _ (Arr.nil _) (Arr.nil _) (by decide) (by decide)) (tags_of trivial) (fun v9 G9 Ho9 hle9 hp => ?_)
  obtain ⟨_, _, lb9, lc9, rfl, ⟨rfl, rfl⟩, hln9, hla9, rfl⟩ := hp
  replace hla4 := hla4.up hle9
  replace hla7 := hla7.up hle9
  refine Wl.q rfl (Qy.move rfl) ?_
  refine Wl.q rfl (Qy.extract rfl rfl) ?_
  refine Wl.q rfl (Qy.extract rfl rfl) ?_
  refine Wl.q rfl (Qy.assign rfl) ?_
  refine Wl.q rfl (Qy.assign rfl) ?_
  refine Wl.done ?_
  refine Ar.next ?_
  refine Wc.seq ?_
  refine Wc.region rfl ?_
  refine Wl.q rfl (Qy.move rfl) ?_
  refine Wl.q rfl (Qy.eql rfl rfl) ?_
  refine Wl.q rfl (Qy.move rfl) ?_
  refine Wl.yes 49 rfl (by first | assumption | omega) ?_
  refine Wl.want rfl rfl ?_
  refine Wl.q rfl (Qy.fieldAddr T.fa25_2 rfl) ?_
  refine Wl.want rfl rfl ?_
  refine Wl.q rfl (Qy.load 3 T.one22 rfl rfl rfl) ?_
  refine Wl.want rfl rfl ?_
  refine Wl.q rfl (Qy.len T.sl22 rfl) ?_
  refine Wl.want rfl rfl ?_
  refine Wl.q rfl (Qy.eql rfl rfl) ?_
  refine Wl.q rfl (Qy.pick rfl rfl) ?_
  refine Wl.q rfl (Qy.move rfl) ?_
  refine Wl.yes 55 rfl (by first | assumption | omega) ?_
  refine Wl.want rfl rfl ?_
  refine Wl.q rfl (Qy.move rfl) ?_
  refine Wl.want rfl rfl ?_
  refine Wl.q rfl (Qy.eql rfl rfl) ?_
  refine Wl.q rfl (Qy.pick rfl rfl) ?_
  refine Wl.q rfl (Qy.move rfl) ?_
  refine Wl.yes 59 rfl (by first | assumption | omega) ?_
  refine Wl.want rfl rfl ?_
  refine Wl.q rfl (Qy.move rfl) ?_
  refine Wl.want rfl rfl ?_
  refine Wl.lit (α := Bool) 7 [(Bool.true), (Bool.false), (Bool.false)] rfl T.sl64 T.el4 rfl rfl rfl rfl rfl (fun b8 => ?_)
  refine Wl.want rfl rfl ?_
  refine Wl.callB 10 rfl T.fn30 rfl (fun Gx hGx hgx => c30 Gx (askE pk1) [true, false, false] _ _ _ _ (hla4.up hGx) (Arr.own hgx 7 rfl (OwnA.made (by simp [maxLen]))) (by rw [ha]; decide) (by decide)) (fun v10 Gx10 G10 Ho10 hlx10 hp => ?_)
  obtain ⟨rfl, rfl, rfl⟩ := hp
  refine Wl.re 62 rfl (show _ = Value.bool true by simp [ha]) ?_
  refine Wl.q rfl (Qy.pick rfl rfl) ?_
  refine Wl.q rfl (Qy.move rfl) ?_
  refine Wl.want rfl rfl ?_
  refine Wl.q rfl (Qy.move rfl) ?_
  refine Wl.want rfl rfl ?_
  refine Wl.q rfl (Qy.eql rfl rfl) ?_
  refine Wl.q rfl (Qy.pick rfl rfl) ?_
  refine Wl.q rfl (Qy.move rfl) ?_
  refine Wl.yes 68 rfl (by first | assumption | omega) ?_
  refine Wl.want rfl rfl ?_
  refine Wl.q rfl (Qy.move rfl) ?_
  refine Wl.want rfl rfl ?_
  refine Wl.lit (α := Bool) 8 [(Bool.true), (Bool.false), (Bool.true)] rfl T.sl64 T.el4 rfl rfl rfl rfl rfl (fun b9 => ?_)
  refine Wl.want rfl rfl ?_
  refine Wl.callB 11 rfl T.fn30 rfl (fun Gx hGx hgx => c30 Gx (askE pk2) [true, false, true] _ _ _ _ (hla7.up hGx) (Arr.own hgx 8 rfl (OwnA.made (by simp [maxLen]))) (by rw [ha2]; decide) (by decide)) (fun v11 Gx11 G11 Ho11 hlx11 hp => ?_)
  obtain ⟨rfl, rfl, rfl⟩ := hp
  refine Wl.re 71 rfl (show _ = Value.bool true by simp [ha2]) ?_
  refine Wl.q rfl (Qy.pick rfl rfl) ?_
  refine Wl.q rfl (Qy.move rfl) ?_
  refine Wl.want rfl rfl ?_
  refine Wl.q rfl (Qy.move rfl) ?_
  refine Wl.want rfl rfl ?_
  refine Wl.q rfl (Qy.eql rfl rfl) ?_
  refine Wl.q rfl (Qy.pick rfl rfl) ?_
  refine Wl.q rfl (Qy.move rfl) ?_
  refine Wl.yes 77 rfl (by first | assumption | omega) ?_
  refine Wl.want rfl rfl ?_
  refine Wl.q rfl (Qy.move rfl) ?_
  refine Wl.want rfl rfl ?_
  refine Wl.q rfl (Qy.eql rfl rfl) ?_
  refine Wl.q rfl (Qy.pick rfl rfl) ?_
  refine Wl.q rfl (Qy.move rfl) ?_
  refine Wl.yes 81 rfl (by first | assumption | omega) ?_
  refine Wl.want rfl rfl ?_
  refine Wl.q rfl (Qy.build (cs := [_, _, _, _]) T.st25 rfl rfl rfl) ?_
  refine Wl.want rfl rfl ?_
  refine Wl.call 20 rfl T.fn31 rfl (c31F _ pk0 _ _ _ _ (Arr.nil _) (Arr.nil _) (by decide) (by decide)) (tags_of trivial) (fun v12 G12 Ho12 hle12 hp => ?_)
  obtain ⟨_, ib, id_, rfl, ⟨rfl, hin⟩, hia, rfl⟩ := hp
  refine Wl.want rfl rfl ?_
  refine Wl.q rfl (Qy.eqlSliceNil T.sl23 rfl rfl) ?_
  refine Wl.q rfl (Qy.pick rfl rfl) ?_
  refine Wl.q rfl (Qy.assign rfl) ?_
  refine Wl.done ?_
  refine Ar.next ?_
  refine Wc.ret ?_
  refine Ar.out1 (.inr rfl) (Ho := []) rfl (.tmp rfl) trivial ?_
  show Value.bool (decide (ib = none)) = Value.bool true
  rw [hin.1 hi0]; rfl
end Go.Proofs.Ytfleehgbpgmcnaa
