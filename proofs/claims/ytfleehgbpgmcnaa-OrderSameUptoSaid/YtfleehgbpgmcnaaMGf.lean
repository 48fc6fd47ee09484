/- Parts of the proof (part 6): what the rows' text needs of the texts that lead to it. -/
import Derived.Test.YtfleehgbpgmcnaaMGe
set_option maxRecDepth 100000
set_option linter.unusedVariables false
namespace Go.Proofs.Ytfleehgbpgmcnaa
open Go Go.Sl
set_option maxHeartbeats 4000000
theorem held_eq {xs ys : List Int} (h : xs.length = ys.length) (he : ∀ i : Nat, i < xs.length → xs[i]?.getD default = ys[i]?.getD default) : xs = ys := by
  refine List.ext_getElem h fun i h1 h2 => ?_
  have := he i h1
  rw [List.getElem?_eq_getElem h1, List.getElem?_eq_getElem h2] at this
  exact this
theorem own_set {a : Option Addr} {c : Nat} {xs : List Int} {junk : List Value} (h : OwnA a c xs junk) (n : Nat) (x : Int) : OwnA a c (xs.set n x) junk := by
  rcases h with ⟨h1, h2, h3, h4⟩ | ⟨b, h1, h2, h3, h4⟩
  · exact .inl ⟨h1, by rw [h2]; rfl, h3, h4⟩
  · exact .inr ⟨b, h1, by rw [List.length_set]; exact h2, by rw [List.length_set]; exact h3, h4⟩
theorem outTo_held (p : PV) : ∀ j, (outTo p j).held = (lifeTo p p.code.length).held
  | 0 => rfl
  | j + 1 => outTo_held p j
theorem outTo_same (p : PV) : ∀ j, (outTo p j).a = (lifeTo p p.code.length).a ∧ (outTo p j).b = (lifeTo p p.code.length).b ∧ (outTo p j).sets = (lifeTo p p.code.length).sets
  | 0 => ⟨rfl, rfl, rfl⟩
  | j + 1 => outTo_same p j
def LifeH (p : PV) (l : Life) (ac ao : Option Addr) (cc co u : Nat) (nb : Option Addr) (nc : Nat) (nj : List Value) (x y z n : Nat) (oo : Option Addr) (od : Nat) (oj : List Value) (o : Option Addr) (d : Nat) (j : List Value) : Hp :=
  [(0, some u, .cells #[.int .i64 p.ins, .int .i64 p.regs, .slice ac p.code.length cc, .slice ao p.outs.length co, .slice nb (neededP p).length nc, .slice (some ⟨x, 0, none⟩) l.a.length n, .slice (some ⟨y, 0, none⟩) l.b.length n, .slice (some ⟨z, 0, none⟩) l.sets.length n, .slice oo l.outs.length od, .slice o l.till.length d] 117),
   (1, nb.map (·.block), Row 4 (neededP p) nj), (2, some x, Row 3 l.a []), (3, some y, Row 3 l.b []), (4, some z, Row 3 l.sets []), (5, oo.map (·.block), Row 3 l.outs oj), (6, o.map (·.block), Row 3 l.till j)]
theorem set_back_i {l : List Int} {k : Nat} {x : Int} (h : k < l.length) : (l.set ((k : Nat) : Int).toNat x)[((k : Nat) : Int).toNat]?.getD default = x := by
  rw [Int.toNat_natCast, List.getElem?_set_self h]; rfl
theorem c73 (G : Imm) (p : PV) (ac ao : Option Addr) (cc co : Nat) (hc : Arr G ac p.code) (ho : Arr G ao p.outs) (h1 : p.code.length ≤ 1099511627776) (h2 : p.outs.length ≤ 1099511627776) (hR : rightP p = true) :
    Does Try.prog 73 [.agg #[.int .i64 p.ins, .int .i64 p.regs, .slice ac p.code.length cc, .slice ao p.outs.length co]] G [] (fun v G' Ho => ∃ u nb nc nj x y z n oo od oj o d j, v = .tuple #[.pointer (some ⟨u, 0, none⟩), .int .i64 0] ∧ OwnA nb nc (neededP p) nj ∧ OwnA (some ⟨x, 0, none⟩) n (lifeP p).a [] ∧ OwnA (some ⟨y, 0, none⟩) n (lifeP p).b [] ∧ OwnA (some ⟨z, 0, none⟩) n (lifeP p).sets [] ∧ OwnA oo od (lifeP p).outs oj ∧ OwnA o d (lifeP p).till j ∧
      Ho = LifeH p (lifeP p) ac ao cc co u nb nc nj x y z n oo od oj o d j ∧ G' = G) := by
  obtain ⟨r1, r2, r3, r4, r5, r6, r7, r8⟩ := right_facts hR
  refine Does.enter Try.func73 rfl Try.ntmps73 rfl (fun w => ?_)
  refine Wc.seq ?_
  refine Wc.region rfl ?_
  refine Wl.box 0 rfl rfl rfl (fun b1 => ?_)
  refine Wl.q rfl (Qy.assign rfl) ?_
  refine Wl.q rfl (Qy.assign rfl) ?_
  refine Wl.done ?_
  refine Ar.next ?_
  refine Wc.seq ?_
  refine Wc.region rfl ?_
  refine Wl.q rfl (Qy.loadAll 0 T.agg25 rfl rfl rfl) ?_
  refine Wl.call 1 rfl T.fn44 rfl (c44 _ _ _ _ _ _ (by assumption) (by assumption) (by omega) (by omega) hR) (tags_of trivial) (fun v1 G1 Ho1 hle1 hp => ?_)
  obtain ⟨nb1, nc1, nj1, rfl, hon1, rfl, rfl⟩ := hp
  refine Wl.q rfl (Qy.move rfl) ?_
  refine Wl.q rfl (Qy.extract rfl rfl) ?_
  refine Wl.q rfl (Qy.extract rfl rfl) ?_
  refine Wl.q rfl (Qy.assign rfl) ?_
  refine Wl.q rfl (Qy.assign rfl) ?_
  refine Wl.done ?_
  refine Ar.next ?_
  refine Wc.seq ?_
  refine Wc.seq ?_
  refine Wc.region rfl ?_
  refine Wl.q rfl (Qy.move rfl) ?_
  refine Wl.q rfl (Qy.neq rfl rfl) ?_
  refine Wl.done ?_
  refine Ar.next ?_
  refine Wc.condN rfl (by first | assumption | omega) ?_
  refine Wc.skip ?_
  refine Ar.next ?_
  refine Wc.seq ?_
  refine Wc.region rfl ?_
  refine Wl.q rfl (Qy.fieldAddr T.fa25_2 rfl) ?_
  refine Wl.q rfl (Qy.load 0 T.one22 rfl rfl rfl) ?_
  refine Wl.q rfl (Qy.len T.sl22 rfl) ?_
  refine Wl.q rfl (Qy.assign rfl) ?_
  refine Wl.done ?_
  refine Ar.next ?_
  refine Wc.meet (ι := Nat × Nat × Nat × Nat) (fun (x, y, z, u) => ([(7, .pointer (some ⟨u, 0, none⟩)), (6, Go.Value.int Go.IntKind.i64 (↑(List.length (Go.Proofs.Ytfleehgbpgmcnaa.PV.code p)) : Int)), (4, Go.Value.slice nb1 (List.length (Go.Proofs.Ytfleehgbpgmcnaa.neededP p)) nc1), (3, Go.Value.int Go.IntKind.i64 0), (2, Go.Value.pointer Option.none), (1, Go.Value.pointer (Option.some (Go.Addr.mk b1 0 Option.none)))], [(60, some x, Row 3 (List.replicate p.code.length (0 : Int)) []), (61, some y, Row 3 (List.replicate p.code.length (0 : Int)) []), (62, some z, Row 3 (List.replicate p.code.length (0 : Int)) []), (63, some u, .cells #[.int .i64 p.ins, .int .i64 p.regs, .slice ac p.code.length cc, .slice ao p.outs.length co, .slice nb1 (neededP p).length nc1, .slice (some ⟨x, 0, none⟩) (List.replicate p.code.length (0 : Int)).length (List.replicate p.code.length (0 : Int)).length, .slice (some ⟨y, 0, none⟩) (List.replicate p.code.length (0 : Int)).length (List.replicate p.code.length (0 : Int)).length, .slice (some ⟨z, 0, none⟩) (List.replicate p.code.length (0 : Int)).length (List.replicate p.code.length (0 : Int)).length, .slice none 0 0, .slice none 0 0] 117), (1, Option.map (fun x => Go.Addr.block x) nb1, Go.Sl.Row (α := Bool) 4 (Go.Proofs.Ytfleehgbpgmcnaa.neededP p) (nj1)), (0, Option.some b1, Go.Obj.cells #[Go.Value.int Go.IntKind.i64 (Go.Proofs.Ytfleehgbpgmcnaa.PV.ins p), Go.Value.int Go.IntKind.i64 (Go.Proofs.Ytfleehgbpgmcnaa.PV.regs p), Go.Value.slice ac (List.length (Go.Proofs.Ytfleehgbpgmcnaa.PV.code p)) cc, Go.Value.slice ao (List.length (Go.Proofs.Ytfleehgbpgmcnaa.PV.outs p)) co] 25)])) (fun (x, y, z, u) => True) ?_ (fun ⟨x, y, z, u⟩ => fun (hk : True) => ?_)
  · refine Wc.draw [0, 1] [] T.mixed rfl ?_
    refine Gm.q 0 [0] (by kernel_rfl) rfl rfl (Qy.loadAll 0 T.agg25 rfl rfl rfl) ?_
    refine Gm.q 1 [] (by kernel_rfl) rfl rfl (Qy.move rfl) ?_
    refine Gm.q 2 [] (by kernel_rfl) rfl rfl (Qy.move rfl) ?_
    refine Gm.q 4 [] (by kernel_rfl) rfl rfl (Qy.move rfl) ?_
    refine Gm.q 6 [] (by kernel_rfl) rfl rfl (Qy.move rfl) ?_
    refine Gm.three 3 5 7 ⟨rfl, rfl, trivial⟩ (by first | exact Imm.le_refl _ | assumption | (refine Imm.le_trans ?_ (by assumption); first | assumption | (refine Imm.le_trans ?_ (by assumption); assumption))) (by kernel_rfl) rfl rfl rfl ?_ ?_ ?_
    refine Wl.make (α := Int) 2 rfl T.sl23 T.el3 rfl rfl (by omega) (by omega) (fun b2 => ?_)
    refine Wl.on0 ?_
    refine Gm.two 5 7 ⟨rfl, rfl, trivial⟩ (by first | exact Imm.le_refl _ | assumption | (refine Imm.le_trans ?_ (by assumption); first | assumption | (refine Imm.le_trans ?_ (by assumption); assumption))) (by kernel_rfl) rfl rfl ?_ ?_
    refine Wl.make (α := Int) 3 rfl T.sl23 T.el3 rfl rfl (by omega) (by omega) (fun b3 => ?_)
    refine Wl.on0 ?_
    refine Gm.one 7 ⟨rfl, rfl, trivial⟩ (by first | exact Imm.le_refl _ | assumption | (refine Imm.le_trans ?_ (by assumption); first | assumption | (refine Imm.le_trans ?_ (by assumption); assumption))) (by kernel_rfl) rfl ?_
    refine Wl.make (α := Int) 4 rfl T.sl23 T.el3 rfl rfl (by omega) (by omega) (fun b4 => ?_)
    refine Wl.on0 ?_
    refine Gm.q 8 [] (by kernel_rfl) rfl rfl (Qy.build (cs := [_, _, _, _, _, _, _, _, _, _]) T.st117 rfl rfl rfl) ?_
    refine Gm.one 9 ⟨rfl, rfl, trivial⟩ (by first | exact Imm.le_refl _ | assumption | (refine Imm.le_trans ?_ (by assumption); first | assumption | (refine Imm.le_trans ?_ (by assumption); assumption))) (by kernel_rfl) rfl ?_
    refine Wl.box 5 rfl rfl rfl (fun b5 => ?_)
    refine Wl.on0 ?_
    refine Gm.q 10 [] (by kernel_rfl) rfl rfl (Qy.assign rfl) ?_
    refine Gm.doneA (by kernel_rfl) ⟨rfl, rfl, trivial⟩ (by first | exact Imm.le_refl _ | assumption | (refine Imm.le_trans ?_ (by assumption); first | assumption | (refine Imm.le_trans ?_ (by assumption); assumption))) ?_
    rotate_left
    refine Wl.make (α := Int) 3 rfl T.sl23 T.el3 rfl rfl (by omega) (by omega) (fun b3 => ?_)
    refine Wl.on0 ?_
    refine Gm.one 5 ⟨rfl, rfl, trivial⟩ (by first | exact Imm.le_refl _ | assumption | (refine Imm.le_trans ?_ (by assumption); first | assumption | (refine Imm.le_trans ?_ (by assumption); assumption))) (by kernel_rfl) rfl ?_
    refine Wl.make (α := Int) 4 rfl T.sl23 T.el3 rfl rfl (by omega) (by omega) (fun b4 => ?_)
    refine Wl.on0 ?_
    refine Gm.q 8 [] (by kernel_rfl) rfl rfl (Qy.build (cs := [_, _, _, _, _, _, _, _, _, _]) T.st117 rfl rfl rfl) ?_
    refine Gm.one 9 ⟨rfl, rfl, trivial⟩ (by first | exact Imm.le_refl _ | assumption | (refine Imm.le_trans ?_ (by assumption); first | assumption | (refine Imm.le_trans ?_ (by assumption); assumption))) (by kernel_rfl) rfl ?_
    refine Wl.box 5 rfl rfl rfl (fun b5 => ?_)
    refine Wl.on0 ?_
    refine Gm.q 10 [] (by kernel_rfl) rfl rfl (Qy.assign rfl) ?_
    refine Gm.doneA (by kernel_rfl) ⟨rfl, rfl, trivial⟩ (by first | exact Imm.le_refl _ | assumption | (refine Imm.le_trans ?_ (by assumption); first | assumption | (refine Imm.le_trans ?_ (by assumption); assumption))) ?_
    rotate_left
    refine Wl.make (α := Int) 2 rfl T.sl23 T.el3 rfl rfl (by omega) (by omega) (fun b2 => ?_)
    refine Wl.on0 ?_
    refine Gm.two 3 7 ⟨rfl, rfl, trivial⟩ (by first | exact Imm.le_refl _ | assumption | (refine Imm.le_trans ?_ (by assumption); first | assumption | (refine Imm.le_trans ?_ (by assumption); assumption))) (by kernel_rfl) rfl rfl ?_ ?_
    refine Wl.make (α := Int) 3 rfl T.sl23 T.el3 rfl rfl (by omega) (by omega) (fun b3 => ?_)
    refine Wl.on0 ?_
    refine Gm.one 7 ⟨rfl, rfl, trivial⟩ (by first | exact Imm.le_refl _ | assumption | (refine Imm.le_trans ?_ (by assumption); first | assumption | (refine Imm.le_trans ?_ (by assumption); assumption))) (by kernel_rfl) rfl ?_
    refine Wl.make (α := Int) 4 rfl T.sl23 T.el3 rfl rfl (by omega) (by omega) (fun b4 => ?_)
    refine Wl.on0 ?_
    refine Gm.q 8 [] (by kernel_rfl) rfl rfl (Qy.build (cs := [_, _, _, _, _, _, _, _, _, _]) T.st117 rfl rfl rfl) ?_
    refine Gm.one 9 ⟨rfl, rfl, trivial⟩ (by first | exact Imm.le_refl _ | assumption | (refine Imm.le_trans ?_ (by assumption); first | assumption | (refine Imm.le_trans ?_ (by assumption); assumption))) (by kernel_rfl) rfl ?_
    refine Wl.box 5 rfl rfl rfl (fun b5 => ?_)
    refine Wl.on0 ?_
    refine Gm.q 10 [] (by kernel_rfl) rfl rfl (Qy.assign rfl) ?_
    refine Gm.doneA (by kernel_rfl) ⟨rfl, rfl, trivial⟩ (by first | exact Imm.le_refl _ | assumption | (refine Imm.le_trans ?_ (by assumption); first | assumption | (refine Imm.le_trans ?_ (by assumption); assumption))) ?_
    rotate_left
    refine Wl.make (α := Int) 3 rfl T.sl23 T.el3 rfl rfl (by omega) (by omega) (fun b3 => ?_)
    refine Wl.on0 ?_
    refine Gm.one 3 ⟨rfl, rfl, trivial⟩ (by first | exact Imm.le_refl _ | assumption | (refine Imm.le_trans ?_ (by assumption); first | assumption | (refine Imm.le_trans ?_ (by assumption); assumption))) (by kernel_rfl) rfl ?_
    refine Wl.make (α := Int) 4 rfl T.sl23 T.el3 rfl rfl (by omega) (by omega) (fun b4 => ?_)
    refine Wl.on0 ?_
    refine Gm.q 8 [] (by kernel_rfl) rfl rfl (Qy.build (cs := [_, _, _, _, _, _, _, _, _, _]) T.st117 rfl rfl rfl) ?_
    refine Gm.one 9 ⟨rfl, rfl, trivial⟩ (by first | exact Imm.le_refl _ | assumption | (refine Imm.le_trans ?_ (by assumption); first | assumption | (refine Imm.le_trans ?_ (by assumption); assumption))) (by kernel_rfl) rfl ?_
    refine Wl.box 5 rfl rfl rfl (fun b5 => ?_)
    refine Wl.on0 ?_
    refine Gm.q 10 [] (by kernel_rfl) rfl rfl (Qy.assign rfl) ?_
    refine Gm.doneA (by kernel_rfl) ⟨rfl, rfl, trivial⟩ (by first | exact Imm.le_refl _ | assumption | (refine Imm.le_trans ?_ (by assumption); first | assumption | (refine Imm.le_trans ?_ (by assumption); assumption))) ?_
    rotate_left
    refine Wl.make (α := Int) 2 rfl T.sl23 T.el3 rfl rfl (by omega) (by omega) (fun b2 => ?_)
    refine Wl.on0 ?_
    refine Gm.two 3 5 ⟨rfl, rfl, trivial⟩ (by first | exact Imm.le_refl _ | assumption | (refine Imm.le_trans ?_ (by assumption); first | assumption | (refine Imm.le_trans ?_ (by assumption); assumption))) (by kernel_rfl) rfl rfl ?_ ?_
    refine Wl.make (α := Int) 3 rfl T.sl23 T.el3 rfl rfl (by omega) (by omega) (fun b3 => ?_)
    refine Wl.on0 ?_
    refine Gm.one 5 ⟨rfl, rfl, trivial⟩ (by first | exact Imm.le_refl _ | assumption | (refine Imm.le_trans ?_ (by assumption); first | assumption | (refine Imm.le_trans ?_ (by assumption); assumption))) (by kernel_rfl) rfl ?_
    refine Wl.make (α := Int) 4 rfl T.sl23 T.el3 rfl rfl (by omega) (by omega) (fun b4 => ?_)
    refine Wl.on0 ?_
    refine Gm.q 8 [] (by kernel_rfl) rfl rfl (Qy.build (cs := [_, _, _, _, _, _, _, _, _, _]) T.st117 rfl rfl rfl) ?_
    refine Gm.one 9 ⟨rfl, rfl, trivial⟩ (by first | exact Imm.le_refl _ | assumption | (refine Imm.le_trans ?_ (by assumption); first | assumption | (refine Imm.le_trans ?_ (by assumption); assumption))) (by kernel_rfl) rfl ?_
    refine Wl.box 5 rfl rfl rfl (fun b5 => ?_)
    refine Wl.on0 ?_
    refine Gm.q 10 [] (by kernel_rfl) rfl rfl (Qy.assign rfl) ?_
    refine Gm.doneA (by kernel_rfl) ⟨rfl, rfl, trivial⟩ (by first | exact Imm.le_refl _ | assumption | (refine Imm.le_trans ?_ (by assumption); first | assumption | (refine Imm.le_trans ?_ (by assumption); assumption))) ?_
    rotate_left
    refine Wl.make (α := Int) 3 rfl T.sl23 T.el3 rfl rfl (by omega) (by omega) (fun b3 => ?_)
    refine Wl.on0 ?_
    refine Gm.one 3 ⟨rfl, rfl, trivial⟩ (by first | exact Imm.le_refl _ | assumption | (refine Imm.le_trans ?_ (by assumption); first | assumption | (refine Imm.le_trans ?_ (by assumption); assumption))) (by kernel_rfl) rfl ?_
    refine Wl.make (α := Int) 4 rfl T.sl23 T.el3 rfl rfl (by omega) (by omega) (fun b4 => ?_)
    refine Wl.on0 ?_
    refine Gm.q 8 [] (by kernel_rfl) rfl rfl (Qy.build (cs := [_, _, _, _, _, _, _, _, _, _]) T.st117 rfl rfl rfl) ?_
    refine Gm.one 9 ⟨rfl, rfl, trivial⟩ (by first | exact Imm.le_refl _ | assumption | (refine Imm.le_trans ?_ (by assumption); first | assumption | (refine Imm.le_trans ?_ (by assumption); assumption))) (by kernel_rfl) rfl ?_
    refine Wl.box 5 rfl rfl rfl (fun b5 => ?_)
    refine Wl.on0 ?_
    refine Gm.q 10 [] (by kernel_rfl) rfl rfl (Qy.assign rfl) ?_
    refine Gm.doneA (by kernel_rfl) ⟨rfl, rfl, trivial⟩ (by first | exact Imm.le_refl _ | assumption | (refine Imm.le_trans ?_ (by assumption); first | assumption | (refine Imm.le_trans ?_ (by assumption); assumption))) ?_
    rotate_left
    all_goals first | (refine Ar.retag 2 60 rfl rfl (Ar.retag 3 61 rfl rfl (Ar.retag 4 62 rfl rfl (Ar.retag 5 63 rfl rfl (Ar.meet (b2, b3, b4, b5) trivial rfl ?_ ?_)))) <;> (repeat (first | exact trivial | refine ⟨rfl, ?_⟩)); done) | (refine Ar.retag 2 60 rfl rfl (Ar.retag 4 61 rfl rfl (Ar.retag 3 62 rfl rfl (Ar.retag 5 63 rfl rfl (Ar.meet (b2, b4, b3, b5) trivial rfl ?_ ?_)))) <;> (repeat (first | exact trivial | refine ⟨rfl, ?_⟩)); done) | (refine Ar.retag 3 60 rfl rfl (Ar.retag 2 61 rfl rfl (Ar.retag 4 62 rfl rfl (Ar.retag 5 63 rfl rfl (Ar.meet (b3, b2, b4, b5) trivial rfl ?_ ?_)))) <;> (repeat (first | exact trivial | refine ⟨rfl, ?_⟩)); done) | (refine Ar.retag 3 60 rfl rfl (Ar.retag 4 61 rfl rfl (Ar.retag 2 62 rfl rfl (Ar.retag 5 63 rfl rfl (Ar.meet (b3, b4, b2, b5) trivial rfl ?_ ?_)))) <;> (repeat (first | exact trivial | refine ⟨rfl, ?_⟩)); done) | (refine Ar.retag 4 60 rfl rfl (Ar.retag 2 61 rfl rfl (Ar.retag 3 62 rfl rfl (Ar.retag 5 63 rfl rfl (Ar.meet (b4, b2, b3, b5) trivial rfl ?_ ?_)))) <;> (repeat (first | exact trivial | refine ⟨rfl, ?_⟩)); done) | (refine Ar.retag 4 60 rfl rfl (Ar.retag 3 61 rfl rfl (Ar.retag 2 62 rfl rfl (Ar.retag 5 63 rfl rfl (Ar.meet (b4, b3, b2, b5) trivial rfl ?_ ?_)))) <;> (repeat (first | exact trivial | refine ⟨rfl, ?_⟩)); done)
  · clear hk
    refine Wc.seq ?_
    refine Wc.region rfl ?_
    refine Wl.q rfl (Qy.fieldAddr T.fa25_1 rfl) ?_
    refine Wl.q rfl (Qy.load 0 T.one3 rfl rfl rfl) ?_
    refine Wl.make (α := Int) 64 rfl T.sl23 T.el3 rfl rfl (by omega) (by omega) (fun b2 => ?_)
    refine Wl.q rfl (Qy.assign rfl) ?_
    refine Wl.done ?_
    refine Ar.next ?_
    refine Wc.seq ?_
    refine Wc.seq ?_
    refine Wc.region rfl ?_
    refine Wl.q rfl (Qy.move rfl) ?_
    refine Wl.q rfl (Qy.len T.sl23 rfl) ?_
    refine Wl.q rfl (Qy.move rfl) ?_
    refine Wl.done ?_
    refine Ar.next ?_
    refine Wc.block ?_
    obtain ⟨Z, hZ⟩ : ∃ Z, Z = List.replicate p.code.length (0 : Int) := ⟨_, rfl⟩
    have hZl : Z.length = p.code.length := by rw [hZ, List.length_replicate]
    have hno : ∀ b : Nat, OwnA (some ⟨b, 0, none⟩) Z.length Z [] := fun b => OwnA.made (by simp only [maxLen]; omega)
    obtain ⟨R, hRn⟩ : ∃ R : Nat, p.regs = (R : Int) := ⟨p.regs.toNat, by omega⟩
    have hRt : p.regs.toNat = R := by omega
    rw [← hZ]
    rw [hRt]
    have hown : ∀ h : List Int, h.length = R → OwnA (some ⟨b2, 0, none⟩) R h [] := fun h hh => .inr ⟨b2, rfl, by rw [hh]; rfl, by omega, by simp only [maxLen]; omega⟩
    refine Wc.re 8 rfl (show _ = Value.slice (some ⟨b2, 0, none⟩) (List.replicate R (default : Int)).length R by rw [List.length_replicate]) ?_
    refine Wc.re 39 rfl (show _ = Value.int .i64 (R : Int) by rw [List.length_replicate]) ?_
    refine Wc.loop (ι := Nat × List Int) (fun (k, h) => ([(40, .int .i64 (k : Int)), (8, .slice (some ⟨b2, 0, none⟩) h.length R), (39, Go.Value.int Go.IntKind.i64 (↑R : Int)), (7, Go.Value.pointer (Option.some (Go.Addr.mk u 0 Option.none))), (6, Go.Value.int Go.IntKind.i64 (↑(List.length (Go.Proofs.Ytfleehgbpgmcnaa.PV.code p)) : Int)), (4, Go.Value.slice nb1 (List.length (Go.Proofs.Ytfleehgbpgmcnaa.neededP p)) nc1), (3, Go.Value.int Go.IntKind.i64 0), (2, Go.Value.pointer Option.none), (1, Go.Value.pointer (Option.some (Go.Addr.mk b1 0 Option.none)))], [(64, some b2, Row 3 h []), (60, Option.some x, Go.Sl.Row (α := Int) 3 (Z) ([])), (61, Option.some y, Go.Sl.Row (α := Int) 3 (Z) ([])), (62, Option.some z, Go.Sl.Row (α := Int) 3 (Z) ([])), (63, Option.some u, Go.Obj.cells #[Go.Value.int Go.IntKind.i64 (Go.Proofs.Ytfleehgbpgmcnaa.PV.ins p), Go.Value.int Go.IntKind.i64 (Go.Proofs.Ytfleehgbpgmcnaa.PV.regs p), Go.Value.slice ac (List.length (Go.Proofs.Ytfleehgbpgmcnaa.PV.code p)) cc, Go.Value.slice ao (List.length (Go.Proofs.Ytfleehgbpgmcnaa.PV.outs p)) co, Go.Value.slice nb1 (List.length (Go.Proofs.Ytfleehgbpgmcnaa.neededP p)) nc1, Go.Value.slice (Option.some (Go.Addr.mk x 0 Option.none)) (List.length Z) (List.length Z), Go.Value.slice (Option.some (Go.Addr.mk y 0 Option.none)) (List.length Z) (List.length Z), Go.Value.slice (Option.some (Go.Addr.mk z 0 Option.none)) (List.length Z) (List.length Z), Go.Value.slice Option.none 0 0, Go.Value.slice Option.none 0 0] 117), (1, Option.map (fun x => Go.Addr.block x) nb1, Go.Sl.Row (α := Bool) 4 (Go.Proofs.Ytfleehgbpgmcnaa.neededP p) (nj1)), (0, Option.some b1, Go.Obj.cells #[Go.Value.int Go.IntKind.i64 (Go.Proofs.Ytfleehgbpgmcnaa.PV.ins p), Go.Value.int Go.IntKind.i64 (Go.Proofs.Ytfleehgbpgmcnaa.PV.regs p), Go.Value.slice ac (List.length (Go.Proofs.Ytfleehgbpgmcnaa.PV.code p)) cc, Go.Value.slice ao (List.length (Go.Proofs.Ytfleehgbpgmcnaa.PV.outs p)) co] 25)])) (fun (k, h) => k ≤ R ∧ h.length = R ∧ ∀ q : Nat, q < k → h[q]?.getD default = min (q : Int) p.ins) (fun (k, h) => R - k) ((0, List.replicate R (default : Int))) (⟨Nat.zero_le _, List.length_replicate, fun q hq => by omega⟩) ⟨rfl, rfl, rfl, rfl, rfl, rfl, rfl, rfl, rfl, trivial⟩ ⟨rfl, rfl, rfl, rfl, rfl, rfl, rfl, trivial⟩ (fun ⟨k, h⟩ => fun (hk : k ≤ R ∧ h.length = R ∧ ∀ q : Nat, q < k → h[q]?.getD default = min (q : Int) p.ins) => ?_)
    obtain ⟨hk1, hhl, hhe⟩ := hk
    have hoh := hown h hhl
    rcases Nat.lt_or_ge k R with hkR | hkR
    · refine Wc.seq ?_
      refine Wc.region rfl ?_
      refine Wl.q rfl (Qy.lss rfl rfl) ?_
      refine Wl.done ?_
      refine Ar.next ?_
      refine Wc.seq ?_
      refine Wc.condP rfl (by first | assumption | omega) ?_
      refine Wc.skip ?_
      refine Ar.next ?_
      refine Wc.seq ?_
      refine Wc.block ?_
      refine Wc.seq ?_
      refine Wc.region rfl ?_
      refine Wl.q rfl (Qy.move rfl) ?_
      refine Wl.q rfl (Qy.assign rfl) ?_
      refine Wl.done ?_
      refine Ar.next ?_
      refine Wc.region rfl ?_
      refine Wl.q rfl (Qy.move rfl) ?_
      refine Wl.q rfl (Qy.move rfl) ?_
      refine Wl.q rfl (Qy.loadAll 0 T.agg25 rfl rfl rfl) ?_
      refine Wl.q rfl (Qy.move rfl) ?_
      refine Wl.call0 rfl T.fn94 rfl (c94 _ _ _ _ _ _ _) ?_
      refine Wl.q rfl (Qy.indexAddrO (α := Int) T.sl23 rfl rfl (by assumption) (by omega)) ?_
      refine Wl.setO (z := _) 64 T.size3 rfl rfl rfl (by assumption) (by omega) rfl (fun ho1 => ?_)
      refine Wl.done ?_
      refine Ar.outNormal ?_
      refine Ar.next ?_
      refine Wc.region rfl ?_
      refine Wl.q rfl (Qy.add rfl rfl (by omega)) ?_
      refine Wl.q rfl (Qy.move rfl) ?_
      refine Wl.done ?_
      refine Ar.re 8 rfl (show _ = Value.slice (some ⟨b2, 0, none⟩) (h.set ((k : Nat) : Int).toNat (min (k : Int) p.ins)).length R by rw [List.length_set]) ?_
      refine Ar.again ((k + 1, h.set ((k : Nat) : Int).toNat (min (k : Int) p.ins))) ?_ ?_ rfl ⟨rfl, rfl, rfl, rfl, rfl, rfl, rfl, rfl, rfl, trivial⟩ ⟨rfl, rfl, rfl, rfl, rfl, rfl, rfl, trivial⟩
      · refine ⟨hkR, by rw [List.length_set]; exact hhl, fun q hq => ?_⟩
        rw [Int.toNat_natCast, List.getElem?_set]
        by_cases hqk : k = q
        · subst hqk; rw [if_pos rfl, if_pos (by omega)]; rfl
        · rw [if_neg hqk]; exact hhe q (by omega)
      · show R - (k + 1) < R - k
        omega
    · have hh0 : h = (life0 p).held := by
        refine held_eq (by rw [hhl]; show R = ((List.range p.regs.toNat).map _).length; rw [List.length_map, List.length_range, hRt]) (fun q hq => ?_)
        rw [hhe q (by omega)]
        show _ = ((List.range p.regs.toNat).map fun (r : Nat) => min (r : Int) p.ins)[q]?.getD default
        rw [List.getElem?_map, List.getElem?_range (by omega)]; rfl
      refine Wc.seq ?_
      refine Wc.region rfl ?_
      refine Wl.q rfl (Qy.lss rfl rfl) ?_
      refine Wl.done ?_
      refine Ar.next ?_
      refine Wc.seq ?_
      refine Wc.condN rfl (by first | assumption | omega) ?_
      refine Wc.exit ?_
      refine Ar.passExit ?_
      refine Ar.passExit ?_
      refine Ar.here ?_
      refine Ar.next ?_
      refine Wc.seq ?_
      refine Wc.seq ?_
      refine Wc.region rfl ?_
      refine Wl.q rfl (Qy.fieldAddr T.fa25_0 rfl) ?_
      refine Wl.q rfl (Qy.load 0 T.one3 rfl rfl rfl) ?_
      refine Wl.q rfl (Qy.add rfl rfl (by omega)) ?_
      refine Wl.q rfl (Qy.move rfl) ?_
      refine Wl.done ?_
      refine Ar.next ?_
      refine Wc.block ?_
      refine Wc.nilRow 65 (Row 3 ([] : List Int) []) ?_
      refine Wc.loop (ι := Nat × List Int × (Option Addr × Nat × List Value)) (fun (i, t, (o, d, j)) => ([(53, .int .i64 (i : Int)), (52, Go.Value.int Go.IntKind.i64 (Go.Proofs.Ytfleehgbpgmcnaa.PV.ins p + 1)), (8, Go.Value.slice (Option.some (Go.Addr.mk b2 0 Option.none)) (List.length h) R), (7, Go.Value.pointer (Option.some (Go.Addr.mk u 0 Option.none))), (6, Go.Value.int Go.IntKind.i64 (↑(List.length (Go.Proofs.Ytfleehgbpgmcnaa.PV.code p)) : Int)), (4, Go.Value.slice nb1 (List.length (Go.Proofs.Ytfleehgbpgmcnaa.neededP p)) nc1), (3, Go.Value.int Go.IntKind.i64 0), (2, Go.Value.pointer Option.none), (1, Go.Value.pointer (Option.some (Go.Addr.mk b1 0 Option.none)))], [(63, some u, .cells #[.int .i64 p.ins, .int .i64 p.regs, .slice ac p.code.length cc, .slice ao p.outs.length co, .slice nb1 (neededP p).length nc1, .slice (some ⟨x, 0, none⟩) Z.length Z.length, .slice (some ⟨y, 0, none⟩) Z.length Z.length, .slice (some ⟨z, 0, none⟩) Z.length Z.length, .slice none 0 0, .slice o t.length d] 117), (65, o.map (·.block), Row 3 t j), (64, Option.some b2, Go.Sl.Row (α := Int) 3 (h) ([])), (60, Option.some x, Go.Sl.Row (α := Int) 3 (Z) ([])), (61, Option.some y, Go.Sl.Row (α := Int) 3 (Z) ([])), (62, Option.some z, Go.Sl.Row (α := Int) 3 (Z) ([])), (1, Option.map (fun x => Go.Addr.block x) nb1, Go.Sl.Row (α := Bool) 4 (Go.Proofs.Ytfleehgbpgmcnaa.neededP p) (nj1)), (0, Option.some b1, Go.Obj.cells #[Go.Value.int Go.IntKind.i64 (Go.Proofs.Ytfleehgbpgmcnaa.PV.ins p), Go.Value.int Go.IntKind.i64 (Go.Proofs.Ytfleehgbpgmcnaa.PV.regs p), Go.Value.slice ac (List.length (Go.Proofs.Ytfleehgbpgmcnaa.PV.code p)) cc, Go.Value.slice ao (List.length (Go.Proofs.Ytfleehgbpgmcnaa.PV.outs p)) co] 25)])) (fun (i, t, (o, d, j)) => (i : Int) ≤ p.ins + 1 ∧ t = List.replicate i (-1) ∧ OwnA o d t j) (fun (i, t, (o, d, j)) => p.ins.toNat + 1 - i) ((0, [], (none, 0, []))) (⟨by show (0 : Int) ≤ _; omega, rfl, OwnA.nil⟩) ⟨rfl, rfl, rfl, rfl, rfl, rfl, rfl, rfl, rfl, trivial⟩ ⟨rfl, rfl, rfl, rfl, rfl, rfl, rfl, rfl, trivial⟩ (fun ⟨i, t, (o, d, j)⟩ => fun (hk : (i : Int) ≤ p.ins + 1 ∧ t = List.replicate i (-1) ∧ OwnA o d t j) => ?_)
      obtain ⟨hi1, hti, hot⟩ := hk
      have htl : t.length = i := by rw [hti, List.length_replicate]
      by_cases hii : (i : Int) < p.ins + 1
      · refine Wc.seq ?_
        refine Wc.region rfl ?_
        refine Wl.q rfl (Qy.lss rfl rfl) ?_
        refine Wl.done ?_
        refine Ar.next ?_
        refine Wc.seq ?_
        refine Wc.condP rfl (by first | assumption | omega) ?_
        refine Wc.skip ?_
        refine Ar.next ?_
        refine Wc.seq ?_
        refine Wc.block ?_
        refine Wc.region rfl ?_
        refine Wl.q rfl (Qy.move rfl) ?_
        refine Wl.q rfl (Qy.move rfl) ?_
        refine Wl.q rfl (Qy.nilCheck rfl) ?_
        refine Wl.q rfl (Qy.fieldAddr T.fa117_6 rfl) ?_
        refine Wl.q rfl (Qy.load 63 T.one23 rfl rfl rfl) ?_
        refine Wl.lit (α := Int) 66 [(-1)] rfl T.sl23 T.el3 rfl rfl rfl rfl rfl (fun b3 => ?_)
        refine Wl.append (α := Int) 65 rfl T.sl23 T.el3 rfl rfl rfl (by first | assumption | exact OwnA.nil | exact OwnA.made (by simp)) (Src.row 66 rfl) (by first | omega | (simp only [List.length_append, List.length_cons, List.length_nil, maxLen]; omega)) (by first | omega | (simp only [List.length_append, List.length_cons, List.length_nil, maxLen]; omega)) (fun a1 c1 junk1 ho1 => ?_)
        refine Wl.q rfl (Qy.nilCheck rfl) ?_
        refine Wl.q rfl (Qy.fieldAddr T.fa117_6 rfl) ?_
        refine Wl.store 63 T.one23 rfl rfl rfl rfl rfl ?_
        refine Wl.done ?_
        refine Ar.outNormal ?_
        refine Ar.next ?_
        refine Wc.region rfl ?_
        refine Wl.q rfl (Qy.add rfl rfl (by omega)) ?_
        refine Wl.q rfl (Qy.move rfl) ?_
        refine Wl.done ?_
        refine Ar.again ((i + 1, t ++ [-1], (a1, c1, junk1))) ?_ ?_ rfl ⟨rfl, rfl, rfl, rfl, rfl, rfl, rfl, rfl, rfl, trivial⟩ ⟨rfl, rfl, rfl, rfl, rfl, rfl, rfl, rfl, trivial⟩
        · exact ⟨by omega, by rw [hti, List.replicate_succ'], ho1⟩
        · show p.ins.toNat + 1 - (i + 1) < p.ins.toNat + 1 - i
          omega
      · refine Wc.seq ?_
        refine Wc.region rfl ?_
        refine Wl.q rfl (Qy.lss rfl rfl) ?_
        refine Wl.done ?_
        refine Ar.next ?_
        refine Wc.seq ?_
        refine Wc.condN rfl (by first | assumption | omega) ?_
        refine Wc.exit ?_
        refine Ar.passExit ?_
        refine Ar.passExit ?_
        refine Ar.here ?_
        refine Ar.next ?_
        refine Wc.seq ?_
        refine Wc.seq ?_
        refine Wc.region rfl ?_
        refine Wl.q rfl (Qy.fieldAddr T.fa25_2 rfl) ?_
        refine Wl.q rfl (Qy.load 0 T.one22 rfl rfl rfl) ?_
        refine Wl.q rfl (Qy.len T.sl22 rfl) ?_
        refine Wl.q rfl (Qy.move rfl) ?_
        refine Wl.done ?_
        refine Ar.next ?_
        refine Wc.block ?_
        have htt : t = (life0 p).till := by
          rw [hti, show i = p.ins.toNat + 1 by omega]; rfl
        have hZ' : Z = (life0 p).a := hZ
        subst htt hh0 hZ'
        have hno9 : ∀ (b : Nat) (l : List Int), l.length = p.code.length → OwnA (some ⟨b, 0, none⟩) (life0 p).a.length l [] := fun b l hl => .inr ⟨b, rfl, by rw [hZl, hl]; rfl, by omega, by simp only [maxLen]; omega⟩
        refine Wc.loop (ι := Nat × Life × (Option Addr × Nat × List Value)) (fun (k, l, (o, d, j)) => ([(68, .int .i64 (k : Int)), (8, .slice (some ⟨b2, 0, none⟩) l.held.length R), (67, Go.Value.int Go.IntKind.i64 (↑(List.length (Go.Proofs.Ytfleehgbpgmcnaa.PV.code p)) : Int)), (66, Go.Value.slice ac (List.length (Go.Proofs.Ytfleehgbpgmcnaa.PV.code p)) cc), (7, Go.Value.pointer (Option.some (Go.Addr.mk u 0 Option.none))), (6, Go.Value.int Go.IntKind.i64 (↑(List.length (Go.Proofs.Ytfleehgbpgmcnaa.PV.code p)) : Int)), (4, Go.Value.slice nb1 (List.length (Go.Proofs.Ytfleehgbpgmcnaa.neededP p)) nc1), (3, Go.Value.int Go.IntKind.i64 0), (2, Go.Value.pointer Option.none), (1, Go.Value.pointer (Option.some (Go.Addr.mk b1 0 Option.none)))], [(60, some x, Row 3 l.a []), (61, some y, Row 3 l.b []), (62, some z, Row 3 l.sets []), (64, some b2, Row 3 l.held []), (63, some u, .cells #[.int .i64 p.ins, .int .i64 p.regs, .slice ac p.code.length cc, .slice ao p.outs.length co, .slice nb1 (neededP p).length nc1, .slice (some ⟨x, 0, none⟩) l.a.length (life0 p).a.length, .slice (some ⟨y, 0, none⟩) l.b.length (life0 p).a.length, .slice (some ⟨z, 0, none⟩) l.sets.length (life0 p).a.length, .slice none 0 0, .slice o l.till.length d] 117), (65, o.map (·.block), Row 3 l.till j), (1, Option.map (fun x => Go.Addr.block x) nb1, Go.Sl.Row (α := Bool) 4 (Go.Proofs.Ytfleehgbpgmcnaa.neededP p) (nj1)), (0, Option.some b1, Go.Obj.cells #[Go.Value.int Go.IntKind.i64 (Go.Proofs.Ytfleehgbpgmcnaa.PV.ins p), Go.Value.int Go.IntKind.i64 (Go.Proofs.Ytfleehgbpgmcnaa.PV.regs p), Go.Value.slice ac (List.length (Go.Proofs.Ytfleehgbpgmcnaa.PV.code p)) cc, Go.Value.slice ao (List.length (Go.Proofs.Ytfleehgbpgmcnaa.PV.outs p)) co] 25)])) (fun (k, l, (o, d, j)) => k ≤ p.code.length ∧ l = lifeTo p k ∧ OwnA o d l.till j) (fun (k, l, (o, d, j)) => p.code.length - k) ((0, life0 p, (o, d, j))) (⟨Nat.zero_le _, rfl, hot⟩) ⟨rfl, rfl, rfl, rfl, rfl, rfl, rfl, rfl, rfl, rfl, trivial⟩ ⟨rfl, rfl, rfl, rfl, rfl, rfl, rfl, rfl, trivial⟩ (fun ⟨k, l, (o, d, j)⟩ => fun (hk : k ≤ p.code.length ∧ l = lifeTo p k ∧ OwnA o d l.till j) => ?_)
        obtain ⟨hk9, hlk, hol⟩ := hk
        have hok := lifeTo_ok hR k hk9
        rw [← hlk] at hok
        obtain ⟨k1, k2, k3, k4, k5, k6, k7, k8, k9, k10, k11⟩ := hok
        have hoa := hno9 x l.a k1
        have hob := hno9 y l.b k2
        have hoz := hno9 z l.sets k3
        have hoh2 := hown l.held (by omega)
        rcases Nat.lt_or_ge k p.code.length with hkc | hkc
        · have hm := code_may hR hkc
          unfold cAt at hm
          have hnl : (neededP p).length = p.code.length := (needTo_len p _).2
          have hva : 0 ≤ l.held[(p.code[((k : Nat) : Int).toNat]?.getD default).a.toNat]?.getD default ∧ l.held[(p.code[((k : Nat) : Int).toNat]?.getD default).a.toNat]?.getD default < l.till.length := k7 _ (get_mem (by have := (may_facts hm).2.2.1; omega))
          obtain ⟨m1, m2, m3, m4, m5, m6, m7, m8⟩ := may_facts hm
          have hI : cAt p k = p.code[((k : Nat) : Int).toNat]?.getD default := rfl
          have m4' : 1 < ((asks (p.code[((k : Nat) : Int).toNat]?.getD default)).length : Int) → 0 ≤ (p.code[((k : Nat) : Int).toNat]?.getD default).b ∧ (p.code[((k : Nat) : Int).toNat]?.getD default).b < p.regs := fun h => m4 (two_op (by omega))
          refine Wc.seq ?_
          refine Wc.region rfl ?_
          refine Wl.q rfl (Qy.lss rfl rfl) ?_
          refine Wl.done ?_
          refine Ar.next ?_
          refine Wc.seq ?_
          refine Wc.condP rfl (by first | assumption | omega) ?_
          refine Wc.skip ?_
          refine Ar.next ?_
          refine Wc.seq ?_
          refine Wc.block ?_
          refine Wc.seq ?_
          refine Wc.region rfl ?_
          refine Wl.q rfl (Qy.move rfl) ?_
          refine Wl.q rfl (Qy.at (α := Sl.Instr) T.sl22 rfl rfl (by assumption) (by omega)) ?_
          refine Wl.q rfl (Qy.loadsG T.agg34 rfl (Arr.elem (by assumption) (by omega)) rfl) ?_
          refine Wl.alloc 66 rfl T.zero34 (fun b3 => ?_)
          refine Wl.q rfl (Qy.assign rfl) ?_
          refine Wl.storeAll 66 T.size34 rfl rfl rfl rfl rfl rfl ?_
          refine Wl.done ?_
          refine Ar.next ?_
          refine Wc.seq ?_
          refine Wc.seq ?_
          refine Wc.region rfl ?_
          refine Wl.q rfl (Qy.move rfl) ?_
          refine Wl.q rfl (Qy.move rfl) ?_
          refine Wl.q rfl (Qy.indexAddrO (α := Bool) T.sl64 rfl rfl (by assumption) (by omega)) ?_
          refine Wl.q rfl (Qy.loadO 1 0 T.one4 rfl rfl (by assumption) (by omega) rfl rfl) ?_
          refine Wl.q rfl (Qy.not rfl) ?_
          refine Wl.done ?_
          refine Ar.next ?_
          refine Wc.ite rfl (fun hc1 => ?_) (fun hc1 => ?_)
          refine Wc.exit ?_
          refine Ar.passExit ?_
          refine Ar.here ?_
          refine Ar.next ?_
          refine Wc.region rfl ?_
          refine Wl.q rfl (Qy.add rfl rfl (by omega)) ?_
          refine Wl.q rfl (Qy.move rfl) ?_
          refine Wl.done ?_
          rotate_left
          refine Wc.skip ?_
          refine Ar.next ?_
          refine Wc.seq ?_
          refine Wc.draw [0, 1, 65, 63, 64, 62, 61, 60, 66] [(66, 23), (60, 23), (61, 23), (62, 23), (64, 23), (63, 23), (65, 23), (1, 23), (0, 23), (66, 21), (60, 21), (61, 21), (62, 21), (64, 21), (63, 21), (65, 21), (1, 21), (0, 21)] T.mixed rfl ?_
          refine Gm.q 0 [] (by kernel_rfl) rfl rfl (Qy.move rfl) ?_
          refine Gm.q 1 [] (by kernel_rfl) rfl rfl (Qy.nilCheck rfl) ?_
          refine Gm.q 2 [] (by kernel_rfl) rfl rfl (Qy.fieldAddr T.fa117_2 rfl) ?_
          refine Gm.q 3 [63] (by kernel_rfl) rfl rfl (Qy.load 63 T.one23 rfl rfl rfl) ?_
          refine Gm.q 4 [] (by kernel_rfl) rfl rfl (Qy.move rfl) ?_
          refine Gm.q 5 [] (by kernel_rfl) rfl rfl (Qy.move rfl) ?_
          refine Gm.q 6 [] (by kernel_rfl) rfl rfl (Qy.nilCheck rfl) ?_
          refine Gm.q 7 [] (by kernel_rfl) rfl rfl (Qy.fieldAddr T.fa117_3 rfl) ?_
          refine Gm.q 8 [63] (by kernel_rfl) rfl rfl (Qy.load 63 T.one23 rfl rfl rfl) ?_
          refine Gm.q 9 [] (by kernel_rfl) rfl rfl (Qy.move rfl) ?_
          refine Gm.q 10 [] (by kernel_rfl) rfl rfl (Qy.move rfl) ?_
          refine Gm.q 11 [] (by kernel_rfl) rfl rfl (Qy.fieldAddr T.fa34_2 rfl) ?_
          refine Gm.q 12 [66] (by kernel_rfl) rfl rfl (Qy.load 66 T.one3 rfl rfl rfl) ?_
          refine Gm.q 13 [] (by kernel_rfl) rfl rfl (Qy.indexAddrO (α := Int) T.sl23 rfl rfl (by assumption) (by omega)) ?_
          refine Gm.q 14 [0, 64] (by kernel_rfl) rfl rfl (Qy.loadO 64 0 T.one3 rfl rfl (by assumption) (by omega) rfl rfl) ?_
          refine Gm.q 15 [] (by kernel_rfl) rfl rfl (Qy.move rfl) ?_
          refine Gm.q 16 [] (by kernel_rfl) rfl rfl (Qy.fieldAddr T.fa34_2 rfl) ?_
          refine Gm.one 17 ⟨rfl, rfl, rfl, rfl, rfl, rfl, rfl, rfl, rfl, trivial⟩ (by first | exact Imm.le_refl _ | assumption | (refine Imm.le_trans ?_ (by assumption); first | assumption | (refine Imm.le_trans ?_ (by assumption); assumption))) (by kernel_rfl) rfl ?_
          refine Wl.q rfl (Qy.load 66 T.one3 rfl rfl rfl) ?_
          refine Wl.on0 ?_
          refine Gm.q 18 [] (by kernel_rfl) rfl rfl (Qy.indexAddrO (α := Int) T.sl23 rfl rfl (by assumption) (by omega)) ?_
          refine Gm.q 19 [0, 64] (by kernel_rfl) rfl rfl (Qy.loadO 64 0 T.one3 rfl rfl (by assumption) (by omega) rfl rfl) ?_
          refine Gm.q 20 [] (by kernel_rfl) rfl rfl (Qy.indexAddrO (α := Int) T.sl23 rfl rfl (by assumption) (by omega)) ?_
          refine Gm.one 21 ⟨rfl, rfl, rfl, rfl, rfl, rfl, rfl, rfl, rfl, trivial⟩ (by first | exact Imm.le_refl _ | assumption | (refine Imm.le_trans ?_ (by assumption); first | assumption | (refine Imm.le_trans ?_ (by assumption); assumption))) (by kernel_rfl) rfl ?_
          refine Wl.setO (z := _) 60 T.size3 rfl rfl rfl (by assumption) (by omega) rfl (fun ho1 => ?_)
          refine Wl.on0 ?_
          refine Gm.q 22 [] (by kernel_rfl) rfl rfl (Qy.indexAddrO (α := Int) T.sl23 rfl rfl (by assumption) (by omega)) ?_
          refine Gm.one 23 trivial (by first | exact Imm.le_refl _ | assumption | (refine Imm.le_trans ?_ (by assumption); first | assumption | (refine Imm.le_trans ?_ (by assumption); assumption))) (by kernel_rfl) rfl ?_
          refine Wl.setO (z := _) 61 T.size3 rfl rfl rfl (by assumption) (by omega) rfl (fun ho2 => ?_)
          refine Wl.on0 ?_
          refine Gm.doneA (by kernel_rfl) trivial (by first | exact Imm.le_refl _ | assumption | (refine Imm.le_trans ?_ (by assumption); first | assumption | (refine Imm.le_trans ?_ (by assumption); assumption))) ?_
          refine Ar.next ?_
          rotate_left
          · have hn : ¬ nAt p k = true := by unfold nAt; simpa using hc1
            refine Ar.again ((k + 1, l, (o, d, j))) ?_ ?_ rfl ⟨rfl, rfl, rfl, rfl, rfl, rfl, rfl, rfl, rfl, rfl, trivial⟩ ⟨rfl, rfl, rfl, rfl, rfl, rfl, rfl, rfl, trivial⟩
            · exact ⟨hkc, by rw [hlk]; exact (if_neg hn).symm, hol⟩
            · show p.code.length - (k + 1) < p.code.length - k
              omega
          · have hn : nAt p k = true := by unfold nAt; simpa using hc1
            refine Wc.meet (ι := Int) (fun v => ([(4, .slice nb1 (neededP p).length nc1), (66, .slice ac p.code.length cc), (67, .int .i64 (p.code.length : Int)), (10, Go.Value.int Go.IntKind.i64 (↑k : Int)), (11, Go.Value.pointer (Option.some (Go.Addr.mk b3 0 Option.none))), (68, Go.Value.int Go.IntKind.i64 (↑k : Int)), (8, Go.Value.slice (Option.some (Go.Addr.mk b2 0 Option.none)) (List.length (Go.Proofs.Ytfleehgbpgmcnaa.Life.held l)) R), (7, Go.Value.pointer (Option.some (Go.Addr.mk u 0 Option.none))), (6, Go.Value.int Go.IntKind.i64 (↑(List.length (Go.Proofs.Ytfleehgbpgmcnaa.PV.code p)) : Int)), (3, Go.Value.int Go.IntKind.i64 0), (2, Go.Value.pointer Option.none), (1, Go.Value.pointer (Option.some (Go.Addr.mk b1 0 Option.none)))], [(61, some y, Row 3 (l.b.set ((k : Nat) : Int).toNat v) []), (60, Option.map (fun x => Go.Addr.block x) (Option.some (Go.Addr.mk x 0 Option.none)), Go.Sl.Row (α := Int) 3 (List.set (Go.Proofs.Ytfleehgbpgmcnaa.Life.a l) (Int.toNat (↑k : Int)) (Option.getD (Go.Proofs.Ytfleehgbpgmcnaa.Life.held l)[Int.toNat (Go.Sl.Instr.a (Option.getD (Go.Proofs.Ytfleehgbpgmcnaa.PV.code p)[Int.toNat (↑k : Int)]? Inhabited.default))]? Inhabited.default)) ([])), (66, Option.some b3, Go.Obj.cells (List.toArray (Go.Sl.Cells.enc (Option.getD (Go.Proofs.Ytfleehgbpgmcnaa.PV.code p)[Int.toNat (↑k : Int)]? Inhabited.default))) 34), (62, Option.some z, Go.Sl.Row (α := Int) 3 (Go.Proofs.Ytfleehgbpgmcnaa.Life.sets l) ([])), (64, Option.some b2, Go.Sl.Row (α := Int) 3 (Go.Proofs.Ytfleehgbpgmcnaa.Life.held l) ([])), (63, Option.some u, Go.Obj.cells #[Go.Value.int Go.IntKind.i64 (Go.Proofs.Ytfleehgbpgmcnaa.PV.ins p), Go.Value.int Go.IntKind.i64 (Go.Proofs.Ytfleehgbpgmcnaa.PV.regs p), Go.Value.slice ac (List.length (Go.Proofs.Ytfleehgbpgmcnaa.PV.code p)) cc, Go.Value.slice ao (List.length (Go.Proofs.Ytfleehgbpgmcnaa.PV.outs p)) co, Go.Value.slice nb1 (List.length (Go.Proofs.Ytfleehgbpgmcnaa.neededP p)) nc1, Go.Value.slice (Option.some (Go.Addr.mk x 0 Option.none)) (List.length (Go.Proofs.Ytfleehgbpgmcnaa.Life.a l)) (List.length (Go.Proofs.Ytfleehgbpgmcnaa.Life.a (Go.Proofs.Ytfleehgbpgmcnaa.life0 p))), Go.Value.slice (Option.some (Go.Addr.mk y 0 Option.none)) (List.length (Go.Proofs.Ytfleehgbpgmcnaa.Life.b l)) (List.length (Go.Proofs.Ytfleehgbpgmcnaa.Life.a (Go.Proofs.Ytfleehgbpgmcnaa.life0 p))), Go.Value.slice (Option.some (Go.Addr.mk z 0 Option.none)) (List.length (Go.Proofs.Ytfleehgbpgmcnaa.Life.sets l)) (List.length (Go.Proofs.Ytfleehgbpgmcnaa.Life.a (Go.Proofs.Ytfleehgbpgmcnaa.life0 p))), Go.Value.slice Option.none 0 0, Go.Value.slice o (List.length (Go.Proofs.Ytfleehgbpgmcnaa.Life.till l)) d] 117), (65, Option.map (fun x => Go.Addr.block x) o, Go.Sl.Row (α := Int) 3 (Go.Proofs.Ytfleehgbpgmcnaa.Life.till l) (j)), (1, Option.map (fun x => Go.Addr.block x) nb1, Go.Sl.Row (α := Bool) 4 (Go.Proofs.Ytfleehgbpgmcnaa.neededP p) (nj1)), (0, Option.some b1, Go.Obj.cells #[Go.Value.int Go.IntKind.i64 (Go.Proofs.Ytfleehgbpgmcnaa.PV.ins p), Go.Value.int Go.IntKind.i64 (Go.Proofs.Ytfleehgbpgmcnaa.PV.regs p), Go.Value.slice ac (List.length (Go.Proofs.Ytfleehgbpgmcnaa.PV.code p)) cc, Go.Value.slice ao (List.length (Go.Proofs.Ytfleehgbpgmcnaa.PV.outs p)) co] 25)])) (fun v => v = vB l (p.code[((k : Nat) : Int).toNat]?.getD default)) ?_ (fun v => fun (hk : v = vB l (p.code[((k : Nat) : Int).toNat]?.getD default)) => ?_)
            · by_cases h2 : 1 < ((asks (p.code[((k : Nat) : Int).toNat]?.getD default)).length : Int)
              · have m4b := m4' h2
                have hlb : (l.b.set ((k : Nat) : Int).toNat (l.held[(p.code[((k : Nat) : Int).toNat]?.getD default).a.toNat]?.getD default)).length = l.b.length := List.length_set
                refine Wc.seq ?_
                refine Wc.region rfl ?_
                refine Wl.q rfl (Qy.loadAll 66 T.agg34 rfl rfl rfl) ?_
                refine Wl.call 67 rfl T.fn70 rfl (c70 _ _) (tags_of trivial) (fun v2 G2 Ho2 hle2 hp => ?_)
                obtain ⟨ad2, cd2, junk2, rfl, hoa2, rfl, rfl⟩ := hp
                refine Wl.q rfl (Qy.len T.sl23 rfl) ?_
                refine Wl.q rfl (Qy.gtr rfl rfl) ?_
                refine Wl.done ?_
                refine Ar.next ?_
                refine Wc.condP rfl (by first | assumption | omega) ?_
                refine Wc.draw [0, 1, 65, 63, 64, 62, 66, 60, 61, 68] [(68, 11), (61, 11), (60, 11), (66, 11), (62, 11), (64, 11), (63, 11), (65, 11), (1, 11), (0, 11)] T.mixed rfl ?_
                refine Gm.q 0 [] (by kernel_rfl) rfl rfl (Qy.move rfl) ?_
                refine Gm.q 1 [] (by kernel_rfl) rfl rfl (Qy.nilCheck rfl) ?_
                refine Gm.q 2 [] (by kernel_rfl) rfl rfl (Qy.fieldAddr T.fa117_3 rfl) ?_
                refine Gm.q 3 [63] (by kernel_rfl) rfl rfl (Qy.load 63 T.one23 rfl rfl rfl) ?_
                refine Gm.q 4 [] (by kernel_rfl) rfl rfl (Qy.move rfl) ?_
                refine Gm.q 5 [] (by kernel_rfl) rfl rfl (Qy.move rfl) ?_
                refine Gm.q 6 [] (by kernel_rfl) rfl rfl (Qy.fieldAddr T.fa34_3 rfl) ?_
                refine Gm.q 7 [66] (by kernel_rfl) rfl rfl (Qy.load 66 T.one3 rfl rfl rfl) ?_
                refine Gm.q 8 [] (by kernel_rfl) rfl rfl (Qy.indexAddrO (α := Int) T.sl23 rfl rfl (by assumption) (by omega)) ?_
                refine Gm.q 9 [0, 64] (by kernel_rfl) rfl rfl (Qy.loadO 64 0 T.one3 rfl rfl (by assumption) (by omega) rfl rfl) ?_
                refine Gm.q 10 [] (by kernel_rfl) rfl rfl (Qy.indexAddrO (α := Int) T.sl23 rfl rfl (by assumption) (by omega)) ?_
                refine Gm.one 11 ⟨rfl, rfl, rfl, rfl, rfl, rfl, rfl, rfl, rfl, rfl, trivial⟩ (by first | exact Imm.le_refl _ | assumption | (refine Imm.le_trans ?_ (by assumption); first | assumption | (refine Imm.le_trans ?_ (by assumption); assumption))) (by kernel_rfl) rfl ?_
                refine Wl.setO (z := _) 61 T.size3 rfl rfl rfl (by assumption) (by omega) rfl (fun ho3 => ?_)
                refine Wl.on0 ?_
                refine Gm.doneA (by kernel_rfl) trivial (by first | exact Imm.le_refl _ | assumption | (refine Imm.le_trans ?_ (by assumption); first | assumption | (refine Imm.le_trans ?_ (by assumption); assumption))) ?_
                rw [List.set_set]
                refine Ar.meet (l.held[(p.code[((k : Nat) : Int).toNat]?.getD default).b.toNat]?.getD default) ?_ rfl ⟨rfl, rfl, rfl, rfl, rfl, rfl, rfl, rfl, rfl, rfl, rfl, rfl, trivial⟩ ⟨rfl, rfl, rfl, rfl, rfl, rfl, rfl, rfl, rfl, trivial⟩
                exact (if_pos (by omega)).symm
              · refine Wc.seq ?_
                refine Wc.region rfl ?_
                refine Wl.q rfl (Qy.loadAll 66 T.agg34 rfl rfl rfl) ?_
                refine Wl.call 67 rfl T.fn70 rfl (c70 _ _) (tags_of trivial) (fun v2 G2 Ho2 hle2 hp => ?_)
                obtain ⟨ad2, cd2, junk2, rfl, hoa2, rfl, rfl⟩ := hp
                refine Wl.q rfl (Qy.len T.sl23 rfl) ?_
                refine Wl.q rfl (Qy.gtr rfl rfl) ?_
                refine Wl.done ?_
                refine Ar.next ?_
                refine Wc.condN rfl (by first | assumption | omega) ?_
                refine Wc.skip ?_
                refine Ar.meet (l.held[(p.code[((k : Nat) : Int).toNat]?.getD default).a.toNat]?.getD default) ?_ rfl ⟨rfl, rfl, rfl, rfl, rfl, rfl, rfl, rfl, rfl, rfl, rfl, rfl, trivial⟩ ⟨rfl, rfl, rfl, rfl, rfl, rfl, rfl, rfl, rfl, trivial⟩
                exact (if_neg (by omega)).symm
            · have hvb := vB_ok ⟨k1, k2, k3, k4, k5, k6, k7, k8, k9, k10, k11⟩ hm
              rw [← hk] at hvb
              have hob3 := hno9 y (l.b.set ((k : Nat) : Int).toNat v) (by rw [List.length_set]; exact k2)
              have hra : (l.a.set ((k : Nat) : Int).toNat (l.held[(p.code[((k : Nat) : Int).toNat]?.getD default).a.toNat]?.getD default))[((k : Nat) : Int).toNat]?.getD default = l.held[(p.code[((k : Nat) : Int).toNat]?.getD default).a.toNat]?.getD default := set_back_i (by omega)
              have hrb : (l.b.set ((k : Nat) : Int).toNat v)[((k : Nat) : Int).toNat]?.getD default = v := set_back_i (by omega)
              have hla : (l.a.set ((k : Nat) : Int).toNat (l.held[(p.code[((k : Nat) : Int).toNat]?.getD default).a.toNat]?.getD default)).length = l.a.length := List.length_set
              have hlb : (l.b.set ((k : Nat) : Int).toNat v).length = l.b.length := List.length_set
              have hlt1 : (l.till.set (l.held[(p.code[((k : Nat) : Int).toNat]?.getD default).a.toNat]?.getD default).toNat (k : Int)).length = l.till.length := List.length_set
              have hlt2 : ((l.till.set (l.held[(p.code[((k : Nat) : Int).toNat]?.getD default).a.toNat]?.getD default).toNat (k : Int)).set v.toNat (k : Int)).length = l.till.length := by rw [List.length_set, List.length_set]
              refine Wc.seq ?_
              refine Wc.draw [0, 1, 65, 63, 64, 62, 66, 60, 61] [(61, 27), (60, 27), (66, 27), (62, 27), (64, 27), (63, 27), (65, 27), (1, 27), (0, 27), (61, 25), (60, 25), (66, 25), (62, 25), (64, 25), (63, 25), (65, 25), (1, 25), (0, 25)] T.mixed rfl ?_
              refine Gm.q 0 [] (by kernel_rfl) rfl rfl (Qy.move rfl) ?_
              refine Gm.q 1 [] (by kernel_rfl) rfl rfl (Qy.nilCheck rfl) ?_
              refine Gm.q 2 [] (by kernel_rfl) rfl rfl (Qy.fieldAddr T.fa117_6 rfl) ?_
              refine Gm.q 3 [63] (by kernel_rfl) rfl rfl (Qy.load 63 T.one23 rfl rfl rfl) ?_
              refine Gm.q 4 [] (by kernel_rfl) rfl rfl (Qy.move rfl) ?_
              refine Gm.q 5 [] (by kernel_rfl) rfl rfl (Qy.nilCheck rfl) ?_
              refine Gm.q 6 [] (by kernel_rfl) rfl rfl (Qy.fieldAddr T.fa117_2 rfl) ?_
              refine Gm.q 7 [63] (by kernel_rfl) rfl rfl (Qy.load 63 T.one23 rfl rfl rfl) ?_
              refine Gm.q 8 [] (by kernel_rfl) rfl rfl (Qy.move rfl) ?_
              refine Gm.q 9 [] (by kernel_rfl) rfl rfl (Qy.indexAddrO (α := Int) T.sl23 rfl rfl (by assumption) (by omega)) ?_
              refine Gm.q 10 [0, 60] (by kernel_rfl) rfl rfl (Qy.loadO 60 0 T.one3 rfl rfl (by assumption) (by omega) rfl rfl) ?_
              refine Gm.q 11 [] (by kernel_rfl) rfl rfl (Qy.move rfl) ?_
              refine Gm.q 12 [] (by kernel_rfl) rfl rfl (Qy.nilCheck rfl) ?_
              refine Gm.q 13 [] (by kernel_rfl) rfl rfl (Qy.fieldAddr T.fa117_6 rfl) ?_
              refine Gm.q 14 [63] (by kernel_rfl) rfl rfl (Qy.load 63 T.one23 rfl rfl rfl) ?_
              refine Gm.q 15 [] (by kernel_rfl) rfl rfl (Qy.move rfl) ?_
              refine Gm.q 16 [] (by kernel_rfl) rfl rfl (Qy.nilCheck rfl) ?_
              refine Gm.q 17 [] (by kernel_rfl) rfl rfl (Qy.fieldAddr T.fa117_3 rfl) ?_
              refine Gm.q 18 [63] (by kernel_rfl) rfl rfl (Qy.load 63 T.one23 rfl rfl rfl) ?_
              refine Gm.q 19 [] (by kernel_rfl) rfl rfl (Qy.move rfl) ?_
              refine Gm.q 20 [] (by kernel_rfl) rfl rfl (Qy.indexAddrO (α := Int) T.sl23 rfl rfl (by assumption) (by omega)) ?_
              refine Gm.q 21 [0, 61] (by kernel_rfl) rfl rfl (Qy.loadO 61 0 T.one3 rfl rfl (by assumption) (by omega) rfl rfl) ?_
              refine Gm.q 22 [] (by kernel_rfl) rfl rfl (Qy.move rfl) ?_
              refine Gm.q 23 [] (by kernel_rfl) rfl rfl (Qy.move rfl) ?_
              refine Gm.q 24 [] (by kernel_rfl) rfl rfl (Qy.indexAddrO (α := Int) T.sl23 rfl rfl (by assumption) (by omega)) ?_
              refine Gm.one 25 ⟨rfl, rfl, rfl, rfl, rfl, rfl, rfl, rfl, rfl, trivial⟩ (by first | exact Imm.le_refl _ | assumption | (refine Imm.le_trans ?_ (by assumption); first | assumption | (refine Imm.le_trans ?_ (by assumption); assumption))) (by kernel_rfl) rfl ?_
              refine Wl.setO (z := _) 65 T.size3 rfl rfl rfl (by assumption) (by omega) rfl (fun ho3 => ?_)
              refine Wl.on0 ?_
              refine Gm.q 26 [] (by kernel_rfl) rfl rfl (Qy.indexAddrO (α := Int) T.sl23 rfl rfl (by assumption) (by omega)) ?_
              refine Gm.one 27 trivial (by first | exact Imm.le_refl _ | assumption | (refine Imm.le_trans ?_ (by assumption); first | assumption | (refine Imm.le_trans ?_ (by assumption); assumption))) (by kernel_rfl) rfl ?_
              rw [hra, hrb]
              have hol2 : OwnA o d (l.till.set (l.held[(p.code[((k : Nat) : Int).toNat]?.getD default).a.toNat]?.getD default).toNat (k : Int)) j := own_set hol _ _
              have hoh3 := hown (l.held.set (p.code[((k : Nat) : Int).toNat]?.getD default).to.toNat (l.till.length : Int)) (by rw [List.length_set]; omega)
              refine Wl.setO (z := _) 65 T.size3 rfl rfl rfl (by assumption) (by omega) rfl (fun ho4 => ?_)
              refine Wl.on0 ?_
              refine Gm.doneA (by kernel_rfl) trivial (by first | exact Imm.le_refl _ | assumption | (refine Imm.le_trans ?_ (by assumption); first | assumption | (refine Imm.le_trans ?_ (by assumption); assumption))) ?_
              refine Ar.next ?_
              refine Wc.seq ?_
              refine Wc.draw [0, 1, 63, 64, 62, 66, 60, 61, 65] [(65, 21), (61, 21), (60, 21), (66, 21), (62, 21), (64, 21), (63, 21), (1, 21), (0, 21), (65, 19), (61, 19), (60, 19), (66, 19), (62, 19), (64, 19), (63, 19), (1, 19), (0, 19)] T.mixed rfl ?_
              refine Gm.q 0 [] (by kernel_rfl) rfl rfl (Qy.move rfl) ?_
              refine Gm.q 1 [] (by kernel_rfl) rfl rfl (Qy.nilCheck rfl) ?_
              refine Gm.q 2 [] (by kernel_rfl) rfl rfl (Qy.fieldAddr T.fa117_4 rfl) ?_
              refine Gm.q 3 [63] (by kernel_rfl) rfl rfl (Qy.load 63 T.one23 rfl rfl rfl) ?_
              refine Gm.q 4 [] (by kernel_rfl) rfl rfl (Qy.move rfl) ?_
              refine Gm.q 5 [] (by kernel_rfl) rfl rfl (Qy.move rfl) ?_
              refine Gm.q 6 [] (by kernel_rfl) rfl rfl (Qy.fieldAddr T.fa34_1 rfl) ?_
              refine Gm.q 8 [] (by kernel_rfl) rfl rfl (Qy.move rfl) ?_
              refine Gm.q 9 [] (by kernel_rfl) rfl rfl (Qy.nilCheck rfl) ?_
              refine Gm.q 10 [] (by kernel_rfl) rfl rfl (Qy.fieldAddr T.fa117_6 rfl) ?_
              refine Gm.q 11 [63] (by kernel_rfl) rfl rfl (Qy.load 63 T.one23 rfl rfl rfl) ?_
              refine Gm.q 12 [] (by kernel_rfl) rfl rfl (Qy.len T.sl23 rfl) ?_
              refine Gm.q 13 [] (by kernel_rfl) rfl rfl (Qy.move rfl) ?_
              refine Gm.q 14 [] (by kernel_rfl) rfl rfl (Qy.nilCheck rfl) ?_
              refine Gm.q 15 [] (by kernel_rfl) rfl rfl (Qy.fieldAddr T.fa117_6 rfl) ?_
              refine Gm.q 16 [63] (by kernel_rfl) rfl rfl (Qy.load 63 T.one23 rfl rfl rfl) ?_
              refine Gm.q 17 [] (by kernel_rfl) rfl rfl (Qy.len T.sl23 rfl) ?_
              refine Gm.q 18 [] (by kernel_rfl) rfl rfl (Qy.indexAddrO (α := Int) T.sl23 rfl rfl (by assumption) (by omega)) ?_
              refine Gm.two 7 19 ⟨rfl, rfl, rfl, rfl, rfl, rfl, rfl, rfl, rfl, trivial⟩ (by first | exact Imm.le_refl _ | assumption | (refine Imm.le_trans ?_ (by assumption); first | assumption | (refine Imm.le_trans ?_ (by assumption); assumption))) (by kernel_rfl) rfl rfl ?_ ?_
              refine Wl.q rfl (Qy.load 66 T.one3 rfl rfl rfl) ?_
              refine Wl.on0 ?_
              refine Gm.one 19 ⟨rfl, rfl, rfl, rfl, rfl, rfl, rfl, rfl, rfl, trivial⟩ (by first | exact Imm.le_refl _ | assumption | (refine Imm.le_trans ?_ (by assumption); first | assumption | (refine Imm.le_trans ?_ (by assumption); assumption))) (by kernel_rfl) rfl ?_
              refine Wl.setO (z := _) 62 T.size3 rfl rfl rfl (by assumption) (by omega) rfl (fun ho5 => ?_)
              refine Wl.on0 ?_
              refine Gm.q 20 [] (by kernel_rfl) rfl rfl (Qy.indexAddrO (α := Int) T.sl23 rfl rfl (by assumption) (by omega)) ?_
              refine Gm.one 21 trivial (by first | exact Imm.le_refl _ | assumption | (refine Imm.le_trans ?_ (by assumption); first | assumption | (refine Imm.le_trans ?_ (by assumption); assumption))) (by kernel_rfl) rfl ?_
              refine Wl.setO (z := _) 64 T.size3 rfl rfl rfl (by assumption) (by omega) rfl (fun ho6 => ?_)
              refine Wl.on0 ?_
              refine Gm.doneA (by kernel_rfl) trivial (by first | exact Imm.le_refl _ | assumption | (refine Imm.le_trans ?_ (by assumption); first | assumption | (refine Imm.le_trans ?_ (by assumption); assumption))) ?_
              refine Ar.next ?_
              refine Wc.region rfl ?_
              refine Wl.q rfl (Qy.move rfl) ?_
              refine Wl.q rfl (Qy.move rfl) ?_
              refine Wl.q rfl (Qy.nilCheck rfl) ?_
              refine Wl.q rfl (Qy.fieldAddr T.fa117_6 rfl) ?_
              refine Wl.q rfl (Qy.load 63 T.one23 rfl rfl rfl) ?_
              refine Wl.lit (α := Int) 67 [(-1)] rfl T.sl23 T.el3 rfl rfl rfl rfl rfl (fun b4 => ?_)
              rotate_left
              refine Wl.setO (z := _) 62 T.size3 rfl rfl rfl (by assumption) (by omega) rfl (fun ho5 => ?_)
              refine Wl.on0 ?_
              refine Gm.one 7 trivial (by first | exact Imm.le_refl _ | assumption | (refine Imm.le_trans ?_ (by assumption); first | assumption | (refine Imm.le_trans ?_ (by assumption); assumption))) (by kernel_rfl) rfl ?_
              refine Wl.q rfl (Qy.load 66 T.one3 rfl rfl rfl) ?_
              refine Wl.on0 ?_
              refine Gm.q 20 [] (by kernel_rfl) rfl rfl (Qy.indexAddrO (α := Int) T.sl23 rfl rfl (by assumption) (by omega)) ?_
              refine Gm.one 21 trivial (by first | exact Imm.le_refl _ | assumption | (refine Imm.le_trans ?_ (by assumption); first | assumption | (refine Imm.le_trans ?_ (by assumption); assumption))) (by kernel_rfl) rfl ?_
              refine Wl.setO (z := _) 64 T.size3 rfl rfl rfl (by assumption) (by omega) rfl (fun ho6 => ?_)
              refine Wl.on0 ?_
              refine Gm.doneA (by kernel_rfl) trivial (by first | exact Imm.le_refl _ | assumption | (refine Imm.le_trans ?_ (by assumption); first | assumption | (refine Imm.le_trans ?_ (by assumption); assumption))) ?_
              refine Ar.next ?_
              refine Wc.region rfl ?_
              refine Wl.q rfl (Qy.move rfl) ?_
              refine Wl.q rfl (Qy.move rfl) ?_
              refine Wl.q rfl (Qy.nilCheck rfl) ?_
              refine Wl.q rfl (Qy.fieldAddr T.fa117_6 rfl) ?_
              refine Wl.q rfl (Qy.load 63 T.one23 rfl rfl rfl) ?_
              refine Wl.lit (α := Int) 67 [(-1)] rfl T.sl23 T.el3 rfl rfl rfl rfl rfl (fun b4 => ?_)
              rotate_left
              all_goals
                refine Wl.re 165 rfl (show _ = Value.slice o ((l.till.set (l.held[(p.code[((k : Nat) : Int).toNat]?.getD default).a.toNat]?.getD default).toNat (k : Int)).set v.toNat (k : Int)).length d by rw [hlt2]) ?_
                have hol3 := own_set hol2 v.toNat (k : Int)
                refine Wl.append (α := Int) 65 rfl T.sl23 T.el3 rfl rfl rfl (by first | assumption | exact OwnA.nil | exact OwnA.made (by simp)) (Src.row 67 rfl) (by first | omega | (simp only [List.length_append, List.length_cons, List.length_nil, maxLen]; omega)) (by first | omega | (simp only [List.length_append, List.length_cons, List.length_nil, maxLen]; omega)) (fun a7 c7 junk7 ho7 => ?_)
                refine Wl.q rfl (Qy.nilCheck rfl) ?_
                refine Wl.q rfl (Qy.fieldAddr T.fa117_6 rfl) ?_
                refine Wl.store 63 T.one23 rfl rfl rfl rfl rfl ?_
                refine Wl.done ?_
                refine Ar.outNormal ?_
                refine Ar.next ?_
                refine Wc.region rfl ?_
                refine Wl.q rfl (Qy.add rfl rfl (by omega)) ?_
                refine Wl.q rfl (Qy.move rfl) ?_
                refine Wl.done ?_
                subst hk
                have e1 : (lifeStep l k (p.code[((k : Nat) : Int).toNat]?.getD default)).a.length = l.a.length := List.length_set
                have e2 : (lifeStep l k (p.code[((k : Nat) : Int).toNat]?.getD default)).b.length = l.b.length := List.length_set
                have e3 : (lifeStep l k (p.code[((k : Nat) : Int).toNat]?.getD default)).sets.length = l.sets.length := List.length_set
                have e4 : (lifeStep l k (p.code[((k : Nat) : Int).toNat]?.getD default)).held.length = l.held.length := List.length_set
                refine Ar.reH 63 (.cells #[.int .i64 p.ins, .int .i64 p.regs, .slice ac p.code.length cc, .slice ao p.outs.length co, .slice nb1 (neededP p).length nc1, .slice (some ⟨x, 0, none⟩) (lifeStep l k (p.code[((k : Nat) : Int).toNat]?.getD default)).a.length (life0 p).a.length, .slice (some ⟨y, 0, none⟩) (lifeStep l k (p.code[((k : Nat) : Int).toNat]?.getD default)).b.length (life0 p).a.length, .slice (some ⟨z, 0, none⟩) (lifeStep l k (p.code[((k : Nat) : Int).toNat]?.getD default)).sets.length (life0 p).a.length, .slice none 0 0, .slice a7 (lifeStep l k (p.code[((k : Nat) : Int).toNat]?.getD default)).till.length c7] 117) rfl (by rw [e1, e2, e3]; rfl) ?_
                refine Ar.re 8 rfl (show _ = Value.slice (some ⟨b2, 0, none⟩) (lifeStep l k (p.code[((k : Nat) : Int).toNat]?.getD default)).held.length R by rw [e4]) ?_
                refine Ar.again ((k + 1, lifeStep l k (p.code[((k : Nat) : Int).toNat]?.getD default), (a7, c7, junk7))) ?_ ?_ rfl ⟨rfl, rfl, rfl, rfl, rfl, rfl, rfl, rfl, rfl, rfl, trivial⟩ ⟨rfl, rfl, rfl, rfl, rfl, rfl, rfl, rfl, trivial⟩
                · refine ⟨hkc, ?_, ?_⟩
                  · rw [hlk]; exact (if_pos hn).symm
                  · show OwnA a7 c7 (((l.till.set _ _).set _ _) ++ [-1]) junk7
                    assumption
                · show p.code.length - (k + 1) < p.code.length - k
                  omega
        · have hke : k = p.code.length := Nat.le_antisymm hk9 hkc
          subst hke
          have hlo : l.outs = [] := by rw [hlk]; exact lifeTo_outs p _
          refine Wc.seq ?_
          refine Wc.region rfl ?_
          refine Wl.q rfl (Qy.lss rfl rfl) ?_
          refine Wl.done ?_
          refine Ar.next ?_
          refine Wc.seq ?_
          refine Wc.condN rfl (by first | assumption | omega) ?_
          refine Wc.exit ?_
          refine Ar.passExit ?_
          refine Ar.passExit ?_
          refine Ar.here ?_
          refine Ar.next ?_
          refine Wc.seq ?_
          refine Wc.seq ?_
          refine Wc.region rfl ?_
          refine Wl.q rfl (Qy.fieldAddr T.fa25_3 rfl) ?_
          refine Wl.q rfl (Qy.load 0 T.one23 rfl rfl rfl) ?_
          refine Wl.q rfl (Qy.len T.sl23 rfl) ?_
          refine Wl.q rfl (Qy.move rfl) ?_
          refine Wl.done ?_
          refine Ar.next ?_
          refine Wc.block ?_
          refine Wc.nilRow 69 (Row 3 l.outs []) ?_
          refine Wc.reH 63 (.cells #[.int .i64 p.ins, .int .i64 p.regs, .slice ac p.code.length cc, .slice ao p.outs.length co, .slice nb1 (neededP p).length nc1, .slice (some ⟨x, 0, none⟩) l.a.length (life0 p).a.length, .slice (some ⟨y, 0, none⟩) l.b.length (life0 p).a.length, .slice (some ⟨z, 0, none⟩) l.sets.length (life0 p).a.length, .slice none l.outs.length 0, .slice o l.till.length d] 117) rfl (by rw [hlo]; rfl) ?_
          refine Wc.loop (ι := Nat × Life × (Option Addr × Nat × List Value)) (fun (q, l2, (oo, od, oj)) => ([(174, .int .i64 (q : Int)), (173, Go.Value.int Go.IntKind.i64 (↑(List.length (Go.Proofs.Ytfleehgbpgmcnaa.PV.outs p)) : Int)), (172, Go.Value.slice ao (List.length (Go.Proofs.Ytfleehgbpgmcnaa.PV.outs p)) co), (8, Go.Value.slice (Option.some (Go.Addr.mk b2 0 Option.none)) (List.length (Go.Proofs.Ytfleehgbpgmcnaa.Life.held l)) R), (7, Go.Value.pointer (Option.some (Go.Addr.mk u 0 Option.none))), (6, Go.Value.int Go.IntKind.i64 (↑(List.length (Go.Proofs.Ytfleehgbpgmcnaa.PV.code p)) : Int)), (3, Go.Value.int Go.IntKind.i64 0), (2, Go.Value.pointer Option.none)], [(65, o.map (·.block), Row 3 l2.till j), (69, oo.map (·.block), Row 3 l2.outs oj), (63, some u, .cells #[.int .i64 p.ins, .int .i64 p.regs, .slice ac p.code.length cc, .slice ao p.outs.length co, .slice nb1 (neededP p).length nc1, .slice (some ⟨x, 0, none⟩) l.a.length (life0 p).a.length, .slice (some ⟨y, 0, none⟩) l.b.length (life0 p).a.length, .slice (some ⟨z, 0, none⟩) l.sets.length (life0 p).a.length, .slice oo l2.outs.length od, .slice o l2.till.length d] 117), (60, Option.some x, Go.Sl.Row (α := Int) 3 (Go.Proofs.Ytfleehgbpgmcnaa.Life.a l) ([])), (61, Option.some y, Go.Sl.Row (α := Int) 3 (Go.Proofs.Ytfleehgbpgmcnaa.Life.b l) ([])), (62, Option.some z, Go.Sl.Row (α := Int) 3 (Go.Proofs.Ytfleehgbpgmcnaa.Life.sets l) ([])), (64, Option.some b2, Go.Sl.Row (α := Int) 3 (Go.Proofs.Ytfleehgbpgmcnaa.Life.held l) ([])), (1, Option.map (fun x => Go.Addr.block x) nb1, Go.Sl.Row (α := Bool) 4 (Go.Proofs.Ytfleehgbpgmcnaa.neededP p) (nj1)), (0, Option.some b1, Go.Obj.cells #[Go.Value.int Go.IntKind.i64 (Go.Proofs.Ytfleehgbpgmcnaa.PV.ins p), Go.Value.int Go.IntKind.i64 (Go.Proofs.Ytfleehgbpgmcnaa.PV.regs p), Go.Value.slice ac (List.length (Go.Proofs.Ytfleehgbpgmcnaa.PV.code p)) cc, Go.Value.slice ao (List.length (Go.Proofs.Ytfleehgbpgmcnaa.PV.outs p)) co] 25)])) (fun (q, l2, (oo, od, oj)) => q ≤ p.outs.length ∧ l2 = outTo p q ∧ OwnA oo od l2.outs oj ∧ OwnA o d l2.till j) (fun (q, l2, (oo, od, oj)) => p.outs.length - q) ((0, l, (none, 0, []))) (⟨Nat.zero_le _, hlk, by show OwnA none 0 l.outs []; rw [hlo]; exact OwnA.nil, hol⟩) ⟨rfl, rfl, rfl, rfl, rfl, rfl, rfl, rfl, trivial⟩ ⟨rfl, rfl, rfl, rfl, rfl, rfl, rfl, rfl, rfl, trivial⟩ (fun ⟨q, l2, (oo, od, oj)⟩ => fun (hk : q ≤ p.outs.length ∧ l2 = outTo p q ∧ OwnA oo od l2.outs oj ∧ OwnA o d l2.till j) => ?_)
          obtain ⟨hq1, hl2, hoo, hot2⟩ := hk
          have h2ok := outTo_ok hR q hq1
          have h2h := outTo_held p q
          have h2l := outTo_len p q
          rw [← hl2] at h2ok h2h h2l
          rw [← hlk] at h2h h2l
          rw [hlo] at h2l
          have h2l' : l2.outs.length = q := by rw [h2l]; exact Nat.zero_add q
          have h2t := h2ok.t1
          rcases Nat.lt_or_ge q p.outs.length with hqc | hqc
          · have hr := out_may hR hqc
            have hv2 : 0 ≤ l.held[(p.outs[((q : Nat) : Int).toNat]?.getD default).toNat]?.getD default ∧ l.held[(p.outs[((q : Nat) : Int).toNat]?.getD default).toNat]?.getD default < l2.till.length := h2ok.hb _ (by rw [h2h]; exact get_mem (by omega))
            refine Wc.seq ?_
            refine Wc.region rfl ?_
            refine Wl.q rfl (Qy.lss rfl rfl) ?_
            refine Wl.done ?_
            refine Ar.next ?_
            refine Wc.seq ?_
            refine Wc.condP rfl (by first | assumption | omega) ?_
            refine Wc.skip ?_
            refine Ar.next ?_
            refine Wc.seq ?_
            refine Wc.block ?_
            refine Wc.seq ?_
            refine Wc.region rfl ?_
            refine Wl.q rfl (Qy.at (α := Int) T.sl23 rfl rfl (by assumption) (by omega)) ?_
            refine Wl.q rfl (Qy.loadG T.one3 rfl (Arr.cell (by assumption) (by omega) 0 rfl rfl)) ?_
            refine Wl.q rfl (Qy.assign rfl) ?_
            refine Wl.done ?_
            refine Ar.next ?_
            refine Wc.seq ?_
            refine Wc.draw [0, 1, 64, 62, 61, 60, 63, 69, 65] [(63, 13), (65, 10), (69, 10), (60, 10), (61, 10), (62, 10), (64, 10), (1, 10)] T.mixed rfl ?_
            refine Gm.q 0 [] (by kernel_rfl) rfl rfl (Qy.move rfl) ?_
            refine Gm.q 1 [] (by kernel_rfl) rfl rfl (Qy.move rfl) ?_
            refine Gm.q 2 [] (by kernel_rfl) rfl rfl (Qy.nilCheck rfl) ?_
            refine Gm.q 3 [] (by kernel_rfl) rfl rfl (Qy.fieldAddr T.fa117_5 rfl) ?_
            refine Gm.q 4 [63] (by kernel_rfl) rfl rfl (Qy.load 63 T.one23 rfl rfl rfl) ?_
            refine Gm.q 5 [] (by kernel_rfl) rfl rfl (Qy.move rfl) ?_
            refine Gm.q 6 [] (by kernel_rfl) rfl rfl (Qy.move rfl) ?_
            refine Gm.q 7 [] (by kernel_rfl) rfl rfl (Qy.indexAddrO (α := Int) T.sl23 rfl rfl (by assumption) (by omega)) ?_
            refine Gm.one 8 ⟨rfl, rfl, rfl, rfl, rfl, rfl, rfl, rfl, rfl, trivial⟩ (by first | exact Imm.le_refl _ | assumption | (refine Imm.le_trans ?_ (by assumption); first | assumption | (refine Imm.le_trans ?_ (by assumption); assumption))) (by kernel_rfl) rfl ?_
            refine Wl.q rfl (Qy.loadO 64 0 T.one3 rfl rfl (by assumption) (by omega) rfl rfl) ?_
            refine Wl.on0 ?_
            refine Gm.one 9 ⟨rfl, rfl, rfl, rfl, rfl, rfl, rfl, rfl, rfl, trivial⟩ (by first | exact Imm.le_refl _ | assumption | (refine Imm.le_trans ?_ (by assumption); first | assumption | (refine Imm.le_trans ?_ (by assumption); assumption))) (by kernel_rfl) rfl ?_
            refine Wl.lit (α := Int) 70 [(Option.getD (Go.Proofs.Ytfleehgbpgmcnaa.Life.held l)[Int.toNat (Option.getD (Go.Proofs.Ytfleehgbpgmcnaa.PV.outs p)[Int.toNat (↑q : Int)]? Inhabited.default)]? Inhabited.default)] rfl T.sl23 T.el3 rfl rfl rfl rfl rfl (fun b3 => ?_)
            refine Wl.on0 ?_
            refine Gm.one 10 ⟨rfl, rfl, rfl, rfl, rfl, rfl, rfl, rfl, rfl, trivial⟩ (by first | exact Imm.le_refl _ | assumption | (refine Imm.le_trans ?_ (by assumption); first | assumption | (refine Imm.le_trans ?_ (by assumption); assumption))) (by kernel_rfl) rfl ?_
            refine Wl.append (α := Int) 69 rfl T.sl23 T.el3 rfl rfl rfl (by first | assumption | exact OwnA.nil | exact OwnA.made (by simp)) (Src.row 70 rfl) (by first | omega | (simp only [List.length_append, List.length_cons, List.length_nil, maxLen]; omega)) (by first | omega | (simp only [List.length_append, List.length_cons, List.length_nil, maxLen]; omega)) (fun a1 c1 junk1 ho1 => ?_)
            refine Wl.on0 ?_
            refine Gm.q 11 [] (by kernel_rfl) rfl rfl (Qy.nilCheck rfl) ?_
            refine Gm.q 12 [] (by kernel_rfl) rfl rfl (Qy.fieldAddr T.fa117_5 rfl) ?_
            refine Gm.one 13 ⟨rfl, rfl, trivial⟩ (by first | exact Imm.le_refl _ | assumption | (refine Imm.le_trans ?_ (by assumption); first | assumption | (refine Imm.le_trans ?_ (by assumption); assumption))) (by kernel_rfl) rfl ?_
            refine Wl.store 63 T.one23 rfl rfl rfl rfl rfl ?_
            refine Wl.on0 ?_
            refine Gm.doneA (by kernel_rfl) ⟨rfl, trivial⟩ (by first | exact Imm.le_refl _ | assumption | (refine Imm.le_trans ?_ (by assumption); first | assumption | (refine Imm.le_trans ?_ (by assumption); assumption))) ?_
            refine Ar.next ?_
            refine Wc.draw [0, 1, 64, 62, 61, 60, 65, 70, 69, 63] [(63, 10), (69, 10), (70, 10), (65, 10), (60, 10), (61, 10), (62, 10), (64, 10), (1, 10), (0, 10)] T.mixed rfl ?_
            refine Gm.q 0 [] (by kernel_rfl) rfl rfl (Qy.move rfl) ?_
            refine Gm.q 1 [] (by kernel_rfl) rfl rfl (Qy.nilCheck rfl) ?_
            refine Gm.q 2 [] (by kernel_rfl) rfl rfl (Qy.fieldAddr T.fa117_6 rfl) ?_
            refine Gm.q 3 [63] (by kernel_rfl) rfl rfl (Qy.load 63 T.one23 rfl rfl rfl) ?_
            refine Gm.q 4 [] (by kernel_rfl) rfl rfl (Qy.move rfl) ?_
            refine Gm.q 5 [] (by kernel_rfl) rfl rfl (Qy.move rfl) ?_
            refine Gm.q 6 [] (by kernel_rfl) rfl rfl (Qy.indexAddrO (α := Int) T.sl23 rfl rfl (by assumption) (by omega)) ?_
            refine Gm.q 7 [0, 64] (by kernel_rfl) rfl rfl (Qy.loadO 64 0 T.one3 rfl rfl (by assumption) (by omega) rfl rfl) ?_
            refine Gm.q 8 [] (by kernel_rfl) rfl rfl (Qy.move rfl) ?_
            refine Gm.q 9 [] (by kernel_rfl) rfl rfl (Qy.indexAddrO (α := Int) T.sl23 rfl rfl (by assumption) (by omega)) ?_
            refine Gm.one 10 ⟨rfl, rfl, rfl, rfl, rfl, rfl, rfl, rfl, rfl, rfl, trivial⟩ (by first | exact Imm.le_refl _ | assumption | (refine Imm.le_trans ?_ (by assumption); first | assumption | (refine Imm.le_trans ?_ (by assumption); assumption))) (by kernel_rfl) rfl ?_
            refine Wl.setO (z := _) 65 T.size3 rfl rfl rfl (by assumption) (by omega) rfl (fun ho2 => ?_)
            refine Wl.on0 ?_
            refine Gm.doneA (by kernel_rfl) trivial (by first | exact Imm.le_refl _ | assumption | (refine Imm.le_trans ?_ (by assumption); first | assumption | (refine Imm.le_trans ?_ (by assumption); assumption))) ?_
            refine Ar.outNormal ?_
            refine Ar.next ?_
            refine Wc.region rfl ?_
            refine Wl.q rfl (Qy.add rfl rfl (by omega)) ?_
            refine Wl.q rfl (Qy.move rfl) ?_
            refine Wl.done ?_
            have e5 : (outStep p l2 (p.outs[((q : Nat) : Int).toNat]?.getD default)).till.length = l2.till.length := List.length_set
            have eS : outStep p l2 (p.outs[((q : Nat) : Int).toNat]?.getD default) = { l2 with outs := l2.outs ++ [l.held[(p.outs[((q : Nat) : Int).toNat]?.getD default).toNat]?.getD default], till := l2.till.set (l.held[(p.outs[((q : Nat) : Int).toNat]?.getD default).toNat]?.getD default).toNat p.code.length } := by
              unfold outStep; rw [h2h]
            rw [eS] at e5
            refine Ar.reH 63 (.cells #[.int .i64 p.ins, .int .i64 p.regs, .slice ac p.code.length cc, .slice ao p.outs.length co, .slice nb1 (neededP p).length nc1, .slice (some ⟨x, 0, none⟩) l.a.length (life0 p).a.length, .slice (some ⟨y, 0, none⟩) l.b.length (life0 p).a.length, .slice (some ⟨z, 0, none⟩) l.sets.length (life0 p).a.length, .slice a1 (l2.outs ++ [l.held[(p.outs[((q : Nat) : Int).toNat]?.getD default).toNat]?.getD default]).length c1, .slice o (l2.till.set (l.held[(p.outs[((q : Nat) : Int).toNat]?.getD default).toNat]?.getD default).toNat p.code.length).length d] 117) rfl (by rw [e5]; rfl) ?_
            refine Ar.again ((q + 1, { l2 with outs := l2.outs ++ [l.held[(p.outs[((q : Nat) : Int).toNat]?.getD default).toNat]?.getD default], till := l2.till.set (l.held[(p.outs[((q : Nat) : Int).toNat]?.getD default).toNat]?.getD default).toNat p.code.length }, (a1, c1, junk1))) ?_ ?_ rfl ⟨rfl, rfl, rfl, rfl, rfl, rfl, rfl, rfl, trivial⟩ ⟨rfl, rfl, rfl, rfl, rfl, rfl, rfl, rfl, rfl, trivial⟩
            · refine ⟨hqc, ?_, by assumption, own_set hot2 _ _⟩
              show _ = outStep p (outTo p q) _
              rw [← hl2, eS]
            · show p.outs.length - (q + 1) < p.outs.length - q
              omega
          · have hqe : q = p.outs.length := Nat.le_antisymm hq1 hqc
            subst hqe
            have hlp : l2 = lifeP p := hl2
            have s1 : l.a = (lifeP p).a := by rw [hlk]; exact (outTo_same p _).1.symm
            have s2 : l.b = (lifeP p).b := by rw [hlk]; exact (outTo_same p _).2.1.symm
            have s3 : l.sets = (lifeP p).sets := by rw [hlk]; exact (outTo_same p _).2.2.symm
            subst hlp
            refine Wc.seq ?_
            refine Wc.region rfl ?_
            refine Wl.q rfl (Qy.lss rfl rfl) ?_
            refine Wl.done ?_
            refine Ar.next ?_
            refine Wc.seq ?_
            refine Wc.condN rfl (by first | assumption | omega) ?_
            refine Wc.exit ?_
            refine Ar.passExit ?_
            refine Ar.passExit ?_
            refine Ar.here ?_
            refine Ar.next ?_
            refine Wc.seq ?_
            refine Wc.region rfl ?_
            refine Wl.q rfl (Qy.move rfl) ?_
            refine Wl.q rfl (Qy.assign rfl) ?_
            refine Wl.q rfl (Qy.assign rfl) ?_
            refine Wl.done ?_
            refine Ar.next ?_
            refine Wc.ret ?_
            refine Ar.pick [63, 1, 60, 61, 62, 69, 65] (by decide) (Ar.out2 (.inr rfl) rfl (.tmp rfl) (.tmp rfl) (Hp.sub_self 0 _) ?_)
            rw [s1] at hoa
            rw [s2] at hob
            rw [s3] at hoz
            refine ⟨u, nb1, nc1, nj1, x, y, z, (life0 p).a.length, oo, od, oj, o, d, j, rfl, hon1, hoa, hob, hoz, hoo, hot2, ?_, rfl⟩
            rw [s1, s2, s3]
            rfl
end Go.Proofs.Ytfleehgbpgmcnaa
set_option maxRecDepth 100000
set_option linter.unusedVariables false
namespace Go.Proofs.Ytfleehgbpgmcnaa
open Go Go.Sl
set_option maxHeartbeats 4000000
section
variable {P : Program} {B : Bs} {e : Env} {D : List Deferred} {H : Hp} {G : Imm}
theorem Qy.indexA {ty : TypeId} {T et : TypeId} {len i : Nat} {x y : Operand} {cs : List Value} {v : Value} (hT : P.underlying T = some (.array len et)) (h1 : P.plainKey et = true) (hs : (P.info? et).map (·.size) = some 1)
    (hx : e.ev x = some (.agg cs.toArray)) (hy : e.ev y = some (.int .i64 (i : Int))) (hi : i < len) (hv : cs[i]? = some v) : Qy P (.index T x y) ty e H G v := fun a w _ _ _ _ hh => by
  have hp : (part et cs.toArray i).run P w = .ok v w := by
    unfold Program.plainKey at h1
    cases hu : P.underlying et with
    | none => simp [hu] at h1
    | some d => cases d <;> simp [hu] at h1 <;> simp [part, isAgg, run_underlying hu, hv, Result.andThen]
  have hsz := Go.Sl.run_sizeOf (P := P) w hs
  have h2 : (0 : Int) ≤ (i : Int) ∧ (i : Int) < (len : Int) := by omega
  simp only [execOp, hh.eval hx, hh.eval hy, Instr.index, asIntOf, Sem.run_bind, Sem.run_pure, Result.andThen_ok, run_underlying hT]
  rw [if_pos h2]
  simp only [Sem.run_bind, hsz, Result.andThen_ok, Int.toNat_natCast, Nat.mul_one, hp, Sem.run_pure]
end
theorem und62 : Try.prog.underlying 62 = some (.array 2 3) := by kernel_rfl
theorem pk3 : Try.prog.plainKey 3 = true := by kernel_rfl
theorem size3 : (Try.prog.info? 3).map (·.size) = some 1 := by kernel_rfl
section
variable {P : Program} {B : Bs} {e : Env} {D : List Deferred} {H : Hp} {G : Imm}
theorem Wc.retag {r : Option Nat} {c : Code} {Q : Exit → Act → World → Prop} (t t' : Nat) {k : Option Nat} {o : Obj} (ht : H.get t = some (k, o)) (hn : Nat.beq t t' = false) (h : Wc r P c B ⟨e, D, (t', k, o) :: (t, none, o) :: H, G⟩ Q) : Wc r P c B ⟨e, D, H, G⟩ Q :=
  fun a w hh => h a w (retagH hh t t' ht (fun e => by subst e; simp at hn) (.inr trivial))
end
theorem needed_len9 (p : PV) : (neededP p).length = p.code.length := by unfold neededP; exact (needTo_len p _).2
def freesTo (l : Life) (k : Nat) (s : Pl) : Nat → Pl
  | 0 => s
  | 1 => freeAt l k s (l.a[((k : Nat) : Int).toNat]?.getD default)
  | _ => freeAt l k (freeAt l k s (l.a[((k : Nat) : Int).toNat]?.getD default)) (l.b[((k : Nat) : Int).toNat]?.getD default)
theorem sets_keep (p : PV) {k : Nat} : ∀ (j : Nat), k < j → j ≤ p.code.length → (lifeTo p j).sets[((k : Nat) : Int).toNat]?.getD default = (lifeTo p (k + 1)).sets[((k : Nat) : Int).toNat]?.getD default
  | 0, h, _ => absurd h (Nat.not_lt_zero _)
  | j + 1, h, hj => by
    by_cases hk : k = j
    · rw [hk]
    · rw [← sets_keep p j (by omega) (by omega)]
      show (if nAt p j = true then lifeStep (lifeTo p j) j (cAt p j) else lifeTo p j).sets[_]?.getD default = _
      split
      · show ((lifeTo p j).sets.set j _)[((k : Nat) : Int).toNat]?.getD default = _
        rw [List.getElem?_set, if_neg (by omega)]
      · rfl
theorem life_sets {p : PV} (hR : rightP p = true) {k : Nat} (hk : k < p.code.length) (hn : nAt p k = true) : (lifeP p).sets[((k : Nat) : Int).toNat]?.getD default = (lifeTo p k).till.length := by
  unfold lifeP
  rw [(outTo_same p _).2.2, sets_keep p p.code.length hk (Nat.le_refl _)]
  show (if nAt p k = true then lifeStep (lifeTo p k) k (cAt p k) else lifeTo p k).sets[_]?.getD default = _
  rw [if_pos hn]
  exact set_back_i (by rw [(lifeTo_ok hR k (by omega)).sl]; exact hk)
theorem map_take_next {l : List Int} {f : Int → Int} {k : Nat} (h : k < l.length) : (l.map f).take (k + 1) = (l.map f).take k ++ [f (l[((k : Nat) : Int).toNat]?.getD default)] := by
  rw [List.take_succ_eq_append_getElem (by rw [List.length_map]; exact h), Int.toNat_natCast, List.getElem?_eq_getElem h, List.getElem_map]; rfl
theorem lay_keys (l : Life) : ∀ (n : Nat) (v : Int), (n : Int) ≤ v → mget (layTo l n).at_ v = none
  | 0, v, _ => rfl
  | n + 1, v, h => by
    show mget (mput (layTo l n).at_ n _) v = none
    rw [mget_mput, if_neg (by omega), lay_keys l n v (by omega)]
theorem lay0_keys {p : PV} {s : Pl} (hs : s = lay0 p (lifeP p)) (h : 1 ≤ p.ins) (v : Int) (hv : (lifeTo p 0).till.length ≤ v) : mget s.at_ v = none := by
  have h1 : (lifeTo p 0).till.length = p.ins.toNat + 1 := List.length_replicate
  rw [h1] at hv
  rw [hs]
  unfold lay0
  split
  · show mget (mput (layTo (lifeP p) p.ins.toNat).at_ p.ins _) v = none
    rw [mget_mput, if_neg (by omega), lay_keys _ _ v (by omega)]
  · exact lay_keys _ _ v (by omega)
attribute [local irreducible] lifeP neededP rightP least
theorem c42R (G : Imm) (p : PV) (ac ao : Option Addr) (cc co : Nat) (hc : Arr G ac p.code) (ho : Arr G ao p.outs) (h1 : p.code.length ≤ 1099511627776) (h2 : p.outs.length ≤ 1099511627776) (hR : rightP p = true) :
    Does Try.prog 42 [.agg #[.int .i64 p.ins, .int .i64 p.regs, .slice ac p.code.length cc, .slice ao p.outs.length co]] G [] (fun v G' Ho =>
      ∃ bc bo dc do_ j1 j2, v = .tuple #[.agg #[.int .i64 (orderP p).ins, .int .i64 (orderP p).regs, .slice bc (orderP p).code.length dc, .slice bo (orderP p).outs.length do_], .int .i64 0] ∧
        OwnA bc dc (orderP p).code j1 ∧ OwnA bo do_ (orderP p).outs j2 ∧ Ho = [(0, bc.map (·.block), Row 34 (orderP p).code j1), (1, bo.map (·.block), Row 3 (orderP p).outs j2)] ∧ G' = G) := by
  obtain ⟨r1, r2, r3, r4, r5, r6, r7, r8⟩ := right_facts hR
  have hlok := lifeP_ok hR
  obtain ⟨k1, k2, k3, k4, k5, k6, k7, k8, k9, k10, k11⟩ := hlok
  refine Does.enter Try.func42 rfl Try.ntmps42 rfl (fun w => ?_)
  refine Wc.seq ?_
  refine Wc.region rfl ?_
  refine Wl.box 0 rfl rfl rfl (fun b1 => ?_)
  refine Wl.alloc 1 rfl T.zero25 (fun b2 => ?_)
  refine Wl.q rfl (Qy.assign rfl) ?_
  refine Wl.done ?_
  refine Ar.next ?_
  refine Wc.seq ?_
  refine Wc.region rfl ?_
  refine Wl.q rfl (Qy.loadAll 0 T.agg25 rfl rfl rfl) ?_
  refine Wl.call 2 rfl T.fn73 rfl (c73 _ _ _ _ _ _ (by assumption) (by assumption) (by omega) (by omega) hR) (tags_of trivial) (fun v1 G1 Ho1 hle1 hp => ?_)
  obtain ⟨lu1, lnb1, lnc1, lnj1, lx1, ly1, lz1, ln1, loo1, lod1, loj1, lo1, ld1, lj1, rfl, hln1, hlx1, hly1, hlz1, hlo1, hlt1, rfl, rfl⟩ := hp
  refine Wl.q rfl (Qy.move rfl) ?_
  refine Wl.q rfl (Qy.extract rfl rfl) ?_
  refine Wl.q rfl (Qy.extract rfl rfl) ?_
  refine Wl.q rfl (Qy.assign rfl) ?_
  refine Wl.q rfl (Qy.assign rfl) ?_
  refine Wl.done ?_
  refine Ar.next ?_
  refine Wc.seq ?_
  refine Wc.seq ?_
  refine Wc.region rfl ?_
  refine Wl.q rfl (Qy.move rfl) ?_
  refine Wl.q rfl (Qy.neq rfl rfl) ?_
  refine Wl.done ?_
  refine Ar.next ?_
  refine Wc.condN rfl (by first | assumption | omega) ?_
  refine Wc.skip ?_
  refine Ar.next ?_
  refine Wc.seq ?_
  refine Wc.region rfl ?_
  refine Wl.makeMap (κ := Int) 9 rfl (fun b3 => ?_)
  refine Wl.q rfl (Qy.build (cs := [_, _]) T.st114 rfl rfl rfl) ?_
  refine Wl.box 10 rfl rfl rfl (fun b4 => ?_)
  refine Wl.q rfl (Qy.assign rfl) ?_
  refine Wl.done ?_
  refine Ar.next ?_
  refine Wc.seq ?_
  refine Wc.seq ?_
  refine Wc.region rfl ?_
  refine Wl.q rfl (Qy.fieldAddr T.fa25_0 rfl) ?_
  refine Wl.q rfl (Qy.load 0 T.one3 rfl rfl rfl) ?_
  refine Wl.q rfl (Qy.move rfl) ?_
  refine Wl.done ?_
  refine Ar.next ?_
  refine Wc.block ?_
  refine Wc.retag 9 11 rfl rfl ?_
  refine Wc.nilRow 12 (Row 4 ([] : List Bool) []) ?_
  refine Wc.loop (ι := Nat × Pl × (Option Addr × Nat × List Value)) (fun (v, s, (a, c, j)) => ([(30, .int .i64 (v : Int)), (29, Go.Value.int Go.IntKind.i64 (Go.Proofs.Ytfleehgbpgmcnaa.PV.ins p)), (6, Go.Value.pointer (Option.some (Go.Addr.mk b4 0 Option.none))), (4, Go.Value.pointer (Option.some (Go.Addr.mk lu1 0 Option.none))), (3, Go.Value.int Go.IntKind.i64 0), (2, Go.Value.pointer (Option.some (Go.Addr.mk b2 0 Option.none))), (1, Go.Value.pointer (Option.some (Go.Addr.mk b1 0 Option.none)))], [(10, some b4, .cells #[.map (some b3), .slice a s.free.length c] 114), (11, some b3, mapObj s.at_), (12, a.map (·.block), Row 4 s.free j), (2, Option.some lu1, Go.Obj.cells #[Go.Value.int Go.IntKind.i64 (Go.Proofs.Ytfleehgbpgmcnaa.PV.ins p), Go.Value.int Go.IntKind.i64 (Go.Proofs.Ytfleehgbpgmcnaa.PV.regs p), Go.Value.slice ac (List.length (Go.Proofs.Ytfleehgbpgmcnaa.PV.code p)) cc, Go.Value.slice ao (List.length (Go.Proofs.Ytfleehgbpgmcnaa.PV.outs p)) co, Go.Value.slice lnb1 (List.length (Go.Proofs.Ytfleehgbpgmcnaa.neededP p)) lnc1, Go.Value.slice (Option.some (Go.Addr.mk lx1 0 Option.none)) (List.length (Go.Proofs.Ytfleehgbpgmcnaa.Life.a (Go.Proofs.Ytfleehgbpgmcnaa.lifeP p))) ln1, Go.Value.slice (Option.some (Go.Addr.mk ly1 0 Option.none)) (List.length (Go.Proofs.Ytfleehgbpgmcnaa.Life.b (Go.Proofs.Ytfleehgbpgmcnaa.lifeP p))) ln1, Go.Value.slice (Option.some (Go.Addr.mk lz1 0 Option.none)) (List.length (Go.Proofs.Ytfleehgbpgmcnaa.Life.sets (Go.Proofs.Ytfleehgbpgmcnaa.lifeP p))) ln1, Go.Value.slice loo1 (List.length (Go.Proofs.Ytfleehgbpgmcnaa.Life.outs (Go.Proofs.Ytfleehgbpgmcnaa.lifeP p))) lod1, Go.Value.slice lo1 (List.length (Go.Proofs.Ytfleehgbpgmcnaa.Life.till (Go.Proofs.Ytfleehgbpgmcnaa.lifeP p))) ld1] 117), (3, Option.map (fun x => Go.Addr.block x) lnb1, Go.Sl.Row (α := Bool) 4 (Go.Proofs.Ytfleehgbpgmcnaa.neededP p) (lnj1)), (4, Option.some lx1, Go.Sl.Row (α := Int) 3 (Go.Proofs.Ytfleehgbpgmcnaa.Life.a (Go.Proofs.Ytfleehgbpgmcnaa.lifeP p)) ([])), (5, Option.some ly1, Go.Sl.Row (α := Int) 3 (Go.Proofs.Ytfleehgbpgmcnaa.Life.b (Go.Proofs.Ytfleehgbpgmcnaa.lifeP p)) ([])), (6, Option.some lz1, Go.Sl.Row (α := Int) 3 (Go.Proofs.Ytfleehgbpgmcnaa.Life.sets (Go.Proofs.Ytfleehgbpgmcnaa.lifeP p)) ([])), (7, Option.map (fun x => Go.Addr.block x) loo1, Go.Sl.Row (α := Int) 3 (Go.Proofs.Ytfleehgbpgmcnaa.Life.outs (Go.Proofs.Ytfleehgbpgmcnaa.lifeP p)) (loj1)), (8, Option.map (fun x => Go.Addr.block x) lo1, Go.Sl.Row (α := Int) 3 (Go.Proofs.Ytfleehgbpgmcnaa.Life.till (Go.Proofs.Ytfleehgbpgmcnaa.lifeP p)) (lj1)), (1, Option.some b2, Go.Obj.cells #[Go.Value.int Go.IntKind.i64 0, Go.Value.int Go.IntKind.i64 0, Go.Value.slice Option.none 0 0, Go.Value.slice Option.none 0 0] 25), (0, Option.some b1, Go.Obj.cells #[Go.Value.int Go.IntKind.i64 (Go.Proofs.Ytfleehgbpgmcnaa.PV.ins p), Go.Value.int Go.IntKind.i64 (Go.Proofs.Ytfleehgbpgmcnaa.PV.regs p), Go.Value.slice ac (List.length (Go.Proofs.Ytfleehgbpgmcnaa.PV.code p)) cc, Go.Value.slice ao (List.length (Go.Proofs.Ytfleehgbpgmcnaa.PV.outs p)) co] 25)])) (fun (v, s, (a, c, j)) => (v : Int) ≤ p.ins ∧ s = layTo (lifeP p) v ∧ OwnA a c s.free j) (fun (v, s, (a, c, j)) => p.ins.toNat - v) ((0, ⟨[], []⟩, (none, 0, []))) (⟨by show (0 : Int) ≤ _; omega, rfl, OwnA.nil⟩) ⟨rfl, rfl, rfl, rfl, rfl, rfl, rfl, trivial⟩ ⟨rfl, rfl, rfl, rfl, rfl, rfl, rfl, rfl, rfl, rfl, rfl, rfl, trivial⟩ (fun ⟨v, s, (a, c, j)⟩ => fun (hk : (v : Int) ≤ p.ins ∧ s = layTo (lifeP p) v ∧ OwnA a c s.free j) => ?_)
  obtain ⟨hv1, hs, hoa⟩ := hk
  have hsl : s.free.length = v := by rw [hs]; exact layTo_len _ v
  by_cases hvi : (v : Int) < p.ins
  · refine Wc.seq ?_
    refine Wc.region rfl ?_
    refine Wl.q rfl (Qy.lss rfl rfl) ?_
    refine Wl.done ?_
    refine Ar.next ?_
    refine Wc.seq ?_
    refine Wc.condP rfl (by first | assumption | omega) ?_
    refine Wc.skip ?_
    refine Ar.next ?_
    refine Wc.seq ?_
    refine Wc.block ?_
    refine Wc.seq ?_
    refine Wc.region rfl ?_
    refine Wl.q rfl (Qy.move rfl) ?_
    refine Wl.q rfl (Qy.assign rfl) ?_
    refine Wl.done ?_
    refine Ar.next ?_
    refine Wc.region rfl ?_
    refine Wl.q rfl (Qy.move rfl) ?_
    refine Wl.q rfl (Qy.move rfl) ?_
    refine Wl.q rfl (Qy.move rfl) ?_
    refine Wl.q rfl (Qy.nilCheck rfl) ?_
    refine Wl.q rfl (Qy.fieldAddr T.fa117_6 rfl) ?_
    refine Wl.q rfl (Qy.load 2 T.one23 rfl rfl rfl) ?_
    refine Wl.q rfl (Qy.move rfl) ?_
    refine Wl.q rfl (Qy.indexAddrO (α := Int) T.sl23 rfl rfl (by assumption) (by omega)) ?_
    refine Wl.q rfl (Qy.loadO 8 0 T.one3 rfl rfl (by assumption) (by omega) rfl rfl) ?_
    refine Wl.call 10 rfl T.fn74 rfl (c74 _ s _ _ _ _ _ _ _ hoa (by omega)) (tags_of ⟨rfl, rfl, rfl, trivial⟩) (fun v2 G2 Ho2 hle2 hp => ?_)
    obtain ⟨pa2, pc2, pj2, rfl, hpo2, rfl, rfl⟩ := hp
    refine Wl.done ?_
    refine Ar.outNormal ?_
    refine Ar.next ?_
    refine Wc.region rfl ?_
    refine Wl.q rfl (Qy.add rfl rfl (by omega)) ?_
    refine Wl.q rfl (Qy.move rfl) ?_
    refine Wl.done ?_
    refine Ar.again ((v + 1, layP s v ((lifeP p).till[((v : Nat) : Int).toNat]?.getD default), (pa2, pc2, pj2))) ?_ ?_ rfl ⟨rfl, rfl, rfl, rfl, rfl, rfl, rfl, trivial⟩ ⟨rfl, rfl, rfl, rfl, rfl, rfl, rfl, rfl, rfl, rfl, rfl, rfl, trivial⟩
    · exact ⟨by omega, by rw [hs]; rfl, hpo2⟩
    · show p.ins.toNat - (v + 1) < p.ins.toNat - v
      omega
  · have hve : v = p.ins.toNat := by omega
    refine Wc.seq ?_
    refine Wc.region rfl ?_
    refine Wl.q rfl (Qy.lss rfl rfl) ?_
    refine Wl.done ?_
    refine Ar.next ?_
    refine Wc.seq ?_
    refine Wc.condN rfl (by first | assumption | omega) ?_
    refine Wc.exit ?_
    refine Ar.passExit ?_
    refine Ar.passExit ?_
    refine Ar.here ?_
    refine Ar.next ?_
    refine Wc.meet (ι := Pl × (Option Addr × Nat × List Value)) (fun (s0, (a0, c0, j0)) => ([(6, Go.Value.pointer (Option.some (Go.Addr.mk b4 0 Option.none))), (4, Go.Value.pointer (Option.some (Go.Addr.mk lu1 0 Option.none))), (3, Go.Value.int Go.IntKind.i64 0), (2, Go.Value.pointer (Option.some (Go.Addr.mk b2 0 Option.none))), (1, Go.Value.pointer (Option.some (Go.Addr.mk b1 0 Option.none)))], [(10, some b4, .cells #[.map (some b3), .slice a0 s0.free.length c0] 114), (11, some b3, mapObj s0.at_), (12, a0.map (·.block), Row 4 s0.free j0), (2, Option.some lu1, Go.Obj.cells #[Go.Value.int Go.IntKind.i64 (Go.Proofs.Ytfleehgbpgmcnaa.PV.ins p), Go.Value.int Go.IntKind.i64 (Go.Proofs.Ytfleehgbpgmcnaa.PV.regs p), Go.Value.slice ac (List.length (Go.Proofs.Ytfleehgbpgmcnaa.PV.code p)) cc, Go.Value.slice ao (List.length (Go.Proofs.Ytfleehgbpgmcnaa.PV.outs p)) co, Go.Value.slice lnb1 (List.length (Go.Proofs.Ytfleehgbpgmcnaa.neededP p)) lnc1, Go.Value.slice (Option.some (Go.Addr.mk lx1 0 Option.none)) (List.length (Go.Proofs.Ytfleehgbpgmcnaa.Life.a (Go.Proofs.Ytfleehgbpgmcnaa.lifeP p))) ln1, Go.Value.slice (Option.some (Go.Addr.mk ly1 0 Option.none)) (List.length (Go.Proofs.Ytfleehgbpgmcnaa.Life.b (Go.Proofs.Ytfleehgbpgmcnaa.lifeP p))) ln1, Go.Value.slice (Option.some (Go.Addr.mk lz1 0 Option.none)) (List.length (Go.Proofs.Ytfleehgbpgmcnaa.Life.sets (Go.Proofs.Ytfleehgbpgmcnaa.lifeP p))) ln1, Go.Value.slice loo1 (List.length (Go.Proofs.Ytfleehgbpgmcnaa.Life.outs (Go.Proofs.Ytfleehgbpgmcnaa.lifeP p))) lod1, Go.Value.slice lo1 (List.length (Go.Proofs.Ytfleehgbpgmcnaa.Life.till (Go.Proofs.Ytfleehgbpgmcnaa.lifeP p))) ld1] 117), (3, Option.map (fun x => Go.Addr.block x) lnb1, Go.Sl.Row (α := Bool) 4 (Go.Proofs.Ytfleehgbpgmcnaa.neededP p) (lnj1)), (4, Option.some lx1, Go.Sl.Row (α := Int) 3 (Go.Proofs.Ytfleehgbpgmcnaa.Life.a (Go.Proofs.Ytfleehgbpgmcnaa.lifeP p)) ([])), (5, Option.some ly1, Go.Sl.Row (α := Int) 3 (Go.Proofs.Ytfleehgbpgmcnaa.Life.b (Go.Proofs.Ytfleehgbpgmcnaa.lifeP p)) ([])), (6, Option.some lz1, Go.Sl.Row (α := Int) 3 (Go.Proofs.Ytfleehgbpgmcnaa.Life.sets (Go.Proofs.Ytfleehgbpgmcnaa.lifeP p)) ([])), (7, Option.map (fun x => Go.Addr.block x) loo1, Go.Sl.Row (α := Int) 3 (Go.Proofs.Ytfleehgbpgmcnaa.Life.outs (Go.Proofs.Ytfleehgbpgmcnaa.lifeP p)) (loj1)), (8, Option.map (fun x => Go.Addr.block x) lo1, Go.Sl.Row (α := Int) 3 (Go.Proofs.Ytfleehgbpgmcnaa.Life.till (Go.Proofs.Ytfleehgbpgmcnaa.lifeP p)) (lj1)), (1, Option.some b2, Go.Obj.cells #[Go.Value.int Go.IntKind.i64 0, Go.Value.int Go.IntKind.i64 0, Go.Value.slice Option.none 0 0, Go.Value.slice Option.none 0 0] 25), (0, Option.some b1, Go.Obj.cells #[Go.Value.int Go.IntKind.i64 (Go.Proofs.Ytfleehgbpgmcnaa.PV.ins p), Go.Value.int Go.IntKind.i64 (Go.Proofs.Ytfleehgbpgmcnaa.PV.regs p), Go.Value.slice ac (List.length (Go.Proofs.Ytfleehgbpgmcnaa.PV.code p)) cc, Go.Value.slice ao (List.length (Go.Proofs.Ytfleehgbpgmcnaa.PV.outs p)) co] 25)])) (fun (s0, (a0, c0, j0)) => s0 = lay0 p (lifeP p) ∧ OwnA a0 c0 s0.free j0) ?_ (fun ⟨s0, (a0, c0, j0)⟩ => fun (hk : s0 = lay0 p (lifeP p) ∧ OwnA a0 c0 s0.free j0) => ?_)
    · refine Wc.seq ?_
      refine Wc.draw [0, 1, 8, 7, 6, 5, 4, 3, 2, 12, 11, 10] [] T.mixed rfl ?_
      refine Gm.q 0 [] (by kernel_rfl) rfl rfl (Qy.move rfl) ?_
      refine Gm.q 1 [] (by kernel_rfl) rfl rfl (Qy.nilCheck rfl) ?_
      refine Gm.q 2 [] (by kernel_rfl) rfl rfl (Qy.fieldAddr T.fa117_6 rfl) ?_
      refine Gm.q 3 [2] (by kernel_rfl) rfl rfl (Qy.load 2 T.one23 rfl rfl rfl) ?_
      refine Gm.q 4 [] (by kernel_rfl) rfl rfl (Qy.fieldAddr T.fa25_0 rfl) ?_
      refine Gm.q 5 [0] (by kernel_rfl) rfl rfl (Qy.load 0 T.one3 rfl rfl rfl) ?_
      refine Gm.q 6 [] (by kernel_rfl) rfl rfl (Qy.indexAddrO (α := Int) T.sl23 rfl rfl (by assumption) (by omega)) ?_
      refine Gm.q 7 [0, 8] (by kernel_rfl) rfl rfl (Qy.loadO 8 0 T.one3 rfl rfl (by assumption) (by omega) rfl rfl) ?_
      refine Gm.q 8 [] (by kernel_rfl) rfl rfl (Qy.geq rfl rfl) ?_
      refine Gm.doneA (by kernel_rfl) ⟨rfl, rfl, rfl, rfl, rfl, rfl, rfl, rfl, rfl, rfl, rfl, rfl, trivial⟩ (by first | exact Imm.le_refl _ | assumption | (refine Imm.le_trans ?_ (by assumption); first | assumption | (refine Imm.le_trans ?_ (by assumption); assumption))) ?_
      refine Ar.next ?_
      refine Wc.cond rfl (fun hc1 => ?_) (fun hc1 => ?_)
      refine Wc.draw [0, 1, 8, 7, 6, 5, 4, 3, 2, 12, 11, 10] [(12, 11), (11, 11), (10, 11)] T.mixed rfl ?_
      refine Gm.q 0 [] (by kernel_rfl) rfl rfl (Qy.move rfl) ?_
      refine Gm.q 1 [] (by kernel_rfl) rfl rfl (Qy.fieldAddr T.fa25_0 rfl) ?_
      refine Gm.q 2 [0] (by kernel_rfl) rfl rfl (Qy.load 0 T.one3 rfl rfl rfl) ?_
      refine Gm.q 3 [] (by kernel_rfl) rfl rfl (Qy.move rfl) ?_
      refine Gm.q 4 [] (by kernel_rfl) rfl rfl (Qy.nilCheck rfl) ?_
      refine Gm.q 5 [] (by kernel_rfl) rfl rfl (Qy.fieldAddr T.fa117_6 rfl) ?_
      refine Gm.q 6 [2] (by kernel_rfl) rfl rfl (Qy.load 2 T.one23 rfl rfl rfl) ?_
      refine Gm.q 7 [] (by kernel_rfl) rfl rfl (Qy.fieldAddr T.fa25_0 rfl) ?_
      refine Gm.q 8 [0] (by kernel_rfl) rfl rfl (Qy.load 0 T.one3 rfl rfl rfl) ?_
      refine Gm.q 9 [] (by kernel_rfl) rfl rfl (Qy.indexAddrO (α := Int) T.sl23 rfl rfl (by assumption) (by omega)) ?_
      refine Gm.q 10 [0, 8] (by kernel_rfl) rfl rfl (Qy.loadO 8 0 T.one3 rfl rfl (by assumption) (by omega) rfl rfl) ?_
      refine Gm.one 11 ⟨rfl, rfl, rfl, rfl, rfl, rfl, rfl, rfl, rfl, rfl, rfl, rfl, trivial⟩ (by first | exact Imm.le_refl _ | assumption | (refine Imm.le_trans ?_ (by assumption); first | assumption | (refine Imm.le_trans ?_ (by assumption); assumption))) (by kernel_rfl) rfl ?_
      refine Wl.call 10 rfl T.fn74 rfl (c74 _ s _ _ _ _ _ _ _ hoa (by omega)) (tags_of ⟨rfl, rfl, rfl, trivial⟩) (fun v2 G2 Ho2 hle2 hp => ?_)
      obtain ⟨pa2, pc2, pj2, rfl, hpo2, rfl, rfl⟩ := hp
      refine Wl.on0 ?_
      refine Gm.doneA (by kernel_rfl) ⟨rfl, rfl, rfl, rfl, rfl, rfl, rfl, rfl, rfl, trivial⟩ (by first | exact Imm.le_refl _ | assumption | (refine Imm.le_trans ?_ (by assumption); first | assumption | (refine Imm.le_trans ?_ (by assumption); assumption))) ?_
      rotate_left
      refine Wc.skip ?_
      rotate_left
      · refine Ar.meet ((layP s p.ins ((lifeP p).till[p.ins.toNat]?.getD default), (pa2, pc2, pj2))) ?_ rfl ⟨rfl, rfl, rfl, rfl, rfl, trivial⟩ ⟨rfl, rfl, rfl, rfl, rfl, rfl, rfl, rfl, rfl, rfl, rfl, rfl, trivial⟩
        exact ⟨by rw [hs, hve]; exact (if_pos (by omega)).symm, hpo2⟩
      · refine Ar.meet ((s, (a, c, j))) ?_ rfl ⟨rfl, rfl, rfl, rfl, rfl, trivial⟩ ⟨rfl, rfl, rfl, rfl, rfl, rfl, rfl, rfl, rfl, rfl, rfl, rfl, trivial⟩
        exact ⟨by rw [hs, hve]; exact (if_neg (by omega)).symm, hoa⟩
    · obtain ⟨hs0, hoa0⟩ := hk
      have hl0 := lay0_ok r1 (lifeP p)
      rw [← hs0] at hl0
      obtain ⟨hp0, hf1, hf2⟩ := hl0
      refine Wc.seq ?_
      refine Wc.draw [0, 1, 8, 7, 6, 5, 4, 3, 2, 12, 11, 10] [] T.mixed rfl ?_
      refine Gm.q 0 [] (by kernel_rfl) rfl rfl (Qy.fieldAddr T.fa25_0 rfl) ?_
      refine Gm.q 1 [0] (by kernel_rfl) rfl rfl (Qy.load 0 T.one3 rfl rfl rfl) ?_
      refine Gm.q 2 [] (by kernel_rfl) rfl rfl (Qy.fieldAddr T.fa25_0 rfl) ?_
      refine Gm.q 3 [0] (by kernel_rfl) rfl rfl (Qy.load 0 T.one3 rfl rfl rfl) ?_
      refine Gm.q 4 [] (by kernel_rfl) rfl rfl (Qy.move rfl) ?_
      refine Gm.q 5 [] (by kernel_rfl) rfl rfl (Qy.nilCheck rfl) ?_
      refine Gm.q 6 [] (by kernel_rfl) rfl rfl (Qy.fieldAddr T.fa114_1 rfl) ?_
      refine Gm.q 7 [10] (by kernel_rfl) rfl rfl (Qy.load 10 T.one64 rfl rfl rfl) ?_
      refine Gm.q 8 [] (by kernel_rfl) rfl rfl (Qy.len T.sl64 rfl) ?_
      refine Gm.q 9 [] (by kernel_rfl) rfl rfl (Qy.max rfl rfl) ?_
      refine Gm.q 10 [] (by kernel_rfl) rfl rfl (Qy.build (cs := [_, _, _, _]) T.st25 rfl rfl rfl) ?_
      refine Gm.one 11 ⟨rfl, rfl, rfl, rfl, rfl, rfl, rfl, rfl, rfl, rfl, rfl, rfl, trivial⟩ (by first | exact Imm.le_refl _ | assumption | (refine Imm.le_trans ?_ (by assumption); first | assumption | (refine Imm.le_trans ?_ (by assumption); assumption))) (by kernel_rfl) rfl ?_
      refine Wl.alloc 13 rfl T.zero25 (fun b5 => ?_)
      refine Wl.on0 ?_
      refine Gm.one 12 ⟨rfl, rfl, rfl, rfl, rfl, rfl, rfl, rfl, rfl, rfl, rfl, rfl, trivial⟩ (by first | exact Imm.le_refl _ | assumption | (refine Imm.le_trans ?_ (by assumption); first | assumption | (refine Imm.le_trans ?_ (by assumption); assumption))) (by kernel_rfl) rfl ?_
      refine Wl.storeAll 13 T.size25 rfl rfl rfl rfl rfl rfl ?_
      refine Wl.on0 ?_
      refine Gm.doneA (by kernel_rfl) ⟨rfl, rfl, rfl, rfl, rfl, rfl, rfl, rfl, rfl, rfl, rfl, rfl, trivial⟩ (by first | exact Imm.le_refl _ | assumption | (refine Imm.le_trans ?_ (by assumption); first | assumption | (refine Imm.le_trans ?_ (by assumption); assumption))) ?_
      refine Ar.next ?_
      refine Wc.seq ?_
      refine Wc.seq ?_
      refine Wc.region rfl ?_
      refine Wl.q rfl (Qy.fieldAddr T.fa25_2 rfl) ?_
      refine Wl.q rfl (Qy.load 0 T.one22 rfl rfl rfl) ?_
      refine Wl.q rfl (Qy.len T.sl22 rfl) ?_
      refine Wl.q rfl (Qy.move rfl) ?_
      refine Wl.done ?_
      refine Ar.next ?_
      refine Wc.block ?_
      refine Wc.reH 13 (.cells #[.int .i64 p.ins, .int .i64 (pkTo p 0).regs, .slice none 0 0, .slice none 0 0] 25) rfl (by rw [show (pkTo p 0).regs = (if p.ins < (s0.free.length : Int) then (s0.free.length : Int) else p.ins) from by show max p.ins ((lay0 p (lifeP p)).free.length : Int) = _; rw [← hs0]; split <;> omega]) ?_
      refine Wc.nilRow 14 (Row 34 ([] : List Sl.Instr) []) ?_
      refine Wc.loop (ι := Nat × PkS × (Option Addr × Nat × List Value) × (Option Addr × Nat × List Value)) (fun (k, x, (oa, oc, oj), (a, c, j)) => ([(79, .int .i64 (k : Int)), (78, Go.Value.int Go.IntKind.i64 (↑(List.length (Go.Proofs.Ytfleehgbpgmcnaa.PV.code p)) : Int)), (77, Go.Value.slice ac (List.length (Go.Proofs.Ytfleehgbpgmcnaa.PV.code p)) cc), (8, Go.Value.pointer (Option.some (Go.Addr.mk b5 0 Option.none))), (6, Go.Value.pointer (Option.some (Go.Addr.mk b4 0 Option.none))), (4, Go.Value.pointer (Option.some (Go.Addr.mk lu1 0 Option.none))), (3, Go.Value.int Go.IntKind.i64 0), (2, Go.Value.pointer (Option.some (Go.Addr.mk b2 0 Option.none)))], [(10, some b4, .cells #[.map (some b3), .slice a x.s.free.length c] 114), (11, some b3, mapObj x.s.at_), (12, a.map (·.block), Row 4 x.s.free j), (13, some b5, .cells #[.int .i64 p.ins, .int .i64 x.regs, .slice oa x.code.length oc, .slice none 0 0] 25), (14, oa.map (·.block), Row 34 x.code oj), (2, Option.some lu1, Go.Obj.cells #[Go.Value.int Go.IntKind.i64 (Go.Proofs.Ytfleehgbpgmcnaa.PV.ins p), Go.Value.int Go.IntKind.i64 (Go.Proofs.Ytfleehgbpgmcnaa.PV.regs p), Go.Value.slice ac (List.length (Go.Proofs.Ytfleehgbpgmcnaa.PV.code p)) cc, Go.Value.slice ao (List.length (Go.Proofs.Ytfleehgbpgmcnaa.PV.outs p)) co, Go.Value.slice lnb1 (List.length (Go.Proofs.Ytfleehgbpgmcnaa.neededP p)) lnc1, Go.Value.slice (Option.some (Go.Addr.mk lx1 0 Option.none)) (List.length (Go.Proofs.Ytfleehgbpgmcnaa.Life.a (Go.Proofs.Ytfleehgbpgmcnaa.lifeP p))) ln1, Go.Value.slice (Option.some (Go.Addr.mk ly1 0 Option.none)) (List.length (Go.Proofs.Ytfleehgbpgmcnaa.Life.b (Go.Proofs.Ytfleehgbpgmcnaa.lifeP p))) ln1, Go.Value.slice (Option.some (Go.Addr.mk lz1 0 Option.none)) (List.length (Go.Proofs.Ytfleehgbpgmcnaa.Life.sets (Go.Proofs.Ytfleehgbpgmcnaa.lifeP p))) ln1, Go.Value.slice loo1 (List.length (Go.Proofs.Ytfleehgbpgmcnaa.Life.outs (Go.Proofs.Ytfleehgbpgmcnaa.lifeP p))) lod1, Go.Value.slice lo1 (List.length (Go.Proofs.Ytfleehgbpgmcnaa.Life.till (Go.Proofs.Ytfleehgbpgmcnaa.lifeP p))) ld1] 117), (3, Option.map (fun x => Go.Addr.block x) lnb1, Go.Sl.Row (α := Bool) 4 (Go.Proofs.Ytfleehgbpgmcnaa.neededP p) (lnj1)), (4, Option.some lx1, Go.Sl.Row (α := Int) 3 (Go.Proofs.Ytfleehgbpgmcnaa.Life.a (Go.Proofs.Ytfleehgbpgmcnaa.lifeP p)) ([])), (5, Option.some ly1, Go.Sl.Row (α := Int) 3 (Go.Proofs.Ytfleehgbpgmcnaa.Life.b (Go.Proofs.Ytfleehgbpgmcnaa.lifeP p)) ([])), (6, Option.some lz1, Go.Sl.Row (α := Int) 3 (Go.Proofs.Ytfleehgbpgmcnaa.Life.sets (Go.Proofs.Ytfleehgbpgmcnaa.lifeP p)) ([])), (7, Option.map (fun x => Go.Addr.block x) loo1, Go.Sl.Row (α := Int) 3 (Go.Proofs.Ytfleehgbpgmcnaa.Life.outs (Go.Proofs.Ytfleehgbpgmcnaa.lifeP p)) (loj1)), (8, Option.map (fun x => Go.Addr.block x) lo1, Go.Sl.Row (α := Int) 3 (Go.Proofs.Ytfleehgbpgmcnaa.Life.till (Go.Proofs.Ytfleehgbpgmcnaa.lifeP p)) (lj1)), (1, Option.some b2, Go.Obj.cells #[Go.Value.int Go.IntKind.i64 0, Go.Value.int Go.IntKind.i64 0, Go.Value.slice Option.none 0 0, Go.Value.slice Option.none 0 0] 25), (0, Option.some b1, Go.Obj.cells #[Go.Value.int Go.IntKind.i64 (Go.Proofs.Ytfleehgbpgmcnaa.PV.ins p), Go.Value.int Go.IntKind.i64 (Go.Proofs.Ytfleehgbpgmcnaa.PV.regs p), Go.Value.slice ac (List.length (Go.Proofs.Ytfleehgbpgmcnaa.PV.code p)) cc, Go.Value.slice ao (List.length (Go.Proofs.Ytfleehgbpgmcnaa.PV.outs p)) co] 25)])) (fun (k, x, (oa, oc, oj), (a, c, j)) => k ≤ p.code.length ∧ x = pkTo p k ∧ OwnA oa oc x.code oj ∧ OwnA a c x.s.free j ∧ (∀ v : Int, (lifeTo p k).till.length ≤ v → mget x.s.at_ v = none)) (fun (k, x, (oa, oc, oj), (a, c, j)) => p.code.length - k) ((0, ⟨s0, (pkTo p 0).regs, []⟩, (none, 0, []), (a0, c0, j0))) (⟨Nat.zero_le _, by rw [hs0]; rfl, OwnA.nil, hoa0, lay0_keys hs0 r1⟩) ⟨rfl, rfl, rfl, rfl, rfl, rfl, rfl, rfl, trivial⟩ ⟨rfl, rfl, rfl, rfl, rfl, rfl, rfl, rfl, rfl, rfl, rfl, rfl, rfl, rfl, trivial⟩ (fun ⟨k, x, (oa, oc, oj), (a, c, j)⟩ => fun (hk : k ≤ p.code.length ∧ x = pkTo p k ∧ OwnA oa oc x.code oj ∧ OwnA a c x.s.free j ∧ (∀ v : Int, (lifeTo p k).till.length ≤ v → mget x.s.at_ v = none)) => ?_)
      obtain ⟨hkc0, hx, hoc, hof, hkeys⟩ := hk
      have hxo := pkTo_ok r1 k
      have hxl := pkTo_len r1 k
      rw [← hx] at hxo hxl
      obtain ⟨hxl1, hxl2⟩ := hxl
      rcases Nat.lt_or_ge k p.code.length with hkc | hkc
      · have hm := code_may hR hkc
        unfold cAt at hm
        have hnl : (neededP p).length = p.code.length := needed_len9 p
        have hvA := k8 _ (get_mem (r := ((k : Nat) : Int)) (l := (lifeP p).a) (by omega))
        have hvB := k9 _ (get_mem (r := ((k : Nat) : Int)) (l := (lifeP p).b) (by omega))
        refine Wc.seq ?_
        refine Wc.region rfl ?_
        refine Wl.q rfl (Qy.lss rfl rfl) ?_
        refine Wl.done ?_
        refine Ar.next ?_
        refine Wc.seq ?_
        refine Wc.condP rfl (by first | assumption | omega) ?_
        refine Wc.skip ?_
        refine Ar.next ?_
        refine Wc.seq ?_
        refine Wc.block ?_
        refine Wc.seq ?_
        refine Wc.region rfl ?_
        refine Wl.q rfl (Qy.move rfl) ?_
        refine Wl.q rfl (Qy.at (α := Sl.Instr) T.sl22 rfl rfl (by assumption) (by omega)) ?_
        refine Wl.q rfl (Qy.loadsG T.agg34 rfl (Arr.elem (by assumption) (by omega)) rfl) ?_
        refine Wl.alloc 15 rfl T.zero34 (fun b6 => ?_)
        refine Wl.q rfl (Qy.assign rfl) ?_
        refine Wl.storeAll 15 T.size34 rfl rfl rfl rfl rfl rfl ?_
        refine Wl.done ?_
        refine Ar.next ?_
        refine Wc.seq ?_
        refine Wc.seq ?_
        refine Wc.region rfl ?_
        refine Wl.q rfl (Qy.move rfl) ?_
        refine Wl.q rfl (Qy.nilCheck rfl) ?_
        refine Wl.q rfl (Qy.fieldAddr T.fa117_1 rfl) ?_
        refine Wl.q rfl (Qy.load 2 T.one64 rfl rfl rfl) ?_
        refine Wl.q rfl (Qy.move rfl) ?_
        refine Wl.q rfl (Qy.indexAddrO (α := Bool) T.sl64 rfl rfl (by assumption) (by omega)) ?_
        refine Wl.q rfl (Qy.loadO 3 0 T.one4 rfl rfl (by assumption) (by omega) rfl rfl) ?_
        refine Wl.q rfl (Qy.not rfl) ?_
        refine Wl.done ?_
        refine Ar.next ?_
        refine Wc.ite rfl (fun hc1 => ?_) (fun hc1 => ?_)
        refine Wc.exit ?_
        refine Ar.passExit ?_
        refine Ar.here ?_
        refine Ar.next ?_
        refine Wc.region rfl ?_
        refine Wl.q rfl (Qy.add rfl rfl (by omega)) ?_
        refine Wl.q rfl (Qy.move rfl) ?_
        refine Wl.done ?_
        rotate_left
        refine Wc.skip ?_
        refine Ar.next ?_
        refine Wc.seq ?_
        refine Wc.region rfl ?_
        refine Wl.q rfl (Qy.loadAll 15 T.agg34 rfl rfl rfl) ?_
        refine Wl.call 16 rfl T.fn70 rfl (c70 _ _) (tags_of trivial) (fun v2 G2 Ho2 hle2 hp => ?_)
        obtain ⟨ad2, cd2, junk2, rfl, hoa2, rfl, rfl⟩ := hp
        refine Wl.q rfl (Qy.len T.sl23 rfl) ?_
        refine Wl.q rfl (Qy.gtr rfl rfl) ?_
        refine Wl.q rfl (Qy.assign rfl) ?_
        refine Wl.done ?_
        refine Ar.next ?_
        refine Wc.seq ?_
        refine Wc.draw [0, 1, 8, 7, 6, 5, 4, 3, 2, 14, 13, 12, 11, 10, 15, 17] [(15, 13)] T.mixed rfl ?_
        refine Gm.q 0 [] (by kernel_rfl) rfl rfl (Qy.move rfl) ?_
        refine Gm.q 1 [] (by kernel_rfl) rfl rfl (Qy.nilCheck rfl) ?_
        refine Gm.q 2 [] (by kernel_rfl) rfl rfl (Qy.fieldAddr T.fa114_0 rfl) ?_
        refine Gm.q 3 [10] (by kernel_rfl) rfl rfl (Qy.load 10 T.one112 rfl rfl rfl) ?_
        refine Gm.q 4 [] (by kernel_rfl) rfl rfl (Qy.move rfl) ?_
        refine Gm.q 5 [] (by kernel_rfl) rfl rfl (Qy.nilCheck rfl) ?_
        refine Gm.q 6 [] (by kernel_rfl) rfl rfl (Qy.fieldAddr T.fa117_2 rfl) ?_
        refine Gm.q 7 [2] (by kernel_rfl) rfl rfl (Qy.load 2 T.one23 rfl rfl rfl) ?_
        refine Gm.q 8 [] (by kernel_rfl) rfl rfl (Qy.move rfl) ?_
        refine Gm.q 9 [] (by kernel_rfl) rfl rfl (Qy.indexAddrO (α := Int) T.sl23 rfl rfl (by assumption) (by omega)) ?_
        refine Gm.q 10 [0, 4] (by kernel_rfl) rfl rfl (Qy.loadO 4 0 T.one3 rfl rfl (by assumption) (by omega) rfl rfl) ?_
        refine Gm.q 11 [11] (by kernel_rfl) rfl rfl (Qy.lookup1 11 T.mp112 rfl rfl rfl) ?_
        refine Gm.q 12 [] (by kernel_rfl) rfl rfl (Qy.fieldAddr T.fa34_2 rfl) ?_
        refine Gm.one 13 ⟨rfl, rfl, rfl, rfl, rfl, rfl, rfl, rfl, rfl, rfl, rfl, rfl, rfl, rfl, rfl, rfl, trivial⟩ (by first | exact Imm.le_refl _ | assumption | (refine Imm.le_trans ?_ (by assumption); first | assumption | (refine Imm.le_trans ?_ (by assumption); assumption))) (by kernel_rfl) rfl ?_
        refine Wl.store 15 T.one3 rfl rfl rfl rfl rfl ?_
        refine Wl.on0 ?_
        refine Gm.doneA (by kernel_rfl) ⟨rfl, rfl, rfl, rfl, rfl, rfl, rfl, rfl, rfl, rfl, rfl, rfl, rfl, rfl, rfl, trivial⟩ (by first | exact Imm.le_refl _ | assumption | (refine Imm.le_trans ?_ (by assumption); first | assumption | (refine Imm.le_trans ?_ (by assumption); assumption))) ?_
        refine Ar.next ?_
        rotate_left
        · have hn : ¬ nAt p k = true := by unfold nAt; simpa using hc1
          refine Ar.again ((k + 1, x, (oa, oc, oj), (a, c, j))) ?_ ?_ rfl ⟨rfl, rfl, rfl, rfl, rfl, rfl, rfl, rfl, trivial⟩ ⟨rfl, rfl, rfl, rfl, rfl, rfl, rfl, rfl, rfl, rfl, rfl, rfl, rfl, rfl, trivial⟩
          · refine ⟨hkc, by rw [hx]; exact (if_neg hn).symm, hoc, hof, fun v hv => hkeys v ?_⟩
            have e : lifeTo p (k + 1) = lifeTo p k := if_neg hn
            rw [e] at hv; exact hv
          · show p.code.length - (k + 1) < p.code.length - k
            omega
        · have hn : nAt p k = true := by unfold nAt; simpa using hc1
          refine Wc.meet (ι := Int) (fun v => ([(4, .pointer (some ⟨lu1, 0, none⟩)), (77, .slice ac p.code.length cc), (78, .int .i64 (p.code.length : Int)), (79, .int .i64 (k : Int)), (9, Go.Value.int Go.IntKind.i64 (↑k : Int)), (10, Go.Value.pointer (Option.some (Go.Addr.mk b6 0 Option.none))), (8, Go.Value.pointer (Option.some (Go.Addr.mk b5 0 Option.none))), (6, Go.Value.pointer (Option.some (Go.Addr.mk b4 0 Option.none))), (3, Go.Value.int Go.IntKind.i64 0), (2, Go.Value.pointer (Option.some (Go.Addr.mk b2 0 Option.none)))], [(15, some b6, .cells #[.int .i64 (p.code[((k : Nat) : Int).toNat]?.getD default).op, .int .i64 (p.code[((k : Nat) : Int).toNat]?.getD default).to, .int .i64 (stand x.s ((lifeP p).a[((k : Nat) : Int).toNat]?.getD default)), .int .i64 v, .int .i64 (p.code[((k : Nat) : Int).toNat]?.getD default).c] 34), (17, Option.map (fun x => Go.Addr.block x) ad2, Go.Sl.Row (α := Int) 3 (Go.Proofs.Ytfleehgbpgmcnaa.asks (Option.getD (Go.Proofs.Ytfleehgbpgmcnaa.PV.code p)[Int.toNat (↑k : Int)]? Inhabited.default)) (junk2)), (10, Option.some b4, Go.Obj.cells #[Go.Value.map (Option.some b3), Go.Value.slice a (List.length (Go.Proofs.Ytfleehgbpgmcnaa.Pl.free (Go.Proofs.Ytfleehgbpgmcnaa.PkS.s x))) c] 114), (11, Option.some b3, Go.Sl.mapObj (κ := Int) (Go.Proofs.Ytfleehgbpgmcnaa.Pl.at_ (Go.Proofs.Ytfleehgbpgmcnaa.PkS.s x))), (12, Option.map (fun x => Go.Addr.block x) a, Go.Sl.Row (α := Bool) 4 (Go.Proofs.Ytfleehgbpgmcnaa.Pl.free (Go.Proofs.Ytfleehgbpgmcnaa.PkS.s x)) (j)), (13, Option.some b5, Go.Obj.cells #[Go.Value.int Go.IntKind.i64 (Go.Proofs.Ytfleehgbpgmcnaa.PV.ins p), Go.Value.int Go.IntKind.i64 (Go.Proofs.Ytfleehgbpgmcnaa.PkS.regs x), Go.Value.slice oa (List.length (Go.Proofs.Ytfleehgbpgmcnaa.PkS.code x)) oc, Go.Value.slice Option.none 0 0] 25), (14, Option.map (fun x => Go.Addr.block x) oa, Go.Sl.Row (α := Go.Sl.Instr) 34 (Go.Proofs.Ytfleehgbpgmcnaa.PkS.code x) (oj)), (2, Option.some lu1, Go.Obj.cells #[Go.Value.int Go.IntKind.i64 (Go.Proofs.Ytfleehgbpgmcnaa.PV.ins p), Go.Value.int Go.IntKind.i64 (Go.Proofs.Ytfleehgbpgmcnaa.PV.regs p), Go.Value.slice ac (List.length (Go.Proofs.Ytfleehgbpgmcnaa.PV.code p)) cc, Go.Value.slice ao (List.length (Go.Proofs.Ytfleehgbpgmcnaa.PV.outs p)) co, Go.Value.slice lnb1 (List.length (Go.Proofs.Ytfleehgbpgmcnaa.neededP p)) lnc1, Go.Value.slice (Option.some (Go.Addr.mk lx1 0 Option.none)) (List.length (Go.Proofs.Ytfleehgbpgmcnaa.Life.a (Go.Proofs.Ytfleehgbpgmcnaa.lifeP p))) ln1, Go.Value.slice (Option.some (Go.Addr.mk ly1 0 Option.none)) (List.length (Go.Proofs.Ytfleehgbpgmcnaa.Life.b (Go.Proofs.Ytfleehgbpgmcnaa.lifeP p))) ln1, Go.Value.slice (Option.some (Go.Addr.mk lz1 0 Option.none)) (List.length (Go.Proofs.Ytfleehgbpgmcnaa.Life.sets (Go.Proofs.Ytfleehgbpgmcnaa.lifeP p))) ln1, Go.Value.slice loo1 (List.length (Go.Proofs.Ytfleehgbpgmcnaa.Life.outs (Go.Proofs.Ytfleehgbpgmcnaa.lifeP p))) lod1, Go.Value.slice lo1 (List.length (Go.Proofs.Ytfleehgbpgmcnaa.Life.till (Go.Proofs.Ytfleehgbpgmcnaa.lifeP p))) ld1] 117), (3, Option.map (fun x => Go.Addr.block x) lnb1, Go.Sl.Row (α := Bool) 4 (Go.Proofs.Ytfleehgbpgmcnaa.neededP p) (lnj1)), (4, Option.some lx1, Go.Sl.Row (α := Int) 3 (Go.Proofs.Ytfleehgbpgmcnaa.Life.a (Go.Proofs.Ytfleehgbpgmcnaa.lifeP p)) ([])), (5, Option.some ly1, Go.Sl.Row (α := Int) 3 (Go.Proofs.Ytfleehgbpgmcnaa.Life.b (Go.Proofs.Ytfleehgbpgmcnaa.lifeP p)) ([])), (6, Option.some lz1, Go.Sl.Row (α := Int) 3 (Go.Proofs.Ytfleehgbpgmcnaa.Life.sets (Go.Proofs.Ytfleehgbpgmcnaa.lifeP p)) ([])), (7, Option.map (fun x => Go.Addr.block x) loo1, Go.Sl.Row (α := Int) 3 (Go.Proofs.Ytfleehgbpgmcnaa.Life.outs (Go.Proofs.Ytfleehgbpgmcnaa.lifeP p)) (loj1)), (8, Option.map (fun x => Go.Addr.block x) lo1, Go.Sl.Row (α := Int) 3 (Go.Proofs.Ytfleehgbpgmcnaa.Life.till (Go.Proofs.Ytfleehgbpgmcnaa.lifeP p)) (lj1)), (1, Option.some b2, Go.Obj.cells #[Go.Value.int Go.IntKind.i64 0, Go.Value.int Go.IntKind.i64 0, Go.Value.slice Option.none 0 0, Go.Value.slice Option.none 0 0] 25), (0, Option.some b1, Go.Obj.cells #[Go.Value.int Go.IntKind.i64 (Go.Proofs.Ytfleehgbpgmcnaa.PV.ins p), Go.Value.int Go.IntKind.i64 (Go.Proofs.Ytfleehgbpgmcnaa.PV.regs p), Go.Value.slice ac (List.length (Go.Proofs.Ytfleehgbpgmcnaa.PV.code p)) cc, Go.Value.slice ao (List.length (Go.Proofs.Ytfleehgbpgmcnaa.PV.outs p)) co] 25)])) (fun v => v = if 1 < (asks (p.code[((k : Nat) : Int).toNat]?.getD default)).length then stand x.s ((lifeP p).b[((k : Nat) : Int).toNat]?.getD default) else (p.code[((k : Nat) : Int).toNat]?.getD default).b) ?_ (fun v => fun (hk : v = if 1 < (asks (p.code[((k : Nat) : Int).toNat]?.getD default)).length then stand x.s ((lifeP p).b[((k : Nat) : Int).toNat]?.getD default) else (p.code[((k : Nat) : Int).toNat]?.getD default).b) => ?_)
          · refine Wc.seq ?_
            refine Wc.region rfl ?_
            refine Wl.q rfl (Qy.move rfl) ?_
            refine Wl.done ?_
            refine Ar.next ?_
            refine Wc.cond rfl (fun hc2 => ?_) (fun hc2 => ?_)
            refine Wc.draw [0, 1, 8, 7, 6, 5, 4, 3, 2, 14, 13, 12, 11, 10, 17, 15] [(15, 13)] T.mixed rfl ?_
            refine Gm.q 0 [] (by kernel_rfl) rfl rfl (Qy.move rfl) ?_
            refine Gm.q 1 [] (by kernel_rfl) rfl rfl (Qy.nilCheck rfl) ?_
            refine Gm.q 2 [] (by kernel_rfl) rfl rfl (Qy.fieldAddr T.fa114_0 rfl) ?_
            refine Gm.q 3 [10] (by kernel_rfl) rfl rfl (Qy.load 10 T.one112 rfl rfl rfl) ?_
            refine Gm.q 4 [] (by kernel_rfl) rfl rfl (Qy.move rfl) ?_
            refine Gm.q 5 [] (by kernel_rfl) rfl rfl (Qy.nilCheck rfl) ?_
            refine Gm.q 6 [] (by kernel_rfl) rfl rfl (Qy.fieldAddr T.fa117_3 rfl) ?_
            refine Gm.q 7 [2] (by kernel_rfl) rfl rfl (Qy.load 2 T.one23 rfl rfl rfl) ?_
            refine Gm.q 8 [] (by kernel_rfl) rfl rfl (Qy.move rfl) ?_
            refine Gm.q 9 [] (by kernel_rfl) rfl rfl (Qy.indexAddrO (α := Int) T.sl23 rfl rfl (by assumption) (by omega)) ?_
            refine Gm.q 10 [0, 5] (by kernel_rfl) rfl rfl (Qy.loadO 5 0 T.one3 rfl rfl (by assumption) (by omega) rfl rfl) ?_
            refine Gm.q 11 [11] (by kernel_rfl) rfl rfl (Qy.lookup1 11 T.mp112 rfl rfl rfl) ?_
            refine Gm.q 12 [] (by kernel_rfl) rfl rfl (Qy.fieldAddr T.fa34_3 rfl) ?_
            refine Gm.one 13 ⟨rfl, rfl, rfl, rfl, rfl, rfl, rfl, rfl, rfl, rfl, rfl, rfl, rfl, rfl, rfl, rfl, trivial⟩ (by first | exact Imm.le_refl _ | assumption | (refine Imm.le_trans ?_ (by assumption); first | assumption | (refine Imm.le_trans ?_ (by assumption); assumption))) (by kernel_rfl) rfl ?_
            refine Wl.store 15 T.one3 rfl rfl rfl rfl rfl ?_
            refine Wl.on0 ?_
            refine Gm.doneA (by kernel_rfl) ⟨rfl, rfl, rfl, rfl, rfl, rfl, rfl, rfl, rfl, rfl, rfl, rfl, rfl, rfl, rfl, trivial⟩ (by first | exact Imm.le_refl _ | assumption | (refine Imm.le_trans ?_ (by assumption); first | assumption | (refine Imm.le_trans ?_ (by assumption); assumption))) ?_
            rotate_left
            refine Wc.skip ?_
            rotate_left
            · refine Ar.meet (stand x.s ((lifeP p).b[((k : Nat) : Int).toNat]?.getD default)) ?_ rfl ⟨rfl, rfl, rfl, rfl, rfl, rfl, rfl, rfl, rfl, rfl, trivial⟩ ⟨rfl, rfl, rfl, rfl, rfl, rfl, rfl, rfl, rfl, rfl, rfl, rfl, rfl, rfl, rfl, rfl, trivial⟩
              exact (if_pos (by omega)).symm
            · refine Ar.meet ((p.code[((k : Nat) : Int).toNat]?.getD default).b) ?_ rfl ⟨rfl, rfl, rfl, rfl, rfl, rfl, rfl, rfl, rfl, rfl, trivial⟩ ⟨rfl, rfl, rfl, rfl, rfl, rfl, rfl, rfl, rfl, rfl, rfl, rfl, rfl, rfl, rfl, rfl, trivial⟩
              exact (if_neg (by omega)).symm
          · have hv9 := hk
            refine Wc.seq ?_
            refine Wc.seq ?_
            refine Wc.draw [0, 1, 8, 7, 6, 5, 4, 3, 2, 14, 13, 12, 11, 10, 17, 15] [] T.mixed rfl ?_
            refine Gm.q 0 [] (by kernel_rfl) rfl rfl (Qy.move rfl) ?_
            refine Gm.q 1 [] (by kernel_rfl) rfl rfl (Qy.nilCheck rfl) ?_
            refine Gm.q 2 [] (by kernel_rfl) rfl rfl (Qy.fieldAddr T.fa117_2 rfl) ?_
            refine Gm.q 3 [2] (by kernel_rfl) rfl rfl (Qy.load 2 T.one23 rfl rfl rfl) ?_
            refine Gm.q 4 [] (by kernel_rfl) rfl rfl (Qy.move rfl) ?_
            refine Gm.q 5 [] (by kernel_rfl) rfl rfl (Qy.indexAddrO (α := Int) T.sl23 rfl rfl (by assumption) (by omega)) ?_
            refine Gm.q 6 [0, 4] (by kernel_rfl) rfl rfl (Qy.loadO 4 0 T.one3 rfl rfl (by assumption) (by omega) rfl rfl) ?_
            refine Gm.q 7 [] (by kernel_rfl) rfl rfl (Qy.move rfl) ?_
            refine Gm.q 8 [] (by kernel_rfl) rfl rfl (Qy.nilCheck rfl) ?_
            refine Gm.q 9 [] (by kernel_rfl) rfl rfl (Qy.fieldAddr T.fa117_3 rfl) ?_
            refine Gm.q 10 [2] (by kernel_rfl) rfl rfl (Qy.load 2 T.one23 rfl rfl rfl) ?_
            refine Gm.q 11 [] (by kernel_rfl) rfl rfl (Qy.move rfl) ?_
            refine Gm.q 12 [] (by kernel_rfl) rfl rfl (Qy.indexAddrO (α := Int) T.sl23 rfl rfl (by assumption) (by omega)) ?_
            refine Gm.q 13 [0, 5] (by kernel_rfl) rfl rfl (Qy.loadO 5 0 T.one3 rfl rfl (by assumption) (by omega) rfl rfl) ?_
            refine Gm.q 14 [] (by kernel_rfl) rfl rfl (Qy.buildA (cs := [_, _]) T.ar62 rfl rfl rfl) ?_
            refine Gm.q 15 [] (by kernel_rfl) rfl rfl (Qy.move rfl) ?_
            refine Gm.doneA (by kernel_rfl) ⟨rfl, rfl, rfl, rfl, rfl, rfl, rfl, rfl, rfl, rfl, rfl, rfl, rfl, rfl, rfl, rfl, trivial⟩ (by first | exact Imm.le_refl _ | assumption | (refine Imm.le_trans ?_ (by assumption); first | assumption | (refine Imm.le_trans ?_ (by assumption); assumption))) ?_
            refine Ar.next ?_
            refine Wc.block ?_
            refine Wc.loop (ι := Nat × Pl) (fun (m, s1) => ([(138, .int .i64 (m : Int)), (77, .slice ac p.code.length cc), (78, .int .i64 (p.code.length : Int)), (79, .int .i64 (k : Int)), (137, Go.Value.agg #[Go.Value.int Go.IntKind.i64 (Option.getD (Go.Proofs.Ytfleehgbpgmcnaa.Life.a (Go.Proofs.Ytfleehgbpgmcnaa.lifeP p))[Int.toNat (↑k : Int)]? Inhabited.default), Go.Value.int Go.IntKind.i64 (Option.getD (Go.Proofs.Ytfleehgbpgmcnaa.Life.b (Go.Proofs.Ytfleehgbpgmcnaa.lifeP p))[Int.toNat (↑k : Int)]? Inhabited.default)]), (4, Go.Value.pointer (Option.some (Go.Addr.mk lu1 0 Option.none))), (9, Go.Value.int Go.IntKind.i64 (↑k : Int)), (10, Go.Value.pointer (Option.some (Go.Addr.mk b6 0 Option.none))), (8, Go.Value.pointer (Option.some (Go.Addr.mk b5 0 Option.none))), (6, Go.Value.pointer (Option.some (Go.Addr.mk b4 0 Option.none))), (3, Go.Value.int Go.IntKind.i64 0), (2, Go.Value.pointer (Option.some (Go.Addr.mk b2 0 Option.none)))], [(10, some b4, .cells #[.map (some b3), .slice a s1.free.length c] 114), (11, some b3, mapObj s1.at_), (12, a.map (·.block), Row 4 s1.free j), (15, Option.some b6, Go.Obj.cells #[Go.Value.int Go.IntKind.i64 (Go.Sl.Instr.op (Option.getD (Go.Proofs.Ytfleehgbpgmcnaa.PV.code p)[Int.toNat (↑k : Int)]? Inhabited.default)), Go.Value.int Go.IntKind.i64 (Go.Sl.Instr.to (Option.getD (Go.Proofs.Ytfleehgbpgmcnaa.PV.code p)[Int.toNat (↑k : Int)]? Inhabited.default)), Go.Value.int Go.IntKind.i64 (Go.Proofs.Ytfleehgbpgmcnaa.stand (Go.Proofs.Ytfleehgbpgmcnaa.PkS.s x) (Option.getD (Go.Proofs.Ytfleehgbpgmcnaa.Life.a (Go.Proofs.Ytfleehgbpgmcnaa.lifeP p))[Int.toNat (↑k : Int)]? Inhabited.default)), Go.Value.int Go.IntKind.i64 v, Go.Value.int Go.IntKind.i64 (Go.Sl.Instr.c (Option.getD (Go.Proofs.Ytfleehgbpgmcnaa.PV.code p)[Int.toNat (↑k : Int)]? Inhabited.default))] 34), (17, Option.map (fun x => Go.Addr.block x) ad2, Go.Sl.Row (α := Int) 3 (Go.Proofs.Ytfleehgbpgmcnaa.asks (Option.getD (Go.Proofs.Ytfleehgbpgmcnaa.PV.code p)[Int.toNat (↑k : Int)]? Inhabited.default)) (junk2)), (13, Option.some b5, Go.Obj.cells #[Go.Value.int Go.IntKind.i64 (Go.Proofs.Ytfleehgbpgmcnaa.PV.ins p), Go.Value.int Go.IntKind.i64 (Go.Proofs.Ytfleehgbpgmcnaa.PkS.regs x), Go.Value.slice oa (List.length (Go.Proofs.Ytfleehgbpgmcnaa.PkS.code x)) oc, Go.Value.slice Option.none 0 0] 25), (14, Option.map (fun x => Go.Addr.block x) oa, Go.Sl.Row (α := Go.Sl.Instr) 34 (Go.Proofs.Ytfleehgbpgmcnaa.PkS.code x) (oj)), (2, Option.some lu1, Go.Obj.cells #[Go.Value.int Go.IntKind.i64 (Go.Proofs.Ytfleehgbpgmcnaa.PV.ins p), Go.Value.int Go.IntKind.i64 (Go.Proofs.Ytfleehgbpgmcnaa.PV.regs p), Go.Value.slice ac (List.length (Go.Proofs.Ytfleehgbpgmcnaa.PV.code p)) cc, Go.Value.slice ao (List.length (Go.Proofs.Ytfleehgbpgmcnaa.PV.outs p)) co, Go.Value.slice lnb1 (List.length (Go.Proofs.Ytfleehgbpgmcnaa.neededP p)) lnc1, Go.Value.slice (Option.some (Go.Addr.mk lx1 0 Option.none)) (List.length (Go.Proofs.Ytfleehgbpgmcnaa.Life.a (Go.Proofs.Ytfleehgbpgmcnaa.lifeP p))) ln1, Go.Value.slice (Option.some (Go.Addr.mk ly1 0 Option.none)) (List.length (Go.Proofs.Ytfleehgbpgmcnaa.Life.b (Go.Proofs.Ytfleehgbpgmcnaa.lifeP p))) ln1, Go.Value.slice (Option.some (Go.Addr.mk lz1 0 Option.none)) (List.length (Go.Proofs.Ytfleehgbpgmcnaa.Life.sets (Go.Proofs.Ytfleehgbpgmcnaa.lifeP p))) ln1, Go.Value.slice loo1 (List.length (Go.Proofs.Ytfleehgbpgmcnaa.Life.outs (Go.Proofs.Ytfleehgbpgmcnaa.lifeP p))) lod1, Go.Value.slice lo1 (List.length (Go.Proofs.Ytfleehgbpgmcnaa.Life.till (Go.Proofs.Ytfleehgbpgmcnaa.lifeP p))) ld1] 117), (3, Option.map (fun x => Go.Addr.block x) lnb1, Go.Sl.Row (α := Bool) 4 (Go.Proofs.Ytfleehgbpgmcnaa.neededP p) (lnj1)), (4, Option.some lx1, Go.Sl.Row (α := Int) 3 (Go.Proofs.Ytfleehgbpgmcnaa.Life.a (Go.Proofs.Ytfleehgbpgmcnaa.lifeP p)) ([])), (5, Option.some ly1, Go.Sl.Row (α := Int) 3 (Go.Proofs.Ytfleehgbpgmcnaa.Life.b (Go.Proofs.Ytfleehgbpgmcnaa.lifeP p)) ([])), (6, Option.some lz1, Go.Sl.Row (α := Int) 3 (Go.Proofs.Ytfleehgbpgmcnaa.Life.sets (Go.Proofs.Ytfleehgbpgmcnaa.lifeP p)) ([])), (7, Option.map (fun x => Go.Addr.block x) loo1, Go.Sl.Row (α := Int) 3 (Go.Proofs.Ytfleehgbpgmcnaa.Life.outs (Go.Proofs.Ytfleehgbpgmcnaa.lifeP p)) (loj1)), (8, Option.map (fun x => Go.Addr.block x) lo1, Go.Sl.Row (α := Int) 3 (Go.Proofs.Ytfleehgbpgmcnaa.Life.till (Go.Proofs.Ytfleehgbpgmcnaa.lifeP p)) (lj1)), (1, Option.some b2, Go.Obj.cells #[Go.Value.int Go.IntKind.i64 0, Go.Value.int Go.IntKind.i64 0, Go.Value.slice Option.none 0 0, Go.Value.slice Option.none 0 0] 25), (0, Option.some b1, Go.Obj.cells #[Go.Value.int Go.IntKind.i64 (Go.Proofs.Ytfleehgbpgmcnaa.PV.ins p), Go.Value.int Go.IntKind.i64 (Go.Proofs.Ytfleehgbpgmcnaa.PV.regs p), Go.Value.slice ac (List.length (Go.Proofs.Ytfleehgbpgmcnaa.PV.code p)) cc, Go.Value.slice ao (List.length (Go.Proofs.Ytfleehgbpgmcnaa.PV.outs p)) co] 25)])) (fun (m, s1) => m ≤ 2 ∧ s1 = freesTo (lifeP p) k x.s m ∧ OwnA a c s1.free j) (fun (m, s1) => 2 - m) ((0, x.s)) (⟨Nat.zero_le _, rfl, hof⟩) ⟨rfl, rfl, rfl, rfl, rfl, rfl, rfl, rfl, rfl, rfl, rfl, rfl, trivial⟩ ⟨rfl, rfl, rfl, rfl, rfl, rfl, rfl, rfl, rfl, rfl, rfl, rfl, rfl, rfl, rfl, rfl, trivial⟩ (fun ⟨m, s1⟩ => fun (hk : m ≤ 2 ∧ s1 = freesTo (lifeP p) k x.s m ∧ OwnA a c s1.free j) => ?_)
            obtain ⟨hm2, hs1, hof1⟩ := hk
            by_cases hm0 : m = 0
            · subst hm0
              have hs1 : s1 = x.s := hs1
              subst hs1
              have hst := hxo.ab ((lifeP p).a[((k : Nat) : Int).toNat]?.getD default)
              unfold stand at hst
              refine Wc.seq ?_
              refine Wc.region rfl ?_
              refine Wl.q rfl (Qy.lss rfl rfl) ?_
              refine Wl.done ?_
              refine Ar.next ?_
              refine Wc.seq ?_
              refine Wc.condP rfl (by first | assumption | omega) ?_
              refine Wc.skip ?_
              refine Ar.next ?_
              refine Wc.seq ?_
              refine Wc.block ?_
              refine Wc.seq ?_
              refine Wc.region rfl ?_
              refine Wl.q rfl (Qy.indexA (i := 0) und62 pk3 size3 rfl rfl (by decide) rfl) ?_
              refine Wl.q rfl (Qy.assign rfl) ?_
              refine Wl.done ?_
              refine Ar.next ?_
              refine Wc.seq ?_
              refine Wc.region rfl ?_
              refine Wl.q rfl (Qy.move rfl) ?_
              refine Wl.q rfl (Qy.nilCheck rfl) ?_
              refine Wl.q rfl (Qy.fieldAddr T.fa117_6 rfl) ?_
              refine Wl.q rfl (Qy.load 2 T.one23 rfl rfl rfl) ?_
              refine Wl.q rfl (Qy.move rfl) ?_
              refine Wl.q rfl (Qy.indexAddrO (α := Int) T.sl23 rfl rfl (by assumption) (by omega)) ?_
              refine Wl.q rfl (Qy.loadO 8 0 T.one3 rfl rfl (by assumption) (by omega) rfl rfl) ?_
              refine Wl.q rfl (Qy.move rfl) ?_
              refine Wl.q rfl (Qy.eql rfl rfl) ?_
              refine Wl.done ?_
              refine Ar.next ?_
              refine Wc.cond rfl (fun hc2 => ?_) (fun hc2 => ?_)
              refine Wc.draw [0, 1, 8, 7, 6, 5, 4, 3, 2, 14, 13, 17, 15, 12, 11, 10] [(10, 11), (12, 11), (15, 11), (17, 11), (13, 11), (14, 11), (2, 11), (3, 11), (4, 11), (5, 11), (6, 11), (7, 11), (8, 11), (1, 11), (0, 11)] T.mixed rfl ?_
              refine Gm.q 0 [] (by kernel_rfl) rfl rfl (Qy.move rfl) ?_
              refine Gm.q 1 [] (by kernel_rfl) rfl rfl (Qy.nilCheck rfl) ?_
              refine Gm.q 2 [] (by kernel_rfl) rfl rfl (Qy.fieldAddr T.fa114_1 rfl) ?_
              refine Gm.q 3 [10] (by kernel_rfl) rfl rfl (Qy.load 10 T.one64 rfl rfl rfl) ?_
              refine Gm.q 4 [] (by kernel_rfl) rfl rfl (Qy.move rfl) ?_
              refine Gm.q 5 [] (by kernel_rfl) rfl rfl (Qy.nilCheck rfl) ?_
              refine Gm.q 6 [] (by kernel_rfl) rfl rfl (Qy.fieldAddr T.fa114_0 rfl) ?_
              refine Gm.q 7 [10] (by kernel_rfl) rfl rfl (Qy.load 10 T.one112 rfl rfl rfl) ?_
              refine Gm.q 8 [] (by kernel_rfl) rfl rfl (Qy.move rfl) ?_
              refine Gm.q 9 [11] (by kernel_rfl) rfl rfl (Qy.lookup1 11 T.mp112 rfl rfl rfl) ?_
              refine Gm.q 10 [] (by kernel_rfl) rfl rfl (Qy.indexAddrO (α := Bool) T.sl64 rfl rfl (by assumption) (by omega)) ?_
              refine Gm.one 11 ⟨rfl, rfl, rfl, rfl, rfl, rfl, rfl, rfl, rfl, rfl, rfl, rfl, rfl, rfl, rfl, rfl, trivial⟩ (by first | exact Imm.le_refl _ | assumption | (refine Imm.le_trans ?_ (by assumption); first | assumption | (refine Imm.le_trans ?_ (by assumption); assumption))) (by kernel_rfl) rfl ?_
              refine Wl.setO (z := _) 12 T.size4 rfl rfl rfl (by assumption) (by omega) rfl (fun ho1 => ?_)
              refine Wl.on0 ?_
              refine Gm.doneA (by kernel_rfl) ⟨rfl, trivial⟩ (by first | exact Imm.le_refl _ | assumption | (refine Imm.le_trans ?_ (by assumption); first | assumption | (refine Imm.le_trans ?_ (by assumption); assumption))) ?_
              refine Ar.outNormal ?_
              refine Ar.next ?_
              refine Wc.region rfl ?_
              refine Wl.q rfl (Qy.add rfl rfl (by omega)) ?_
              refine Wl.q rfl (Qy.move rfl) ?_
              refine Wl.done ?_
              rotate_left
              refine Wc.skip ?_
              refine Ar.outNormal ?_
              refine Ar.next ?_
              refine Wc.region rfl ?_
              refine Wl.q rfl (Qy.add rfl rfl (by omega)) ?_
              refine Wl.q rfl (Qy.move rfl) ?_
              refine Wl.done ?_
              rotate_left
              · refine Ar.reH 10 (.cells #[.map (some b3), .slice a (x.s.free.set ((mget x.s.at_ ((lifeP p).a[((k : Nat) : Int).toNat]?.getD default)).getD 0).toNat true).length c] 114) rfl (by rw [List.length_set]) ?_
                refine Ar.again ((0 + 1, ⟨x.s.at_, x.s.free.set ((mget x.s.at_ ((lifeP p).a[((k : Nat) : Int).toNat]?.getD default)).getD 0).toNat true⟩)) ?_ ?_ rfl ⟨rfl, rfl, rfl, rfl, rfl, rfl, rfl, rfl, rfl, rfl, rfl, rfl, trivial⟩ ⟨rfl, rfl, rfl, rfl, rfl, rfl, rfl, rfl, rfl, rfl, rfl, rfl, rfl, rfl, rfl, rfl, trivial⟩
                · refine ⟨by omega, ?_, by assumption⟩
                  exact (if_pos (by assumption)).symm
                · exact Nat.lt_succ_self 1
              · refine Ar.again ((0 + 1, x.s)) ?_ ?_ rfl ⟨rfl, rfl, rfl, rfl, rfl, rfl, rfl, rfl, rfl, rfl, rfl, rfl, trivial⟩ ⟨rfl, rfl, rfl, rfl, rfl, rfl, rfl, rfl, rfl, rfl, rfl, rfl, rfl, rfl, rfl, rfl, trivial⟩
                · refine ⟨by omega, ?_, hof1⟩
                  exact (if_neg (by assumption)).symm
                · exact Nat.lt_succ_self 1
            · by_cases hm1 : m = 1
              · subst hm1
                have hs1 : s1 = freeAt (lifeP p) k x.s ((lifeP p).a[((k : Nat) : Int).toNat]?.getD default) := hs1
                have hst := (freeAt_ok (l := lifeP p) (k := k) (v := ((lifeP p).a[((k : Nat) : Int).toNat]?.getD default)) hxo).ab ((lifeP p).b[((k : Nat) : Int).toNat]?.getD default)
                rw [← hs1] at hst
                unfold stand at hst
                refine Wc.seq ?_
                refine Wc.region rfl ?_
                refine Wl.q rfl (Qy.lss rfl rfl) ?_
                refine Wl.done ?_
                refine Ar.next ?_
                refine Wc.seq ?_
                refine Wc.condP rfl (by first | assumption | omega) ?_
                refine Wc.skip ?_
                refine Ar.next ?_
                refine Wc.seq ?_
                refine Wc.block ?_
                refine Wc.seq ?_
                refine Wc.region rfl ?_
                refine Wl.q rfl (Qy.indexA (i := 1) und62 pk3 size3 rfl rfl (by decide) rfl) ?_
                refine Wl.q rfl (Qy.assign rfl) ?_
                refine Wl.done ?_
                refine Ar.next ?_
                refine Wc.seq ?_
                refine Wc.region rfl ?_
                refine Wl.q rfl (Qy.move rfl) ?_
                refine Wl.q rfl (Qy.nilCheck rfl) ?_
                refine Wl.q rfl (Qy.fieldAddr T.fa117_6 rfl) ?_
                refine Wl.q rfl (Qy.load 2 T.one23 rfl rfl rfl) ?_
                refine Wl.q rfl (Qy.move rfl) ?_
                refine Wl.q rfl (Qy.indexAddrO (α := Int) T.sl23 rfl rfl (by assumption) (by omega)) ?_
                refine Wl.q rfl (Qy.loadO 8 0 T.one3 rfl rfl (by assumption) (by omega) rfl rfl) ?_
                refine Wl.q rfl (Qy.move rfl) ?_
                refine Wl.q rfl (Qy.eql rfl rfl) ?_
                refine Wl.done ?_
                refine Ar.next ?_
                refine Wc.cond rfl (fun hc2 => ?_) (fun hc2 => ?_)
                refine Wc.draw [0, 1, 8, 7, 6, 5, 4, 3, 2, 14, 13, 17, 15, 12, 11, 10] [(10, 11), (12, 11), (15, 11), (17, 11), (13, 11), (14, 11), (2, 11), (3, 11), (4, 11), (5, 11), (6, 11), (7, 11), (8, 11), (1, 11), (0, 11)] T.mixed rfl ?_
                refine Gm.q 0 [] (by kernel_rfl) rfl rfl (Qy.move rfl) ?_
                refine Gm.q 1 [] (by kernel_rfl) rfl rfl (Qy.nilCheck rfl) ?_
                refine Gm.q 2 [] (by kernel_rfl) rfl rfl (Qy.fieldAddr T.fa114_1 rfl) ?_
                refine Gm.q 3 [10] (by kernel_rfl) rfl rfl (Qy.load 10 T.one64 rfl rfl rfl) ?_
                refine Gm.q 4 [] (by kernel_rfl) rfl rfl (Qy.move rfl) ?_
                refine Gm.q 5 [] (by kernel_rfl) rfl rfl (Qy.nilCheck rfl) ?_
                refine Gm.q 6 [] (by kernel_rfl) rfl rfl (Qy.fieldAddr T.fa114_0 rfl) ?_
                refine Gm.q 7 [10] (by kernel_rfl) rfl rfl (Qy.load 10 T.one112 rfl rfl rfl) ?_
                refine Gm.q 8 [] (by kernel_rfl) rfl rfl (Qy.move rfl) ?_
                refine Gm.q 9 [11] (by kernel_rfl) rfl rfl (Qy.lookup1 11 T.mp112 rfl rfl rfl) ?_
                refine Gm.q 10 [] (by kernel_rfl) rfl rfl (Qy.indexAddrO (α := Bool) T.sl64 rfl rfl (by assumption) (by omega)) ?_
                refine Gm.one 11 ⟨rfl, rfl, rfl, rfl, rfl, rfl, rfl, rfl, rfl, rfl, rfl, rfl, rfl, rfl, rfl, rfl, trivial⟩ (by first | exact Imm.le_refl _ | assumption | (refine Imm.le_trans ?_ (by assumption); first | assumption | (refine Imm.le_trans ?_ (by assumption); assumption))) (by kernel_rfl) rfl ?_
                refine Wl.setO (z := _) 12 T.size4 rfl rfl rfl (by assumption) (by omega) rfl (fun ho1 => ?_)
                refine Wl.on0 ?_
                refine Gm.doneA (by kernel_rfl) ⟨rfl, trivial⟩ (by first | exact Imm.le_refl _ | assumption | (refine Imm.le_trans ?_ (by assumption); first | assumption | (refine Imm.le_trans ?_ (by assumption); assumption))) ?_
                refine Ar.outNormal ?_
                refine Ar.next ?_
                refine Wc.region rfl ?_
                refine Wl.q rfl (Qy.add rfl rfl (by omega)) ?_
                refine Wl.q rfl (Qy.move rfl) ?_
                refine Wl.done ?_
                rotate_left
                refine Wc.skip ?_
                refine Ar.outNormal ?_
                refine Ar.next ?_
                refine Wc.region rfl ?_
                refine Wl.q rfl (Qy.add rfl rfl (by omega)) ?_
                refine Wl.q rfl (Qy.move rfl) ?_
                refine Wl.done ?_
                rotate_left
                · refine Ar.reH 10 (.cells #[.map (some b3), .slice a (s1.free.set ((mget s1.at_ ((lifeP p).b[((k : Nat) : Int).toNat]?.getD default)).getD 0).toNat true).length c] 114) rfl (by rw [List.length_set]) ?_
                  refine Ar.again ((1 + 1, ⟨s1.at_, s1.free.set ((mget s1.at_ ((lifeP p).b[((k : Nat) : Int).toNat]?.getD default)).getD 0).toNat true⟩)) ?_ ?_ rfl ⟨rfl, rfl, rfl, rfl, rfl, rfl, rfl, rfl, rfl, rfl, rfl, rfl, trivial⟩ ⟨rfl, rfl, rfl, rfl, rfl, rfl, rfl, rfl, rfl, rfl, rfl, rfl, rfl, rfl, rfl, rfl, trivial⟩
                  · refine ⟨by omega, ?_, by assumption⟩
                    show _ = freeAt (lifeP p) k (freeAt (lifeP p) k x.s ((lifeP p).a[((k : Nat) : Int).toNat]?.getD default)) ((lifeP p).b[((k : Nat) : Int).toNat]?.getD default)
                    rw [← hs1]
                    exact (if_pos (by assumption)).symm
                  · exact Nat.lt_succ_self 0
                · refine Ar.again ((1 + 1, s1)) ?_ ?_ rfl ⟨rfl, rfl, rfl, rfl, rfl, rfl, rfl, rfl, rfl, rfl, rfl, rfl, trivial⟩ ⟨rfl, rfl, rfl, rfl, rfl, rfl, rfl, rfl, rfl, rfl, rfl, rfl, rfl, rfl, rfl, rfl, trivial⟩
                  · refine ⟨by omega, ?_, hof1⟩
                    show _ = freeAt (lifeP p) k (freeAt (lifeP p) k x.s ((lifeP p).a[((k : Nat) : Int).toNat]?.getD default)) ((lifeP p).b[((k : Nat) : Int).toNat]?.getD default)
                    rw [← hs1]
                    exact (if_neg (by assumption)).symm
                  · exact Nat.lt_succ_self 0
              · have hm3 : m = 2 := by omega
                subst hm3
                have hs1 : s1 = freeAt (lifeP p) k (freeAt (lifeP p) k x.s ((lifeP p).a[((k : Nat) : Int).toNat]?.getD default)) ((lifeP p).b[((k : Nat) : Int).toNat]?.getD default) := hs1
                have hs1l : s1.free.length = x.s.free.length := by rw [hs1, freeAt_len, freeAt_len]
                have hsets : (lifeP p).sets[((k : Nat) : Int).toNat]?.getD default = (lifeTo p k).till.length := life_sets hR hkc hn
                have hm9 : mget s1.at_ ((lifeP p).sets[((k : Nat) : Int).toNat]?.getD default) = none := by
                  rw [hs1, freeAt_at, freeAt_at, hsets]; exact hkeys _ (Int.le_refl _)
                have hle := least_le s1.free
                refine Wc.seq ?_
                refine Wc.region rfl ?_
                refine Wl.q rfl (Qy.lss rfl rfl) ?_
                refine Wl.done ?_
                refine Ar.next ?_
                refine Wc.seq ?_
                refine Wc.condN rfl (by first | assumption | omega) ?_
                refine Wc.exit ?_
                refine Ar.passExit ?_
                refine Ar.passExit ?_
                refine Ar.here ?_
                refine Ar.next ?_
                refine Wc.seq ?_
                refine Wc.region rfl ?_
                refine Wl.q rfl (Qy.move rfl) ?_
                refine Wl.q rfl (Qy.move rfl) ?_
                refine Wl.q rfl (Qy.nilCheck rfl) ?_
                refine Wl.q rfl (Qy.fieldAddr T.fa117_4 rfl) ?_
                refine Wl.q rfl (Qy.load 2 T.one23 rfl rfl rfl) ?_
                refine Wl.q rfl (Qy.move rfl) ?_
                refine Wl.q rfl (Qy.indexAddrO (α := Int) T.sl23 rfl rfl (by assumption) (by omega)) ?_
                refine Wl.q rfl (Qy.loadO 6 0 T.one3 rfl rfl (by assumption) (by omega) rfl rfl) ?_
                refine Wl.call 10 rfl T.fn75 rfl (c75 _ s1 _ _ _ _ _ _ hof1 (by omega) hm9) (tags_of ⟨rfl, rfl, rfl, trivial⟩) (fun v3 G3 Ho3 hle3 hp => ?_)
                obtain ⟨pa3, pc3, pj3, rfl, hpo3, rfl, rfl⟩ := hp
                refine Wl.q rfl (Qy.fieldAddr T.fa34_1 rfl) ?_
                refine Wl.store 15 T.one3 rfl rfl rfl rfl rfl ?_
                refine Wl.done ?_
                refine Ar.next ?_
                refine Wc.seq ?_
                refine Wc.region rfl ?_
                refine Wl.q rfl (Qy.fieldAddr T.fa25_2 rfl) ?_
                refine Wl.q rfl (Qy.load 13 T.one22 rfl rfl rfl) ?_
                refine Wl.q rfl (Qy.loadAll 15 T.agg34 rfl rfl rfl) ?_
                refine Wl.lit (α := Sl.Instr) 18 [⟨Go.Sl.Instr.op (Option.getD (Go.Proofs.Ytfleehgbpgmcnaa.PV.code p)[Int.toNat (↑k : Int)]? Inhabited.default), (↑(Go.Proofs.Ytfleehgbpgmcnaa.least (Go.Proofs.Ytfleehgbpgmcnaa.Pl.free s1)) : Int), Go.Proofs.Ytfleehgbpgmcnaa.stand (Go.Proofs.Ytfleehgbpgmcnaa.PkS.s x) (Option.getD (Go.Proofs.Ytfleehgbpgmcnaa.Life.a (Go.Proofs.Ytfleehgbpgmcnaa.lifeP p))[Int.toNat (↑k : Int)]? Inhabited.default), v, Go.Sl.Instr.c (Option.getD (Go.Proofs.Ytfleehgbpgmcnaa.PV.code p)[Int.toNat (↑k : Int)]? Inhabited.default)⟩] rfl T.sl22 T.el34 rfl rfl rfl rfl rfl (fun b7 => ?_)
                refine Wl.append (α := Sl.Instr) 14 rfl T.sl22 T.el34 rfl rfl rfl (by first | assumption | exact OwnA.nil | exact OwnA.made (by simp)) (Src.row 18 rfl) (by first | omega | (simp only [List.length_append, List.length_cons, List.length_nil, maxLen]; omega)) (by first | omega | (simp only [List.length_append, List.length_cons, List.length_nil, maxLen]; omega)) (fun a1 c1 junk1 ho1 => ?_)
                refine Wl.q rfl (Qy.fieldAddr T.fa25_2 rfl) ?_
                refine Wl.store 13 T.one22 rfl rfl rfl rfl rfl ?_
                refine Wl.done ?_
                refine Ar.next ?_
                refine Wc.region rfl ?_
                refine Wl.q rfl (Qy.fieldAddr T.fa25_1 rfl) ?_
                refine Wl.q rfl (Qy.load 13 T.one3 rfl rfl rfl) ?_
                refine Wl.q rfl (Qy.fieldAddr T.fa34_1 rfl) ?_
                refine Wl.q rfl (Qy.load 15 T.one3 rfl rfl rfl) ?_
                refine Wl.q rfl (Qy.add rfl rfl (by omega)) ?_
                refine Wl.q rfl (Qy.max rfl rfl) ?_
                refine Wl.q rfl (Qy.fieldAddr T.fa25_1 rfl) ?_
                refine Wl.store 13 T.one3 rfl rfl rfl rfl rfl ?_
                refine Wl.done ?_
                refine Ar.outNormal ?_
                refine Ar.next ?_
                refine Wc.region rfl ?_
                refine Wl.q rfl (Qy.add rfl rfl (by omega)) ?_
                refine Wl.q rfl (Qy.move rfl) ?_
                refine Wl.done ?_
                have hst9 : pkStep (lifeP p) x k (p.code[((k : Nat) : Int).toNat]?.getD default) = ⟨giveP s1 ((lifeP p).sets[((k : Nat) : Int).toNat]?.getD default), max x.regs ((least s1.free : Int) + 1), x.code ++ [⟨(p.code[((k : Nat) : Int).toNat]?.getD default).op, (least s1.free : Int), stand x.s ((lifeP p).a[((k : Nat) : Int).toNat]?.getD default), v, (p.code[((k : Nat) : Int).toNat]?.getD default).c⟩]⟩ := by
                  unfold pkStep; simp only; rw [← hs1, ← hv9]
                refine Ar.reH 13 (.cells #[.int .i64 p.ins, .int .i64 (max x.regs ((least s1.free : Int) + 1)), .slice a1 (x.code ++ [(⟨(p.code[((k : Nat) : Int).toNat]?.getD default).op, (least s1.free : Int), stand x.s ((lifeP p).a[((k : Nat) : Int).toNat]?.getD default), v, (p.code[((k : Nat) : Int).toNat]?.getD default).c⟩ : Sl.Instr)]).length c1, .slice none 0 0] 25) rfl (by rw [show max x.regs ((least s1.free : Int) + 1) = (if x.regs < (least s1.free : Int) + 1 then (least s1.free : Int) + 1 else x.regs) from by split <;> omega]; rfl) ?_
                refine Ar.again ((k + 1, ⟨giveP s1 ((lifeP p).sets[((k : Nat) : Int).toNat]?.getD default), max x.regs ((least s1.free : Int) + 1), x.code ++ [⟨(p.code[((k : Nat) : Int).toNat]?.getD default).op, (least s1.free : Int), stand x.s ((lifeP p).a[((k : Nat) : Int).toNat]?.getD default), v, (p.code[((k : Nat) : Int).toNat]?.getD default).c⟩]⟩, (a1, c1, junk1), (pa3, pc3, pj3))) ?_ ?_ rfl ⟨rfl, rfl, rfl, rfl, rfl, rfl, rfl, rfl, trivial⟩ ⟨rfl, rfl, rfl, rfl, rfl, rfl, rfl, rfl, rfl, rfl, rfl, rfl, rfl, rfl, trivial⟩
                · refine ⟨hkc, ?_, by assumption, hpo3, fun w hw => ?_⟩
                  · show _ = (if nAt p k = true then pkStep (lifeP p) (pkTo p k) k (cAt p k) else pkTo p k)
                    rw [if_pos hn, ← hx]; exact hst9.symm
                  · have e : (lifeTo p (k + 1)).till.length = (lifeTo p k).till.length + 1 := by
                      show (if nAt p k = true then lifeStep (lifeTo p k) k (cAt p k) else lifeTo p k).till.length = _
                      rw [if_pos hn]; exact step_till_len _ _ _
                    rw [e] at hw
                    show mget (mput s1.at_ ((lifeP p).sets[((k : Nat) : Int).toNat]?.getD default) _) w = none
                    rw [mget_mput, if_neg (by rw [hsets]; omega), hs1, freeAt_at, freeAt_at]
                    exact hkeys w (by omega)
                · show p.code.length - (k + 1) < p.code.length - k
                  omega
      · have hke : k = p.code.length := Nat.le_antisymm hkc0 hkc
        subst hke
        have hlo := lifeP_outs p
        refine Wc.seq ?_
        refine Wc.region rfl ?_
        refine Wl.q rfl (Qy.lss rfl rfl) ?_
        refine Wl.done ?_
        refine Ar.next ?_
        refine Wc.seq ?_
        refine Wc.condN rfl (by first | assumption | omega) ?_
        refine Wc.exit ?_
        refine Ar.passExit ?_
        refine Ar.passExit ?_
        refine Ar.here ?_
        refine Ar.next ?_
        refine Wc.seq ?_
        refine Wc.seq ?_
        refine Wc.region rfl ?_
        refine Wl.q rfl (Qy.move rfl) ?_
        refine Wl.q rfl (Qy.nilCheck rfl) ?_
        refine Wl.q rfl (Qy.fieldAddr T.fa117_5 rfl) ?_
        refine Wl.q rfl (Qy.load 2 T.one23 rfl rfl rfl) ?_
        refine Wl.q rfl (Qy.len T.sl23 rfl) ?_
        refine Wl.q rfl (Qy.move rfl) ?_
        refine Wl.done ?_
        refine Ar.next ?_
        refine Wc.block ?_
        refine Wc.nilRow 20 (Row 3 ([] : List Int) []) ?_
        refine Wc.loop (ι := Nat × List Int × (Option Addr × Nat × List Value)) (fun (q, ol, (oo, od, ok)) => ([(191, .int .i64 (q : Int)), (190, Go.Value.int Go.IntKind.i64 (↑(List.length (Go.Proofs.Ytfleehgbpgmcnaa.Life.outs (Go.Proofs.Ytfleehgbpgmcnaa.lifeP p))) : Int)), (189, Go.Value.slice loo1 (List.length (Go.Proofs.Ytfleehgbpgmcnaa.Life.outs (Go.Proofs.Ytfleehgbpgmcnaa.lifeP p))) lod1), (8, Go.Value.pointer (Option.some (Go.Addr.mk b5 0 Option.none))), (6, Go.Value.pointer (Option.some (Go.Addr.mk b4 0 Option.none))), (3, Go.Value.int Go.IntKind.i64 0), (2, Go.Value.pointer (Option.some (Go.Addr.mk b2 0 Option.none)))], [(13, some b5, .cells #[.int .i64 p.ins, .int .i64 x.regs, .slice oa x.code.length oc, .slice oo ol.length od] 25), (20, oo.map (·.block), Row 3 ol ok), (10, Option.some b4, Go.Obj.cells #[Go.Value.map (Option.some b3), Go.Value.slice a (List.length (Go.Proofs.Ytfleehgbpgmcnaa.Pl.free (Go.Proofs.Ytfleehgbpgmcnaa.PkS.s x))) c] 114), (11, Option.some b3, Go.Sl.mapObj (κ := Int) (Go.Proofs.Ytfleehgbpgmcnaa.Pl.at_ (Go.Proofs.Ytfleehgbpgmcnaa.PkS.s x))), (12, Option.map (fun x => Go.Addr.block x) a, Go.Sl.Row (α := Bool) 4 (Go.Proofs.Ytfleehgbpgmcnaa.Pl.free (Go.Proofs.Ytfleehgbpgmcnaa.PkS.s x)) (j)), (14, Option.map (fun x => Go.Addr.block x) oa, Go.Sl.Row (α := Go.Sl.Instr) 34 (Go.Proofs.Ytfleehgbpgmcnaa.PkS.code x) (oj)), (2, Option.some lu1, Go.Obj.cells #[Go.Value.int Go.IntKind.i64 (Go.Proofs.Ytfleehgbpgmcnaa.PV.ins p), Go.Value.int Go.IntKind.i64 (Go.Proofs.Ytfleehgbpgmcnaa.PV.regs p), Go.Value.slice ac (List.length (Go.Proofs.Ytfleehgbpgmcnaa.PV.code p)) cc, Go.Value.slice ao (List.length (Go.Proofs.Ytfleehgbpgmcnaa.PV.outs p)) co, Go.Value.slice lnb1 (List.length (Go.Proofs.Ytfleehgbpgmcnaa.neededP p)) lnc1, Go.Value.slice (Option.some (Go.Addr.mk lx1 0 Option.none)) (List.length (Go.Proofs.Ytfleehgbpgmcnaa.Life.a (Go.Proofs.Ytfleehgbpgmcnaa.lifeP p))) ln1, Go.Value.slice (Option.some (Go.Addr.mk ly1 0 Option.none)) (List.length (Go.Proofs.Ytfleehgbpgmcnaa.Life.b (Go.Proofs.Ytfleehgbpgmcnaa.lifeP p))) ln1, Go.Value.slice (Option.some (Go.Addr.mk lz1 0 Option.none)) (List.length (Go.Proofs.Ytfleehgbpgmcnaa.Life.sets (Go.Proofs.Ytfleehgbpgmcnaa.lifeP p))) ln1, Go.Value.slice loo1 (List.length (Go.Proofs.Ytfleehgbpgmcnaa.Life.outs (Go.Proofs.Ytfleehgbpgmcnaa.lifeP p))) lod1, Go.Value.slice lo1 (List.length (Go.Proofs.Ytfleehgbpgmcnaa.Life.till (Go.Proofs.Ytfleehgbpgmcnaa.lifeP p))) ld1] 117), (3, Option.map (fun x => Go.Addr.block x) lnb1, Go.Sl.Row (α := Bool) 4 (Go.Proofs.Ytfleehgbpgmcnaa.neededP p) (lnj1)), (4, Option.some lx1, Go.Sl.Row (α := Int) 3 (Go.Proofs.Ytfleehgbpgmcnaa.Life.a (Go.Proofs.Ytfleehgbpgmcnaa.lifeP p)) ([])), (5, Option.some ly1, Go.Sl.Row (α := Int) 3 (Go.Proofs.Ytfleehgbpgmcnaa.Life.b (Go.Proofs.Ytfleehgbpgmcnaa.lifeP p)) ([])), (6, Option.some lz1, Go.Sl.Row (α := Int) 3 (Go.Proofs.Ytfleehgbpgmcnaa.Life.sets (Go.Proofs.Ytfleehgbpgmcnaa.lifeP p)) ([])), (7, Option.map (fun x => Go.Addr.block x) loo1, Go.Sl.Row (α := Int) 3 (Go.Proofs.Ytfleehgbpgmcnaa.Life.outs (Go.Proofs.Ytfleehgbpgmcnaa.lifeP p)) (loj1)), (8, Option.map (fun x => Go.Addr.block x) lo1, Go.Sl.Row (α := Int) 3 (Go.Proofs.Ytfleehgbpgmcnaa.Life.till (Go.Proofs.Ytfleehgbpgmcnaa.lifeP p)) (lj1)), (1, Option.some b2, Go.Obj.cells #[Go.Value.int Go.IntKind.i64 0, Go.Value.int Go.IntKind.i64 0, Go.Value.slice Option.none 0 0, Go.Value.slice Option.none 0 0] 25), (0, Option.some b1, Go.Obj.cells #[Go.Value.int Go.IntKind.i64 (Go.Proofs.Ytfleehgbpgmcnaa.PV.ins p), Go.Value.int Go.IntKind.i64 (Go.Proofs.Ytfleehgbpgmcnaa.PV.regs p), Go.Value.slice ac (List.length (Go.Proofs.Ytfleehgbpgmcnaa.PV.code p)) cc, Go.Value.slice ao (List.length (Go.Proofs.Ytfleehgbpgmcnaa.PV.outs p)) co] 25)])) (fun (q, ol, (oo, od, ok)) => q ≤ p.outs.length ∧ ol = ((lifeP p).outs.map (stand x.s)).take q ∧ OwnA oo od ol ok) (fun (q, ol, (oo, od, ok)) => p.outs.length - q) ((0, [], (none, 0, []))) (⟨Nat.zero_le _, by rw [List.take_zero], OwnA.nil⟩) ⟨rfl, rfl, rfl, rfl, rfl, rfl, rfl, trivial⟩ ⟨rfl, rfl, rfl, rfl, rfl, rfl, rfl, rfl, rfl, rfl, rfl, rfl, rfl, rfl, rfl, trivial⟩ (fun ⟨q, ol, (oo, od, ok)⟩ => fun (hk : q ≤ p.outs.length ∧ ol = ((lifeP p).outs.map (stand x.s)).take q ∧ OwnA oo od ol ok) => ?_)
        obtain ⟨hq1, hol, hoo⟩ := hk
        have hoq : ol.length = q := by rw [hol, List.length_take, List.length_map]; omega
        rcases Nat.lt_or_ge q p.outs.length with hqc | hqc
        · refine Wc.seq ?_
          refine Wc.region rfl ?_
          refine Wl.q rfl (Qy.lss rfl rfl) ?_
          refine Wl.done ?_
          refine Ar.next ?_
          refine Wc.seq ?_
          refine Wc.condP rfl (by first | assumption | omega) ?_
          refine Wc.skip ?_
          refine Ar.next ?_
          refine Wc.seq ?_
          refine Wc.block ?_
          refine Wc.seq ?_
          refine Wc.region rfl ?_
          refine Wl.q rfl (Qy.indexAddrO (α := Int) T.sl23 rfl rfl (by assumption) (by omega)) ?_
          refine Wl.q rfl (Qy.loadO 7 0 T.one3 rfl rfl (by assumption) (by omega) rfl rfl) ?_
          refine Wl.q rfl (Qy.assign rfl) ?_
          refine Wl.done ?_
          refine Ar.next ?_
          refine Wc.draw [0, 1, 8, 7, 6, 5, 4, 3, 2, 14, 12, 11, 10, 20, 13] [(13, 11), (20, 9), (12, 9), (14, 9), (3, 9), (4, 9), (5, 9), (6, 9), (7, 9), (8, 9)] T.mixed rfl ?_
          refine Gm.q 0 [] (by kernel_rfl) rfl rfl (Qy.fieldAddr T.fa25_3 rfl) ?_
          refine Gm.q 1 [13] (by kernel_rfl) rfl rfl (Qy.load 13 T.one23 rfl rfl rfl) ?_
          refine Gm.q 2 [] (by kernel_rfl) rfl rfl (Qy.move rfl) ?_
          refine Gm.q 3 [] (by kernel_rfl) rfl rfl (Qy.nilCheck rfl) ?_
          refine Gm.q 4 [] (by kernel_rfl) rfl rfl (Qy.fieldAddr T.fa114_0 rfl) ?_
          refine Gm.q 5 [10] (by kernel_rfl) rfl rfl (Qy.load 10 T.one112 rfl rfl rfl) ?_
          refine Gm.q 6 [] (by kernel_rfl) rfl rfl (Qy.move rfl) ?_
          refine Gm.q 7 [11] (by kernel_rfl) rfl rfl (Qy.lookup1 11 T.mp112 rfl rfl rfl) ?_
          refine Gm.one 8 ⟨rfl, rfl, rfl, rfl, rfl, rfl, rfl, rfl, rfl, rfl, rfl, rfl, rfl, rfl, rfl, trivial⟩ (by first | exact Imm.le_refl _ | assumption | (refine Imm.le_trans ?_ (by assumption); first | assumption | (refine Imm.le_trans ?_ (by assumption); assumption))) (by kernel_rfl) rfl ?_
          refine Wl.lit (α := Int) 21 [(Option.getD (Go.Sl.mget (Go.Proofs.Ytfleehgbpgmcnaa.Pl.at_ (Go.Proofs.Ytfleehgbpgmcnaa.PkS.s x)) (Option.getD (Go.Proofs.Ytfleehgbpgmcnaa.Life.outs (Go.Proofs.Ytfleehgbpgmcnaa.lifeP p))[Int.toNat (↑q : Int)]? Inhabited.default)) 0)] rfl T.sl23 T.el3 rfl rfl rfl rfl rfl (fun b6 => ?_)
          refine Wl.on0 ?_
          refine Gm.one 9 ⟨rfl, rfl, rfl, rfl, rfl, rfl, rfl, rfl, rfl, rfl, rfl, rfl, rfl, rfl, rfl, trivial⟩ (by first | exact Imm.le_refl _ | assumption | (refine Imm.le_trans ?_ (by assumption); first | assumption | (refine Imm.le_trans ?_ (by assumption); assumption))) (by kernel_rfl) rfl ?_
          refine Wl.append (α := Int) 20 rfl T.sl23 T.el3 rfl rfl rfl (by first | assumption | exact OwnA.nil | exact OwnA.made (by simp)) (Src.row 21 rfl) (by first | omega | (simp only [List.length_append, List.length_cons, List.length_nil, maxLen]; omega)) (by first | omega | (simp only [List.length_append, List.length_cons, List.length_nil, maxLen]; omega)) (fun a1 c1 junk1 ho1 => ?_)
          refine Wl.on0 ?_
          refine Gm.q 10 [] (by kernel_rfl) rfl rfl (Qy.fieldAddr T.fa25_3 rfl) ?_
          refine Gm.one 11 ⟨rfl, rfl, rfl, rfl, rfl, rfl, trivial⟩ (by first | exact Imm.le_refl _ | assumption | (refine Imm.le_trans ?_ (by assumption); first | assumption | (refine Imm.le_trans ?_ (by assumption); assumption))) (by kernel_rfl) rfl ?_
          refine Wl.store 13 T.one23 rfl rfl rfl rfl rfl ?_
          refine Wl.on0 ?_
          refine Gm.doneA (by kernel_rfl) ⟨rfl, rfl, rfl, rfl, rfl, trivial⟩ (by first | exact Imm.le_refl _ | assumption | (refine Imm.le_trans ?_ (by assumption); first | assumption | (refine Imm.le_trans ?_ (by assumption); assumption))) ?_
          refine Ar.outNormal ?_
          refine Ar.next ?_
          refine Wc.region rfl ?_
          refine Wl.q rfl (Qy.add rfl rfl (by omega)) ?_
          refine Wl.q rfl (Qy.move rfl) ?_
          refine Wl.done ?_
          refine Ar.again ((q + 1, ol ++ [stand x.s ((lifeP p).outs[((q : Nat) : Int).toNat]?.getD default)], (a1, c1, junk1))) ?_ ?_ rfl ⟨rfl, rfl, rfl, rfl, rfl, rfl, rfl, trivial⟩ ⟨rfl, rfl, rfl, rfl, rfl, rfl, rfl, rfl, rfl, rfl, rfl, rfl, rfl, rfl, rfl, trivial⟩
          · exact ⟨hqc, by rw [map_take_next (by omega), hol], by assumption⟩
          · show p.outs.length - (q + 1) < p.outs.length - q
            omega
        · have hqe : q = p.outs.length := Nat.le_antisymm hq1 hqc
          subst hqe
          rw [List.take_of_length_le (by rw [List.length_map]; omega)] at hol
          subst hol hx
          refine Wc.seq ?_
          refine Wc.region rfl ?_
          refine Wl.q rfl (Qy.lss rfl rfl) ?_
          refine Wl.done ?_
          refine Ar.next ?_
          refine Wc.seq ?_
          refine Wc.condN rfl (by first | assumption | omega) ?_
          refine Wc.exit ?_
          refine Ar.passExit ?_
          refine Ar.passExit ?_
          refine Ar.here ?_
          refine Ar.next ?_
          refine Wc.seq ?_
          refine Wc.region rfl ?_
          refine Wl.q rfl (Qy.loadAll 13 T.agg25 rfl rfl rfl) ?_
          refine Wl.storeAll 1 T.size25 rfl rfl rfl rfl rfl rfl ?_
          refine Wl.q rfl (Qy.assign rfl) ?_
          refine Wl.done ?_
          refine Ar.next ?_
          refine Wc.ret ?_
          refine Ar.retag 1 30 rfl rfl (Ar.retag 14 0 rfl rfl (Ar.retag 20 1 rfl rfl ?_))
          refine Ar.out2 (.inr rfl) (Ho := Hp.only _ [0, 1]) rfl (.agg 30 rfl rfl T.agg25) (.tmp rfl) (Hp.sub_only _ _) ?_
          exact ⟨oa, oo, oc, od, oj, ok, rfl, hoc, hoo, rfl, rfl⟩
end Go.Proofs.Ytfleehgbpgmcnaa
namespace Go.Proofs.Ytfleehgbpgmcnaa
open Go Go.Sl
set_option linter.unusedVariables false
/-- is a register asked ahead of these instructions, each of which counts or not? -/
def asksFrom (outs : List Int) (r : Int) : List (Sl.Instr × Bool) → Bool
  | [] => decide (r ∈ outs)
  | (i, b) :: l => (b && decide (r ∈ asks i)) || (!decide (i.to = r) && asksFrom outs r l)
theorem setAll_get : ∀ (rs : List Int) (l : List Bool) (k : Nat), k < l.length → (∀ r ∈ rs, 0 ≤ r) → (setAll l rs)[k]?.getD default = (l[k]?.getD default || decide ((k : Int) ∈ rs))
  | [], l, k, hk, _ => by simp [setAll]
  | r :: rs, l, k, hk, hr => by
    have ih := setAll_get rs (l.set r.toNat true) k (by simpa using hk) (fun x hx => hr x (by simp [hx]))
    have e : setAll l (r :: rs) = setAll (l.set r.toNat true) rs := rfl
    rw [e, ih, List.getElem?_set]
    have h0 := hr r (by simp)
    by_cases h : r.toNat = k
    · have h1 : (k : Int) = r := by omega
      have h2 : (k : Int) ∈ r :: rs := by rw [h1]; simp
      rw [if_pos h, if_pos (by omega), decide_eq_true h2]
      simp
    · have h1 : (k : Int) ≠ r := by omega
      rw [if_neg h]
      simp [h1]
theorem asks_pos {i : Sl.Instr} {regs : Int} (h : mayOk i regs = true) : ∀ r ∈ asks i, 0 ≤ r := fun r hr => (asks_in h r hr).1
/-- one step from behind -/
theorem step_get {A : List Bool} {i : Sl.Instr} {regs : Int} (hA : (A.length : Int) = regs) (hm : mayOk i regs = true) {r : Int} (hr : 0 ≤ r ∧ r < regs) :
    (setAll (A.set i.to.toNat false) (asks i))[r.toNat]?.getD default = (decide (r ∈ asks i) || (!decide (i.to = r) && A[r.toNat]?.getD default)) := by
  have hto : 0 ≤ i.to ∧ i.to < regs := by rw [mayOk_iff] at hm; exact ⟨hm.1.2.2.1, hm.1.2.2.2.1⟩
  rw [setAll_get _ _ _ (by rw [List.length_set]; omega) (asks_pos hm), List.getElem?_set]
  have e1 : ((r.toNat : Nat) : Int) = r := by omega
  rw [e1]
  by_cases h : i.to = r
  · subst h
    rw [if_pos rfl, if_pos (by omega)]
    simp
  · rw [if_neg (by omega)]
    simp [h, Bool.or_comm]
theorem start_get {regs : Int} (h0 : 0 ≤ regs) {outs : List Int} (ho : ∀ r ∈ outs, 0 ≤ r ∧ r < regs) {r : Int} (hr : 0 ≤ r ∧ r < regs) : (setAll (List.replicate regs.toNat false) outs)[r.toNat]?.getD default = decide (r ∈ outs) := by
  rw [setAll_get _ _ _ (by simp; omega) (fun x hx => (ho x hx).1)]
  have e1 : ((r.toNat : Nat) : Int) = r := by omega
  rw [e1]
  have : (List.replicate regs.toNat false)[r.toNat]?.getD default = false := by
    rw [List.getElem?_replicate]; split <;> rfl
  rw [this, Bool.false_or]
theorem nf_get {p : PV} (h0 : 0 ≤ p.regs) (ho : ∀ r ∈ p.outs, 0 ≤ r ∧ r < p.regs) : ∀ (l : List Sl.Instr), (∀ i ∈ l, mayOk i p.regs = true) → ∀ r, 0 ≤ r ∧ r < p.regs → (nf p l).1[r.toNat]?.getD default = asksFrom p.outs r (l.zip (nf p l).2)
  | [], _, r, hr => by simpa [nf, asksFrom] using start_get h0 ho hr
  | i :: l, hl, r, hr => by
    have ih := nf_get h0 ho l (fun j hj => hl j (by simp [hj]))
    have hm := hl i (by simp)
    have hto : 0 ≤ i.to ∧ i.to < p.regs := by rw [mayOk_iff] at hm; exact ⟨hm.1.2.2.1, hm.1.2.2.2.1⟩
    have hlen : ((nf p l).1.length : Int) = p.regs := by rw [(nf_len p l).1]; omega
    by_cases h : (nf p l).1[i.to.toNat]?.getD default = true
    · have e : nf p (i :: l) = (setAll ((nf p l).1.set i.to.toNat false) (asks i), true :: (nf p l).2) := by simp only [nf]; rw [if_pos h]
      rw [e, step_get hlen hm hr, ih r hr]
      simp [asksFrom]
    · have e : nf p (i :: l) = ((nf p l).1, false :: (nf p l).2) := by simp only [nf]; rw [if_neg h]
      rw [e]
      show (nf p l).1[r.toNat]?.getD default = asksFrom p.outs r ((i, false) :: l.zip (nf p l).2)
      simp only [asksFrom, Bool.false_and, Bool.false_or]
      by_cases ht : i.to = r
      · subst ht
        simpa using h
      · rw [ih r hr]; simp [ht]
/-- the marks by what stands behind each -/
def rf (p : PV) : List Sl.Instr → List Bool
  | [] => []
  | i :: l => asksFrom p.outs i.to (l.zip (rf p l)) :: rf p l
theorem rf_nf {p : PV} (h0 : 0 ≤ p.regs) (ho : ∀ r ∈ p.outs, 0 ≤ r ∧ r < p.regs) : ∀ (l : List Sl.Instr), (∀ i ∈ l, mayOk i p.regs = true) → rf p l = (nf p l).2
  | [], _ => by simp [rf, nf]
  | i :: l, hl => by
    have ih := rf_nf h0 ho l (fun j hj => hl j (by simp [hj]))
    have hm := hl i (by simp)
    have hto : 0 ≤ i.to ∧ i.to < p.regs := by rw [mayOk_iff] at hm; exact ⟨hm.1.2.2.1, hm.1.2.2.2.1⟩
    have hg := nf_get h0 ho l (fun j hj => hl j (by simp [hj])) i.to hto
    simp only [rf]
    rw [ih, ← hg]
    by_cases h : (nf p l).1[i.to.toNat]?.getD default = true
    · have e : nf p (i :: l) = (setAll ((nf p l).1.set i.to.toNat false) (asks i), true :: (nf p l).2) := by simp only [nf]; rw [if_pos h]
      rw [e, h]
    · have e : nf p (i :: l) = ((nf p l).1, false :: (nf p l).2) := by simp only [nf]; rw [if_neg h]
      have h' : (nf p l).1[i.to.toNat]?.getD default = false := by simpa using h
      rw [e, h']
theorem needed_rf {p : PV} (h : rightP p = true) : neededP p = rf p p.code := by
  obtain ⟨r1, r2, r3, r4, r5, r6, r7, r8⟩ := right_facts h
  rw [needed_nf, rf_nf (by omega) r7 p.code r8]
theorem rf_drop (p : PV) : ∀ (l : List Sl.Instr) (m : Nat), (rf p l).drop m = rf p (l.drop m)
  | [], m => by simp [rf]
  | i :: l, 0 => by simp
  | i :: l, m + 1 => by
    show (_ :: rf p l).drop (m + 1) = rf p ((i :: l).drop (m + 1))
    rw [List.drop_succ_cons, List.drop_succ_cons]
    exact rf_drop p l m
/-- asked from an instruction on -/
def fromAt (p : PV) (r : Int) (j : Nat) : Bool := asksFrom p.outs r ((p.code.drop j).zip (rf p (p.code.drop j)))
theorem fromAt_end (p : PV) (r : Int) {j : Nat} (h : p.code.length ≤ j) : fromAt p r j = decide (r ∈ p.outs) := by
  unfold fromAt; rw [List.drop_eq_nil_of_le h]; rfl
theorem rf_at (p : PV) {j : Nat} (h : j < p.code.length) : rf p (p.code.drop j) = fromAt p (p.code[j]?.getD default).to (j + 1) :: rf p (p.code.drop (j + 1)) := by
  rw [List.drop_eq_getElem_cons h, List.getElem?_eq_getElem h, Option.getD_some]; rfl
theorem fromAt_step (p : PV) (r : Int) {j : Nat} (h : j < p.code.length) : fromAt p r j = ((fromAt p (p.code[j]?.getD default).to (j + 1) && decide (r ∈ asks (p.code[j]?.getD default))) || (!decide ((p.code[j]?.getD default).to = r) && fromAt p r (j + 1))) := by
  have h1 := rf_at p h
  unfold fromAt
  rw [h1, List.drop_eq_getElem_cons h, List.zip_cons_cons, List.getElem?_eq_getElem h, Option.getD_some]
  rfl
end Go.Proofs.Ytfleehgbpgmcnaa
set_option linter.unusedVariables false
namespace Go.Proofs.Ytfleehgbpgmcnaa
open Go Go.Sl
def heldAt (p : PV) (k : Nat) (r : Int) : Int := (lifeTo p k).held[r.toNat]?.getD default
def vlen (p : PV) (k : Nat) : Nat := (lifeTo p k).till.length
def tl (l : Life) (v : Int) : Int := l.till[v.toNat]?.getD default
def dueA (p : PV) (k : Nat) : Int := vA (lifeTo p k) (cAt p k)
def dueB (p : PV) (k : Nat) : Int := vB (lifeTo p k) (cAt p k)
theorem life_yes {p : PV} {k : Nat} (h : nAt p k = true) : lifeTo p (k + 1) = lifeStep (lifeTo p k) k (cAt p k) := if_pos h
theorem life_no {p : PV} {k : Nat} (h : ¬ nAt p k = true) : lifeTo p (k + 1) = lifeTo p k := if_neg h
theorem vlen_yes {p : PV} {k : Nat} (h : nAt p k = true) : vlen p (k + 1) = vlen p k + 1 := by unfold vlen; rw [life_yes h]; exact step_till_len _ _ _
theorem vlen_no {p : PV} {k : Nat} (h : ¬ nAt p k = true) : vlen p (k + 1) = vlen p k := by unfold vlen; rw [life_no h]
theorem vlen_mono (p : PV) {k j : Nat} (h : k ≤ j) : vlen p k ≤ vlen p j := by
  induction j with
  | zero => rw [Nat.le_zero.1 h]; exact Nat.le_refl _
  | succ j ih =>
    by_cases hk : k = j + 1
    · rw [hk]; exact Nat.le_refl _
    · have h1 := ih (by omega)
      by_cases hn : nAt p j = true
      · rw [vlen_yes hn]; omega
      · rw [vlen_no hn]; exact h1
theorem held_yes {p : PV} (hR : rightP p = true) {k : Nat} (hk : k < p.code.length) (h : nAt p k = true) {r : Int} (hr : 0 ≤ r ∧ r < p.regs) : heldAt p (k + 1) r = if (cAt p k).to = r then (vlen p k : Int) else heldAt p k r := by
  unfold heldAt
  rw [life_yes h]
  have hl := (lifeTo_ok hR k (by omega)).hl
  have ht := (may_facts (code_may hR hk)).2.1
  show ((lifeTo p k).held.set (cAt p k).to.toNat _)[r.toNat]?.getD default = _
  rw [ints_get_set (by rw [hl]; exact hr), Int.toNat_of_nonneg ht.1]
  rfl
theorem held_no {p : PV} {k : Nat} (h : ¬ nAt p k = true) (r : Int) : heldAt p (k + 1) r = heldAt p k r := by unfold heldAt; rw [life_no h]
theorem held_in {p : PV} (hR : rightP p = true) {k : Nat} (hk : k ≤ p.code.length) {r : Int} (hr : 0 ≤ r ∧ r < p.regs) : 0 ≤ heldAt p k r ∧ heldAt p k r < vlen p k := by
  have ok := lifeTo_ok hR k hk
  exact ok.hb _ (get_mem (by rw [ok.hl]; exact hr))
theorem held_back {p : PV} (hR : rightP p = true) {r : Int} (hr : 0 ≤ r ∧ r < p.regs) {k : Nat} : ∀ (j : Nat), k ≤ j → j ≤ p.code.length → heldAt p j r < vlen p k → heldAt p k r = heldAt p j r
  | 0, h, _, _ => by rw [Nat.le_zero.1 h]
  | j + 1, h, hj, hv => by
    by_cases hk : k = j + 1
    · rw [hk]
    · have hm := vlen_mono p (show k ≤ j by omega)
      by_cases hn : nAt p j = true
      · have e := held_yes hR (by omega) hn hr
        by_cases ht : (cAt p j).to = r
        · rw [if_pos ht] at e; rw [e] at hv; omega
        · rw [if_neg ht] at e
          rw [e] at hv ⊢
          exact held_back hR hr j (by omega) (by omega) hv
      · rw [held_no hn] at hv ⊢
        exact held_back hR hr j (by omega) (by omega) hv
theorem due_in {p : PV} (hR : rightP p = true) {k : Nat} (hk : k < p.code.length) : (0 ≤ dueA p k ∧ dueA p k < vlen p k) ∧ (0 ≤ dueB p k ∧ dueB p k < vlen p k) :=
  ⟨vA_ok (lifeTo_ok hR k (by omega)) (code_may hR hk), vB_ok (lifeTo_ok hR k (by omega)) (code_may hR hk)⟩
theorem due_held {p : PV} (hR : rightP p = true) {k : Nat} (hk : k < p.code.length) : (∃ r, (0 ≤ r ∧ r < p.regs) ∧ heldAt p k r = dueA p k) ∧ (∃ r, (0 ≤ r ∧ r < p.regs) ∧ heldAt p k r = dueB p k) := by
  have hm := may_facts (code_may hR hk)
  have h1 : ∃ r, (0 ≤ r ∧ r < p.regs) ∧ heldAt p k r = dueA p k := ⟨(cAt p k).a, hm.2.2.1, rfl⟩
  refine ⟨h1, ?_⟩
  by_cases h2 : 1 < (asks (cAt p k)).length
  · exact ⟨(cAt p k).b, hm.2.2.2.1 (two_op h2), (if_pos h2).symm⟩
  · obtain ⟨r, hr, e⟩ := h1
    exact ⟨r, hr, e.trans (if_neg h2).symm⟩
/-- until when a value is asked, as far as k -/
theorem tl_step {p : PV} (hR : rightP p = true) {k : Nat} (hk : k < p.code.length) (h : nAt p k = true) {v : Int} (hv : 0 ≤ v ∧ v < vlen p k) :
    tl (lifeTo p (k + 1)) v = if v = dueA p k ∨ v = dueB p k then (k : Int) else tl (lifeTo p k) v := by
  obtain ⟨⟨ha0, ha1⟩, hb0, hb1⟩ := due_in hR hk
  unfold tl
  rw [life_yes h]
  show ((((lifeTo p k).till.set (dueA p k).toNat (k : Int)).set (dueB p k).toNat (k : Int)) ++ [-1])[v.toNat]?.getD default = _
  have hv1 : v.toNat < (lifeTo p k).till.length := by have := hv.2; unfold vlen at this; omega
  rw [List.getElem?_append_left (by rw [List.length_set, List.length_set]; exact hv1)]
  unfold vlen at hb1 ha1 hv
  rw [ints_get_set (by rw [List.length_set]; exact hv), ints_get_set hv, Int.toNat_of_nonneg ha0, Int.toNat_of_nonneg hb0]
  by_cases e1 : dueB p k = v
  · rw [if_pos e1, if_pos (.inr e1.symm)]
  · rw [if_neg e1]
    by_cases e2 : dueA p k = v
    · rw [if_pos e2, if_pos (.inl e2.symm)]
    · rw [if_neg e2, if_neg (by rintro (h | h) <;> first | exact e2 h.symm | exact e1 h.symm)]
theorem tl_new {p : PV} {k : Nat} (h : nAt p k = true) : tl (lifeTo p (k + 1)) (vlen p k) = -1 := by
  unfold tl vlen
  rw [life_yes h]
  show ((((lifeTo p k).till.set _ _).set _ _) ++ [-1])[((((lifeTo p k).till.length : Nat)) : Int).toNat]?.getD default = _
  rw [Int.toNat_natCast, List.getElem?_append_right (by rw [List.length_set, List.length_set]; exact Nat.le_refl _), List.length_set, List.length_set, Nat.sub_self]
  rfl
/-- who asks last -/
def Asked (p : PV) (t : Nat) (v : Int) : Prop := nAt p t = true ∧ (v = dueA p t ∨ v = dueB p t)
theorem tl_said {p : PV} (hR : rightP p = true) : ∀ (k : Nat), k ≤ p.code.length → ∀ v : Int, 0 ≤ v ∧ v < vlen p k → tl (lifeTo p k) v = -1 ∨ ∃ t : Nat, t < k ∧ tl (lifeTo p k) v = t ∧ Asked p t v
  | 0, _, v, hv => by
    left
    show (List.replicate (p.ins.toNat + 1) (-1 : Int))[v.toNat]?.getD default = -1
    have : vlen p 0 = p.ins.toNat + 1 := List.length_replicate
    rw [List.getElem?_replicate, if_pos (by omega)]; rfl
  | k + 1, hk, v, hv => by
    by_cases hn : nAt p k = true
    · rw [vlen_yes hn] at hv
      by_cases hl : v < vlen p k
      · rw [tl_step hR (by omega) hn ⟨hv.1, hl⟩]
        by_cases hd : v = dueA p k ∨ v = dueB p k
        · rw [if_pos hd]; exact .inr ⟨k, by omega, rfl, hn, hd⟩
        · rw [if_neg hd]
          rcases tl_said hR k (by omega) v ⟨hv.1, hl⟩ with h | ⟨t, h1, h2, h3⟩
          · exact .inl h
          · exact .inr ⟨t, by omega, h2, h3⟩
      · have : v = vlen p k := by omega
        rw [this]; exact .inl (tl_new hn)
    · rw [vlen_no hn] at hv
      rw [life_no hn]
      rcases tl_said hR k (by omega) v hv with h | ⟨t, h1, h2, h3⟩
      · exact .inl h
      · exact .inr ⟨t, by omega, h2, h3⟩
theorem tl_grow {p : PV} (hR : rightP p = true) {k : Nat} {v : Int} (hv : 0 ≤ v ∧ v < vlen p k) : ∀ (j : Nat), k ≤ j → j ≤ p.code.length → tl (lifeTo p k) v ≤ tl (lifeTo p j) v
  | 0, h, _ => by rw [Nat.le_zero.1 h]; exact Int.le_refl _
  | j + 1, h, hj => by
    by_cases hk : k = j + 1
    · rw [hk]; exact Int.le_refl _
    · have h1 := tl_grow hR hv j (by omega) (by omega)
      have hm := vlen_mono p (show k ≤ j by omega)
      by_cases hn : nAt p j = true
      · rw [tl_step hR (by omega) hn (by omega)]
        split
        · rcases tl_said hR k (by omega) v hv with h2 | ⟨t, h2, h3, _⟩ <;> omega
        · exact h1
      · rw [life_no hn]; exact h1
theorem out_len (p : PV) : ∀ j, (outTo p j).till.length = vlen p p.code.length
  | 0 => rfl
  | j + 1 => by show ((outTo p j).till.set _ _).length = _; rw [List.length_set]; exact out_len p j
theorem outTo_held' (p : PV) : ∀ j, (outTo p j).held = (lifeTo p p.code.length).held
  | 0 => rfl
  | j + 1 => outTo_held' p j
theorem out_tl {p : PV} (hR : rightP p = true) {v : Int} (hv : 0 ≤ v ∧ v < vlen p p.code.length) : ∀ (j : Nat), j ≤ p.outs.length →
    (tl (outTo p j) v = tl (lifeTo p p.code.length) v ∨ tl (outTo p j) v = p.code.length ∧ ∃ r, (0 ≤ r ∧ r < p.regs) ∧ heldAt p p.code.length r = v) ∧
    (∀ i : Nat, i < j → heldAt p p.code.length (p.outs[((i : Nat) : Int).toNat]?.getD default) = v → tl (outTo p j) v = p.code.length)
  | 0, _ => ⟨.inl rfl, fun i hi => by omega⟩
  | j + 1, hj => by
    obtain ⟨h1, h2⟩ := out_tl hR hv j (by omega)
    have hr := out_may hR (show j < p.outs.length by omega)
    have hh : (outTo p j).held[(p.outs[((j : Nat) : Int).toNat]?.getD default).toNat]?.getD default = heldAt p p.code.length (p.outs[((j : Nat) : Int).toNat]?.getD default) := by unfold heldAt; rw [outTo_held']
    have hin := held_in hR (Nat.le_refl _) hr
    have e : tl (outTo p (j + 1)) v = if heldAt p p.code.length (p.outs[((j : Nat) : Int).toNat]?.getD default) = v then (p.code.length : Int) else tl (outTo p j) v := by
      unfold tl
      show ((outTo p j).till.set _ _)[v.toNat]?.getD default = _
      rw [hh, ints_get_set (by rw [out_len]; exact hv), Int.toNat_of_nonneg hin.1]
    by_cases hd : heldAt p p.code.length (p.outs[((j : Nat) : Int).toNat]?.getD default) = v
    · rw [if_pos hd] at e
      exact ⟨.inr ⟨e, _, hr, hd⟩, fun _ _ _ => e⟩
    · rw [if_neg hd] at e
      rw [e]
      refine ⟨h1, fun i hi hiv => ?_⟩
      by_cases hij : i = j
      · subst hij; exact absurd hiv hd
      · exact h2 i (by omega) hiv
/-- the last time that a value is asked -/
def due (p : PV) (v : Int) : Int := tl (lifeP p) v
theorem due_ge {p : PV} (hR : rightP p = true) {k : Nat} {v : Int} (hk : k ≤ p.code.length) (hv : 0 ≤ v ∧ v < vlen p k) : tl (lifeTo p k) v ≤ due p v := by
  have h1 := tl_grow hR hv p.code.length hk (Nat.le_refl _)
  have hv2 : 0 ≤ v ∧ v < vlen p p.code.length := ⟨hv.1, by have := vlen_mono p hk; omega⟩
  unfold due lifeP
  rcases (out_tl hR hv2 p.outs.length (Nat.le_refl _)).1 with h2 | ⟨h2, _⟩
  · rw [h2]; exact h1
  · rw [h2]
    rcases tl_said hR p.code.length (Nat.le_refl _) v hv2 with h3 | ⟨t, h3, h4, _⟩ <;> omega
/-- B1 -/
theorem due_asked {p : PV} (hR : rightP p = true) {k : Nat} (hk : k < p.code.length) {v : Int} (h : Asked p k v) : (k : Int) ≤ due p v := by
  obtain ⟨hn, hd⟩ := h
  have hin := due_in hR hk
  have hv : 0 ≤ v ∧ v < vlen p k := by rcases hd with h | h <;> rw [h] <;> first | exact hin.1 | exact hin.2
  have h1 := due_ge hR (k := k + 1) (v := v) (by omega) ⟨hv.1, by rw [vlen_yes hn]; omega⟩
  rw [tl_step hR hk hn hv, if_pos hd] at h1
  exact h1
/-- B2 -/
theorem due_out {p : PV} (hR : rightP p = true) {i : Nat} (hi : i < p.outs.length) : due p (heldAt p p.code.length (p.outs[((i : Nat) : Int).toNat]?.getD default)) = p.code.length :=
  (out_tl hR (held_in hR (Nat.le_refl _) (out_may hR hi)) p.outs.length (Nat.le_refl _)).2 i hi rfl
/-- B3 -/
theorem due_who {p : PV} (hR : rightP p = true) {v : Int} (hv : 0 ≤ v ∧ v < vlen p p.code.length) : due p v = -1 ∨ (∃ t : Nat, t < p.code.length ∧ due p v = t ∧ Asked p t v) ∨ (due p v = p.code.length ∧ ∃ r, (0 ≤ r ∧ r < p.regs) ∧ heldAt p p.code.length r = v) := by
  unfold due lifeP
  rcases (out_tl hR hv p.outs.length (Nat.le_refl _)).1 with h2 | h2
  · rw [h2]
    rcases tl_said hR p.code.length (Nat.le_refl _) v hv with h | h
    · exact .inl h
    · exact .inr (.inl h)
  · exact .inr (.inr h2)
/-- what is asked at k or later stands in a register ahead of k -/
theorem due_stands {p : PV} (hR : rightP p = true) {k : Nat} (hk : k ≤ p.code.length) {v : Int} (hv : 0 ≤ v ∧ v < vlen p k) (hd : (k : Int) ≤ due p v) : ∃ r, (0 ≤ r ∧ r < p.regs) ∧ heldAt p k r = v := by
  have hv2 : 0 ≤ v ∧ v < vlen p p.code.length := ⟨hv.1, by have := vlen_mono p hk; omega⟩
  rcases due_who hR hv2 with h | ⟨t, ht, h, hn, ha⟩ | ⟨h, r, hr, e⟩
  · omega
  · have h9 := due_held hR ht
    have h8 : ∃ r, (0 ≤ r ∧ r < p.regs) ∧ heldAt p t r = v := by rcases ha with e | e <;> rw [e] <;> first | exact h9.1 | exact h9.2
    obtain ⟨r, hr, e⟩ := h8
    exact ⟨r, hr, (held_back hR hr t (by omega) (by omega) (by rw [e]; exact hv.2)).trans e⟩
  · exact ⟨r, hr, (held_back hR hr p.code.length hk (Nat.le_refl _) (by rw [e]; exact hv.2)).trans e⟩
theorem need_from {p : PV} (hR : rightP p = true) {k : Nat} (hk : k < p.code.length) : nAt p k = fromAt p (cAt p k).to (k + 1) := by
  have h1 := rf_at p hk
  have h2 := rf_drop p p.code k
  unfold nAt
  rw [needed_rf hR, Int.toNat_natCast]
  have h3 : (rf p p.code)[k]? = ((rf p p.code).drop k)[0]? := by rw [List.getElem?_drop, Nat.add_zero]
  rw [h3, h2, h1]
  rfl
theorem from_due {p : PV} (hR : rightP p = true) {r : Int} (hr : 0 ≤ r ∧ r < p.regs) : ∀ (d j : Nat), j + d = p.code.length → fromAt p r j = true → (j : Int) ≤ due p (heldAt p j r)
  | 0, j, hj, h => by
    have hj' : j = p.code.length := by omega
    subst hj'
    rw [fromAt_end p r (Nat.le_refl _), decide_eq_true_eq] at h
    obtain ⟨i, hi, e⟩ := List.mem_iff_getElem.1 h
    have := due_out hR hi
    rw [Int.toNat_natCast, List.getElem?_eq_getElem hi, Option.getD_some, e] at this
    omega
  | d + 1, j, hj, h => by
    have hjn : j < p.code.length := by omega
    have hcj : p.code[j]?.getD default = cAt p j := by unfold cAt; rw [Int.toNat_natCast]
    rw [fromAt_step p r hjn, hcj, Bool.or_eq_true, Bool.and_eq_true, Bool.and_eq_true, decide_eq_true_eq, ← need_from hR hjn] at h
    rcases h with ⟨hn, ha⟩ | ⟨ht, hf⟩
    · refine due_asked hR hjn ⟨hn, ?_⟩
      unfold asks at ha
      split at ha
      · rename_i h34
        rcases List.mem_cons.1 ha with e | ha
        · left; rw [e]; rfl
        · right
          rw [List.mem_singleton.1 ha]
          exact (if_pos (by rw [two_iff]; exact h34)).symm
      · split at ha
        · left; rw [List.mem_singleton.1 ha]; rfl
        · cases ha
    · have ih := from_due hR hr d (j + 1) (by omega) hf
      have hne : ¬ (cAt p j).to = r := by simpa using ht
      by_cases hn : nAt p j = true
      · rw [held_yes hR hjn hn hr, if_neg hne] at ih; omega
      · rw [held_no hn] at ih; omega
/-- a value that is set is asked -/
theorem new_due {p : PV} (hR : rightP p = true) {k : Nat} (hk : k < p.code.length) (hn : nAt p k = true) : ((k + 1 : Nat) : Int) ≤ due p (vlen p k) := by
  have ht := (may_facts (code_may hR hk)).2.1
  have h1 := hn
  rw [need_from hR hk] at h1
  have h2 := from_due hR ht (p.code.length - (k + 1)) (k + 1) (by omega) h1
  rw [held_yes hR hk hn ht, if_pos rfl] at h2
  exact h2
end Go.Proofs.Ytfleehgbpgmcnaa
set_option linter.unusedVariables false
namespace Go.Proofs.Ytfleehgbpgmcnaa
open Go Go.Sl
theorem ab_keep (p : PV) {k : Nat} : ∀ (j : Nat), k < j → (lifeTo p j).a[((k : Nat) : Int).toNat]?.getD default = (lifeTo p (k + 1)).a[((k : Nat) : Int).toNat]?.getD default ∧ (lifeTo p j).b[((k : Nat) : Int).toNat]?.getD default = (lifeTo p (k + 1)).b[((k : Nat) : Int).toNat]?.getD default ∧ (lifeTo p j).sets[((k : Nat) : Int).toNat]?.getD default = (lifeTo p (k + 1)).sets[((k : Nat) : Int).toNat]?.getD default
  | 0, h => absurd h (Nat.not_lt_zero _)
  | j + 1, h => by
    by_cases hk : k = j
    · rw [hk]; exact ⟨rfl, rfl, rfl⟩
    · have ih := ab_keep p (k := k) j (by omega)
      by_cases hn : nAt p j = true
      · rw [life_yes hn]
        refine ⟨?_, ?_, ?_⟩
        · show ((lifeTo p j).a.set j _)[((k : Nat) : Int).toNat]?.getD default = _
          rw [List.getElem?_set, if_neg (by omega)]; exact ih.1
        · show ((lifeTo p j).b.set j _)[((k : Nat) : Int).toNat]?.getD default = _
          rw [List.getElem?_set, if_neg (by omega)]; exact ih.2.1
        · show ((lifeTo p j).sets.set j _)[((k : Nat) : Int).toNat]?.getD default = _
          rw [List.getElem?_set, if_neg (by omega)]; exact ih.2.2
      · rw [life_no hn]; exact ih
theorem out_abs (p : PV) : ∀ j, (outTo p j).a = (lifeTo p p.code.length).a ∧ (outTo p j).b = (lifeTo p p.code.length).b ∧ (outTo p j).sets = (lifeTo p p.code.length).sets
  | 0 => ⟨rfl, rfl, rfl⟩
  | j + 1 => out_abs p j
theorem set_here {l : List Int} {k : Nat} {x : Int} (h : k < l.length) : (l.set k x)[((k : Nat) : Int).toNat]?.getD default = x := by
  rw [Int.toNat_natCast, List.getElem?_set_self h]; rfl
theorem life_abs {p : PV} (hR : rightP p = true) {k : Nat} (hk : k < p.code.length) (hn : nAt p k = true) :
    (lifeP p).a[((k : Nat) : Int).toNat]?.getD default = dueA p k ∧ (lifeP p).b[((k : Nat) : Int).toNat]?.getD default = dueB p k ∧ (lifeP p).sets[((k : Nat) : Int).toNat]?.getD default = vlen p k := by
  obtain ⟨o1, o2, o3⟩ := out_abs p p.outs.length
  obtain ⟨k1, k2, k3⟩ := ab_keep p p.code.length hk
  have ok := lifeTo_ok hR k (by omega)
  unfold lifeP
  rw [o1, o2, o3, k1, k2, k3, life_yes hn]
  exact ⟨set_here (by rw [ok.al]; exact hk), set_here (by rw [ok.bl]; exact hk), set_here (by rw [ok.sl]; exact hk)⟩
theorem pigeon : ∀ (n : Nat) (f : Nat → Nat) (m : Nat), (∀ i, i < m → f i < n) → (∀ i j, i < m → j < m → f i = f j → i = j) → m ≤ n
  | 0, f, m, h, _ => by
    cases m with
    | zero => exact Nat.le_refl _
    | succ m => exact absurd (h 0 (by omega)) (Nat.not_lt_zero _)
  | n + 1, f, m, h, hi => by
    by_cases hx : ∃ i, i < m ∧ f i = n
    · obtain ⟨a, ha, hfa⟩ := hx
      have := pigeon n (fun i => if i < a then f i else f (i + 1)) (m - 1) (fun i hm => by
        show (if i < a then f i else f (i + 1)) < n
        split
        · have h1 := h i (by omega)
          have h2 : f i ≠ n := fun e => by have := hi i a (by omega) ha (e.trans hfa.symm); omega
          omega
        · have h1 := h (i + 1) (by omega)
          have h2 : f (i + 1) ≠ n := fun e => by have := hi (i + 1) a (by omega) ha (e.trans hfa.symm); omega
          omega) (fun i j hi' hj' e => by
        have e : (if i < a then f i else f (i + 1)) = (if j < a then f j else f (j + 1)) := e
        split at e <;> split at e
        · exact hi i j (by omega) (by omega) e
        · have := hi i (j + 1) (by omega) (by omega) e; omega
        · have := hi (i + 1) j (by omega) (by omega) e; omega
        · have := hi (i + 1) (j + 1) (by omega) (by omega) e; omega)
      omega
    · have := pigeon n f m (fun i hm => by
        have h1 := h i hm
        have h2 : f i ≠ n := fun e => hx ⟨i, hm, e⟩
        omega) hi
      omega
/-- asked at k or later -/
def Alive (p : PV) (k : Nat) (v : Int) : Prop := (0 ≤ v ∧ v < vlen p k) ∧ (k : Int) ≤ due p v
def fr (s : Pl) (r : Int) : Bool := s.free[r.toNat]?.getD default
theorem bools_get_set {l : List Bool} {k : Nat} {x : Bool} {r : Int} (hr : 0 ≤ r ∧ r < l.length) : (l.set k x)[r.toNat]?.getD default = if (k : Int) = r then x else l[r.toNat]?.getD default := by
  rw [List.getElem?_set]
  by_cases h : k = r.toNat
  · rw [if_pos h, if_pos (by omega), if_pos (by omega)]; rfl
  · rw [if_neg h, if_neg (by omega)]
theorem fr_free {p : PV} {k : Nat} {s : Pl} {v r : Int} (hs : PlOk s) (hr : 0 ≤ r ∧ r < s.free.length) : fr (freeAt (lifeP p) k s v) r = (fr s r || decide (due p v = k ∧ stand s v = r)) := by
  have hv := hs.ab v
  unfold fr freeAt
  by_cases h : (lifeP p).till[v.toNat]?.getD default = (k : Int)
  · rw [if_pos h]
    show (s.free.set _ true)[r.toNat]?.getD default = _
    rw [bools_get_set hr, Int.toNat_of_nonneg hv.1]
    by_cases e : stand s v = r
    · rw [if_pos e, decide_eq_true ⟨h, e⟩, Bool.or_true]
    · rw [if_neg e, decide_eq_false (fun x => e x.2), Bool.or_false]
  · rw [if_neg h, decide_eq_false (fun x => h x.1), Bool.or_false]
theorem fr_give {s : Pl} {v r : Int} (hr : 0 ≤ r ∧ r < (giveP s v).free.length) : fr (giveP s v) r = if r = least s.free then false else fr s r := by
  have hl := give_len s v
  have hle := least_le s.free
  unfold fr giveP
  simp only
  by_cases h : least s.free < s.free.length
  · rw [if_pos h] at hl ⊢
    rw [bools_get_set (by omega)]
    by_cases e : r = least s.free
    · rw [if_pos e.symm, if_pos e]
    · rw [if_neg (fun x => e x.symm), if_neg e]
  · rw [if_neg h] at hl ⊢
    by_cases e : r = least s.free
    · rw [if_pos e, List.getElem?_append_right (by omega), e, Int.toNat_natCast, show least s.free - s.free.length = 0 by omega]; rfl
    · rw [if_neg e, List.getElem?_append_left (by omega)]
theorem least_free {l : List Bool} (h : least l < l.length) : l[least l]?.getD default = true := by
  rw [List.getElem?_eq_getElem h]
  unfold least at h ⊢
  exact List.findIdx_getElem (w := h)
theorem none_free {l : List Bool} (h : ¬ least l < l.length) (r : Nat) (hr : r < l.length) : l[r]?.getD default = false := by
  have h1 : l.findIdx (fun b => b) = l.length := by unfold least at h; have := least_le l; unfold least at this; omega
  rw [List.getElem?_eq_getElem hr]
  exact (List.findIdx_eq_length.1 h1) _ (List.getElem_mem hr)
structure Occ (p : PV) (k : Nat) (s : Pl) : Prop where
  ok : PlOk s
  i1 : ∀ v, Alive p k v → fr s (stand s v) = false
  i2 : ∀ v w, Alive p k v → Alive p k w → stand s v = stand s w → v = w
  i3 : ∀ r : Int, 0 ≤ r ∧ r < s.free.length → fr s r = false → ∃ v, Alive p k v ∧ stand s v = r
  i5 : (s.free.length : Int) ≤ p.regs
theorem alive_no {p : PV} (hR : rightP p = true) {k : Nat} (hk : k < p.code.length) (hn : ¬ nAt p k = true) {v : Int} : Alive p (k + 1) v ↔ Alive p k v := by
  unfold Alive
  rw [vlen_no hn]
  constructor
  · rintro ⟨h1, h2⟩; exact ⟨h1, by omega⟩
  · rintro ⟨h1, h2⟩
    refine ⟨h1, ?_⟩
    have hv2 : 0 ≤ v ∧ v < vlen p p.code.length := ⟨h1.1, by have := vlen_mono p (show k ≤ p.code.length by omega); omega⟩
    rcases due_who hR hv2 with h | ⟨t, ht, h, ha, _⟩ | ⟨h, _⟩
    · omega
    · by_cases e : t = k
      · subst e; exact absurd ha hn
      · omega
    · omega
/-- who is alive behind an instruction: the value that it sets, and those who were, but those asked for the last time -/
theorem alive_yes {p : PV} (hR : rightP p = true) {k : Nat} (hk : k < p.code.length) (hn : nAt p k = true) {v : Int} : Alive p (k + 1) v ↔ v = vlen p k ∨ (Alive p k v ∧ due p v ≠ k) := by
  have hnew := new_due hR hk hn
  unfold Alive
  rw [vlen_yes hn]
  constructor
  · rintro ⟨h1, h2⟩
    by_cases e : v = vlen p k
    · exact .inl e
    · exact .inr ⟨⟨by omega, by omega⟩, by omega⟩
  · rintro (e | ⟨⟨h1, h2⟩, h3⟩)
    · subst e; exact ⟨by omega, hnew⟩
    · exact ⟨by omega, by omega⟩
theorem alive_due {p : PV} (hR : rightP p = true) {k : Nat} (hk : k < p.code.length) (hn : nAt p k = true) : Alive p k (dueA p k) ∧ Alive p k (dueB p k) :=
  ⟨⟨(due_in hR hk).1, due_asked hR hk ⟨hn, .inl rfl⟩⟩, ⟨(due_in hR hk).2, due_asked hR hk ⟨hn, .inr rfl⟩⟩⟩
theorem last_due {p : PV} (hR : rightP p = true) {k : Nat} (hk : k < p.code.length) {v : Int} (ha : Alive p k v) (hd : due p v = k) : v = dueA p k ∨ v = dueB p k := by
  have hv2 : 0 ≤ v ∧ v < vlen p p.code.length := ⟨ha.1.1, by have := vlen_mono p (show k ≤ p.code.length by omega); have := ha.1.2; omega⟩
  rcases due_who hR hv2 with h | ⟨t, ht, h, _, h4⟩ | ⟨h, _⟩
  · omega
  · have e : t = k := by omega
    subst e; exact h4
  · omega
def s2P (p : PV) (k : Nat) (s : Pl) : Pl := freeAt (lifeP p) k (freeAt (lifeP p) k s (dueA p k)) (dueB p k)
theorem s2_len (p : PV) (k : Nat) (s : Pl) : (s2P p k s).free.length = s.free.length := by unfold s2P; rw [freeAt_len, freeAt_len]
theorem s2_stand (p : PV) (k : Nat) (s : Pl) (w : Int) : stand (s2P p k s) w = stand s w := by unfold s2P; rw [freeAt_stand, freeAt_stand]
theorem s2_fr {p : PV} {k : Nat} {s : Pl} (hs : PlOk s) {r : Int} (hr : 0 ≤ r ∧ r < s.free.length) : fr (s2P p k s) r = (fr s r || decide (due p (dueA p k) = k ∧ stand s (dueA p k) = r) || decide (due p (dueB p k) = k ∧ stand s (dueB p k) = r)) := by
  unfold s2P
  rw [fr_free (freeAt_ok hs) (by rw [freeAt_len]; exact hr), fr_free hs hr, freeAt_stand]
theorem s2_false {p : PV} {k : Nat} {s : Pl} (hs : PlOk s) {r : Int} (hr : 0 ≤ r ∧ r < s.free.length) : fr (s2P p k s) r = false ↔ fr s r = false ∧ ¬ (due p (dueA p k) = k ∧ stand s (dueA p k) = r) ∧ ¬ (due p (dueB p k) = k ∧ stand s (dueB p k) = r) := by
  rw [s2_fr hs hr, Bool.or_eq_false_iff, Bool.or_eq_false_iff, decide_eq_false_iff_not, decide_eq_false_iff_not, and_assoc]
/-- who is left when those asked for the last time have gone -/
theorem left {p : PV} (hR : rightP p = true) {k : Nat} (hk : k < p.code.length) (hn : nAt p k = true) {s : Pl} (h : Occ p k s) :
    (∀ v, Alive p k v → due p v ≠ k → fr (s2P p k s) (stand s v) = false) ∧ (∀ r : Int, 0 ≤ r ∧ r < s.free.length → fr (s2P p k s) r = false → ∃ v, Alive p k v ∧ due p v ≠ k ∧ stand s v = r) := by
  obtain ⟨hA, hB⟩ := alive_due hR hk hn
  refine ⟨fun v hv hd => ?_, fun r hr hf => ?_⟩
  · rw [s2_false h.ok (h.ok.ab v)]
    refine ⟨h.i1 v hv, fun e => ?_, fun e => ?_⟩
    · have := h.i2 _ _ hA hv e.2; rw [this] at e; exact hd e.1
    · have := h.i2 _ _ hB hv e.2; rw [this] at e; exact hd e.1
  · rw [s2_false h.ok hr] at hf
    obtain ⟨v, hv, e⟩ := h.i3 r hr hf.1
    refine ⟨v, hv, fun hd => ?_, e⟩
    rcases last_due hR hk hv hd with h1 | h1
    · rw [h1] at hd e; exact hf.2.1 ⟨hd, e⟩
    · rw [h1] at hd e; exact hf.2.2 ⟨hd, e⟩
theorem occ_yes {p : PV} (hR : rightP p = true) {k : Nat} (hk : k < p.code.length) (hn : nAt p k = true) {s : Pl} (h : Occ p k s) : Occ p (k + 1) (giveP (s2P p k s) (vlen p k)) := by
  obtain ⟨l1, l2⟩ := left hR hk hn h
  have hok2 : PlOk (s2P p k s) := freeAt_ok (freeAt_ok h.ok)
  have hlen := give_len (s2P p k s) (vlen p k)
  have hle := least_le (s2P p k s).free
  have h2l := s2_len p k s
  have hst : ∀ w, stand (giveP (s2P p k s) (vlen p k)) w = if w = vlen p k then (least (s2P p k s).free : Int) else stand s w := fun w => by rw [give_stand, s2_stand]
  have hold : ∀ v, Alive p k v → v ≠ vlen p k := fun v hv e => by have := hv.1.2; omega
  have hne : ∀ v, Alive p k v → due p v ≠ k → stand s v ≠ least (s2P p k s).free := fun v hv hd e => by
    have h1 := l1 v hv hd
    have h3 := h.ok.ab v
    by_cases hlt : least (s2P p k s).free < (s2P p k s).free.length
    · have := least_free hlt
      unfold fr at h1
      rw [e, Int.toNat_natCast, this] at h1; cases h1
    · omega
  have hgl : ∀ r : Int, r < (s2P p k s).free.length → r < (giveP (s2P p k s) (vlen p k)).free.length := fun r hr => by rw [hlen]; split <;> omega
  have hrr : (least (s2P p k s).free : Int) < (giveP (s2P p k s) (vlen p k)).free.length := by rw [hlen]; split <;> omega
  refine ⟨give_ok hok2 _, fun v hv => ?_, fun v w hv hw e => ?_, fun r hr hf => ?_, ?_⟩
  · rw [hst]
    rcases (alive_yes hR hk hn).1 hv with e | ⟨ha, hd⟩
    · rw [if_pos e, fr_give ⟨by omega, hrr⟩, if_pos rfl]
    · rw [if_neg (hold v ha)]
      have h3 := h.ok.ab v
      rw [fr_give ⟨h3.1, hgl _ (by omega)⟩, if_neg (hne v ha hd)]
      exact l1 v ha hd
  · rw [hst, hst] at e
    rcases (alive_yes hR hk hn).1 hv with ev | ⟨ha, hd⟩ <;> rcases (alive_yes hR hk hn).1 hw with ew | ⟨ha', hd'⟩
    · rw [ev, ew]
    · rw [if_pos ev, if_neg (hold w ha')] at e; exact absurd e.symm (hne w ha' hd')
    · rw [if_neg (hold v ha), if_pos ew] at e; exact absurd e (hne v ha hd)
    · rw [if_neg (hold v ha), if_neg (hold w ha')] at e; exact h.i2 v w ha ha' e
  · by_cases e : r = least (s2P p k s).free
    · exact ⟨vlen p k, (alive_yes hR hk hn).2 (.inl rfl), by rw [hst, if_pos rfl, e]⟩
    · rw [fr_give hr, if_neg e] at hf
      have hr2 : r < s.free.length := by rw [hlen] at hr; split at hr <;> omega
      obtain ⟨v, ha, hd, hs⟩ := l2 r ⟨hr.1, hr2⟩ hf
      exact ⟨v, (alive_yes hR hk hn).2 (.inr ⟨ha, hd⟩), by rw [hst, if_neg (hold v ha)]; exact hs⟩
  · rw [hlen]
    split
    · rw [h2l]; exact h.i5
    · rename_i hlt
      obtain ⟨f1, f2, f3, _⟩ := right_facts hR
      have hto := (may_facts (code_may hR hk)).2.1
      have key : ∀ r : Nat, r < s.free.length → ∃ q : Nat, q < p.regs.toNat ∧ ∃ v, stand s v = r ∧ heldAt p (k + 1) q = v ∧ v < vlen p k := fun r hr => by
        have hf : fr (s2P p k s) (r : Int) = false := by unfold fr; rw [Int.toNat_natCast]; exact none_free hlt r (by omega)
        obtain ⟨v, ha, hd, hs⟩ := l2 r (by omega) hf
        have ha2 := (alive_yes hR hk hn).2 (.inr ⟨ha, hd⟩)
        obtain ⟨q, hq, e⟩ := due_stands hR (show k + 1 ≤ p.code.length by omega) ha2.1 ha2.2
        exact ⟨q.toNat, by omega, v, hs, by rw [Int.toNat_of_nonneg hq.1]; exact e, ha.1.2⟩
      have hm := pigeon p.regs.toNat (fun r => if hr : r < s.free.length then Classical.choose (key r hr) else (cAt p k).to.toNat) (s.free.length + 1) (fun i hi => by
        show (if hr : i < s.free.length then _ else _) < _
        split
        · rename_i hr; exact (Classical.choose_spec (key i hr)).1
        · omega) (fun i j hi hj e => by
        have e : (if hr : i < s.free.length then Classical.choose (key i hr) else (cAt p k).to.toNat) = (if hr : j < s.free.length then Classical.choose (key j hr) else (cAt p k).to.toNat) := e
        have hnew : heldAt p (k + 1) (((cAt p k).to.toNat : Nat) : Int) = vlen p k := by rw [Int.toNat_of_nonneg hto.1, held_yes hR hk hn hto, if_pos rfl]
        split at e <;> split at e
        · rename_i h1 h3
          obtain ⟨_, v, a1, a2, a3⟩ := Classical.choose_spec (key i h1)
          obtain ⟨_, w, b1, b2, b3⟩ := Classical.choose_spec (key j h3)
          rw [e, b2] at a2
          rw [← a2, b1] at a1
          omega
        · rename_i h1 h3
          obtain ⟨_, v, a1, a2, a3⟩ := Classical.choose_spec (key i h1)
          rw [e, hnew] at a2
          omega
        · rename_i h1 h3
          obtain ⟨_, w, b1, b2, b3⟩ := Classical.choose_spec (key j h3)
          rw [← e, hnew] at b2
          omega
        · omega)
      rw [h2l]; omega
end Go.Proofs.Ytfleehgbpgmcnaa
set_option linter.unusedVariables false
namespace Go.Proofs.Ytfleehgbpgmcnaa
open Go Go.Sl
theorem held_zero {p : PV} {r : Int} (hr : 0 ≤ r ∧ r < p.regs) : heldAt p 0 r = min r p.ins := by
  unfold heldAt
  show ((List.range p.regs.toNat).map fun (r : Nat) => min (r : Int) p.ins)[r.toNat]?.getD default = _
  rw [List.getElem?_map, List.getElem?_range (by omega)]
  show min ((r.toNat : Nat) : Int) p.ins = _
  rw [Int.toNat_of_nonneg hr.1]
theorem vlen_zero (p : PV) : vlen p 0 = p.ins.toNat + 1 := List.length_replicate
theorem lay_said {l : Life} {s : Pl} {n : Nat} (hl : s.free.length = n) (h : ∀ v : Int, 0 ≤ v ∧ v < n → stand s v = v ∧ fr s v = decide (tl l v < 0)) (v : Int) (hv : 0 ≤ v ∧ v < n + 1) :
    stand (layP s n (l.till[((n : Nat) : Int).toNat]?.getD default)) v = v ∧ fr (layP s n (l.till[((n : Nat) : Int).toNat]?.getD default)) v = decide (tl l v < 0) := by
  have h1 : stand (layP s n (l.till[((n : Nat) : Int).toNat]?.getD default)) v = if v = n then (s.free.length : Int) else stand s v := stand_put s _ v _ _
  rw [h1]
  by_cases e : v = n
  · subst e
    rw [if_pos rfl]
    refine ⟨by omega, ?_⟩
    unfold fr
    show (s.free ++ [_])[((n : Nat) : Int).toNat]?.getD default = _
    rw [Int.toNat_natCast, List.getElem?_append_right (by omega), hl, Nat.sub_self]
    rfl
  · rw [if_neg e]
    obtain ⟨h2, h3⟩ := h v (by omega)
    refine ⟨h2, ?_⟩
    rw [← h3]
    unfold fr
    show (s.free ++ [_])[v.toNat]?.getD default = _
    rw [List.getElem?_append_left (by omega)]
theorem layTo_said (l : Life) : ∀ (n : Nat) (v : Int), 0 ≤ v ∧ v < n → stand (layTo l n) v = v ∧ fr (layTo l n) v = decide (tl l v < 0)
  | 0, v, h => by omega
  | n + 1, v, h => lay_said (layTo_len l n) (layTo_said l n) v (by omega)
theorem lay0_said {p : PV} (h1 : 1 ≤ p.ins) : (((lay0 p (lifeP p)).free.length : Int) = p.ins ∨ (((lay0 p (lifeP p)).free.length : Int) = p.ins + 1 ∧ 0 ≤ due p p.ins)) ∧ (0 ≤ due p p.ins → ((lay0 p (lifeP p)).free.length : Int) = p.ins + 1) ∧
    ∀ v : Int, 0 ≤ v ∧ v < (lay0 p (lifeP p)).free.length → stand (lay0 p (lifeP p)) v = v ∧ fr (lay0 p (lifeP p)) v = decide (due p v < 0) := by
  have hl := layTo_len (lifeP p) p.ins.toNat
  have hs := layTo_said (lifeP p) p.ins.toNat
  unfold lay0
  by_cases hd : 0 ≤ (lifeP p).till[p.ins.toNat]?.getD default
  · rw [if_pos hd]
    have hl2 : (layP (layTo (lifeP p) p.ins.toNat) p.ins ((lifeP p).till[p.ins.toNat]?.getD default)).free.length = p.ins.toNat + 1 := by
      show ((layTo (lifeP p) p.ins.toNat).free ++ [_]).length = _
      rw [List.length_append, hl]; rfl
    rw [hl2]
    refine ⟨.inr ⟨by omega, hd⟩, fun _ => by omega, fun v hv => ?_⟩
    have := lay_said hl hs v (by omega)
    rw [Int.toNat_natCast, Int.toNat_of_nonneg (by omega : 0 ≤ p.ins)] at this
    exact this
  · rw [if_neg hd, hl]
    refine ⟨.inl (by omega), fun h => absurd h hd, fun v hv => hs v (by omega)⟩
theorem occ_zero {p : PV} (hR : rightP p = true) : Occ p 0 (lay0 p (lifeP p)) := by
  obtain ⟨f1, f2, f3, _⟩ := right_facts hR
  obtain ⟨g1, g2, g3⟩ := lay0_said f1
  have hz := vlen_zero p
  have hin : ∀ v, Alive p 0 v → 0 ≤ v ∧ v < (lay0 p (lifeP p)).free.length := fun v hv => by
    have h1 := hv.1
    have h2 := hv.2
    by_cases e : v = p.ins
    · subst e; have := g2 h2; omega
    · rcases g1 with g1 | g1 <;> omega
  refine ⟨(lay0_ok f1 _).1, fun v hv => ?_, fun v w hv hw e => ?_, fun r hr hf => ?_, ?_⟩
  · rw [(g3 v (hin v hv)).1, (g3 v (hin v hv)).2]
    have := hv.2
    exact decide_eq_false (by omega)
  · rw [(g3 v (hin v hv)).1, (g3 w (hin w hw)).1] at e; exact e
  · have h1 := (g3 r hr).2
    rw [hf] at h1
    have h2 := of_decide_eq_false h1.symm
    exact ⟨r, ⟨⟨hr.1, by rcases g1 with g1 | g1 <;> omega⟩, by omega⟩, (g3 r hr).1⟩
  · rcases g1 with g1 | ⟨g1, g4⟩
    · omega
    · obtain ⟨r, hr, e⟩ := due_stands hR (Nat.zero_le _) (v := p.ins) (by omega) g4
      rw [held_zero hr] at e
      omega
theorem pk_yes {p : PV} (hR : rightP p = true) {k : Nat} (hk : k < p.code.length) (hn : nAt p k = true) :
    pkTo p (k + 1) = ⟨giveP (s2P p k (pkTo p k).s) (vlen p k), max (pkTo p k).regs ((least (s2P p k (pkTo p k).s).free : Int) + 1),
      (pkTo p k).code ++ [⟨(cAt p k).op, least (s2P p k (pkTo p k).s).free, stand (pkTo p k).s (dueA p k), if 1 < (asks (cAt p k)).length then stand (pkTo p k).s (dueB p k) else (cAt p k).b, (cAt p k).c⟩]⟩ := by
  obtain ⟨h1, h2, h3⟩ := life_abs hR hk hn
  have e : pkTo p (k + 1) = pkStep (lifeP p) (pkTo p k) k (cAt p k) := if_pos hn
  rw [e]
  unfold pkStep
  simp only
  rw [h1, h2, h3]
  rfl
theorem pk_no {p : PV} {k : Nat} (hn : ¬ nAt p k = true) : pkTo p (k + 1) = pkTo p k := if_neg hn
theorem pk_occ {p : PV} (hR : rightP p = true) : ∀ k, k ≤ p.code.length → Occ p k (pkTo p k).s ∧ (pkTo p k).regs = (pkTo p k).s.free.length
  | 0, _ => by
    refine ⟨occ_zero hR, ?_⟩
    have := (lay0_ok (right_facts hR).1 (lifeP p)).2.1
    show max p.ins ((lay0 p (lifeP p)).free.length : Int) = ((lay0 p (lifeP p)).free.length : Int)
    omega
  | k + 1, hk => by
    obtain ⟨h1, h2⟩ := pk_occ hR k (by omega)
    by_cases hn : nAt p k = true
    · rw [pk_yes hR (by omega) hn]
      refine ⟨occ_yes hR (by omega) hn h1, ?_⟩
      show max (pkTo p k).regs ((least (s2P p k (pkTo p k).s).free : Int) + 1) = ((giveP (s2P p k (pkTo p k).s) (vlen p k)).free.length : Int)
      have hle := least_le (s2P p k (pkTo p k).s).free
      have hl := s2_len p k (pkTo p k).s
      rw [give_len, h2]
      split <;> omega
    · rw [pk_no hn]
      refine ⟨⟨h1.ok, fun v hv => h1.i1 v ((alive_no hR (by omega) hn).1 hv), fun v w hv hw => h1.i2 v w ((alive_no hR (by omega) hn).1 hv) ((alive_no hR (by omega) hn).1 hw), fun r hr hf => ?_, h1.i5⟩, h2⟩
      obtain ⟨v, hv, e⟩ := h1.i3 r hr hf
      exact ⟨v, (alive_no hR (by omega) hn).2 hv, e⟩
theorem pk_grow {p : PV} (hR : rightP p = true) {k : Nat} : ∀ j, k ≤ j → j ≤ p.code.length → (pkTo p k).s.free.length ≤ (pkTo p j).s.free.length
  | 0, h, _ => by rw [Nat.le_zero.1 h]; exact Nat.le_refl _
  | j + 1, h, hj => by
    by_cases e : k = j + 1
    · rw [e]; exact Nat.le_refl _
    · have ih := pk_grow hR j (by omega : k ≤ j) (by omega)
      by_cases hn : nAt p j = true
      · rw [pk_yes hR (by omega) hn]
        show _ ≤ (giveP (s2P p j (pkTo p j).s) (vlen p j)).free.length
        rw [give_len, s2_len]
        split <;> omega
      · rw [pk_no hn]; exact ih
theorem may_mono {i : Sl.Instr} {r r' : Int} (h : mayOk i r = true) (hr : r ≤ r') : mayOk i r' = true := by
  rw [mayOk_iff] at h ⊢
  obtain ⟨⟨h1, h2, h3, h4, h5, h6⟩, h7⟩ := h
  refine ⟨⟨h1, h2, h3, by omega, h5, by omega⟩, ?_⟩
  by_cases h34 : i.op = 3 ∨ i.op = 4
  · rw [if_pos h34] at h7 ⊢; exact ⟨h7.1, by omega, h7.2.2⟩
  · rw [if_neg h34] at h7 ⊢; exact h7
/-- an instruction turned to other registers -/
theorem may_turn {i : Sl.Instr} {regs R : Int} (h : mayOk i regs = true) {t a b : Int} (ht : 0 ≤ t ∧ t < R) (ha : 0 ≤ a ∧ a < R) (hb : 0 ≤ b ∧ b < R) :
    mayOk ⟨i.op, t, a, if 1 < (asks i).length then b else i.b, i.c⟩ R = true := by
  rw [mayOk_iff] at h ⊢
  obtain ⟨⟨h1, h2, h3, h4, h5, h6⟩, h7⟩ := h
  refine ⟨⟨h1, h2, ht.1, ht.2, ha.1, ha.2⟩, ?_⟩
  by_cases h34 : i.op = 3 ∨ i.op = 4
  · rw [if_pos h34] at h7
    rw [if_pos ((two_iff i).2 h34)]
    exact (if_pos h34).symm ▸ ⟨hb.1, hb.2, h7.2.2⟩
  · rw [if_neg h34] at h7
    rw [if_neg (fun e => h34 ((two_iff i).1 e))]
    exact (if_neg h34).symm ▸ h7
theorem pk_code {p : PV} (hR : rightP p = true) : ∀ k, k ≤ p.code.length → (∀ i ∈ (pkTo p k).code, mayOk i (pkTo p k).regs = true) ∧ (pkTo p k).code.length ≤ k
  | 0, _ => ⟨fun i hi => absurd hi (List.not_mem_nil), Nat.le_refl _⟩
  | k + 1, hk => by
    obtain ⟨h1, h2⟩ := pk_code hR k (by omega)
    obtain ⟨o1, o2⟩ := pk_occ hR k (by omega)
    obtain ⟨p1, p2⟩ := pk_occ hR (k + 1) hk
    have hg := pk_grow hR (k + 1) (show k ≤ k + 1 by omega) hk
    have hle := least_le (s2P p k (pkTo p k).s).free
    have h2l := s2_len p k (pkTo p k).s
    by_cases hn : nAt p k = true
    · have hm := code_may hR (show k < p.code.length by omega)
      have hA := o1.ok.ab (dueA p k)
      have hB := o1.ok.ab (dueB p k)
      have hreg : (pkTo p (k + 1)).regs = max (pkTo p k).regs ((least (s2P p k (pkTo p k).s).free : Int) + 1) := by rw [pk_yes hR (by omega) hn]
      have hcode : (pkTo p (k + 1)).code = (pkTo p k).code ++ [⟨(cAt p k).op, least (s2P p k (pkTo p k).s).free, stand (pkTo p k).s (dueA p k), if 1 < (asks (cAt p k)).length then stand (pkTo p k).s (dueB p k) else (cAt p k).b, (cAt p k).c⟩] := by rw [pk_yes hR (by omega) hn]
      rw [hcode]
      refine ⟨fun i hi => ?_, by rw [List.length_append]; show _ + 1 ≤ _; omega⟩
      rcases List.mem_append.1 hi with h | h
      · exact may_mono (h1 i h) (by omega)
      · rw [List.mem_singleton.1 h]
        exact may_turn hm (by omega) (by omega) (by omega)
    · rw [pk_no hn]; exact ⟨h1, by omega⟩
theorem order_right {p : PV} (hR : rightP p = true) : rightP (orderP p) = true := by
  obtain ⟨f1, f2, f3, f4, f5, f6, f7, f8⟩ := right_facts hR
  obtain ⟨o1, o2⟩ := pk_occ hR p.code.length (Nat.le_refl _)
  obtain ⟨c1, c2⟩ := pk_code hR p.code.length (Nat.le_refl _)
  have hg := pk_grow hR p.code.length (Nat.zero_le _) (Nat.le_refl _)
  have h0 := (lay0_ok f1 (lifeP p)).2.1
  have h0' : p.ins ≤ (pkTo p 0).s.free.length := h0
  have h5 := o1.i5
  have hol := lifeP_outs p
  have hlen : (orderP p).outs.length = p.outs.length := by show ((lifeP p).outs.map _).length = _; rw [List.length_map]; exact hol
  refine right_of ⟨f1, ?_, ?_, ?_, by omega, by omega⟩ ?_ c1
  · show p.ins ≤ (pkTo p p.code.length).regs; omega
  · show (pkTo p p.code.length).regs ≤ 128; omega
  · show (pkTo p p.code.length).code.length ≤ _; omega
  · intro r hr
    obtain ⟨v, _, rfl⟩ := List.mem_map.1 (show r ∈ (lifeP p).outs.map _ from hr)
    have := o1.ok.ab v
    show _ ∧ _ < (pkTo p p.code.length).regs
    omega
end Go.Proofs.Ytfleehgbpgmcnaa
set_option linter.unusedVariables false
namespace Go.Proofs.Ytfleehgbpgmcnaa
open Go Go.Sl
def rowAt (rs : List (List Int)) (r : Int) : List Int := rs[r.toNat]?.getD []
structure Sem (p : PV) (gs : List (List Int)) (k : Nat) (rs qs : List (List Int)) (E : Int → List Int) : Prop where
  run : runTo p gs k = some rs
  pack : runL (pkTo p k).code (regs0 (orderP p) gs) = some qs
  rl : (rs.length : Int) = p.regs
  ql : (qs.length : Int) = (orderP p).regs
  old : ∀ r : Int, 0 ≤ r ∧ r < p.regs → fromAt p r k = true → rowAt rs r = E (heldAt p k r)
  new : ∀ v, Alive p k v → rowAt qs (stand (pkTo p k).s v) = E v
theorem row_set {l : List (List Int)} {k : Nat} {x : List Int} {r : Int} (hr : 0 ≤ r ∧ r < l.length) : rowAt (l.set k x) r = if (k : Int) = r then x else rowAt l r := rows_get_set hr
theorem sem_zero {p : PV} {gs : List (List Int)} (hR : rightP p = true) (hg : (gs.length : Int) = p.ins) :
    Sem p gs 0 (regs0 p gs) (regs0 (orderP p) gs) (fun v => if v < gs.length then rowAt gs v else List.replicate (gs[0]?.getD []).length 0) := by
  obtain ⟨f1, f2, f3, _⟩ := right_facts hR
  obtain ⟨g1, g2, g3⟩ := lay0_said f1
  have hq := (pk_occ hR p.code.length (Nat.le_refl _)).2
  have hgr := pk_grow hR p.code.length (Nat.zero_le _) (Nat.le_refl _)
  have hqr : (orderP p).regs = (pkTo p p.code.length).regs := rfl
  have hz := vlen_zero p
  have row : ∀ (q : PV) (r : Int), 0 ≤ r ∧ r < q.regs → rowAt (regs0 q gs) r = if r < gs.length then rowAt gs r else List.replicate (gs[0]?.getD []).length 0 := fun q r hr => by
    unfold rowAt
    rw [regs0_at (by omega)]
    by_cases h : r < gs.length
    · rw [if_pos h, if_pos (by omega)]
    · rw [if_neg h, if_neg (by omega)]
  refine ⟨rfl, rfl, by rw [regs0_len]; omega, by rw [regs0_len]; omega, fun r hr _ => ?_, fun v hv => ?_⟩
  · rw [row p r hr, held_zero hr]
    by_cases h : r < gs.length
    · rw [if_pos h]
      show _ = if min r p.ins < _ then _ else _
      rw [show min r p.ins = r by omega, if_pos h]
    · rw [if_neg h]
      show _ = if min r p.ins < _ then _ else _
      rw [if_neg (by omega)]
  · have h1 := hv.1
    have h2 := hv.2
    have hvf : v < (lay0 p (lifeP p)).free.length := by
      by_cases e : v = p.ins
      · subst e; have := g2 h2; omega
      · rcases g1 with g1 | g1 <;> omega
    have h3 := (g3 v ⟨h1.1, hvf⟩).1
    have h3' : stand (pkTo p 0).s v = v := h3
    have hf0 : (pkTo p 0).s.free.length = (lay0 p (lifeP p)).free.length := rfl
    rw [h3', row (orderP p) v ⟨h1.1, by rw [hqr, hq]; omega⟩]
/-- an instruction over the other registers, where its operands stand -/
theorem doI_turn {i : Sl.Instr} {regs : Int} (hm : mayOk i regs = true) {rs qs : List (List Int)} {t a b : Int} (ha : rowAt qs a = rowAt rs i.a) (hb : 1 < (asks i).length → rowAt qs b = rowAt rs i.b) :
    doI ⟨i.op, t, a, if 1 < (asks i).length then b else i.b, i.c⟩ qs = doI i rs := by
  rw [doI_doV, doI_doV]
  show doV i.op i.c (rowAt qs a) (rowAt qs (if 1 < (asks i).length then b else i.b)) = doV i.op i.c (rowAt rs i.a) (rowAt rs i.b)
  rw [ha]
  by_cases h2 : 1 < (asks i).length
  · rw [if_pos h2, hb h2]
  · rw [if_neg h2]
    exact doV_one (fun e => h2 ((two_iff i).2 e)) _ _ _ _
theorem sem_step {p : PV} {gs : List (List Int)} (hR : rightP p = true) {k : Nat} (hk : k < p.code.length) {rs qs : List (List Int)} {E : Int → List Int} (h : Sem p gs k rs qs E) {y : List Int} (hd : doI (cAt p k) rs = some y) :
    ∃ qs' E', Sem p gs (k + 1) (rs.set (cAt p k).to.toNat y) qs' E' := by
  have hm := code_may hR hk
  obtain ⟨m1, m2, m3, m4, _⟩ := may_facts hm
  have hcj : p.code[k]?.getD default = cAt p k := by unfold cAt; rw [Int.toNat_natCast]
  have hstep := fun r => fromAt_step p r hk
  have hneed := need_from hR hk
  rw [hcj] at hstep
  have hrun : runTo p gs (k + 1) = some (rs.set (cAt p k).to.toNat y) := runTo_succ (x := []) h.run hd
  have hrl : ((rs.set (cAt p k).to.toNat y).length : Int) = p.regs := by rw [List.length_set]; exact h.rl
  by_cases hn : nAt p k = true
  · obtain ⟨hA, hB⟩ := alive_due hR hk hn
    obtain ⟨o1, o2⟩ := pk_occ hR k (by omega)
    obtain ⟨p1, p2⟩ := pk_occ hR (k + 1) (by omega)
    have hq := (pk_occ hR p.code.length (Nat.le_refl _)).2
    have hg0 := pk_grow hR p.code.length (show k ≤ p.code.length by omega) (Nat.le_refl _)
    have hg1 := pk_grow hR p.code.length (show k + 1 ≤ p.code.length by omega) (Nat.le_refl _)
    have hqr : (orderP p).regs = (pkTo p p.code.length).s.free.length := hq
    have hle := least_le (s2P p k (pkTo p k).s).free
    have h2l := s2_len p k (pkTo p k).s
    have hglen := give_len (s2P p k (pkTo p k).s) (vlen p k)
    have hs' : (pkTo p (k + 1)).s = giveP (s2P p k (pkTo p k).s) (vlen p k) := by rw [pk_yes hR hk hn]
    have hc' : (pkTo p (k + 1)).code = (pkTo p k).code ++ [⟨(cAt p k).op, least (s2P p k (pkTo p k).s).free, stand (pkTo p k).s (dueA p k), if 1 < (asks (cAt p k)).length then stand (pkTo p k).s (dueB p k) else (cAt p k).b, (cAt p k).c⟩] := by rw [pk_yes hR hk hn]
    have hst : ∀ w, stand (pkTo p (k + 1)).s w = if w = vlen p k then (least (s2P p k (pkTo p k).s).free : Int) else stand (pkTo p k).s w := fun w => by rw [hs', give_stand, s2_stand]
    have hlR : (least (s2P p k (pkTo p k).s).free : Int) < (orderP p).regs := by
      rw [hqr]
      have : (least (s2P p k (pkTo p k).s).free) < (pkTo p (k + 1)).s.free.length := by rw [hs', hglen]; split <;> omega
      omega
    have hold : ∀ v, Alive p k v → v ≠ vlen p k := fun v hv e => by have := hv.1.2; omega
    have asked : ∀ r, r ∈ asks (cAt p k) → fromAt p r k = true := fun r hr => by
      rw [hstep r, ← hneed, hn, decide_eq_true hr]; rfl
    have haM : (cAt p k).a ∈ asks (cAt p k) := by
      unfold asks
      split
      · exact List.mem_cons_self
      · exact List.mem_cons_self
    have eA : rowAt qs (stand (pkTo p k).s (dueA p k)) = rowAt rs (cAt p k).a := by
      rw [h.new _ hA, h.old _ m3 (asked _ haM)]; rfl
    have eB : 1 < (asks (cAt p k)).length → rowAt qs (stand (pkTo p k).s (dueB p k)) = rowAt rs (cAt p k).b := fun h2 => by
      have hbM : (cAt p k).b ∈ asks (cAt p k) := by
        unfold asks; rw [if_pos (two_op h2)]; exact List.mem_cons_of_mem _ List.mem_cons_self
      rw [h.new _ hB, h.old _ (m4 (two_op h2)) (asked _ hbM)]
      show E (dueB p k) = E _
      congr 1
      exact if_pos h2
    refine ⟨qs.set (least (s2P p k (pkTo p k).s).free) y, fun v => if v = vlen p k then y else E v, hrun, ?_, hrl, by rw [List.length_set]; exact h.ql, fun r hr hf => ?_, fun v hv => ?_⟩
    · rw [hc', runL_snoc, h.pack]
      show (doI _ qs).map _ = _
      rw [doI_turn hm eA eB, hd]
      rfl
    · have hrow : rowAt (rs.set (cAt p k).to.toNat y) r = if (((cAt p k).to.toNat : Nat) : Int) = r then y else rowAt rs r := row_set (by rw [h.rl]; exact hr)
      rw [hrow, Int.toNat_of_nonneg m2.1, held_yes hR hk hn hr]
      by_cases e : (cAt p k).to = r
      · rw [if_pos e, if_pos e, if_pos rfl]
      · rw [if_neg e, if_neg e]
        have hin := held_in hR (show k ≤ p.code.length by omega) hr
        rw [if_neg (by omega)]
        refine h.old r hr ?_
        rw [hstep r, hf, decide_eq_false e]
        simp
    · have hsb := p1.ok.ab v
      rw [row_set ⟨hsb.1, by rw [h.ql, hqr]; omega⟩, hst]
      rcases (alive_yes hR hk hn).1 hv with e | ⟨ha, hdv⟩
      · rw [if_pos e, if_pos rfl, if_pos e]
      · have e := hold v ha
        rw [if_neg e, if_neg e]
        have hne : ¬ ((least (s2P p k (pkTo p k).s).free : Int) = stand (pkTo p k).s v) := fun x => by
          have h9 := p1.i2 v (vlen p k) hv ((alive_yes hR hk hn).2 (.inl rfl)) (by rw [hst, hst, if_neg e, if_pos rfl]; exact x.symm)
          exact e h9
        rw [if_neg hne]
        exact h.new v ha
  · refine ⟨qs, E, hrun, by rw [pk_no hn]; exact h.pack, hrl, h.ql, fun r hr hf => ?_, fun v hv => ?_⟩
    · have hne : ¬ (cAt p k).to = r := fun e => by subst e; rw [← hneed] at hf; exact hn hf
      have hrow : rowAt (rs.set (cAt p k).to.toNat y) r = if (((cAt p k).to.toNat : Nat) : Int) = r then y else rowAt rs r := row_set (by rw [h.rl]; exact hr)
      rw [hrow, Int.toNat_of_nonneg m2.1, if_neg hne, held_no hn]
      refine h.old r hr ?_
      rw [hstep r, hf, decide_eq_false hne]
      simp
    · rw [pk_no hn]; exact h.new v ((alive_no hR hk hn).1 hv)
theorem sem_all {p : PV} {gs : List (List Int)} (hR : rightP p = true) (hg : (gs.length : Int) = p.ins) {rn : List (List Int)} (hr : runTo p gs p.code.length = some rn) : ∀ k, k ≤ p.code.length → ∃ rs qs E, Sem p gs k rs qs E
  | 0, _ => ⟨_, _, _, sem_zero hR hg⟩
  | k + 1, hk => by
    obtain ⟨rs, qs, E, h⟩ := sem_all hR hg hr k (by omega)
    cases hd : doI (cAt p k) rs with
    | none =>
      have h1 : runTo p gs (k + 1) = none := by
        unfold runTo; rw [h.run]; simp only [Option.bind_some]
        show (doI (cAt p k) rs).map _ = none
        rw [hd]; rfl
      have h2 := runTo_none h1 (p.code.length - (k + 1))
      rw [show k + 1 + (p.code.length - (k + 1)) = p.code.length by omega, hr] at h2
      cases h2
    | some y =>
      obtain ⟨qs', E', h'⟩ := sem_step hR (by omega) h hd
      exact ⟨_, _, _, h'⟩
theorem out_values (p : PV) : ∀ j, j ≤ p.outs.length → (outTo p j).outs = (p.outs.take j).map (heldAt p p.code.length)
  | 0, _ => by rw [List.take_zero]; exact lifeTo_outs p _
  | j + 1, hj => by
    show (outTo p j).outs ++ [(outTo p j).held[_]?.getD default] = _
    rw [out_values p j (by omega), outTo_held', List.take_succ_eq_append_getElem (by omega : j < p.outs.length), List.map_append, Int.toNat_natCast, List.getElem?_eq_getElem (by omega : j < p.outs.length)]
    rfl
theorem order_follow {p : PV} {gs os : List (List Int)} (hR : rightP p = true) (hg : (gs.length : Int) = p.ins) (h : followP p gs = some os) : followP (orderP p) gs = some os := by
  obtain ⟨f1, f2, f3, f4, f5, f6, f7, f8⟩ := right_facts hR
  unfold followP at h
  obtain ⟨rn, h1, h2⟩ := Option.map_eq_some_iff.1 h
  obtain ⟨rs, qs, E, hs⟩ := sem_all hR hg h1 p.code.length (Nat.le_refl _)
  have e : rs = rn := by have := hs.run; rw [h1] at this; exact (Option.some.inj this).symm
  subst e
  have hp : runTo (orderP p) gs (orderP p).code.length = some qs := by
    rw [runTo_runL _ _ _ (Nat.le_refl _), List.take_length]
    exact hs.pack
  unfold followP
  rw [hp, ← h2]
  show some (outsOf (orderP p) qs) = some (outsOf p rs)
  congr 1
  have ho : (lifeP p).outs = p.outs.map (heldAt p p.code.length) := by
    unfold lifeP
    rw [out_values p _ (Nat.le_refl _), List.take_length]
  show ((lifeP p).outs.map (stand (pkTo p p.code.length).s)).map _ = p.outs.map _
  rw [ho, List.map_map, List.map_map]
  refine List.map_congr_left fun r hr => ?_
  have hin := f7 r hr
  obtain ⟨i, hi, hri⟩ := List.mem_iff_getElem.1 hr
  have hdue := due_out hR hi
  rw [Int.toNat_natCast, List.getElem?_eq_getElem hi, Option.getD_some, hri] at hdue
  have hal : Alive p p.code.length (heldAt p p.code.length r) := ⟨held_in hR (Nat.le_refl _) hin, by omega⟩
  have hf : fromAt p r p.code.length = true := by rw [fromAt_end p r (Nat.le_refl _)]; exact decide_eq_true hr
  show rowAt qs (stand (pkTo p p.code.length).s (heldAt p p.code.length r)) = rowAt rs r
  rw [hs.new _ hal, hs.old r hin hf]
end Go.Proofs.Ytfleehgbpgmcnaa
set_option maxRecDepth 100000
set_option linter.unusedVariables false
namespace Go.Proofs.Ytfleehgbpgmcnaa
open Go Go.Sl
set_option maxHeartbeats 4000000
/-- rows of one length, none too long -/
def Fit (ls : List (List Int)) : Prop := ∀ z ∈ ls, z.length = (ls[0]?.getD []).length ∧ z.length ≤ 20
instance (ls : List (List Int)) : Decidable (Fit ls) := by unfold Fit; infer_instance
def GridsOk (G : Imm) (ls : List (List Int)) (v : Value) : Prop := ∃ gv, v = .tuple #[gv, .bool (decide (Fit ls))] ∧ (Fit ls → ∃ (go : Option Addr) (gc : Nat) (r : List SV), gv = .slice go r.length gc ∧ Arr G go r ∧ Grid G r ls)
theorem not_fit {G : Imm} {ls : List (List Int)} {gv : Value} {i : Nat} (hi : i < ls.length) (h : (ls[i]?.getD []).length = (ls[0]?.getD []).length → (ls[i]?.getD []).length ≤ 20 → False) : GridsOk G ls (.tuple #[gv, .bool false]) := by
  have hn : ¬ Fit ls := fun hf => by
    have h1 := hf (ls[i]) (List.getElem_mem hi)
    rw [List.getElem?_eq_getElem hi] at h
    exact h h1.1 h1.2
  exact ⟨gv, by rw [decide_eq_false hn], fun h => absurd h hn⟩
theorem fit_even {G : Imm} {gl : List SV} {ls : List (List Int)} (hg : IGrid G gl ls) (hf : Fit ls) : Even 4 (ls[0]?.getD []).length ls := by
  have hgl := hg.1
  intro zs hz
  refine ⟨(hf zs hz).1, fun z hz2 => ?_⟩
  obtain ⟨q, hq, rfl⟩ := List.mem_iff_getElem.1 hz
  have hr9 := (hg.2 q (by omega)).2.2 z (by rw [List.getElem?_eq_getElem hq]; exact hz2)
  rw [pw4]; omega
attribute [local irreducible] valL pw cmpZ p2 passP passTo followP rightP Fit
theorem c39 (G : Imm) (ga : Option Addr) (gc : Nat) (gl : List SV) (ls : List (List Int)) (hga : Arr G ga gl) (hg : IGrid G gl ls) (h3 : gl.length ≤ 1099511627776) (h4 : ∀ l ∈ ls, l.length ≤ 1099511627776) :
    Does Try.prog 39 [.slice ga gl.length gc] G [] (fun v G' Ho => GridsOk G' ls v ∧ Ho = []) := by
  have hgl := hg.1
  refine Does.enter Try.func39 rfl Try.ntmps39 rfl (fun w => ?_)
  refine Wc.seq ?_
  refine Wc.region rfl ?_
  refine Wl.q rfl (Qy.assign rfl) ?_
  refine Wl.q rfl (Qy.assign rfl) ?_
  refine Wl.done ?_
  refine Ar.next ?_
  refine Wc.seq ?_
  refine Wc.region rfl ?_
  refine Wl.q rfl (Qy.assign rfl) ?_
  refine Wl.done ?_
  refine Ar.next ?_
  refine Wc.seq ?_
  refine Wc.seq ?_
  refine Wc.region rfl ?_
  refine Wl.q rfl (Qy.assign rfl) ?_
  refine Wl.done ?_
  refine Ar.next ?_
  refine Wc.block ?_
  refine Wc.nilRow 4 (Row 40 ([] : List SV) []) ?_
  refine Wc.loopG (ι := Nat × Imm × List SV × (Option Addr × Nat × List Value)) (fun (i, Gx, r, (o, d, j)) => ([(5, .int .i64 (i : Int)), (4, .slice o r.length d), (0, Go.Value.slice ga (List.length gl) gc)], [(4, o.map (·.block), Row 40 r j)])) (fun (i, Gx, r, (o, d, j)) => Gx) (fun (i, Gx, r, (o, d, j)) => i ≤ gl.length ∧ G.le Gx ∧ r.length = i ∧ Grid Gx r (ls.take i) ∧ OwnA o d r j ∧ (∀ k : Nat, k < i → (ls[k]?.getD []).length = (ls[0]?.getD []).length ∧ (ls[0]?.getD []).length ≤ 20)) (fun (i, Gx, r, (o, d, j)) => gl.length - i) ((0, G, [], (none, 0, []))) (⟨Nat.zero_le _, Imm.le_refl _, rfl, by rw [List.take_zero]; exact Grid.nil _, OwnA.nil, fun k hk => by omega⟩) rfl ⟨rfl, rfl, rfl, trivial⟩ ⟨rfl, trivial⟩ (fun ⟨i, Gx, r, (o, d, j)⟩ => fun (hk : i ≤ gl.length ∧ G.le Gx ∧ r.length = i ∧ Grid Gx r (ls.take i) ∧ OwnA o d r j ∧ (∀ k : Nat, k < i → (ls[k]?.getD []).length = (ls[0]?.getD []).length ∧ (ls[0]?.getD []).length ≤ 20)) => ?_)
  obtain ⟨hi, hgx, hri, hrs, hob, hfit⟩ := hk
  replace hga := hga.up hgx
  replace hg := hg.up hgx
  rcases Nat.lt_or_ge i gl.length with hia | hia
  · have hg0 := hg.at (m := 0) (by omega)
    have hgI := hg.at (m := (i : Int)) (by omega)
    refine Wc.seq ?_
    refine Wc.seq ?_
    refine Wc.region rfl ?_
    refine Wl.q rfl (Qy.move rfl) ?_
    refine Wl.q rfl (Qy.move rfl) ?_
    refine Wl.q rfl (Qy.len T.sl35 rfl) ?_
    refine Wl.q rfl (Qy.lss rfl rfl) ?_
    refine Wl.done ?_
    refine Ar.next ?_
    refine Wc.condP rfl (by first | assumption | omega) ?_
    refine Wc.skip ?_
    refine Ar.next ?_
    refine Wc.seq ?_
    refine Wc.block ?_
    refine Wc.seq ?_
    refine Wc.seq ?_
    refine Wc.draw [4] [] T.mixed rfl ?_
    refine Gm.q 0 [] (by kernel_rfl) rfl rfl (Qy.move rfl) ?_
    refine Gm.q 1 [] (by kernel_rfl) rfl rfl (Qy.move rfl) ?_
    refine Gm.q 2 [] (by kernel_rfl) rfl rfl (Qy.at (α := SV) T.sl35 rfl rfl (by assumption) (by omega)) ?_
    refine Gm.q 3 [] (by kernel_rfl) rfl rfl (Qy.loadG T.one38 rfl (Arr.cell (by assumption) (by omega) 0 rfl rfl)) ?_
    refine Gm.q 4 [] (by kernel_rfl) rfl rfl (Qy.len T.sl38 rfl) ?_
    refine Gm.q 5 [] (by kernel_rfl) rfl rfl (Qy.move rfl) ?_
    refine Gm.q 6 [] (by kernel_rfl) rfl rfl (Qy.at (α := SV) T.sl35 rfl rfl (by assumption) (by omega)) ?_
    refine Gm.q 7 [] (by kernel_rfl) rfl rfl (Qy.loadG T.one38 rfl (Arr.cell (by assumption) (by omega) 0 rfl rfl)) ?_
    refine Gm.q 8 [] (by kernel_rfl) rfl rfl (Qy.len T.sl38 rfl) ?_
    refine Gm.q 9 [] (by kernel_rfl) rfl rfl (Qy.neq rfl rfl) ?_
    refine Gm.q 10 [] (by kernel_rfl) rfl rfl (Qy.move rfl) ?_
    refine Gm.cases 24 rfl (fun hg1 => ?_) (fun hg1 => ?_)
    refine Gm.qNo 11 (by kernel_rfl) rfl rfl rfl rfl ?_
    refine Gm.qNo 12 (by kernel_rfl) rfl rfl rfl rfl ?_
    refine Gm.qNo 13 (by kernel_rfl) rfl rfl rfl rfl ?_
    refine Gm.qNo 14 (by kernel_rfl) rfl rfl rfl rfl ?_
    refine Gm.qNo 15 (by kernel_rfl) rfl rfl rfl rfl ?_
    refine Gm.qNo 16 (by kernel_rfl) rfl rfl rfl rfl ?_
    refine Gm.q 17 [] (by kernel_rfl) rfl rfl (Qy.pick rfl rfl) ?_
    refine Gm.doneA (by kernel_rfl) ⟨rfl, trivial⟩ (by first | exact Imm.le_refl _ | assumption | (refine Imm.le_trans ?_ (by assumption); first | assumption | (refine Imm.le_trans ?_ (by assumption); assumption))) ?_
    refine Ar.next ?_
    refine Wc.condT rfl ?_
    refine Wc.seq ?_
    refine Wc.region rfl ?_
    refine Wl.q rfl (Qy.assign rfl) ?_
    refine Wl.q rfl (Qy.assign rfl) ?_
    refine Wl.done ?_
    refine Ar.next ?_
    refine Wc.ret ?_
    refine Ar.passRet ?_
    refine Ar.outRet ?_
    refine Ar.passRet ?_
    refine Ar.passRet ?_
    refine Ar.outRet ?_
    refine Ar.passRet ?_
    rotate_left
    refine Gm.qYes 11 [] (by kernel_rfl) rfl rfl rfl rfl (Qy.move rfl) ?_
    refine Gm.qYes 12 [] (by kernel_rfl) rfl rfl rfl rfl (Qy.move rfl) ?_
    refine Gm.qYes 13 [] (by kernel_rfl) rfl rfl rfl rfl (Qy.at (α := SV) T.sl35 rfl rfl (by assumption) (by omega)) ?_
    refine Gm.qYes 14 [] (by kernel_rfl) rfl rfl rfl rfl (Qy.loadG T.one38 rfl (Arr.cell (by assumption) (by omega) 0 rfl rfl)) ?_
    refine Gm.qYes 15 [] (by kernel_rfl) rfl rfl rfl rfl (Qy.len T.sl38 rfl) ?_
    refine Gm.qYes 16 [] (by kernel_rfl) rfl rfl rfl rfl (Qy.gtr rfl rfl) ?_
    refine Gm.q 17 [] (by kernel_rfl) rfl rfl (Qy.pick rfl rfl) ?_
    refine Gm.doneA (by kernel_rfl) ⟨rfl, trivial⟩ (by first | exact Imm.le_refl _ | assumption | (refine Imm.le_trans ?_ (by assumption); first | assumption | (refine Imm.le_trans ?_ (by assumption); assumption))) ?_
    refine Ar.next ?_
    refine Wc.cond rfl (fun hc1 => ?_) (fun hc1 => ?_)
    refine Wc.seq ?_
    refine Wc.region rfl ?_
    refine Wl.q rfl (Qy.assign rfl) ?_
    refine Wl.q rfl (Qy.assign rfl) ?_
    refine Wl.done ?_
    refine Ar.next ?_
    refine Wc.ret ?_
    refine Ar.passRet ?_
    refine Ar.outRet ?_
    refine Ar.passRet ?_
    refine Ar.passRet ?_
    refine Ar.outRet ?_
    refine Ar.passRet ?_
    rotate_left
    refine Wc.skip ?_
    refine Ar.next ?_
    refine Wc.seq ?_
    refine Wc.region rfl ?_
    refine Wl.lit0 5 rfl T.sl40 (fun b1 => ?_)
    refine Wl.q rfl (Qy.assign rfl) ?_
    refine Wl.done ?_
    refine Ar.next ?_
    refine Wc.seq ?_
    refine Wc.seq ?_
    refine Wc.region rfl ?_
    refine Wl.q rfl (Qy.assign rfl) ?_
    refine Wl.done ?_
    refine Ar.next ?_
    refine Wc.block ?_
    rotate_left
    · refine Ar.out2 (.inr rfl) (Ho := []) rfl (.tmp rfl) (.tmp rfl) trivial ?_
      refine ⟨not_fit (i := i) (by omega) (fun h9 h8 => ?_), rfl⟩
      have e0 := hg0.1
      have e1 := hgI.1
      rw [Int.toNat_natCast] at e1
      have e0' : (ls[0]?.getD []).length = (gl[((0 : Int)).toNat]?.getD default).n := e0
      rw [Int.toNat_natCast] at hg1
      omega
    · refine Ar.out2 (.inr rfl) (Ho := []) rfl (.tmp rfl) (.tmp rfl) trivial ?_
      refine ⟨not_fit (i := i) (by omega) (fun h9 h8 => ?_), rfl⟩
      have e1 := hgI.1
      rw [Int.toNat_natCast] at e1 hc1
      omega
    obtain ⟨li, hli⟩ : ∃ li, li = ls[((i : Nat) : Int).toNat]?.getD [] := ⟨_, rfl⟩
    rw [← hli] at hgI
    obtain ⟨gI1, gI2, gI3⟩ := hgI
    refine Wc.reH 5 (Row 43 ([] : List IV) []) rfl rfl ?_
    refine Wc.re 6 rfl (show _ = Value.slice (some ⟨b1, 0, none⟩) ([] : List IV).length 0 from rfl) ?_
    refine Wc.loopG (ι := Nat × Imm × List IV × (Option Addr × Nat × List Value)) (fun (k, Gy, r2, (o2, d2, j2)) => ([(7, .int .i64 (k : Int)), (6, .slice o2 r2.length d2), (5, Go.Value.int Go.IntKind.i64 (↑i : Int)), (4, Go.Value.slice o (List.length r) d), (0, Go.Value.slice ga (List.length gl) gc)], [(5, o2.map (·.block), Row 43 r2 j2), (4, Option.map (fun x => Go.Addr.block x) o, Go.Sl.Row (α := Go.Sl.SV) 40 (r) (j))])) (fun (k, Gy, r2, (o2, d2, j2)) => Gy) (fun (k, Gy, r2, (o2, d2, j2)) => k ≤ li.length ∧ Gx.le Gy ∧ r2.length = k ∧ Nums Gy r2 (li.take k) ∧ OwnA o2 d2 r2 j2) (fun (k, Gy, r2, (o2, d2, j2)) => li.length - k) ((0, Gx, [], (some ⟨b1, 0, none⟩, 0, []))) (⟨Nat.zero_le _, Imm.le_refl _, rfl, by rw [List.take_zero]; exact Nums.nil _, .inr ⟨b1, rfl, rfl, Nat.le_refl _, by simp [maxLen]⟩⟩) rfl ⟨rfl, rfl, rfl, rfl, rfl, trivial⟩ ⟨rfl, rfl, trivial⟩ (fun ⟨k, Gy, r2, (o2, d2, j2)⟩ => fun (hk : k ≤ li.length ∧ Gx.le Gy ∧ r2.length = k ∧ Nums Gy r2 (li.take k) ∧ OwnA o2 d2 r2 j2) => ?_)
    obtain ⟨hk0, hgy, hr2, hn2, hob2⟩ := hk
    replace hga := hga.up hgy
    replace hg := hg.up hgy
    replace hrs := hrs.up hgy
    replace gI2 := gI2.up hgy
    rcases Nat.lt_or_ge k li.length with hkl | hkl
    · have hx9 := gI3 (li[((k : Nat) : Int).toNat]?.getD default) (by rw [Int.toNat_natCast, List.getElem?_eq_getElem hkl]; exact List.getElem_mem hkl)
      refine Wc.seq ?_
      refine Wc.seq ?_
      refine Wc.region rfl ?_
      refine Wl.q rfl (Qy.move rfl) ?_
      refine Wl.q rfl (Qy.move rfl) ?_
      refine Wl.q rfl (Qy.move rfl) ?_
      refine Wl.q rfl (Qy.at (α := SV) T.sl35 rfl rfl (by assumption) (by omega)) ?_
      refine Wl.q rfl (Qy.loadG T.one38 rfl (Arr.cell (by assumption) (by omega) 0 rfl rfl)) ?_
      refine Wl.q rfl (Qy.len T.sl38 rfl) ?_
      refine Wl.q rfl (Qy.lss rfl rfl) ?_
      refine Wl.done ?_
      refine Ar.next ?_
      refine Wc.condP rfl (by first | assumption | omega) ?_
      refine Wc.skip ?_
      refine Ar.next ?_
      refine Wc.seq ?_
      refine Wc.block ?_
      refine Wc.region rfl ?_
      refine Wl.q rfl (Qy.move rfl) ?_
      refine Wl.q rfl (Qy.move rfl) ?_
      refine Wl.q rfl (Qy.move rfl) ?_
      refine Wl.q rfl (Qy.at (α := SV) T.sl35 rfl rfl (by assumption) (by omega)) ?_
      refine Wl.q rfl (Qy.loadG T.one38 rfl (Arr.cell (by assumption) (by omega) 0 rfl rfl)) ?_
      refine Wl.q rfl (Qy.move rfl) ?_
      refine Wl.re 46 rfl (show _ = Value.slice (gl[((i : Nat) : Int).toNat]?.getD default).a li.length (gl[((i : Nat) : Int).toNat]?.getD default).c by rw [gI1]) ?_
      refine Wl.q rfl (Qy.at (α := Int) T.sl38 rfl rfl (by assumption) (by omega)) ?_
      refine Wl.q rfl (Qy.loadG T.one2 rfl (Arr.cell (by assumption) (by omega) 0 rfl rfl)) ?_
      refine Wl.call 6 rfl T.fn20 rfl (num_of _ _ hx9) (tags_of trivial) (fun v1 G1 Ho1 hle1 hp => ?_)
      obtain ⟨ri1, rfl, hri1, rfl⟩ := hp
      replace hn2 := hn2.up hle1
      replace hga := hga.up hle1
      replace hrs := hrs.up hle1
      replace gI2 := gI2.up hle1
      refine Wl.lit (α := IV) 6 [(ri1)] rfl T.sl40 T.el43 rfl rfl rfl rfl rfl (fun b2 => ?_)
      refine Wl.append (α := IV) 5 rfl T.sl40 T.el43 rfl rfl rfl (by first | assumption | exact OwnA.nil | exact OwnA.made (by simp)) (Src.row 6 rfl) (by first | omega | (simp only [List.length_append, List.length_cons, List.length_nil, maxLen]; omega)) (by first | omega | (simp only [List.length_append, List.length_cons, List.length_nil, maxLen]; omega)) (fun a1 c1 junk1 ho1 => ?_)
      refine Wl.q rfl (Qy.assign rfl) ?_
      refine Wl.done ?_
      refine Ar.outNormal ?_
      refine Ar.next ?_
      refine Wc.region rfl ?_
      refine Wl.q rfl (Qy.move rfl) ?_
      refine Wl.q rfl (Qy.add rfl rfl (by omega)) ?_
      refine Wl.q rfl (Qy.assign rfl) ?_
      refine Wl.done ?_
      refine Ar.again ((k + 1, G1, r2 ++ [ri1], (a1, c1, junk1))) ?_ ?_ rfl ⟨rfl, rfl, rfl, rfl, rfl, trivial⟩ ⟨rfl, rfl, trivial⟩
      · exact ⟨by omega, Imm.le_trans hgy hle1, by rw [List.length_append]; show r2.length + 1 = k + 1; omega, by rw [take_next hkl]; exact hn2.snoc hri1, ho1⟩
      · show li.length - (k + 1) < li.length - k
        omega
    · refine Wc.seq ?_
      refine Wc.seq ?_
      refine Wc.region rfl ?_
      refine Wl.q rfl (Qy.move rfl) ?_
      refine Wl.q rfl (Qy.move rfl) ?_
      refine Wl.q rfl (Qy.move rfl) ?_
      refine Wl.q rfl (Qy.at (α := SV) T.sl35 rfl rfl (by assumption) (by omega)) ?_
      refine Wl.q rfl (Qy.loadG T.one38 rfl (Arr.cell (by assumption) (by omega) 0 rfl rfl)) ?_
      refine Wl.q rfl (Qy.len T.sl38 rfl) ?_
      refine Wl.q rfl (Qy.lss rfl rfl) ?_
      refine Wl.done ?_
      refine Ar.next ?_
      refine Wc.condN rfl (by first | assumption | omega) ?_
      refine Wc.exit ?_
      refine Ar.passExit ?_
      refine Ar.passExit ?_
      refine Ar.here ?_
      refine Ar.next ?_
      refine Wc.region rfl ?_
      refine Wl.q rfl (Qy.move rfl) ?_
      refine Wl.q rfl (Qy.move rfl) ?_
      refine Wl.lit (α := SV) 6 [⟨_, _, _⟩] rfl T.sl37 T.el40 rfl rfl rfl rfl rfl (fun b2 => ?_)
      refine Wl.append (α := SV) 4 rfl T.sl37 T.el40 rfl rfl rfl (by first | assumption | exact OwnA.nil | exact OwnA.made (by simp)) (Src.row 6 rfl) (by first | omega | (simp only [List.length_append, List.length_cons, List.length_nil, maxLen]; omega)) (by first | omega | (simp only [List.length_append, List.length_cons, List.length_nil, maxLen]; omega)) (fun a1 c1 junk1 ho1 => ?_)
      refine Wl.q rfl (Qy.assign rfl) ?_
      refine Wl.done ?_
      refine Ar.outNormal ?_
      refine Ar.next ?_
      refine Wc.region rfl ?_
      refine Wl.q rfl (Qy.move rfl) ?_
      refine Wl.q rfl (Qy.add rfl rfl (by omega)) ?_
      refine Wl.q rfl (Qy.assign rfl) ?_
      refine Wl.done ?_
      refine Ar.freezeRow 5 rfl hob2 (fun G9 hle9 hA => ?_)
      have hke : k = li.length := by omega
      rw [List.take_of_length_le (by omega)] at hn2
      refine Ar.again ((i + 1, G9, r ++ [⟨o2, r2.length, d2⟩], (a1, c1, junk1))) ?_ ?_ rfl ⟨rfl, rfl, rfl, trivial⟩ ⟨rfl, trivial⟩
      · refine ⟨by omega, Imm.le_trans hgx (Imm.le_trans hgy hle9), by rw [List.length_append]; show r.length + 1 = i + 1; omega, ?_, ho1, fun q hq => ?_⟩
        · rw [ls_next (by omega), ← hli]
          exact (hrs.up hle9).snoc ⟨r2, rfl, hob2.le, hA, hn2.up hle9⟩
        · have e0 := hg0.1
          have hc1' : (gl[((i : Nat) : Int).toNat]?.getD default).n = (gl[((0 : Int)).toNat]?.getD default).n := by omega
          have e1 : (ls[((i : Nat) : Int).toNat]?.getD []).length = (ls[((0 : Int)).toNat]?.getD []).length := by rw [← hli, gI1, e0]; exact hc1'
          rw [Int.toNat_natCast] at e1
          by_cases hqi : q = i
          · subst hqi
            refine ⟨e1, ?_⟩
            show (ls[((0 : Int)).toNat]?.getD []).length ≤ 20
            rw [e0]; omega
          · exact hfit q (by omega)
      · show gl.length - (i + 1) < gl.length - i
        omega
  · have hie : i = gl.length := by omega
    subst hie
    rw [List.take_of_length_le (by omega)] at hrs
    refine Wc.seq ?_
    refine Wc.seq ?_
    refine Wc.region rfl ?_
    refine Wl.q rfl (Qy.move rfl) ?_
    refine Wl.q rfl (Qy.move rfl) ?_
    refine Wl.q rfl (Qy.len T.sl35 rfl) ?_
    refine Wl.q rfl (Qy.lss rfl rfl) ?_
    refine Wl.done ?_
    refine Ar.next ?_
    refine Wc.condN rfl (by first | assumption | omega) ?_
    refine Wc.exit ?_
    refine Ar.passExit ?_
    refine Ar.passExit ?_
    refine Ar.here ?_
    refine Ar.next ?_
    refine Wc.seq ?_
    refine Wc.region rfl ?_
    refine Wl.q rfl (Qy.move rfl) ?_
    refine Wl.q rfl (Qy.assign rfl) ?_
    refine Wl.q rfl (Qy.assign rfl) ?_
    refine Wl.done ?_
    refine Ar.next ?_
    refine Wc.ret ?_
    refine Ar.freezeRow 4 rfl hob (fun G9 hle9 hA => ?_)
    refine Ar.out2 (.inr rfl) (Ho := []) rfl (.tmp rfl) (.tmp rfl) trivial ?_
    have hft : Fit ls := by
      unfold Fit
      intro z hz
      obtain ⟨q, hq, rfl⟩ := List.mem_iff_getElem.1 hz
      have h9 := hfit q (by omega)
      rw [List.getElem?_eq_getElem hq] at h9
      exact ⟨h9.1, by have := h9.1; have := h9.2; simp only [Option.getD_some] at *; omega⟩
    exact ⟨⟨_, by rw [decide_eq_true hft], fun _ => ⟨o, d, r, rfl, hA, hrs.up hle9⟩⟩, rfl⟩
end Go.Proofs.Ytfleehgbpgmcnaa
