/- Parts of the proof (part 7): what the rows' text needs of the texts that lead to it. -/
import Derived.Test.YtbppmiimeccclaaDoorMRf
set_option maxRecDepth 100000
set_option linter.unusedVariables false
namespace Go.Proofs.YtbppmiimeccclaaDoor
open Go Go.Sl
set_option maxHeartbeats 4000000
theorem held_eq {xs ys : List Int} (h : xs.length = ys.length) (he : ∀ i : Nat, i < xs.length → xs[i]?.getD default = ys[i]?.getD default) : xs = ys := by
 refine List.ext_getElem h fun i h1 h2 => ?_
 have := he i h1
 rw [List.getElem?_eq_getElem h1, List.getElem?_eq_getElem h2] at this
 exact this
theorem own_set {a : Option Addr} {c : Nat} {xs : List Int} {junk : List Value} (h : OwnA a c xs junk) (n : Nat) (x : Int) : OwnA a c (xs.set n x) junk := by
 rcases h with ⟨h1, h2, h3, h4⟩ | ⟨b, h1, h2, h3, h4⟩
 · exact .inl ⟨h1, by rw [h2]; rfl, h3, h4⟩
 · exact .inr ⟨b, h1, by rw [List.length_set]; exact h2, by rw [List.length_set]; exact h3, h4⟩
theorem outTo_held (p : PV) : ∀ j, (outTo p j).held = (lifeTo p p.code.length).held
 | 0 => rfl
 | j + 1 => outTo_held p j
theorem outTo_same (p : PV) : ∀ j, (outTo p j).a = (lifeTo p p.code.length).a ∧ (outTo p j).b = (lifeTo p p.code.length).b ∧ (outTo p j).sets = (lifeTo p p.code.length).sets
 | 0 => ⟨rfl, rfl, rfl⟩
 | j + 1 => outTo_same p j
def LifeH (p : PV) (l : Life) (ac ao : Option Addr) (cc co u : Nat) (nb : Option Addr) (nc : Nat) (nj : List Value) (x y z n : Nat) (oo : Option Addr) (od : Nat) (oj : List Value) (o : Option Addr) (d : Nat) (j : List Value) : Hp :=
 [(0, some u, .cells #[.int .i64 p.ins, .int .i64 p.regs, .slice ac p.code.length cc, .slice ao p.outs.length co, .slice nb (neededP p).length nc, .slice (some ⟨x, 0, none⟩) l.a.length n, .slice (some ⟨y, 0, none⟩) l.b.length n, .slice (some ⟨z, 0, none⟩) l.sets.length n, .slice oo l.outs.length od, .slice o l.till.length d] 100),
  (1, nb.map (·.block), Row 4 (neededP p) nj), (2, some x, Row 3 l.a []), (3, some y, Row 3 l.b []), (4, some z, Row 3 l.sets []), (5, oo.map (·.block), Row 3 l.outs oj), (6, o.map (·.block), Row 3 l.till j)]
theorem set_back_i {l : List Int} {k : Nat} {x : Int} (h : k < l.length) : (l.set ((k : Nat) : Int).toNat x)[((k : Nat) : Int).toNat]?.getD default = x := by
 rw [Int.toNat_natCast, List.getElem?_set_self h]; rfl
theorem c47 (G : Imm) (p : PV) (ac ao : Option Addr) (cc co : Nat) (hc : Arr G ac p.code) (ho : Arr G ao p.outs) (h1 : p.code.length ≤ 1099511627776) (h2 : p.outs.length ≤ 1099511627776) (hR : rightP p = true) :
 Does Tryd.prog 47 [.agg #[.int .i64 p.ins, .int .i64 p.regs, .slice ac p.code.length cc, .slice ao p.outs.length co]] G [] (fun v G' Ho => ∃ u nb nc nj x y z n oo od oj o d j, v = .tuple #[.pointer (some ⟨u, 0, none⟩), .int .i64 0] ∧ OwnA nb nc (neededP p) nj ∧ OwnA (some ⟨x, 0, none⟩) n (lifeP p).a [] ∧ OwnA (some ⟨y, 0, none⟩) n (lifeP p).b [] ∧ OwnA (some ⟨z, 0, none⟩) n (lifeP p).sets [] ∧ OwnA oo od (lifeP p).outs oj ∧ OwnA o d (lifeP p).till j ∧
  Ho = LifeH p (lifeP p) ac ao cc co u nb nc nj x y z n oo od oj o d j ∧ G' = G) := by
 obtain ⟨r1, r2, r3, r4, r5, r6, r7, r8⟩ := right_facts hR
 refine Does.enter Tryd.func47 rfl Tryd.ntmps47 rfl (fun w => ?_)
 refine Wc.seq (Wc.region rfl ?_)
 refine Wl.box 0 rfl rfl rfl (fun b1 => ?_)
 refine Wl.q rfl (Qy.assign rfl) (Wl.q rfl (Qy.assign rfl) (Wl.done (Ar.next (Wc.seq (Wc.region rfl (Wl.q rfl (Qy.loadAll 0 T.agg25 rfl rfl rfl) ?_))))))
 refine Wl.call 1 rfl T.fn79 rfl (c79 _ _ _ _ _ _ (by assumption) (by assumption) (by omega) (by omega) hR) (tags_of trivial) (fun v1 G1 Ho1 hle1 hp => ?_)
 obtain ⟨nb1, nc1, nj1, rfl, hon1, rfl, rfl⟩ := hp
 refine Wl.q rfl (Qy.move rfl) (Wl.q rfl (Qy.extract rfl rfl) (Wl.q rfl (Qy.extract rfl rfl) (Wl.q rfl (Qy.assign rfl) (Wl.q rfl (Qy.assign rfl) (Wl.done (Ar.next (Wc.seq (Wc.seq (Wc.region rfl (Wl.q rfl (Qy.move rfl) (Wl.q rfl (Qy.neq rfl rfl) (Wl.done (Ar.next ?_)))))))))))))
 refine Wc.condN rfl (by first | assumption | omega) ?_
 refine Wc.skip (Ar.next (Wc.seq (Wc.region rfl (Wl.q rfl (Qy.fieldAddr T.fa25_2 rfl) (Wl.q rfl (Qy.load 0 T.one22 rfl rfl rfl) (Wl.q rfl (Qy.len T.sl22 rfl) (Wl.q rfl (Qy.assign rfl) (Wl.done (Ar.next ?_)))))))))
 refine Wc.meet (ι := Nat × Nat × Nat × Nat) (fun (x, y, z, u) => ([(7, .pointer (some ⟨u, 0, none⟩)), (6, Go.Value.int Go.IntKind.i64 (↑(List.length (PV.code p)) : Int)), (4, Go.Value.slice nb1 (List.length (neededP p)) nc1), (3, Go.Value.int Go.IntKind.i64 0), (2, Go.Value.pointer Option.none), (1, Go.Value.pointer (Option.some (Go.Addr.mk b1 0 Option.none)))], [(60, some x, Row 3 (List.replicate p.code.length (0 : Int)) []), (61, some y, Row 3 (List.replicate p.code.length (0 : Int)) []), (62, some z, Row 3 (List.replicate p.code.length (0 : Int)) []), (63, some u, .cells #[.int .i64 p.ins, .int .i64 p.regs, .slice ac p.code.length cc, .slice ao p.outs.length co, .slice nb1 (neededP p).length nc1, .slice (some ⟨x, 0, none⟩) (List.replicate p.code.length (0 : Int)).length (List.replicate p.code.length (0 : Int)).length, .slice (some ⟨y, 0, none⟩) (List.replicate p.code.length (0 : Int)).length (List.replicate p.code.length (0 : Int)).length, .slice (some ⟨z, 0, none⟩) (List.replicate p.code.length (0 : Int)).length (List.replicate p.code.length (0 : Int)).length, .slice none 0 0, .slice none 0 0] 100), (1, Option.map (fun x => Go.Addr.block x) nb1, Go.Sl.Row (α := Bool) 4 (neededP p) (nj1)), (0, Option.some b1, Go.Obj.cells #[Go.Value.int Go.IntKind.i64 (PV.ins p), Go.Value.int Go.IntKind.i64 (PV.regs p), Go.Value.slice ac (List.length (PV.code p)) cc, Go.Value.slice ao (List.length (PV.outs p)) co] 25)])) (fun (x, y, z, u) => True) ?_ (fun ⟨x, y, z, u⟩ => fun (hk : True) => ?_)
 · refine Wc.draw [0, 1] [] T.mixed rfl ?_
   refine Gm.q 0 [0] (by kernel_rfl) rfl rfl (Qy.loadAll 0 T.agg25 rfl rfl rfl) (Gm.q 1 [] (by kernel_rfl) rfl rfl (Qy.move rfl) (Gm.q 2 [] (by kernel_rfl) rfl rfl (Qy.move rfl) (Gm.q 4 [] (by kernel_rfl) rfl rfl (Qy.move rfl) (Gm.q 6 [] (by kernel_rfl) rfl rfl (Qy.move rfl) ?_))))
   refine Gm.three 3 5 7 ⟨rfl, rfl, trivial⟩ (by first | exact Imm.le_refl _ | assumption) (by kernel_rfl) rfl rfl rfl ?_ ?_ ?_
   refine Wl.make (α := Int) 2 rfl T.sl23 T.el3 rfl rfl (by omega) (by omega) (fun b2 => ?_)
   refine Wl.on0 ?_
   refine Gm.two 5 7 ⟨rfl, rfl, trivial⟩ (by first | exact Imm.le_refl _ | assumption) (by kernel_rfl) rfl rfl ?_ ?_
   refine Wl.make (α := Int) 3 rfl T.sl23 T.el3 rfl rfl (by omega) (by omega) (fun b3 => ?_)
   refine Wl.on0 ?_
   refine Gm.one 7 ⟨rfl, rfl, trivial⟩ (by first | exact Imm.le_refl _ | assumption) (by kernel_rfl) rfl ?_
   refine Wl.make (α := Int) 4 rfl T.sl23 T.el3 rfl rfl (by omega) (by omega) (fun b4 => ?_)
   refine Wl.on0 ?_
   refine Gm.q 8 [] (by kernel_rfl) rfl rfl (Qy.build (cs := [_, _, _, _, _, _, _, _, _, _]) T.st100 rfl rfl rfl) ?_
   refine Gm.one 9 ⟨rfl, rfl, trivial⟩ (by first | exact Imm.le_refl _ | assumption) (by kernel_rfl) rfl ?_
   refine Wl.box 5 rfl rfl rfl (fun b5 => ?_)
   refine Wl.on0 ?_
   refine Gm.q 10 [] (by kernel_rfl) rfl rfl (Qy.assign rfl) (Gm.doneA (by kernel_rfl) ⟨rfl, rfl, trivial⟩ (by first | exact Imm.le_refl _ | assumption) ?_)
   rotate_left
   refine Wl.make (α := Int) 3 rfl T.sl23 T.el3 rfl rfl (by omega) (by omega) (fun b3 => ?_)
   refine Wl.on0 ?_
   refine Gm.one 5 ⟨rfl, rfl, trivial⟩ (by first | exact Imm.le_refl _ | assumption) (by kernel_rfl) rfl ?_
   refine Wl.make (α := Int) 4 rfl T.sl23 T.el3 rfl rfl (by omega) (by omega) (fun b4 => ?_)
   refine Wl.on0 ?_
   refine Gm.q 8 [] (by kernel_rfl) rfl rfl (Qy.build (cs := [_, _, _, _, _, _, _, _, _, _]) T.st100 rfl rfl rfl) ?_
   refine Gm.one 9 ⟨rfl, rfl, trivial⟩ (by first | exact Imm.le_refl _ | assumption) (by kernel_rfl) rfl ?_
   refine Wl.box 5 rfl rfl rfl (fun b5 => ?_)
   refine Wl.on0 ?_
   refine Gm.q 10 [] (by kernel_rfl) rfl rfl (Qy.assign rfl) (Gm.doneA (by kernel_rfl) ⟨rfl, rfl, trivial⟩ (by first | exact Imm.le_refl _ | assumption) ?_)
   rotate_left
   refine Wl.make (α := Int) 2 rfl T.sl23 T.el3 rfl rfl (by omega) (by omega) (fun b2 => ?_)
   refine Wl.on0 ?_
   refine Gm.two 3 7 ⟨rfl, rfl, trivial⟩ (by first | exact Imm.le_refl _ | assumption) (by kernel_rfl) rfl rfl ?_ ?_
   refine Wl.make (α := Int) 3 rfl T.sl23 T.el3 rfl rfl (by omega) (by omega) (fun b3 => ?_)
   refine Wl.on0 ?_
   refine Gm.one 7 ⟨rfl, rfl, trivial⟩ (by first | exact Imm.le_refl _ | assumption) (by kernel_rfl) rfl ?_
   refine Wl.make (α := Int) 4 rfl T.sl23 T.el3 rfl rfl (by omega) (by omega) (fun b4 => ?_)
   refine Wl.on0 ?_
   refine Gm.q 8 [] (by kernel_rfl) rfl rfl (Qy.build (cs := [_, _, _, _, _, _, _, _, _, _]) T.st100 rfl rfl rfl) ?_
   refine Gm.one 9 ⟨rfl, rfl, trivial⟩ (by first | exact Imm.le_refl _ | assumption) (by kernel_rfl) rfl ?_
   refine Wl.box 5 rfl rfl rfl (fun b5 => ?_)
   refine Wl.on0 ?_
   refine Gm.q 10 [] (by kernel_rfl) rfl rfl (Qy.assign rfl) (Gm.doneA (by kernel_rfl) ⟨rfl, rfl, trivial⟩ (by first | exact Imm.le_refl _ | assumption) ?_)
   rotate_left
   refine Wl.make (α := Int) 3 rfl T.sl23 T.el3 rfl rfl (by omega) (by omega) (fun b3 => ?_)
   refine Wl.on0 ?_
   refine Gm.one 3 ⟨rfl, rfl, trivial⟩ (by first | exact Imm.le_refl _ | assumption) (by kernel_rfl) rfl ?_
   refine Wl.make (α := Int) 4 rfl T.sl23 T.el3 rfl rfl (by omega) (by omega) (fun b4 => ?_)
   refine Wl.on0 ?_
   refine Gm.q 8 [] (by kernel_rfl) rfl rfl (Qy.build (cs := [_, _, _, _, _, _, _, _, _, _]) T.st100 rfl rfl rfl) ?_
   refine Gm.one 9 ⟨rfl, rfl, trivial⟩ (by first | exact Imm.le_refl _ | assumption) (by kernel_rfl) rfl ?_
   refine Wl.box 5 rfl rfl rfl (fun b5 => ?_)
   refine Wl.on0 ?_
   refine Gm.q 10 [] (by kernel_rfl) rfl rfl (Qy.assign rfl) (Gm.doneA (by kernel_rfl) ⟨rfl, rfl, trivial⟩ (by first | exact Imm.le_refl _ | assumption) ?_)
   rotate_left
   refine Wl.make (α := Int) 2 rfl T.sl23 T.el3 rfl rfl (by omega) (by omega) (fun b2 => ?_)
   refine Wl.on0 ?_
   refine Gm.two 3 5 ⟨rfl, rfl, trivial⟩ (by first | exact Imm.le_refl _ | assumption) (by kernel_rfl) rfl rfl ?_ ?_
   refine Wl.make (α := Int) 3 rfl T.sl23 T.el3 rfl rfl (by omega) (by omega) (fun b3 => ?_)
   refine Wl.on0 ?_
   refine Gm.one 5 ⟨rfl, rfl, trivial⟩ (by first | exact Imm.le_refl _ | assumption) (by kernel_rfl) rfl ?_
   refine Wl.make (α := Int) 4 rfl T.sl23 T.el3 rfl rfl (by omega) (by omega) (fun b4 => ?_)
   refine Wl.on0 ?_
   refine Gm.q 8 [] (by kernel_rfl) rfl rfl (Qy.build (cs := [_, _, _, _, _, _, _, _, _, _]) T.st100 rfl rfl rfl) ?_
   refine Gm.one 9 ⟨rfl, rfl, trivial⟩ (by first | exact Imm.le_refl _ | assumption) (by kernel_rfl) rfl ?_
   refine Wl.box 5 rfl rfl rfl (fun b5 => ?_)
   refine Wl.on0 ?_
   refine Gm.q 10 [] (by kernel_rfl) rfl rfl (Qy.assign rfl) (Gm.doneA (by kernel_rfl) ⟨rfl, rfl, trivial⟩ (by first | exact Imm.le_refl _ | assumption) ?_)
   rotate_left
   refine Wl.make (α := Int) 3 rfl T.sl23 T.el3 rfl rfl (by omega) (by omega) (fun b3 => ?_)
   refine Wl.on0 ?_
   refine Gm.one 3 ⟨rfl, rfl, trivial⟩ (by first | exact Imm.le_refl _ | assumption) (by kernel_rfl) rfl ?_
   refine Wl.make (α := Int) 4 rfl T.sl23 T.el3 rfl rfl (by omega) (by omega) (fun b4 => ?_)
   refine Wl.on0 ?_
   refine Gm.q 8 [] (by kernel_rfl) rfl rfl (Qy.build (cs := [_, _, _, _, _, _, _, _, _, _]) T.st100 rfl rfl rfl) ?_
   refine Gm.one 9 ⟨rfl, rfl, trivial⟩ (by first | exact Imm.le_refl _ | assumption) (by kernel_rfl) rfl ?_
   refine Wl.box 5 rfl rfl rfl (fun b5 => ?_)
   refine Wl.on0 ?_
   refine Gm.q 10 [] (by kernel_rfl) rfl rfl (Qy.assign rfl) (Gm.doneA (by kernel_rfl) ⟨rfl, rfl, trivial⟩ (by first | exact Imm.le_refl _ | assumption) ?_)
   rotate_left
   all_goals first | (refine Ar.retag 2 60 rfl rfl (Ar.retag 3 61 rfl rfl (Ar.retag 4 62 rfl rfl (Ar.retag 5 63 rfl rfl (Ar.meet (b2, b3, b4, b5) trivial rfl ?_ ?_)))) <;> (repeat (first | exact trivial | refine ⟨rfl, ?_⟩)); done) | (refine Ar.retag 2 60 rfl rfl (Ar.retag 4 61 rfl rfl (Ar.retag 3 62 rfl rfl (Ar.retag 5 63 rfl rfl (Ar.meet (b2, b4, b3, b5) trivial rfl ?_ ?_)))) <;> (repeat (first | exact trivial | refine ⟨rfl, ?_⟩)); done) | (refine Ar.retag 3 60 rfl rfl (Ar.retag 2 61 rfl rfl (Ar.retag 4 62 rfl rfl (Ar.retag 5 63 rfl rfl (Ar.meet (b3, b2, b4, b5) trivial rfl ?_ ?_)))) <;> (repeat (first | exact trivial | refine ⟨rfl, ?_⟩)); done) | (refine Ar.retag 3 60 rfl rfl (Ar.retag 4 61 rfl rfl (Ar.retag 2 62 rfl rfl (Ar.retag 5 63 rfl rfl (Ar.meet (b3, b4, b2, b5) trivial rfl ?_ ?_)))) <;> (repeat (first | exact trivial | refine ⟨rfl, ?_⟩)); done) | (refine Ar.retag 4 60 rfl rfl (Ar.retag 2 61 rfl rfl (Ar.retag 3 62 rfl rfl (Ar.retag 5 63 rfl rfl (Ar.meet (b4, b2, b3, b5) trivial rfl ?_ ?_)))) <;> (repeat (first | exact trivial | refine ⟨rfl, ?_⟩)); done) | (refine Ar.retag 4 60 rfl rfl (Ar.retag 3 61 rfl rfl (Ar.retag 2 62 rfl rfl (Ar.retag 5 63 rfl rfl (Ar.meet (b4, b3, b2, b5) trivial rfl ?_ ?_)))) <;> (repeat (first | exact trivial | refine ⟨rfl, ?_⟩)); done)
 · clear hk
   refine Wc.seq (Wc.region rfl (Wl.q rfl (Qy.fieldAddr T.fa25_1 rfl) (Wl.q rfl (Qy.load 0 T.one3 rfl rfl rfl) ?_)))
   refine Wl.make (α := Int) 64 rfl T.sl23 T.el3 rfl rfl (by omega) (by omega) (fun b2 => ?_)
   refine Wl.q rfl (Qy.assign rfl) (Wl.done (Ar.next (Wc.seq (Wc.seq (Wc.region rfl (Wl.q rfl (Qy.move rfl) (Wl.q rfl (Qy.len T.sl23 rfl) (Wl.q rfl (Qy.move rfl) (Wl.done (Ar.next (Wc.block ?_)))))))))))
   obtain ⟨Z, hZ⟩ : ∃ Z, Z = List.replicate p.code.length (0 : Int) := ⟨_, rfl⟩
   have hZl : Z.length = p.code.length := by rw [hZ, List.length_replicate]
   have hno : ∀ b : Nat, OwnA (some ⟨b, 0, none⟩) Z.length Z [] := fun b => OwnA.made (by simp only [maxLen]; omega)
   obtain ⟨R, hRn⟩ : ∃ R : Nat, p.regs = (R : Int) := ⟨p.regs.toNat, by omega⟩
   have hRt : p.regs.toNat = R := by omega
   rw [← hZ]
   rw [hRt]
   have hown : ∀ h : List Int, h.length = R → OwnA (some ⟨b2, 0, none⟩) R h [] := fun h hh => .inr ⟨b2, rfl, by rw [hh]; rfl, by omega, by simp only [maxLen]; omega⟩
   refine Wc.re 8 rfl (show _ = Value.slice (some ⟨b2, 0, none⟩) (List.replicate R (default : Int)).length R by rw [List.length_replicate]) ?_
   refine Wc.re 39 rfl (show _ = Value.int .i64 (R : Int) by rw [List.length_replicate]) ?_
   refine Wc.loop (ι := Nat × List Int) (fun (k, h) => ([(40, .int .i64 (k : Int)), (8, .slice (some ⟨b2, 0, none⟩) h.length R), (39, Go.Value.int Go.IntKind.i64 (↑R : Int)), (7, Go.Value.pointer (Option.some (Go.Addr.mk u 0 Option.none))), (6, Go.Value.int Go.IntKind.i64 (↑(List.length (PV.code p)) : Int)), (4, Go.Value.slice nb1 (List.length (neededP p)) nc1), (3, Go.Value.int Go.IntKind.i64 0), (2, Go.Value.pointer Option.none), (1, Go.Value.pointer (Option.some (Go.Addr.mk b1 0 Option.none)))], [(64, some b2, Row 3 h []), (60, Option.some x, Go.Sl.Row (α := Int) 3 (Z) ([])), (61, Option.some y, Go.Sl.Row (α := Int) 3 (Z) ([])), (62, Option.some z, Go.Sl.Row (α := Int) 3 (Z) ([])), (63, Option.some u, Go.Obj.cells #[Go.Value.int Go.IntKind.i64 (PV.ins p), Go.Value.int Go.IntKind.i64 (PV.regs p), Go.Value.slice ac (List.length (PV.code p)) cc, Go.Value.slice ao (List.length (PV.outs p)) co, Go.Value.slice nb1 (List.length (neededP p)) nc1, Go.Value.slice (Option.some (Go.Addr.mk x 0 Option.none)) (List.length Z) (List.length Z), Go.Value.slice (Option.some (Go.Addr.mk y 0 Option.none)) (List.length Z) (List.length Z), Go.Value.slice (Option.some (Go.Addr.mk z 0 Option.none)) (List.length Z) (List.length Z), Go.Value.slice Option.none 0 0, Go.Value.slice Option.none 0 0] 100), (1, Option.map (fun x => Go.Addr.block x) nb1, Go.Sl.Row (α := Bool) 4 (neededP p) (nj1)), (0, Option.some b1, Go.Obj.cells #[Go.Value.int Go.IntKind.i64 (PV.ins p), Go.Value.int Go.IntKind.i64 (PV.regs p), Go.Value.slice ac (List.length (PV.code p)) cc, Go.Value.slice ao (List.length (PV.outs p)) co] 25)])) (fun (k, h) => k ≤ R ∧ h.length = R ∧ ∀ q : Nat, q < k → h[q]?.getD default = min (q : Int) p.ins) (fun (k, h) => R - k) ((0, List.replicate R (default : Int))) (⟨Nat.zero_le _, List.length_replicate, fun q hq => by omega⟩) ⟨rfl, rfl, rfl, rfl, rfl, rfl, rfl, rfl, rfl, trivial⟩ ⟨rfl, rfl, rfl, rfl, rfl, rfl, rfl, trivial⟩ (fun ⟨k, h⟩ => fun (hk : k ≤ R ∧ h.length = R ∧ ∀ q : Nat, q < k → h[q]?.getD default = min (q : Int) p.ins) => ?_)
   obtain ⟨hk1, hhl, hhe⟩ := hk
   have hoh := hown h hhl
   rcases Nat.lt_or_ge k R with hkR | hkR
   · refine Wc.seq (Wc.region rfl (Wl.q rfl (Qy.lss rfl rfl) (Wl.done (Ar.next (Wc.seq (Wc.condP rfl (by first | assumption | omega) ?_))))))
     refine Wc.skip (Ar.next (Wc.seq (Wc.block (Wc.seq (Wc.region rfl (Wl.q rfl (Qy.move rfl) (Wl.q rfl (Qy.assign rfl) (Wl.done (Ar.next (Wc.region rfl (Wl.q rfl (Qy.move rfl) (Wl.q rfl (Qy.move rfl) (Wl.q rfl (Qy.loadAll 0 T.agg25 rfl rfl rfl) (Wl.q rfl (Qy.move rfl) ?_))))))))))))))
     refine Wl.call0 rfl T.fn80 rfl (c80 _ _ _ _ _ _ _) ?_
     refine Wl.q rfl (Qy.indexAddrO (α := Int) T.sl23 rfl rfl (by assumption) (by omega)) ?_
     refine Wl.setO (z := _) 64 T.size3 rfl rfl rfl (by assumption) (by omega) rfl (fun ho1 => ?_)
     refine Wl.done ?_
     refine Ar.outNormal ?_
     refine Ar.next (Wc.region rfl (Wl.q rfl (Qy.add rfl rfl (by omega)) ?_))
     refine Wl.q rfl (Qy.move rfl) (Wl.done (Ar.re 8 rfl (show _ = Value.slice (some ⟨b2, 0, none⟩) (h.set ((k : Nat) : Int).toNat (min (k : Int) p.ins)).length R by rw [List.length_set]) ?_))
     refine Ar.again ((k + 1, h.set ((k : Nat) : Int).toNat (min (k : Int) p.ins))) ?_ ?_ rfl ⟨rfl, rfl, rfl, rfl, rfl, rfl, rfl, rfl, rfl, trivial⟩ ⟨rfl, rfl, rfl, rfl, rfl, rfl, rfl, trivial⟩
     · refine ⟨hkR, by rw [List.length_set]; exact hhl, fun q hq => ?_⟩
       rw [Int.toNat_natCast, List.getElem?_set]
       by_cases hqk : k = q
       · subst hqk; rw [if_pos rfl, if_pos (by omega)]; rfl
       · rw [if_neg hqk]; exact hhe q (by omega)
     · show R - (k + 1) < R - k
       omega
   · have hh0 : h = (life0 p).held := by
      refine held_eq (by rw [hhl]; show R = ((List.range p.regs.toNat).map _).length; rw [List.length_map, List.length_range, hRt]) (fun q hq => ?_)
      rw [hhe q (by omega)]
      show _ = ((List.range p.regs.toNat).map fun (r : Nat) => min (r : Int) p.ins)[q]?.getD default
      rw [List.getElem?_map, List.getElem?_range (by omega)]; rfl
     refine Wc.seq (Wc.region rfl (Wl.q rfl (Qy.lss rfl rfl) (Wl.done (Ar.next (Wc.seq (Wc.condN rfl (by first | assumption | omega) ?_))))))
     refine Wc.exit (Ar.passExit ?_)
     refine Ar.passExit ?_
     refine Ar.here ?_
     refine Ar.next (Wc.seq (Wc.seq (Wc.region rfl (Wl.q rfl (Qy.fieldAddr T.fa25_0 rfl) (Wl.q rfl (Qy.load 0 T.one3 rfl rfl rfl) (Wl.q rfl (Qy.add rfl rfl (by omega)) ?_))))))
     refine Wl.q rfl (Qy.move rfl) (Wl.done (Ar.next (Wc.block (Wc.nilRow 65 (Row 3 ([] : List Int) []) ?_))))
     refine Wc.loop (ι := Nat × List Int × (Option Addr × Nat × List Value)) (fun (i, t, (o, d, j)) => ([(53, .int .i64 (i : Int)), (52, Go.Value.int Go.IntKind.i64 (PV.ins p + 1)), (8, Go.Value.slice (Option.some (Go.Addr.mk b2 0 Option.none)) (List.length h) R), (7, Go.Value.pointer (Option.some (Go.Addr.mk u 0 Option.none))), (6, Go.Value.int Go.IntKind.i64 (↑(List.length (PV.code p)) : Int)), (4, Go.Value.slice nb1 (List.length (neededP p)) nc1), (3, Go.Value.int Go.IntKind.i64 0), (2, Go.Value.pointer Option.none), (1, Go.Value.pointer (Option.some (Go.Addr.mk b1 0 Option.none)))], [(63, some u, .cells #[.int .i64 p.ins, .int .i64 p.regs, .slice ac p.code.length cc, .slice ao p.outs.length co, .slice nb1 (neededP p).length nc1, .slice (some ⟨x, 0, none⟩) Z.length Z.length, .slice (some ⟨y, 0, none⟩) Z.length Z.length, .slice (some ⟨z, 0, none⟩) Z.length Z.length, .slice none 0 0, .slice o t.length d] 100), (65, o.map (·.block), Row 3 t j), (64, Option.some b2, Go.Sl.Row (α := Int) 3 (h) ([])), (60, Option.some x, Go.Sl.Row (α := Int) 3 (Z) ([])), (61, Option.some y, Go.Sl.Row (α := Int) 3 (Z) ([])), (62, Option.some z, Go.Sl.Row (α := Int) 3 (Z) ([])), (1, Option.map (fun x => Go.Addr.block x) nb1, Go.Sl.Row (α := Bool) 4 (neededP p) (nj1)), (0, Option.some b1, Go.Obj.cells #[Go.Value.int Go.IntKind.i64 (PV.ins p), Go.Value.int Go.IntKind.i64 (PV.regs p), Go.Value.slice ac (List.length (PV.code p)) cc, Go.Value.slice ao (List.length (PV.outs p)) co] 25)])) (fun (i, t, (o, d, j)) => (i : Int) ≤ p.ins + 1 ∧ t = List.replicate i (-1) ∧ OwnA o d t j) (fun (i, t, (o, d, j)) => p.ins.toNat + 1 - i) ((0, [], (none, 0, []))) (⟨by show (0 : Int) ≤ _; omega, rfl, OwnA.nil⟩) ⟨rfl, rfl, rfl, rfl, rfl, rfl, rfl, rfl, rfl, trivial⟩ ⟨rfl, rfl, rfl, rfl, rfl, rfl, rfl, rfl, trivial⟩ (fun ⟨i, t, (o, d, j)⟩ => fun (hk : (i : Int) ≤ p.ins + 1 ∧ t = List.replicate i (-1) ∧ OwnA o d t j) => ?_)
     obtain ⟨hi1, hti, hot⟩ := hk
     have htl : t.length = i := by rw [hti, List.length_replicate]
     by_cases hii : (i : Int) < p.ins + 1
     · refine Wc.seq (Wc.region rfl (Wl.q rfl (Qy.lss rfl rfl) (Wl.done (Ar.next (Wc.seq (Wc.condP rfl (by first | assumption | omega) ?_))))))
       refine Wc.skip (Ar.next (Wc.seq (Wc.block (Wc.region rfl (Wl.q rfl (Qy.move rfl) (Wl.q rfl (Qy.move rfl) (Wl.q rfl (Qy.nilCheck rfl) (Wl.q rfl (Qy.fieldAddr T.fa100_6 rfl) (Wl.q rfl (Qy.load 63 T.one23 rfl rfl rfl) ?_)))))))))
       refine Wl.lit (α := Int) 66 [(-1)] rfl T.sl23 T.el3 rfl rfl rfl rfl rfl (fun b3 => ?_)
       refine Wl.append (α := Int) 65 rfl T.sl23 T.el3 rfl rfl rfl (by first | assumption | exact OwnA.nil | exact OwnA.made (by simp)) (Src.row 66 rfl) (by first | omega | (simp only [List.length_append, List.length_cons, List.length_nil, maxLen]; omega)) (by first | omega | (simp only [List.length_append, List.length_cons, List.length_nil, maxLen]; omega)) (fun a1 c1 junk1 ho1 => ?_)
       refine Wl.q rfl (Qy.nilCheck rfl) (Wl.q rfl (Qy.fieldAddr T.fa100_6 rfl) ?_)
       refine Wl.store 63 T.one23 rfl rfl rfl rfl rfl ?_
       refine Wl.done ?_
       refine Ar.outNormal ?_
       refine Ar.next (Wc.region rfl (Wl.q rfl (Qy.add rfl rfl (by omega)) ?_))
       refine Wl.q rfl (Qy.move rfl) (Wl.done ?_)
       refine Ar.again ((i + 1, t ++ [-1], (a1, c1, junk1))) ?_ ?_ rfl ⟨rfl, rfl, rfl, rfl, rfl, rfl, rfl, rfl, rfl, trivial⟩ ⟨rfl, rfl, rfl, rfl, rfl, rfl, rfl, rfl, trivial⟩
       · exact ⟨by omega, by rw [hti, List.replicate_succ'], ho1⟩
       · show p.ins.toNat + 1 - (i + 1) < p.ins.toNat + 1 - i
         omega
     · refine Wc.seq (Wc.region rfl (Wl.q rfl (Qy.lss rfl rfl) (Wl.done (Ar.next (Wc.seq (Wc.condN rfl (by first | assumption | omega) ?_))))))
       refine Wc.exit (Ar.passExit ?_)
       refine Ar.passExit ?_
       refine Ar.here ?_
       refine Ar.next (Wc.seq (Wc.seq (Wc.region rfl (Wl.q rfl (Qy.fieldAddr T.fa25_2 rfl) (Wl.q rfl (Qy.load 0 T.one22 rfl rfl rfl) (Wl.q rfl (Qy.len T.sl22 rfl) (Wl.q rfl (Qy.move rfl) (Wl.done (Ar.next (Wc.block ?_))))))))))
       have htt : t = (life0 p).till := by
        rw [hti, show i = p.ins.toNat + 1 by omega]; rfl
       have hZ' : Z = (life0 p).a := hZ
       subst htt hh0 hZ'
       have hno9 : ∀ (b : Nat) (l : List Int), l.length = p.code.length → OwnA (some ⟨b, 0, none⟩) (life0 p).a.length l [] := fun b l hl => .inr ⟨b, rfl, by rw [hZl, hl]; rfl, by omega, by simp only [maxLen]; omega⟩
       refine Wc.loop (ι := Nat × Life × (Option Addr × Nat × List Value)) (fun (k, l, (o, d, j)) => ([(68, .int .i64 (k : Int)), (8, .slice (some ⟨b2, 0, none⟩) l.held.length R), (67, Go.Value.int Go.IntKind.i64 (↑(List.length (PV.code p)) : Int)), (66, Go.Value.slice ac (List.length (PV.code p)) cc), (7, Go.Value.pointer (Option.some (Go.Addr.mk u 0 Option.none))), (6, Go.Value.int Go.IntKind.i64 (↑(List.length (PV.code p)) : Int)), (4, Go.Value.slice nb1 (List.length (neededP p)) nc1), (3, Go.Value.int Go.IntKind.i64 0), (2, Go.Value.pointer Option.none), (1, Go.Value.pointer (Option.some (Go.Addr.mk b1 0 Option.none)))], [(60, some x, Row 3 l.a []), (61, some y, Row 3 l.b []), (62, some z, Row 3 l.sets []), (64, some b2, Row 3 l.held []), (63, some u, .cells #[.int .i64 p.ins, .int .i64 p.regs, .slice ac p.code.length cc, .slice ao p.outs.length co, .slice nb1 (neededP p).length nc1, .slice (some ⟨x, 0, none⟩) l.a.length (life0 p).a.length, .slice (some ⟨y, 0, none⟩) l.b.length (life0 p).a.length, .slice (some ⟨z, 0, none⟩) l.sets.length (life0 p).a.length, .slice none 0 0, .slice o l.till.length d] 100), (65, o.map (·.block), Row 3 l.till j), (1, Option.map (fun x => Go.Addr.block x) nb1, Go.Sl.Row (α := Bool) 4 (neededP p) (nj1)), (0, Option.some b1, Go.Obj.cells #[Go.Value.int Go.IntKind.i64 (PV.ins p), Go.Value.int Go.IntKind.i64 (PV.regs p), Go.Value.slice ac (List.length (PV.code p)) cc, Go.Value.slice ao (List.length (PV.outs p)) co] 25)])) (fun (k, l, (o, d, j)) => k ≤ p.code.length ∧ l = lifeTo p k ∧ OwnA o d l.till j) (fun (k, l, (o, d, j)) => p.code.length - k) ((0, life0 p, (o, d, j))) (⟨Nat.zero_le _, rfl, hot⟩) ⟨rfl, rfl, rfl, rfl, rfl, rfl, rfl, rfl, rfl, rfl, trivial⟩ ⟨rfl, rfl, rfl, rfl, rfl, rfl, rfl, rfl, trivial⟩ (fun ⟨k, l, (o, d, j)⟩ => fun (hk : k ≤ p.code.length ∧ l = lifeTo p k ∧ OwnA o d l.till j) => ?_)
       obtain ⟨hk9, hlk, hol⟩ := hk
       have hok := lifeTo_ok hR k hk9
       rw [← hlk] at hok
       obtain ⟨k1, k2, k3, k4, k5, k6, k7, k8, k9, k10, k11⟩ := hok
       have hoa := hno9 x l.a k1
       have hob := hno9 y l.b k2
       have hoz := hno9 z l.sets k3
       have hoh2 := hown l.held (by omega)
       rcases Nat.lt_or_ge k p.code.length with hkc | hkc
       · have hm := code_may hR hkc
         unfold cAt at hm
         have hnl : (neededP p).length = p.code.length := (needTo_len p _).2
         have hva : 0 ≤ l.held[(p.code[((k : Nat) : Int).toNat]?.getD default).a.toNat]?.getD default ∧ l.held[(p.code[((k : Nat) : Int).toNat]?.getD default).a.toNat]?.getD default < l.till.length := k7 _ (get_mem (by have := (may_facts hm).2.2.1; omega))
         obtain ⟨m1, m2, m3, m4, m5, m6, m7, m8⟩ := may_facts hm
         have hI : cAt p k = p.code[((k : Nat) : Int).toNat]?.getD default := rfl
         have m4' : 1 < ((asks (p.code[((k : Nat) : Int).toNat]?.getD default)).length : Int) → 0 ≤ (p.code[((k : Nat) : Int).toNat]?.getD default).b ∧ (p.code[((k : Nat) : Int).toNat]?.getD default).b < p.regs := fun h => m4 (two_op (by omega))
         refine Wc.seq (Wc.region rfl (Wl.q rfl (Qy.lss rfl rfl) (Wl.done (Ar.next (Wc.seq (Wc.condP rfl (by first | assumption | omega) ?_))))))
         refine Wc.skip (Ar.next (Wc.seq (Wc.block (Wc.seq (Wc.region rfl (Wl.q rfl (Qy.move rfl) (Wl.q rfl (Qy.at (α := Sl.Instr) T.sl22 rfl rfl (by assumption) (by omega)) ?_)))))))
         refine Wl.q rfl (Qy.loadsG T.agg55 rfl (Arr.elem (by assumption) (by omega)) rfl) ?_
         refine Wl.alloc 66 rfl T.zero55 (fun b3 => ?_)
         refine Wl.q rfl (Qy.assign rfl) ?_
         refine Wl.storeAll 66 T.size55 rfl rfl rfl rfl rfl rfl ?_
         refine Wl.done (Ar.next (Wc.seq (Wc.seq (Wc.region rfl (Wl.q rfl (Qy.move rfl) (Wl.q rfl (Qy.move rfl) (Wl.q rfl (Qy.indexAddrO (α := Bool) T.sl95 rfl rfl (by assumption) (by omega)) ?_)))))))
         refine Wl.q rfl (Qy.loadO 1 0 T.one4 rfl rfl (by assumption) (by omega) rfl rfl) ?_
         refine Wl.q rfl (Qy.not rfl) (Wl.done (Ar.next (Wc.ite rfl (fun hc1 => ?_) (fun hc1 => ?_))))
         refine Wc.exit (Ar.passExit ?_)
         refine Ar.here ?_
         refine Ar.next (Wc.region rfl (Wl.q rfl (Qy.add rfl rfl (by omega)) ?_))
         refine Wl.q rfl (Qy.move rfl) (Wl.done ?_)
         rotate_left
         refine Wc.skip (Ar.next (Wc.seq ?_))
         refine Wc.draw [0, 1, 65, 63, 64, 62, 61, 60, 66] [(66, 23), (60, 23), (61, 23), (62, 23), (64, 23), (63, 23), (65, 23), (1, 23), (0, 23), (66, 21), (60, 21), (61, 21), (62, 21), (64, 21), (63, 21), (65, 21), (1, 21), (0, 21)] T.mixed rfl ?_
         refine Gm.q 0 [] (by kernel_rfl) rfl rfl (Qy.move rfl) (Gm.q 1 [] (by kernel_rfl) rfl rfl (Qy.nilCheck rfl) ?_)
         refine Gm.q 2 [] (by kernel_rfl) rfl rfl (Qy.fieldAddr T.fa100_2 rfl) (Gm.q 3 [63] (by kernel_rfl) rfl rfl (Qy.load 63 T.one23 rfl rfl rfl) (Gm.q 4 [] (by kernel_rfl) rfl rfl (Qy.move rfl) (Gm.q 5 [] (by kernel_rfl) rfl rfl (Qy.move rfl) (Gm.q 6 [] (by kernel_rfl) rfl rfl (Qy.nilCheck rfl) ?_))))
         refine Gm.q 7 [] (by kernel_rfl) rfl rfl (Qy.fieldAddr T.fa100_3 rfl) (Gm.q 8 [63] (by kernel_rfl) rfl rfl (Qy.load 63 T.one23 rfl rfl rfl) (Gm.q 9 [] (by kernel_rfl) rfl rfl (Qy.move rfl) (Gm.q 10 [] (by kernel_rfl) rfl rfl (Qy.move rfl) (Gm.q 11 [] (by kernel_rfl) rfl rfl (Qy.fieldAddr T.fa55_2 rfl) ?_))))
         refine Gm.q 12 [66] (by kernel_rfl) rfl rfl (Qy.load 66 T.one3 rfl rfl rfl) (Gm.q 13 [] (by kernel_rfl) rfl rfl (Qy.indexAddrO (α := Int) T.sl23 rfl rfl (by assumption) (by omega)) ?_)
         refine Gm.q 14 [0, 64] (by kernel_rfl) rfl rfl (Qy.loadO 64 0 T.one3 rfl rfl (by assumption) (by omega) rfl rfl) ?_
         refine Gm.q 15 [] (by kernel_rfl) rfl rfl (Qy.move rfl) (Gm.q 16 [] (by kernel_rfl) rfl rfl (Qy.fieldAddr T.fa55_2 rfl) (Gm.one 17 ⟨rfl, rfl, rfl, rfl, rfl, rfl, rfl, rfl, rfl, trivial⟩ (by first | exact Imm.le_refl _ | assumption) (by kernel_rfl) rfl ?_))
         refine Wl.q rfl (Qy.load 66 T.one3 rfl rfl rfl) (Wl.on0 ?_)
         refine Gm.q 18 [] (by kernel_rfl) rfl rfl (Qy.indexAddrO (α := Int) T.sl23 rfl rfl (by assumption) (by omega)) ?_
         refine Gm.q 19 [0, 64] (by kernel_rfl) rfl rfl (Qy.loadO 64 0 T.one3 rfl rfl (by assumption) (by omega) rfl rfl) ?_
         refine Gm.q 20 [] (by kernel_rfl) rfl rfl (Qy.indexAddrO (α := Int) T.sl23 rfl rfl (by assumption) (by omega)) ?_
         refine Gm.one 21 ⟨rfl, rfl, rfl, rfl, rfl, rfl, rfl, rfl, rfl, trivial⟩ (by first | exact Imm.le_refl _ | assumption) (by kernel_rfl) rfl ?_
         refine Wl.setO (z := _) 60 T.size3 rfl rfl rfl (by assumption) (by omega) rfl (fun ho1 => ?_)
         refine Wl.on0 ?_
         refine Gm.q 22 [] (by kernel_rfl) rfl rfl (Qy.indexAddrO (α := Int) T.sl23 rfl rfl (by assumption) (by omega)) ?_
         refine Gm.one 23 trivial (by first | exact Imm.le_refl _ | assumption) (by kernel_rfl) rfl ?_
         refine Wl.setO (z := _) 61 T.size3 rfl rfl rfl (by assumption) (by omega) rfl (fun ho2 => ?_)
         refine Wl.on0 ?_
         refine Gm.doneA (by kernel_rfl) trivial (by first | exact Imm.le_refl _ | assumption) ?_
         refine Ar.next ?_
         rotate_left
         · have hn : ¬ nAt p k = true := by unfold nAt; simpa using hc1
           refine Ar.again ((k + 1, l, (o, d, j))) ?_ ?_ rfl ⟨rfl, rfl, rfl, rfl, rfl, rfl, rfl, rfl, rfl, rfl, trivial⟩ ⟨rfl, rfl, rfl, rfl, rfl, rfl, rfl, rfl, trivial⟩
           · exact ⟨hkc, by rw [hlk]; exact (if_neg hn).symm, hol⟩
           · show p.code.length - (k + 1) < p.code.length - k
             omega
         · have hn : nAt p k = true := by unfold nAt; simpa using hc1
           refine Wc.meet (ι := Int) (fun v => ([(4, .slice nb1 (neededP p).length nc1), (66, .slice ac p.code.length cc), (67, .int .i64 (p.code.length : Int)), (10, Go.Value.int Go.IntKind.i64 (↑k : Int)), (11, Go.Value.pointer (Option.some (Go.Addr.mk b3 0 Option.none))), (68, Go.Value.int Go.IntKind.i64 (↑k : Int)), (8, Go.Value.slice (Option.some (Go.Addr.mk b2 0 Option.none)) (List.length (Life.held l)) R), (7, Go.Value.pointer (Option.some (Go.Addr.mk u 0 Option.none))), (6, Go.Value.int Go.IntKind.i64 (↑(List.length (PV.code p)) : Int)), (3, Go.Value.int Go.IntKind.i64 0), (2, Go.Value.pointer Option.none), (1, Go.Value.pointer (Option.some (Go.Addr.mk b1 0 Option.none)))], [(61, some y, Row 3 (l.b.set ((k : Nat) : Int).toNat v) []), (60, Option.map (fun x => Go.Addr.block x) (Option.some (Go.Addr.mk x 0 Option.none)), Go.Sl.Row (α := Int) 3 (List.set (Life.a l) (Int.toNat (↑k : Int)) (Option.getD (Life.held l)[Int.toNat (Go.Sl.Instr.a (Option.getD (PV.code p)[Int.toNat (↑k : Int)]? Inhabited.default))]? Inhabited.default)) ([])), (66, Option.some b3, Go.Obj.cells (List.toArray (Go.Sl.Cells.enc (Option.getD (PV.code p)[Int.toNat (↑k : Int)]? Inhabited.default))) 55), (62, Option.some z, Go.Sl.Row (α := Int) 3 (Life.sets l) ([])), (64, Option.some b2, Go.Sl.Row (α := Int) 3 (Life.held l) ([])), (63, Option.some u, Go.Obj.cells #[Go.Value.int Go.IntKind.i64 (PV.ins p), Go.Value.int Go.IntKind.i64 (PV.regs p), Go.Value.slice ac (List.length (PV.code p)) cc, Go.Value.slice ao (List.length (PV.outs p)) co, Go.Value.slice nb1 (List.length (neededP p)) nc1, Go.Value.slice (Option.some (Go.Addr.mk x 0 Option.none)) (List.length (Life.a l)) (List.length (Life.a (life0 p))), Go.Value.slice (Option.some (Go.Addr.mk y 0 Option.none)) (List.length (Life.b l)) (List.length (Life.a (life0 p))), Go.Value.slice (Option.some (Go.Addr.mk z 0 Option.none)) (List.length (Life.sets l)) (List.length (Life.a (life0 p))), Go.Value.slice Option.none 0 0, Go.Value.slice o (List.length (Life.till l)) d] 100), (65, Option.map (fun x => Go.Addr.block x) o, Go.Sl.Row (α := Int) 3 (Life.till l) (j)), (1, Option.map (fun x => Go.Addr.block x) nb1, Go.Sl.Row (α := Bool) 4 (neededP p) (nj1)), (0, Option.some b1, Go.Obj.cells #[Go.Value.int Go.IntKind.i64 (PV.ins p), Go.Value.int Go.IntKind.i64 (PV.regs p), Go.Value.slice ac (List.length (PV.code p)) cc, Go.Value.slice ao (List.length (PV.outs p)) co] 25)])) (fun v => v = vB l (p.code[((k : Nat) : Int).toNat]?.getD default)) ?_ (fun v => fun (hk : v = vB l (p.code[((k : Nat) : Int).toNat]?.getD default)) => ?_)
           · by_cases h2 : 1 < ((asks (p.code[((k : Nat) : Int).toNat]?.getD default)).length : Int)
             · have m4b := m4' h2
               have hlb : (l.b.set ((k : Nat) : Int).toNat (l.held[(p.code[((k : Nat) : Int).toNat]?.getD default).a.toNat]?.getD default)).length = l.b.length := List.length_set
               refine Wc.seq (Wc.region rfl (Wl.q rfl (Qy.loadAll 66 T.agg55 rfl rfl rfl) ?_))
               refine Wl.call 67 rfl T.fn49 rfl (c49 _ _) (tags_of trivial) (fun v2 G2 Ho2 hle2 hp => ?_)
               obtain ⟨ad2, cd2, junk2, rfl, hoa2, rfl, rfl⟩ := hp
               refine Wl.q rfl (Qy.len T.sl23 rfl) (Wl.q rfl (Qy.gtr rfl rfl) (Wl.done (Ar.next (Wc.condP rfl (by first | assumption | omega) ?_))))
               refine Wc.draw [0, 1, 65, 63, 64, 62, 66, 60, 61, 68] [(68, 11), (61, 11), (60, 11), (66, 11), (62, 11), (64, 11), (63, 11), (65, 11), (1, 11), (0, 11)] T.mixed rfl ?_
               refine Gm.q 0 [] (by kernel_rfl) rfl rfl (Qy.move rfl) (Gm.q 1 [] (by kernel_rfl) rfl rfl (Qy.nilCheck rfl) ?_)
               refine Gm.q 2 [] (by kernel_rfl) rfl rfl (Qy.fieldAddr T.fa100_3 rfl) (Gm.q 3 [63] (by kernel_rfl) rfl rfl (Qy.load 63 T.one23 rfl rfl rfl) (Gm.q 4 [] (by kernel_rfl) rfl rfl (Qy.move rfl) (Gm.q 5 [] (by kernel_rfl) rfl rfl (Qy.move rfl) (Gm.q 6 [] (by kernel_rfl) rfl rfl (Qy.fieldAddr T.fa55_3 rfl) ?_))))
               refine Gm.q 7 [66] (by kernel_rfl) rfl rfl (Qy.load 66 T.one3 rfl rfl rfl) (Gm.q 8 [] (by kernel_rfl) rfl rfl (Qy.indexAddrO (α := Int) T.sl23 rfl rfl (by assumption) (by omega)) ?_)
               refine Gm.q 9 [0, 64] (by kernel_rfl) rfl rfl (Qy.loadO 64 0 T.one3 rfl rfl (by assumption) (by omega) rfl rfl) ?_
               refine Gm.q 10 [] (by kernel_rfl) rfl rfl (Qy.indexAddrO (α := Int) T.sl23 rfl rfl (by assumption) (by omega)) ?_
               refine Gm.one 11 ⟨rfl, rfl, rfl, rfl, rfl, rfl, rfl, rfl, rfl, rfl, trivial⟩ (by first | exact Imm.le_refl _ | assumption) (by kernel_rfl) rfl ?_
               refine Wl.setO (z := _) 61 T.size3 rfl rfl rfl (by assumption) (by omega) rfl (fun ho3 => ?_)
               refine Wl.on0 ?_
               refine Gm.doneA (by kernel_rfl) trivial (by first | exact Imm.le_refl _ | assumption) ?_
               rw [List.set_set]
               refine Ar.meet (l.held[(p.code[((k : Nat) : Int).toNat]?.getD default).b.toNat]?.getD default) ?_ rfl ⟨rfl, rfl, rfl, rfl, rfl, rfl, rfl, rfl, rfl, rfl, rfl, rfl, trivial⟩ ⟨rfl, rfl, rfl, rfl, rfl, rfl, rfl, rfl, rfl, trivial⟩
               exact (if_pos (by omega)).symm
             · refine Wc.seq (Wc.region rfl (Wl.q rfl (Qy.loadAll 66 T.agg55 rfl rfl rfl) ?_))
               refine Wl.call 67 rfl T.fn49 rfl (c49 _ _) (tags_of trivial) (fun v2 G2 Ho2 hle2 hp => ?_)
               obtain ⟨ad2, cd2, junk2, rfl, hoa2, rfl, rfl⟩ := hp
               refine Wl.q rfl (Qy.len T.sl23 rfl) (Wl.q rfl (Qy.gtr rfl rfl) (Wl.done (Ar.next (Wc.condN rfl (by first | assumption | omega) ?_))))
               refine Wc.skip ?_
               refine Ar.meet (l.held[(p.code[((k : Nat) : Int).toNat]?.getD default).a.toNat]?.getD default) ?_ rfl ⟨rfl, rfl, rfl, rfl, rfl, rfl, rfl, rfl, rfl, rfl, rfl, rfl, trivial⟩ ⟨rfl, rfl, rfl, rfl, rfl, rfl, rfl, rfl, rfl, trivial⟩
               exact (if_neg (by omega)).symm
           · have hvb := vB_ok ⟨k1, k2, k3, k4, k5, k6, k7, k8, k9, k10, k11⟩ hm
             rw [← hk] at hvb
             have hob3 := hno9 y (l.b.set ((k : Nat) : Int).toNat v) (by rw [List.length_set]; exact k2)
             have hra : (l.a.set ((k : Nat) : Int).toNat (l.held[(p.code[((k : Nat) : Int).toNat]?.getD default).a.toNat]?.getD default))[((k : Nat) : Int).toNat]?.getD default = l.held[(p.code[((k : Nat) : Int).toNat]?.getD default).a.toNat]?.getD default := set_back_i (by omega)
             have hrb : (l.b.set ((k : Nat) : Int).toNat v)[((k : Nat) : Int).toNat]?.getD default = v := set_back_i (by omega)
             have hla : (l.a.set ((k : Nat) : Int).toNat (l.held[(p.code[((k : Nat) : Int).toNat]?.getD default).a.toNat]?.getD default)).length = l.a.length := List.length_set
             have hlb : (l.b.set ((k : Nat) : Int).toNat v).length = l.b.length := List.length_set
             have hlt1 : (l.till.set (l.held[(p.code[((k : Nat) : Int).toNat]?.getD default).a.toNat]?.getD default).toNat (k : Int)).length = l.till.length := List.length_set
             have hlt2 : ((l.till.set (l.held[(p.code[((k : Nat) : Int).toNat]?.getD default).a.toNat]?.getD default).toNat (k : Int)).set v.toNat (k : Int)).length = l.till.length := by rw [List.length_set, List.length_set]
             refine Wc.seq ?_
             refine Wc.draw [0, 1, 65, 63, 64, 62, 66, 60, 61] [(61, 27), (60, 27), (66, 27), (62, 27), (64, 27), (63, 27), (65, 27), (1, 27), (0, 27), (61, 25), (60, 25), (66, 25), (62, 25), (64, 25), (63, 25), (65, 25), (1, 25), (0, 25)] T.mixed rfl ?_
             refine Gm.q 0 [] (by kernel_rfl) rfl rfl (Qy.move rfl) (Gm.q 1 [] (by kernel_rfl) rfl rfl (Qy.nilCheck rfl) ?_)
             refine Gm.q 2 [] (by kernel_rfl) rfl rfl (Qy.fieldAddr T.fa100_6 rfl) (Gm.q 3 [63] (by kernel_rfl) rfl rfl (Qy.load 63 T.one23 rfl rfl rfl) (Gm.q 4 [] (by kernel_rfl) rfl rfl (Qy.move rfl) (Gm.q 5 [] (by kernel_rfl) rfl rfl (Qy.nilCheck rfl) ?_)))
             refine Gm.q 6 [] (by kernel_rfl) rfl rfl (Qy.fieldAddr T.fa100_2 rfl) (Gm.q 7 [63] (by kernel_rfl) rfl rfl (Qy.load 63 T.one23 rfl rfl rfl) (Gm.q 8 [] (by kernel_rfl) rfl rfl (Qy.move rfl) (Gm.q 9 [] (by kernel_rfl) rfl rfl (Qy.indexAddrO (α := Int) T.sl23 rfl rfl (by assumption) (by omega)) ?_)))
             refine Gm.q 10 [0, 60] (by kernel_rfl) rfl rfl (Qy.loadO 60 0 T.one3 rfl rfl (by assumption) (by omega) rfl rfl) ?_
             refine Gm.q 11 [] (by kernel_rfl) rfl rfl (Qy.move rfl) (Gm.q 12 [] (by kernel_rfl) rfl rfl (Qy.nilCheck rfl) ?_)
             refine Gm.q 13 [] (by kernel_rfl) rfl rfl (Qy.fieldAddr T.fa100_6 rfl) (Gm.q 14 [63] (by kernel_rfl) rfl rfl (Qy.load 63 T.one23 rfl rfl rfl) (Gm.q 15 [] (by kernel_rfl) rfl rfl (Qy.move rfl) (Gm.q 16 [] (by kernel_rfl) rfl rfl (Qy.nilCheck rfl) ?_)))
             refine Gm.q 17 [] (by kernel_rfl) rfl rfl (Qy.fieldAddr T.fa100_3 rfl) (Gm.q 18 [63] (by kernel_rfl) rfl rfl (Qy.load 63 T.one23 rfl rfl rfl) (Gm.q 19 [] (by kernel_rfl) rfl rfl (Qy.move rfl) (Gm.q 20 [] (by kernel_rfl) rfl rfl (Qy.indexAddrO (α := Int) T.sl23 rfl rfl (by assumption) (by omega)) ?_)))
             refine Gm.q 21 [0, 61] (by kernel_rfl) rfl rfl (Qy.loadO 61 0 T.one3 rfl rfl (by assumption) (by omega) rfl rfl) ?_
             refine Gm.q 22 [] (by kernel_rfl) rfl rfl (Qy.move rfl) (Gm.q 23 [] (by kernel_rfl) rfl rfl (Qy.move rfl) (Gm.q 24 [] (by kernel_rfl) rfl rfl (Qy.indexAddrO (α := Int) T.sl23 rfl rfl (by assumption) (by omega)) ?_))
             refine Gm.one 25 ⟨rfl, rfl, rfl, rfl, rfl, rfl, rfl, rfl, rfl, trivial⟩ (by first | exact Imm.le_refl _ | assumption) (by kernel_rfl) rfl ?_
             refine Wl.setO (z := _) 65 T.size3 rfl rfl rfl (by assumption) (by omega) rfl (fun ho3 => ?_)
             refine Wl.on0 ?_
             refine Gm.q 26 [] (by kernel_rfl) rfl rfl (Qy.indexAddrO (α := Int) T.sl23 rfl rfl (by assumption) (by omega)) ?_
             refine Gm.one 27 trivial (by first | exact Imm.le_refl _ | assumption) (by kernel_rfl) rfl ?_
             rw [hra, hrb]
             have hol2 : OwnA o d (l.till.set (l.held[(p.code[((k : Nat) : Int).toNat]?.getD default).a.toNat]?.getD default).toNat (k : Int)) j := own_set hol _ _
             have hoh3 := hown (l.held.set (p.code[((k : Nat) : Int).toNat]?.getD default).to.toNat (l.till.length : Int)) (by rw [List.length_set]; omega)
             refine Wl.setO (z := _) 65 T.size3 rfl rfl rfl (by assumption) (by omega) rfl (fun ho4 => ?_)
             refine Wl.on0 ?_
             refine Gm.doneA (by kernel_rfl) trivial (by first | exact Imm.le_refl _ | assumption) ?_
             refine Ar.next (Wc.seq ?_)
             refine Wc.draw [0, 1, 63, 64, 62, 66, 60, 61, 65] [(65, 21), (61, 21), (60, 21), (66, 21), (62, 21), (64, 21), (63, 21), (1, 21), (0, 21), (65, 19), (61, 19), (60, 19), (66, 19), (62, 19), (64, 19), (63, 19), (1, 19), (0, 19)] T.mixed rfl ?_
             refine Gm.q 0 [] (by kernel_rfl) rfl rfl (Qy.move rfl) (Gm.q 1 [] (by kernel_rfl) rfl rfl (Qy.nilCheck rfl) ?_)
             refine Gm.q 2 [] (by kernel_rfl) rfl rfl (Qy.fieldAddr T.fa100_4 rfl) (Gm.q 3 [63] (by kernel_rfl) rfl rfl (Qy.load 63 T.one23 rfl rfl rfl) (Gm.q 4 [] (by kernel_rfl) rfl rfl (Qy.move rfl) (Gm.q 5 [] (by kernel_rfl) rfl rfl (Qy.move rfl) (Gm.q 6 [] (by kernel_rfl) rfl rfl (Qy.fieldAddr T.fa55_1 rfl) ?_))))
             refine Gm.q 8 [] (by kernel_rfl) rfl rfl (Qy.move rfl) (Gm.q 9 [] (by kernel_rfl) rfl rfl (Qy.nilCheck rfl) ?_)
             refine Gm.q 10 [] (by kernel_rfl) rfl rfl (Qy.fieldAddr T.fa100_6 rfl) (Gm.q 11 [63] (by kernel_rfl) rfl rfl (Qy.load 63 T.one23 rfl rfl rfl) (Gm.q 12 [] (by kernel_rfl) rfl rfl (Qy.len T.sl23 rfl) (Gm.q 13 [] (by kernel_rfl) rfl rfl (Qy.move rfl) (Gm.q 14 [] (by kernel_rfl) rfl rfl (Qy.nilCheck rfl) ?_))))
             refine Gm.q 15 [] (by kernel_rfl) rfl rfl (Qy.fieldAddr T.fa100_6 rfl) (Gm.q 16 [63] (by kernel_rfl) rfl rfl (Qy.load 63 T.one23 rfl rfl rfl) (Gm.q 17 [] (by kernel_rfl) rfl rfl (Qy.len T.sl23 rfl) (Gm.q 18 [] (by kernel_rfl) rfl rfl (Qy.indexAddrO (α := Int) T.sl23 rfl rfl (by assumption) (by omega)) ?_)))
             refine Gm.two 7 19 ⟨rfl, rfl, rfl, rfl, rfl, rfl, rfl, rfl, rfl, trivial⟩ (by first | exact Imm.le_refl _ | assumption) (by kernel_rfl) rfl rfl ?_ ?_
             refine Wl.q rfl (Qy.load 66 T.one3 rfl rfl rfl) (Wl.on0 ?_)
             refine Gm.one 19 ⟨rfl, rfl, rfl, rfl, rfl, rfl, rfl, rfl, rfl, trivial⟩ (by first | exact Imm.le_refl _ | assumption) (by kernel_rfl) rfl ?_
             refine Wl.setO (z := _) 62 T.size3 rfl rfl rfl (by assumption) (by omega) rfl (fun ho5 => ?_)
             refine Wl.on0 ?_
             refine Gm.q 20 [] (by kernel_rfl) rfl rfl (Qy.indexAddrO (α := Int) T.sl23 rfl rfl (by assumption) (by omega)) ?_
             refine Gm.one 21 trivial (by first | exact Imm.le_refl _ | assumption) (by kernel_rfl) rfl ?_
             refine Wl.setO (z := _) 64 T.size3 rfl rfl rfl (by assumption) (by omega) rfl (fun ho6 => ?_)
             refine Wl.on0 ?_
             refine Gm.doneA (by kernel_rfl) trivial (by first | exact Imm.le_refl _ | assumption) ?_
             refine Ar.next (Wc.region rfl (Wl.q rfl (Qy.move rfl) (Wl.q rfl (Qy.move rfl) (Wl.q rfl (Qy.nilCheck rfl) (Wl.q rfl (Qy.fieldAddr T.fa100_6 rfl) (Wl.q rfl (Qy.load 63 T.one23 rfl rfl rfl) ?_))))))
             refine Wl.lit (α := Int) 67 [(-1)] rfl T.sl23 T.el3 rfl rfl rfl rfl rfl (fun b4 => ?_)
             rotate_left
             refine Wl.setO (z := _) 62 T.size3 rfl rfl rfl (by assumption) (by omega) rfl (fun ho5 => ?_)
             refine Wl.on0 ?_
             refine Gm.one 7 trivial (by first | exact Imm.le_refl _ | assumption) (by kernel_rfl) rfl ?_
             refine Wl.q rfl (Qy.load 66 T.one3 rfl rfl rfl) (Wl.on0 ?_)
             refine Gm.q 20 [] (by kernel_rfl) rfl rfl (Qy.indexAddrO (α := Int) T.sl23 rfl rfl (by assumption) (by omega)) ?_
             refine Gm.one 21 trivial (by first | exact Imm.le_refl _ | assumption) (by kernel_rfl) rfl ?_
             refine Wl.setO (z := _) 64 T.size3 rfl rfl rfl (by assumption) (by omega) rfl (fun ho6 => ?_)
             refine Wl.on0 ?_
             refine Gm.doneA (by kernel_rfl) trivial (by first | exact Imm.le_refl _ | assumption) ?_
             refine Ar.next (Wc.region rfl (Wl.q rfl (Qy.move rfl) (Wl.q rfl (Qy.move rfl) (Wl.q rfl (Qy.nilCheck rfl) (Wl.q rfl (Qy.fieldAddr T.fa100_6 rfl) (Wl.q rfl (Qy.load 63 T.one23 rfl rfl rfl) ?_))))))
             refine Wl.lit (α := Int) 67 [(-1)] rfl T.sl23 T.el3 rfl rfl rfl rfl rfl (fun b4 => ?_)
             rotate_left
             all_goals
              refine Wl.re 165 rfl (show _ = Value.slice o ((l.till.set (l.held[(p.code[((k : Nat) : Int).toNat]?.getD default).a.toNat]?.getD default).toNat (k : Int)).set v.toNat (k : Int)).length d by rw [hlt2]) ?_
              have hol3 := own_set hol2 v.toNat (k : Int)
              refine Wl.append (α := Int) 65 rfl T.sl23 T.el3 rfl rfl rfl (by first | assumption | exact OwnA.nil | exact OwnA.made (by simp)) (Src.row 67 rfl) (by first | omega | (simp only [List.length_append, List.length_cons, List.length_nil, maxLen]; omega)) (by first | omega | (simp only [List.length_append, List.length_cons, List.length_nil, maxLen]; omega)) (fun a7 c7 junk7 ho7 => ?_)
              refine Wl.q rfl (Qy.nilCheck rfl) (Wl.q rfl (Qy.fieldAddr T.fa100_6 rfl) ?_)
              refine Wl.store 63 T.one23 rfl rfl rfl rfl rfl ?_
              refine Wl.done ?_
              refine Ar.outNormal ?_
              refine Ar.next (Wc.region rfl (Wl.q rfl (Qy.add rfl rfl (by omega)) ?_))
              refine Wl.q rfl (Qy.move rfl) (Wl.done ?_)
              subst hk
              have e1 : (lifeStep l k (p.code[((k : Nat) : Int).toNat]?.getD default)).a.length = l.a.length := List.length_set
              have e2 : (lifeStep l k (p.code[((k : Nat) : Int).toNat]?.getD default)).b.length = l.b.length := List.length_set
              have e3 : (lifeStep l k (p.code[((k : Nat) : Int).toNat]?.getD default)).sets.length = l.sets.length := List.length_set
              have e4 : (lifeStep l k (p.code[((k : Nat) : Int).toNat]?.getD default)).held.length = l.held.length := List.length_set
              refine Ar.reH 63 (.cells #[.int .i64 p.ins, .int .i64 p.regs, .slice ac p.code.length cc, .slice ao p.outs.length co, .slice nb1 (neededP p).length nc1, .slice (some ⟨x, 0, none⟩) (lifeStep l k (p.code[((k : Nat) : Int).toNat]?.getD default)).a.length (life0 p).a.length, .slice (some ⟨y, 0, none⟩) (lifeStep l k (p.code[((k : Nat) : Int).toNat]?.getD default)).b.length (life0 p).a.length, .slice (some ⟨z, 0, none⟩) (lifeStep l k (p.code[((k : Nat) : Int).toNat]?.getD default)).sets.length (life0 p).a.length, .slice none 0 0, .slice a7 (lifeStep l k (p.code[((k : Nat) : Int).toNat]?.getD default)).till.length c7] 100) rfl (by rw [e1, e2, e3]; rfl) ?_
              refine Ar.re 8 rfl (show _ = Value.slice (some ⟨b2, 0, none⟩) (lifeStep l k (p.code[((k : Nat) : Int).toNat]?.getD default)).held.length R by rw [e4]) ?_
              refine Ar.again ((k + 1, lifeStep l k (p.code[((k : Nat) : Int).toNat]?.getD default), (a7, c7, junk7))) ?_ ?_ rfl ⟨rfl, rfl, rfl, rfl, rfl, rfl, rfl, rfl, rfl, rfl, trivial⟩ ⟨rfl, rfl, rfl, rfl, rfl, rfl, rfl, rfl, trivial⟩
              · refine ⟨hkc, ?_, ?_⟩
                · rw [hlk]; exact (if_pos hn).symm
                · show OwnA a7 c7 (((l.till.set _ _).set _ _) ++ [-1]) junk7
                  assumption
              · show p.code.length - (k + 1) < p.code.length - k
                omega
       · have hke : k = p.code.length := Nat.le_antisymm hk9 hkc
         subst hke
         have hlo : l.outs = [] := by rw [hlk]; exact lifeTo_outs p _
         refine Wc.seq (Wc.region rfl (Wl.q rfl (Qy.lss rfl rfl) (Wl.done (Ar.next (Wc.seq (Wc.condN rfl (by first | assumption | omega) ?_))))))
         refine Wc.exit (Ar.passExit ?_)
         refine Ar.passExit ?_
         refine Ar.here ?_
         refine Ar.next (Wc.seq (Wc.seq (Wc.region rfl (Wl.q rfl (Qy.fieldAddr T.fa25_3 rfl) (Wl.q rfl (Qy.load 0 T.one23 rfl rfl rfl) (Wl.q rfl (Qy.len T.sl23 rfl) (Wl.q rfl (Qy.move rfl) (Wl.done (Ar.next (Wc.block (Wc.nilRow 69 (Row 3 l.outs []) ?_)))))))))))
         refine Wc.reH 63 (.cells #[.int .i64 p.ins, .int .i64 p.regs, .slice ac p.code.length cc, .slice ao p.outs.length co, .slice nb1 (neededP p).length nc1, .slice (some ⟨x, 0, none⟩) l.a.length (life0 p).a.length, .slice (some ⟨y, 0, none⟩) l.b.length (life0 p).a.length, .slice (some ⟨z, 0, none⟩) l.sets.length (life0 p).a.length, .slice none l.outs.length 0, .slice o l.till.length d] 100) rfl (by rw [hlo]; rfl) ?_
         refine Wc.loop (ι := Nat × Life × (Option Addr × Nat × List Value)) (fun (q, l2, (oo, od, oj)) => ([(174, .int .i64 (q : Int)), (173, Go.Value.int Go.IntKind.i64 (↑(List.length (PV.outs p)) : Int)), (172, Go.Value.slice ao (List.length (PV.outs p)) co), (8, Go.Value.slice (Option.some (Go.Addr.mk b2 0 Option.none)) (List.length (Life.held l)) R), (7, Go.Value.pointer (Option.some (Go.Addr.mk u 0 Option.none))), (6, Go.Value.int Go.IntKind.i64 (↑(List.length (PV.code p)) : Int)), (3, Go.Value.int Go.IntKind.i64 0), (2, Go.Value.pointer Option.none)], [(65, o.map (·.block), Row 3 l2.till j), (69, oo.map (·.block), Row 3 l2.outs oj), (63, some u, .cells #[.int .i64 p.ins, .int .i64 p.regs, .slice ac p.code.length cc, .slice ao p.outs.length co, .slice nb1 (neededP p).length nc1, .slice (some ⟨x, 0, none⟩) l.a.length (life0 p).a.length, .slice (some ⟨y, 0, none⟩) l.b.length (life0 p).a.length, .slice (some ⟨z, 0, none⟩) l.sets.length (life0 p).a.length, .slice oo l2.outs.length od, .slice o l2.till.length d] 100), (60, Option.some x, Go.Sl.Row (α := Int) 3 (Life.a l) ([])), (61, Option.some y, Go.Sl.Row (α := Int) 3 (Life.b l) ([])), (62, Option.some z, Go.Sl.Row (α := Int) 3 (Life.sets l) ([])), (64, Option.some b2, Go.Sl.Row (α := Int) 3 (Life.held l) ([])), (1, Option.map (fun x => Go.Addr.block x) nb1, Go.Sl.Row (α := Bool) 4 (neededP p) (nj1)), (0, Option.some b1, Go.Obj.cells #[Go.Value.int Go.IntKind.i64 (PV.ins p), Go.Value.int Go.IntKind.i64 (PV.regs p), Go.Value.slice ac (List.length (PV.code p)) cc, Go.Value.slice ao (List.length (PV.outs p)) co] 25)])) (fun (q, l2, (oo, od, oj)) => q ≤ p.outs.length ∧ l2 = outTo p q ∧ OwnA oo od l2.outs oj ∧ OwnA o d l2.till j) (fun (q, l2, (oo, od, oj)) => p.outs.length - q) ((0, l, (none, 0, []))) (⟨Nat.zero_le _, hlk, by show OwnA none 0 l.outs []; rw [hlo]; exact OwnA.nil, hol⟩) ⟨rfl, rfl, rfl, rfl, rfl, rfl, rfl, rfl, trivial⟩ ⟨rfl, rfl, rfl, rfl, rfl, rfl, rfl, rfl, rfl, trivial⟩ (fun ⟨q, l2, (oo, od, oj)⟩ => fun (hk : q ≤ p.outs.length ∧ l2 = outTo p q ∧ OwnA oo od l2.outs oj ∧ OwnA o d l2.till j) => ?_)
         obtain ⟨hq1, hl2, hoo, hot2⟩ := hk
         have h2ok := outTo_ok hR q hq1
         have h2h := outTo_held p q
         have h2l := outTo_len p q
         rw [← hl2] at h2ok h2h h2l
         rw [← hlk] at h2h h2l
         rw [hlo] at h2l
         have h2l' : l2.outs.length = q := by rw [h2l]; exact Nat.zero_add q
         have h2t := h2ok.t1
         rcases Nat.lt_or_ge q p.outs.length with hqc | hqc
         · have hr := out_may hR hqc
           have hv2 : 0 ≤ l.held[(p.outs[((q : Nat) : Int).toNat]?.getD default).toNat]?.getD default ∧ l.held[(p.outs[((q : Nat) : Int).toNat]?.getD default).toNat]?.getD default < l2.till.length := h2ok.hb _ (by rw [h2h]; exact get_mem (by omega))
           refine Wc.seq (Wc.region rfl (Wl.q rfl (Qy.lss rfl rfl) (Wl.done (Ar.next (Wc.seq (Wc.condP rfl (by first | assumption | omega) ?_))))))
           refine Wc.skip (Ar.next (Wc.seq (Wc.block (Wc.seq (Wc.region rfl (Wl.q rfl (Qy.at (α := Int) T.sl23 rfl rfl (by assumption) (by omega)) ?_))))))
           refine Wl.q rfl (Qy.loadG T.one3 rfl (Arr.cell (by assumption) (by omega) 0 rfl rfl)) ?_
           refine Wl.q rfl (Qy.assign rfl) (Wl.done (Ar.next (Wc.seq (Wc.draw [0, 1, 64, 62, 61, 60, 63, 69, 65] [(63, 13), (65, 10), (69, 10), (60, 10), (61, 10), (62, 10), (64, 10), (1, 10)] T.mixed rfl ?_))))
           refine Gm.q 0 [] (by kernel_rfl) rfl rfl (Qy.move rfl) (Gm.q 1 [] (by kernel_rfl) rfl rfl (Qy.move rfl) (Gm.q 2 [] (by kernel_rfl) rfl rfl (Qy.nilCheck rfl) ?_))
           refine Gm.q 3 [] (by kernel_rfl) rfl rfl (Qy.fieldAddr T.fa100_5 rfl) (Gm.q 4 [63] (by kernel_rfl) rfl rfl (Qy.load 63 T.one23 rfl rfl rfl) (Gm.q 5 [] (by kernel_rfl) rfl rfl (Qy.move rfl) (Gm.q 6 [] (by kernel_rfl) rfl rfl (Qy.move rfl) (Gm.q 7 [] (by kernel_rfl) rfl rfl (Qy.indexAddrO (α := Int) T.sl23 rfl rfl (by assumption) (by omega)) ?_))))
           refine Gm.one 8 ⟨rfl, rfl, rfl, rfl, rfl, rfl, rfl, rfl, rfl, trivial⟩ (by first | exact Imm.le_refl _ | assumption) (by kernel_rfl) rfl ?_
           refine Wl.q rfl (Qy.loadO 64 0 T.one3 rfl rfl (by assumption) (by omega) rfl rfl) ?_
           refine Wl.on0 ?_
           refine Gm.one 9 ⟨rfl, rfl, rfl, rfl, rfl, rfl, rfl, rfl, rfl, trivial⟩ (by first | exact Imm.le_refl _ | assumption) (by kernel_rfl) rfl ?_
           refine Wl.lit (α := Int) 70 [(Option.getD (Life.held l)[Int.toNat (Option.getD (PV.outs p)[Int.toNat (↑q : Int)]? Inhabited.default)]? Inhabited.default)] rfl T.sl23 T.el3 rfl rfl rfl rfl rfl (fun b3 => ?_)
           refine Wl.on0 ?_
           refine Gm.one 10 ⟨rfl, rfl, rfl, rfl, rfl, rfl, rfl, rfl, rfl, trivial⟩ (by first | exact Imm.le_refl _ | assumption) (by kernel_rfl) rfl ?_
           refine Wl.append (α := Int) 69 rfl T.sl23 T.el3 rfl rfl rfl (by first | assumption | exact OwnA.nil | exact OwnA.made (by simp)) (Src.row 70 rfl) (by first | omega | (simp only [List.length_append, List.length_cons, List.length_nil, maxLen]; omega)) (by first | omega | (simp only [List.length_append, List.length_cons, List.length_nil, maxLen]; omega)) (fun a1 c1 junk1 ho1 => ?_)
           refine Wl.on0 ?_
           refine Gm.q 11 [] (by kernel_rfl) rfl rfl (Qy.nilCheck rfl) ?_
           refine Gm.q 12 [] (by kernel_rfl) rfl rfl (Qy.fieldAddr T.fa100_5 rfl) (Gm.one 13 ⟨rfl, rfl, trivial⟩ (by first | exact Imm.le_refl _ | assumption) (by kernel_rfl) rfl ?_)
           refine Wl.store 63 T.one23 rfl rfl rfl rfl rfl ?_
           refine Wl.on0 ?_
           refine Gm.doneA (by kernel_rfl) ⟨rfl, trivial⟩ (by first | exact Imm.le_refl _ | assumption) ?_
           refine Ar.next (Wc.draw [0, 1, 64, 62, 61, 60, 65, 70, 69, 63] [(63, 10), (69, 10), (70, 10), (65, 10), (60, 10), (61, 10), (62, 10), (64, 10), (1, 10), (0, 10)] T.mixed rfl ?_)
           refine Gm.q 0 [] (by kernel_rfl) rfl rfl (Qy.move rfl) (Gm.q 1 [] (by kernel_rfl) rfl rfl (Qy.nilCheck rfl) ?_)
           refine Gm.q 2 [] (by kernel_rfl) rfl rfl (Qy.fieldAddr T.fa100_6 rfl) (Gm.q 3 [63] (by kernel_rfl) rfl rfl (Qy.load 63 T.one23 rfl rfl rfl) (Gm.q 4 [] (by kernel_rfl) rfl rfl (Qy.move rfl) (Gm.q 5 [] (by kernel_rfl) rfl rfl (Qy.move rfl) (Gm.q 6 [] (by kernel_rfl) rfl rfl (Qy.indexAddrO (α := Int) T.sl23 rfl rfl (by assumption) (by omega)) ?_))))
           refine Gm.q 7 [0, 64] (by kernel_rfl) rfl rfl (Qy.loadO 64 0 T.one3 rfl rfl (by assumption) (by omega) rfl rfl) ?_
           refine Gm.q 8 [] (by kernel_rfl) rfl rfl (Qy.move rfl) (Gm.q 9 [] (by kernel_rfl) rfl rfl (Qy.indexAddrO (α := Int) T.sl23 rfl rfl (by assumption) (by omega)) ?_)
           refine Gm.one 10 ⟨rfl, rfl, rfl, rfl, rfl, rfl, rfl, rfl, rfl, rfl, trivial⟩ (by first | exact Imm.le_refl _ | assumption) (by kernel_rfl) rfl ?_
           refine Wl.setO (z := _) 65 T.size3 rfl rfl rfl (by assumption) (by omega) rfl (fun ho2 => ?_)
           refine Wl.on0 ?_
           refine Gm.doneA (by kernel_rfl) trivial (by first | exact Imm.le_refl _ | assumption) ?_
           refine Ar.outNormal ?_
           refine Ar.next (Wc.region rfl (Wl.q rfl (Qy.add rfl rfl (by omega)) ?_))
           refine Wl.q rfl (Qy.move rfl) (Wl.done ?_)
           have e5 : (outStep p l2 (p.outs[((q : Nat) : Int).toNat]?.getD default)).till.length = l2.till.length := List.length_set
           have eS : outStep p l2 (p.outs[((q : Nat) : Int).toNat]?.getD default) = { l2 with outs := l2.outs ++ [l.held[(p.outs[((q : Nat) : Int).toNat]?.getD default).toNat]?.getD default], till := l2.till.set (l.held[(p.outs[((q : Nat) : Int).toNat]?.getD default).toNat]?.getD default).toNat p.code.length } := by
            unfold outStep; rw [h2h]
           rw [eS] at e5
           refine Ar.reH 63 (.cells #[.int .i64 p.ins, .int .i64 p.regs, .slice ac p.code.length cc, .slice ao p.outs.length co, .slice nb1 (neededP p).length nc1, .slice (some ⟨x, 0, none⟩) l.a.length (life0 p).a.length, .slice (some ⟨y, 0, none⟩) l.b.length (life0 p).a.length, .slice (some ⟨z, 0, none⟩) l.sets.length (life0 p).a.length, .slice a1 (l2.outs ++ [l.held[(p.outs[((q : Nat) : Int).toNat]?.getD default).toNat]?.getD default]).length c1, .slice o (l2.till.set (l.held[(p.outs[((q : Nat) : Int).toNat]?.getD default).toNat]?.getD default).toNat p.code.length).length d] 100) rfl (by rw [e5]; rfl) ?_
           refine Ar.again ((q + 1, { l2 with outs := l2.outs ++ [l.held[(p.outs[((q : Nat) : Int).toNat]?.getD default).toNat]?.getD default], till := l2.till.set (l.held[(p.outs[((q : Nat) : Int).toNat]?.getD default).toNat]?.getD default).toNat p.code.length }, (a1, c1, junk1))) ?_ ?_ rfl ⟨rfl, rfl, rfl, rfl, rfl, rfl, rfl, rfl, trivial⟩ ⟨rfl, rfl, rfl, rfl, rfl, rfl, rfl, rfl, rfl, trivial⟩
           · refine ⟨hqc, ?_, by assumption, own_set hot2 _ _⟩
             show _ = outStep p (outTo p q) _
             rw [← hl2, eS]
           · show p.outs.length - (q + 1) < p.outs.length - q
             omega
         · have hqe : q = p.outs.length := Nat.le_antisymm hq1 hqc
           subst hqe
           have hlp : l2 = lifeP p := hl2
           have s1 : l.a = (lifeP p).a := by rw [hlk]; exact (outTo_same p _).1.symm
           have s2 : l.b = (lifeP p).b := by rw [hlk]; exact (outTo_same p _).2.1.symm
           have s3 : l.sets = (lifeP p).sets := by rw [hlk]; exact (outTo_same p _).2.2.symm
           subst hlp
           refine Wc.seq (Wc.region rfl (Wl.q rfl (Qy.lss rfl rfl) (Wl.done (Ar.next (Wc.seq (Wc.condN rfl (by first | assumption | omega) ?_))))))
           refine Wc.exit (Ar.passExit ?_)
           refine Ar.passExit ?_
           refine Ar.here ?_
           refine Ar.next (Wc.seq (Wc.region rfl (Wl.q rfl (Qy.move rfl) (Wl.q rfl (Qy.assign rfl) (Wl.q rfl (Qy.assign rfl) (Wl.done (Ar.next (Wc.ret (Ar.pick [63, 1, 60, 61, 62, 69, 65] (by decide) (Ar.out2 (.inr rfl) rfl (.tmp rfl) (.tmp rfl) (Hp.sub_self 0 _) ?_))))))))))
           rw [s1] at hoa
           rw [s2] at hob
           rw [s3] at hoz
           refine ⟨u, nb1, nc1, nj1, x, y, z, (life0 p).a.length, oo, od, oj, o, d, j, rfl, hon1, hoa, hob, hoz, hoo, hot2, ?_, rfl⟩
           rw [s1, s2, s3]
           rfl
end Go.Proofs.YtbppmiimeccclaaDoor
set_option maxRecDepth 100000
set_option linter.unusedVariables false
namespace Go.Proofs.YtbppmiimeccclaaDoor
open Go Go.Sl
set_option maxHeartbeats 4000000
section
variable {P : Program} {B : Bs} {e : Env} {D : List Deferred} {H : Hp} {G : Imm}
theorem Qy.indexA {ty : TypeId} {T et : TypeId} {len i : Nat} {x y : Operand} {cs : List Value} {v : Value} (hT : P.underlying T = some (.array len et)) (h1 : P.plainKey et = true) (hs : (P.info? et).map (·.size) = some 1)
 (hx : e.ev x = some (.agg cs.toArray)) (hy : e.ev y = some (.int .i64 (i : Int))) (hi : i < len) (hv : cs[i]? = some v) : Qy P (.index T x y) ty e H G v := fun a w _ _ _ _ hh => by
 have hp : (part et cs.toArray i).run P w = .ok v w := by
  unfold Program.plainKey at h1
  cases hu : P.underlying et with
  | none => simp [hu] at h1
  | some d => cases d <;> simp [hu] at h1 <;> simp [part, isAgg, run_underlying hu, hv, Result.andThen]
 have hsz := Go.Sl.run_sizeOf (P := P) w hs
 have h2 : (0 : Int) ≤ (i : Int) ∧ (i : Int) < (len : Int) := by omega
 simp only [execOp, hh.eval hx, hh.eval hy, Instr.index, asIntOf, Sem.run_bind, Sem.run_pure, Result.andThen_ok, run_underlying hT]
 rw [if_pos h2]
 simp only [Sem.run_bind, hsz, Result.andThen_ok, Int.toNat_natCast, Nat.mul_one, hp, Sem.run_pure]
end
theorem und62 : Tryd.prog.underlying 102 = some (.array 2 3) := by kernel_rfl
theorem pk3 : Tryd.prog.plainKey 3 = true := by kernel_rfl
theorem size3 : (Tryd.prog.info? 3).map (·.size) = some 1 := by kernel_rfl
section
variable {P : Program} {B : Bs} {e : Env} {D : List Deferred} {H : Hp} {G : Imm}
theorem Wc.retag {r : Option Nat} {c : Code} {Q : Exit → Act → World → Prop} (t t' : Nat) {k : Option Nat} {o : Obj} (ht : H.get t = some (k, o)) (hn : Nat.beq t t' = false) (h : Wc r P c B ⟨e, D, (t', k, o) :: (t, none, o) :: H, G⟩ Q) : Wc r P c B ⟨e, D, H, G⟩ Q :=
 fun a w hh => h a w (retagH hh t t' ht (fun e => by subst e; simp at hn) (.inr trivial))
end
theorem needed_len9 (p : PV) : (neededP p).length = p.code.length := by unfold neededP; exact (needTo_len p _).2
def freesTo (l : Life) (k : Nat) (s : Pl) : Nat → Pl
 | 0 => s
 | 1 => freeAt l k s (l.a[((k : Nat) : Int).toNat]?.getD default)
 | _ => freeAt l k (freeAt l k s (l.a[((k : Nat) : Int).toNat]?.getD default)) (l.b[((k : Nat) : Int).toNat]?.getD default)
theorem sets_keep (p : PV) {k : Nat} : ∀ (j : Nat), k < j → j ≤ p.code.length → (lifeTo p j).sets[((k : Nat) : Int).toNat]?.getD default = (lifeTo p (k + 1)).sets[((k : Nat) : Int).toNat]?.getD default
 | 0, h, _ => absurd h (Nat.not_lt_zero _)
 | j + 1, h, hj => by
   by_cases hk : k = j
   · rw [hk]
   · rw [← sets_keep p j (by omega) (by omega)]
     show (if nAt p j = true then lifeStep (lifeTo p j) j (cAt p j) else lifeTo p j).sets[_]?.getD default = _
     split
     · show ((lifeTo p j).sets.set j _)[((k : Nat) : Int).toNat]?.getD default = _
       rw [List.getElem?_set, if_neg (by omega)]
     · rfl
theorem life_sets {p : PV} (hR : rightP p = true) {k : Nat} (hk : k < p.code.length) (hn : nAt p k = true) : (lifeP p).sets[((k : Nat) : Int).toNat]?.getD default = (lifeTo p k).till.length := by
 unfold lifeP
 rw [(outTo_same p _).2.2, sets_keep p p.code.length hk (Nat.le_refl _)]
 show (if nAt p k = true then lifeStep (lifeTo p k) k (cAt p k) else lifeTo p k).sets[_]?.getD default = _
 rw [if_pos hn]
 exact set_back_i (by rw [(lifeTo_ok hR k (by omega)).sl]; exact hk)
theorem map_take_next {l : List Int} {f : Int → Int} {k : Nat} (h : k < l.length) : (l.map f).take (k + 1) = (l.map f).take k ++ [f (l[((k : Nat) : Int).toNat]?.getD default)] := by
 rw [List.take_succ_eq_append_getElem (by rw [List.length_map]; exact h), Int.toNat_natCast, List.getElem?_eq_getElem h, List.getElem_map]; rfl
theorem lay_keys (l : Life) : ∀ (n : Nat) (v : Int), (n : Int) ≤ v → mget (layTo l n).at_ v = none
 | 0, v, _ => rfl
 | n + 1, v, h => by
   show mget (mput (layTo l n).at_ n _) v = none
   rw [mget_mput, if_neg (by omega), lay_keys l n v (by omega)]
theorem lay0_keys {p : PV} {s : Pl} (hs : s = lay0 p (lifeP p)) (h : 1 ≤ p.ins) (v : Int) (hv : (lifeTo p 0).till.length ≤ v) : mget s.at_ v = none := by
 have h1 : (lifeTo p 0).till.length = p.ins.toNat + 1 := List.length_replicate
 rw [h1] at hv
 rw [hs]
 unfold lay0
 split
 · show mget (mput (layTo (lifeP p) p.ins.toNat).at_ p.ins _) v = none
   rw [mget_mput, if_neg (by omega), lay_keys _ _ v (by omega)]
 · exact lay_keys _ _ v (by omega)
attribute [local irreducible] lifeP neededP rightP least
theorem c23R (G : Imm) (p : PV) (ac ao : Option Addr) (cc co : Nat) (hc : Arr G ac p.code) (ho : Arr G ao p.outs) (h1 : p.code.length ≤ 1099511627776) (h2 : p.outs.length ≤ 1099511627776) (hR : rightP p = true) :
 Does Tryd.prog 23 [.agg #[.int .i64 p.ins, .int .i64 p.regs, .slice ac p.code.length cc, .slice ao p.outs.length co]] G [] (fun v G' Ho =>
  ∃ bc bo dc do_ j1 j2, v = .tuple #[.agg #[.int .i64 (orderP p).ins, .int .i64 (orderP p).regs, .slice bc (orderP p).code.length dc, .slice bo (orderP p).outs.length do_], .int .i64 0] ∧
   OwnA bc dc (orderP p).code j1 ∧ OwnA bo do_ (orderP p).outs j2 ∧ Ho = [(0, bc.map (·.block), Row 55 (orderP p).code j1), (1, bo.map (·.block), Row 3 (orderP p).outs j2)] ∧ G' = G) := by
 obtain ⟨r1, r2, r3, r4, r5, r6, r7, r8⟩ := right_facts hR
 have hlok := lifeP_ok hR
 obtain ⟨k1, k2, k3, k4, k5, k6, k7, k8, k9, k10, k11⟩ := hlok
 refine Does.enter Tryd.func23 rfl Tryd.ntmps23 rfl (fun w => ?_)
 refine Wc.seq (Wc.region rfl ?_)
 refine Wl.box 0 rfl rfl rfl (fun b1 => ?_)
 refine Wl.alloc 1 rfl T.zero25 (fun b2 => ?_)
 refine Wl.q rfl (Qy.assign rfl) (Wl.done (Ar.next (Wc.seq (Wc.region rfl (Wl.q rfl (Qy.loadAll 0 T.agg25 rfl rfl rfl) ?_)))))
 refine Wl.call 2 rfl T.fn47 rfl (c47 _ _ _ _ _ _ (by assumption) (by assumption) (by omega) (by omega) hR) (tags_of trivial) (fun v1 G1 Ho1 hle1 hp => ?_)
 obtain ⟨lu1, lnb1, lnc1, lnj1, lx1, ly1, lz1, ln1, loo1, lod1, loj1, lo1, ld1, lj1, rfl, hln1, hlx1, hly1, hlz1, hlo1, hlt1, rfl, rfl⟩ := hp
 refine Wl.q rfl (Qy.move rfl) (Wl.q rfl (Qy.extract rfl rfl) (Wl.q rfl (Qy.extract rfl rfl) (Wl.q rfl (Qy.assign rfl) (Wl.q rfl (Qy.assign rfl) (Wl.done (Ar.next (Wc.seq (Wc.seq (Wc.region rfl (Wl.q rfl (Qy.move rfl) (Wl.q rfl (Qy.neq rfl rfl) (Wl.done (Ar.next ?_)))))))))))))
 refine Wc.condN rfl (by first | assumption | omega) ?_
 refine Wc.skip (Ar.next (Wc.seq (Wc.region rfl ?_)))
 refine Wl.makeMap (κ := Int) 9 rfl (fun b3 => ?_)
 refine Wl.q rfl (Qy.build (cs := [_, _]) T.st97 rfl rfl rfl) ?_
 refine Wl.box 10 rfl rfl rfl (fun b4 => ?_)
 refine Wl.q rfl (Qy.assign rfl) (Wl.done (Ar.next (Wc.seq (Wc.seq (Wc.region rfl (Wl.q rfl (Qy.fieldAddr T.fa25_0 rfl) (Wl.q rfl (Qy.load 0 T.one3 rfl rfl rfl) (Wl.q rfl (Qy.move rfl) (Wl.done (Ar.next (Wc.block (Wc.retag 9 11 rfl rfl ?_))))))))))))
 refine Wc.nilRow 12 (Row 4 ([] : List Bool) []) ?_
 refine Wc.loop (ι := Nat × Pl × (Option Addr × Nat × List Value)) (fun (v, s, (a, c, j)) => ([(30, .int .i64 (v : Int)), (29, Go.Value.int Go.IntKind.i64 (PV.ins p)), (6, Go.Value.pointer (Option.some (Go.Addr.mk b4 0 Option.none))), (4, Go.Value.pointer (Option.some (Go.Addr.mk lu1 0 Option.none))), (3, Go.Value.int Go.IntKind.i64 0), (2, Go.Value.pointer (Option.some (Go.Addr.mk b2 0 Option.none))), (1, Go.Value.pointer (Option.some (Go.Addr.mk b1 0 Option.none)))], [(10, some b4, .cells #[.map (some b3), .slice a s.free.length c] 97), (11, some b3, mapObj s.at_), (12, a.map (·.block), Row 4 s.free j), (2, Option.some lu1, Go.Obj.cells #[Go.Value.int Go.IntKind.i64 (PV.ins p), Go.Value.int Go.IntKind.i64 (PV.regs p), Go.Value.slice ac (List.length (PV.code p)) cc, Go.Value.slice ao (List.length (PV.outs p)) co, Go.Value.slice lnb1 (List.length (neededP p)) lnc1, Go.Value.slice (Option.some (Go.Addr.mk lx1 0 Option.none)) (List.length (Life.a (lifeP p))) ln1, Go.Value.slice (Option.some (Go.Addr.mk ly1 0 Option.none)) (List.length (Life.b (lifeP p))) ln1, Go.Value.slice (Option.some (Go.Addr.mk lz1 0 Option.none)) (List.length (Life.sets (lifeP p))) ln1, Go.Value.slice loo1 (List.length (Life.outs (lifeP p))) lod1, Go.Value.slice lo1 (List.length (Life.till (lifeP p))) ld1] 100), (3, Option.map (fun x => Go.Addr.block x) lnb1, Go.Sl.Row (α := Bool) 4 (neededP p) (lnj1)), (4, Option.some lx1, Go.Sl.Row (α := Int) 3 (Life.a (lifeP p)) ([])), (5, Option.some ly1, Go.Sl.Row (α := Int) 3 (Life.b (lifeP p)) ([])), (6, Option.some lz1, Go.Sl.Row (α := Int) 3 (Life.sets (lifeP p)) ([])), (7, Option.map (fun x => Go.Addr.block x) loo1, Go.Sl.Row (α := Int) 3 (Life.outs (lifeP p)) (loj1)), (8, Option.map (fun x => Go.Addr.block x) lo1, Go.Sl.Row (α := Int) 3 (Life.till (lifeP p)) (lj1)), (1, Option.some b2, Go.Obj.cells #[Go.Value.int Go.IntKind.i64 0, Go.Value.int Go.IntKind.i64 0, Go.Value.slice Option.none 0 0, Go.Value.slice Option.none 0 0] 25), (0, Option.some b1, Go.Obj.cells #[Go.Value.int Go.IntKind.i64 (PV.ins p), Go.Value.int Go.IntKind.i64 (PV.regs p), Go.Value.slice ac (List.length (PV.code p)) cc, Go.Value.slice ao (List.length (PV.outs p)) co] 25)])) (fun (v, s, (a, c, j)) => (v : Int) ≤ p.ins ∧ s = layTo (lifeP p) v ∧ OwnA a c s.free j) (fun (v, s, (a, c, j)) => p.ins.toNat - v) ((0, ⟨[], []⟩, (none, 0, []))) (⟨by show (0 : Int) ≤ _; omega, rfl, OwnA.nil⟩) ⟨rfl, rfl, rfl, rfl, rfl, rfl, rfl, trivial⟩ ⟨rfl, rfl, rfl, rfl, rfl, rfl, rfl, rfl, rfl, rfl, rfl, rfl, trivial⟩ (fun ⟨v, s, (a, c, j)⟩ => fun (hk : (v : Int) ≤ p.ins ∧ s = layTo (lifeP p) v ∧ OwnA a c s.free j) => ?_)
 obtain ⟨hv1, hs, hoa⟩ := hk
 have hsl : s.free.length = v := by rw [hs]; exact layTo_len _ v
 by_cases hvi : (v : Int) < p.ins
 · refine Wc.seq (Wc.region rfl (Wl.q rfl (Qy.lss rfl rfl) (Wl.done (Ar.next (Wc.seq (Wc.condP rfl (by first | assumption | omega) ?_))))))
   refine Wc.skip (Ar.next (Wc.seq (Wc.block (Wc.seq (Wc.region rfl (Wl.q rfl (Qy.move rfl) (Wl.q rfl (Qy.assign rfl) (Wl.done (Ar.next (Wc.region rfl (Wl.q rfl (Qy.move rfl) (Wl.q rfl (Qy.move rfl) (Wl.q rfl (Qy.move rfl) (Wl.q rfl (Qy.nilCheck rfl) (Wl.q rfl (Qy.fieldAddr T.fa100_6 rfl) ?_)))))))))))))))
   refine Wl.q rfl (Qy.load 2 T.one23 rfl rfl rfl) (Wl.q rfl (Qy.move rfl) (Wl.q rfl (Qy.indexAddrO (α := Int) T.sl23 rfl rfl (by assumption) (by omega)) ?_))
   refine Wl.q rfl (Qy.loadO 8 0 T.one3 rfl rfl (by assumption) (by omega) rfl rfl) ?_
   refine Wl.call 10 rfl T.fn48 rfl (c48 _ s _ _ _ _ _ _ _ hoa (by omega)) (tags_of ⟨rfl, rfl, rfl, trivial⟩) (fun v2 G2 Ho2 hle2 hp => ?_)
   obtain ⟨pa2, pc2, pj2, rfl, hpo2, rfl, rfl⟩ := hp
   refine Wl.done ?_
   refine Ar.outNormal ?_
   refine Ar.next (Wc.region rfl (Wl.q rfl (Qy.add rfl rfl (by omega)) ?_))
   refine Wl.q rfl (Qy.move rfl) (Wl.done ?_)
   refine Ar.again ((v + 1, layP s v ((lifeP p).till[((v : Nat) : Int).toNat]?.getD default), (pa2, pc2, pj2))) ?_ ?_ rfl ⟨rfl, rfl, rfl, rfl, rfl, rfl, rfl, trivial⟩ ⟨rfl, rfl, rfl, rfl, rfl, rfl, rfl, rfl, rfl, rfl, rfl, rfl, trivial⟩
   · exact ⟨by omega, by rw [hs]; rfl, hpo2⟩
   · show p.ins.toNat - (v + 1) < p.ins.toNat - v
     omega
 · have hve : v = p.ins.toNat := by omega
   refine Wc.seq (Wc.region rfl (Wl.q rfl (Qy.lss rfl rfl) (Wl.done (Ar.next (Wc.seq (Wc.condN rfl (by first | assumption | omega) ?_))))))
   refine Wc.exit (Ar.passExit ?_)
   refine Ar.passExit ?_
   refine Ar.here ?_
   refine Ar.next ?_
   refine Wc.meet (ι := Pl × (Option Addr × Nat × List Value)) (fun (s0, (a0, c0, j0)) => ([(6, Go.Value.pointer (Option.some (Go.Addr.mk b4 0 Option.none))), (4, Go.Value.pointer (Option.some (Go.Addr.mk lu1 0 Option.none))), (3, Go.Value.int Go.IntKind.i64 0), (2, Go.Value.pointer (Option.some (Go.Addr.mk b2 0 Option.none))), (1, Go.Value.pointer (Option.some (Go.Addr.mk b1 0 Option.none)))], [(10, some b4, .cells #[.map (some b3), .slice a0 s0.free.length c0] 97), (11, some b3, mapObj s0.at_), (12, a0.map (·.block), Row 4 s0.free j0), (2, Option.some lu1, Go.Obj.cells #[Go.Value.int Go.IntKind.i64 (PV.ins p), Go.Value.int Go.IntKind.i64 (PV.regs p), Go.Value.slice ac (List.length (PV.code p)) cc, Go.Value.slice ao (List.length (PV.outs p)) co, Go.Value.slice lnb1 (List.length (neededP p)) lnc1, Go.Value.slice (Option.some (Go.Addr.mk lx1 0 Option.none)) (List.length (Life.a (lifeP p))) ln1, Go.Value.slice (Option.some (Go.Addr.mk ly1 0 Option.none)) (List.length (Life.b (lifeP p))) ln1, Go.Value.slice (Option.some (Go.Addr.mk lz1 0 Option.none)) (List.length (Life.sets (lifeP p))) ln1, Go.Value.slice loo1 (List.length (Life.outs (lifeP p))) lod1, Go.Value.slice lo1 (List.length (Life.till (lifeP p))) ld1] 100), (3, Option.map (fun x => Go.Addr.block x) lnb1, Go.Sl.Row (α := Bool) 4 (neededP p) (lnj1)), (4, Option.some lx1, Go.Sl.Row (α := Int) 3 (Life.a (lifeP p)) ([])), (5, Option.some ly1, Go.Sl.Row (α := Int) 3 (Life.b (lifeP p)) ([])), (6, Option.some lz1, Go.Sl.Row (α := Int) 3 (Life.sets (lifeP p)) ([])), (7, Option.map (fun x => Go.Addr.block x) loo1, Go.Sl.Row (α := Int) 3 (Life.outs (lifeP p)) (loj1)), (8, Option.map (fun x => Go.Addr.block x) lo1, Go.Sl.Row (α := Int) 3 (Life.till (lifeP p)) (lj1)), (1, Option.some b2, Go.Obj.cells #[Go.Value.int Go.IntKind.i64 0, Go.Value.int Go.IntKind.i64 0, Go.Value.slice Option.none 0 0, Go.Value.slice Option.none 0 0] 25), (0, Option.some b1, Go.Obj.cells #[Go.Value.int Go.IntKind.i64 (PV.ins p), Go.Value.int Go.IntKind.i64 (PV.regs p), Go.Value.slice ac (List.length (PV.code p)) cc, Go.Value.slice ao (List.length (PV.outs p)) co] 25)])) (fun (s0, (a0, c0, j0)) => s0 = lay0 p (lifeP p) ∧ OwnA a0 c0 s0.free j0) ?_ (fun ⟨s0, (a0, c0, j0)⟩ => fun (hk : s0 = lay0 p (lifeP p) ∧ OwnA a0 c0 s0.free j0) => ?_)
   · refine Wc.seq (Wc.draw [0, 1, 8, 7, 6, 5, 4, 3, 2, 12, 11, 10] [] T.mixed rfl ?_)
     refine Gm.q 0 [] (by kernel_rfl) rfl rfl (Qy.move rfl) (Gm.q 1 [] (by kernel_rfl) rfl rfl (Qy.nilCheck rfl) ?_)
     refine Gm.q 2 [] (by kernel_rfl) rfl rfl (Qy.fieldAddr T.fa100_6 rfl) (Gm.q 3 [2] (by kernel_rfl) rfl rfl (Qy.load 2 T.one23 rfl rfl rfl) (Gm.q 4 [] (by kernel_rfl) rfl rfl (Qy.fieldAddr T.fa25_0 rfl) (Gm.q 5 [0] (by kernel_rfl) rfl rfl (Qy.load 0 T.one3 rfl rfl rfl) ?_)))
     refine Gm.q 6 [] (by kernel_rfl) rfl rfl (Qy.indexAddrO (α := Int) T.sl23 rfl rfl (by assumption) (by omega)) ?_
     refine Gm.q 7 [0, 8] (by kernel_rfl) rfl rfl (Qy.loadO 8 0 T.one3 rfl rfl (by assumption) (by omega) rfl rfl) ?_
     refine Gm.q 8 [] (by kernel_rfl) rfl rfl (Qy.geq rfl rfl) ?_
     refine Gm.doneA (by kernel_rfl) ⟨rfl, rfl, rfl, rfl, rfl, rfl, rfl, rfl, rfl, rfl, rfl, rfl, trivial⟩ (by first | exact Imm.le_refl _ | assumption) ?_
     refine Ar.next ?_
     refine Wc.cond rfl (fun hc1 => ?_) (fun hc1 => ?_)
     refine Wc.draw [0, 1, 8, 7, 6, 5, 4, 3, 2, 12, 11, 10] [(12, 11), (11, 11), (10, 11)] T.mixed rfl ?_
     refine Gm.q 0 [] (by kernel_rfl) rfl rfl (Qy.move rfl) (Gm.q 1 [] (by kernel_rfl) rfl rfl (Qy.fieldAddr T.fa25_0 rfl) (Gm.q 2 [0] (by kernel_rfl) rfl rfl (Qy.load 0 T.one3 rfl rfl rfl) (Gm.q 3 [] (by kernel_rfl) rfl rfl (Qy.move rfl) (Gm.q 4 [] (by kernel_rfl) rfl rfl (Qy.nilCheck rfl) ?_))))
     refine Gm.q 5 [] (by kernel_rfl) rfl rfl (Qy.fieldAddr T.fa100_6 rfl) (Gm.q 6 [2] (by kernel_rfl) rfl rfl (Qy.load 2 T.one23 rfl rfl rfl) (Gm.q 7 [] (by kernel_rfl) rfl rfl (Qy.fieldAddr T.fa25_0 rfl) (Gm.q 8 [0] (by kernel_rfl) rfl rfl (Qy.load 0 T.one3 rfl rfl rfl) ?_)))
     refine Gm.q 9 [] (by kernel_rfl) rfl rfl (Qy.indexAddrO (α := Int) T.sl23 rfl rfl (by assumption) (by omega)) ?_
     refine Gm.q 10 [0, 8] (by kernel_rfl) rfl rfl (Qy.loadO 8 0 T.one3 rfl rfl (by assumption) (by omega) rfl rfl) ?_
     refine Gm.one 11 ⟨rfl, rfl, rfl, rfl, rfl, rfl, rfl, rfl, rfl, rfl, rfl, rfl, trivial⟩ (by first | exact Imm.le_refl _ | assumption) (by kernel_rfl) rfl ?_
     refine Wl.call 10 rfl T.fn48 rfl (c48 _ s _ _ _ _ _ _ _ hoa (by omega)) (tags_of ⟨rfl, rfl, rfl, trivial⟩) (fun v2 G2 Ho2 hle2 hp => ?_)
     obtain ⟨pa2, pc2, pj2, rfl, hpo2, rfl, rfl⟩ := hp
     refine Wl.on0 ?_
     refine Gm.doneA (by kernel_rfl) ⟨rfl, rfl, rfl, rfl, rfl, rfl, rfl, rfl, rfl, trivial⟩ (by first | exact Imm.le_refl _ | assumption) ?_
     rotate_left
     refine Wc.skip ?_
     rotate_left
     · refine Ar.meet ((layP s p.ins ((lifeP p).till[p.ins.toNat]?.getD default), (pa2, pc2, pj2))) ?_ rfl ⟨rfl, rfl, rfl, rfl, rfl, trivial⟩ ⟨rfl, rfl, rfl, rfl, rfl, rfl, rfl, rfl, rfl, rfl, rfl, rfl, trivial⟩
       exact ⟨by rw [hs, hve]; exact (if_pos (by omega)).symm, hpo2⟩
     · refine Ar.meet ((s, (a, c, j))) ?_ rfl ⟨rfl, rfl, rfl, rfl, rfl, trivial⟩ ⟨rfl, rfl, rfl, rfl, rfl, rfl, rfl, rfl, rfl, rfl, rfl, rfl, trivial⟩
       exact ⟨by rw [hs, hve]; exact (if_neg (by omega)).symm, hoa⟩
   · obtain ⟨hs0, hoa0⟩ := hk
     have hl0 := lay0_ok r1 (lifeP p)
     rw [← hs0] at hl0
     obtain ⟨hp0, hf1, hf2⟩ := hl0
     refine Wc.seq (Wc.draw [0, 1, 8, 7, 6, 5, 4, 3, 2, 12, 11, 10] [] T.mixed rfl ?_)
     refine Gm.q 0 [] (by kernel_rfl) rfl rfl (Qy.fieldAddr T.fa25_0 rfl) (Gm.q 1 [0] (by kernel_rfl) rfl rfl (Qy.load 0 T.one3 rfl rfl rfl) (Gm.q 2 [] (by kernel_rfl) rfl rfl (Qy.fieldAddr T.fa25_0 rfl) (Gm.q 3 [0] (by kernel_rfl) rfl rfl (Qy.load 0 T.one3 rfl rfl rfl) ?_)))
     refine Gm.q 4 [] (by kernel_rfl) rfl rfl (Qy.move rfl) (Gm.q 5 [] (by kernel_rfl) rfl rfl (Qy.nilCheck rfl) ?_)
     refine Gm.q 6 [] (by kernel_rfl) rfl rfl (Qy.fieldAddr T.fa97_1 rfl) (Gm.q 7 [10] (by kernel_rfl) rfl rfl (Qy.load 10 T.one95 rfl rfl rfl) (Gm.q 8 [] (by kernel_rfl) rfl rfl (Qy.len T.sl95 rfl) (Gm.q 9 [] (by kernel_rfl) rfl rfl (Qy.max rfl rfl) ?_)))
     refine Gm.q 10 [] (by kernel_rfl) rfl rfl (Qy.build (cs := [_, _, _, _]) T.st25 rfl rfl rfl) ?_
     refine Gm.one 11 ⟨rfl, rfl, rfl, rfl, rfl, rfl, rfl, rfl, rfl, rfl, rfl, rfl, trivial⟩ (by first | exact Imm.le_refl _ | assumption) (by kernel_rfl) rfl ?_
     refine Wl.alloc 13 rfl T.zero25 (fun b5 => ?_)
     refine Wl.on0 ?_
     refine Gm.one 12 ⟨rfl, rfl, rfl, rfl, rfl, rfl, rfl, rfl, rfl, rfl, rfl, rfl, trivial⟩ (by first | exact Imm.le_refl _ | assumption) (by kernel_rfl) rfl ?_
     refine Wl.storeAll 13 T.size25 rfl rfl rfl rfl rfl rfl ?_
     refine Wl.on0 ?_
     refine Gm.doneA (by kernel_rfl) ⟨rfl, rfl, rfl, rfl, rfl, rfl, rfl, rfl, rfl, rfl, rfl, rfl, trivial⟩ (by first | exact Imm.le_refl _ | assumption) ?_
     refine Ar.next (Wc.seq (Wc.seq (Wc.region rfl (Wl.q rfl (Qy.fieldAddr T.fa25_2 rfl) (Wl.q rfl (Qy.load 0 T.one22 rfl rfl rfl) (Wl.q rfl (Qy.len T.sl22 rfl) (Wl.q rfl (Qy.move rfl) (Wl.done (Ar.next (Wc.block ?_))))))))))
     refine Wc.reH 13 (.cells #[.int .i64 p.ins, .int .i64 (pkTo p 0).regs, .slice none 0 0, .slice none 0 0] 25) rfl (by rw [show (pkTo p 0).regs = (if p.ins < (s0.free.length : Int) then (s0.free.length : Int) else p.ins) from by show max p.ins ((lay0 p (lifeP p)).free.length : Int) = _; rw [← hs0]; split <;> omega]) ?_
     refine Wc.nilRow 14 (Row 55 ([] : List Sl.Instr) []) ?_
     refine Wc.loop (ι := Nat × PkS × (Option Addr × Nat × List Value) × (Option Addr × Nat × List Value)) (fun (k, x, (oa, oc, oj), (a, c, j)) => ([(79, .int .i64 (k : Int)), (78, Go.Value.int Go.IntKind.i64 (↑(List.length (PV.code p)) : Int)), (77, Go.Value.slice ac (List.length (PV.code p)) cc), (8, Go.Value.pointer (Option.some (Go.Addr.mk b5 0 Option.none))), (6, Go.Value.pointer (Option.some (Go.Addr.mk b4 0 Option.none))), (4, Go.Value.pointer (Option.some (Go.Addr.mk lu1 0 Option.none))), (3, Go.Value.int Go.IntKind.i64 0), (2, Go.Value.pointer (Option.some (Go.Addr.mk b2 0 Option.none)))], [(10, some b4, .cells #[.map (some b3), .slice a x.s.free.length c] 97), (11, some b3, mapObj x.s.at_), (12, a.map (·.block), Row 4 x.s.free j), (13, some b5, .cells #[.int .i64 p.ins, .int .i64 x.regs, .slice oa x.code.length oc, .slice none 0 0] 25), (14, oa.map (·.block), Row 55 x.code oj), (2, Option.some lu1, Go.Obj.cells #[Go.Value.int Go.IntKind.i64 (PV.ins p), Go.Value.int Go.IntKind.i64 (PV.regs p), Go.Value.slice ac (List.length (PV.code p)) cc, Go.Value.slice ao (List.length (PV.outs p)) co, Go.Value.slice lnb1 (List.length (neededP p)) lnc1, Go.Value.slice (Option.some (Go.Addr.mk lx1 0 Option.none)) (List.length (Life.a (lifeP p))) ln1, Go.Value.slice (Option.some (Go.Addr.mk ly1 0 Option.none)) (List.length (Life.b (lifeP p))) ln1, Go.Value.slice (Option.some (Go.Addr.mk lz1 0 Option.none)) (List.length (Life.sets (lifeP p))) ln1, Go.Value.slice loo1 (List.length (Life.outs (lifeP p))) lod1, Go.Value.slice lo1 (List.length (Life.till (lifeP p))) ld1] 100), (3, Option.map (fun x => Go.Addr.block x) lnb1, Go.Sl.Row (α := Bool) 4 (neededP p) (lnj1)), (4, Option.some lx1, Go.Sl.Row (α := Int) 3 (Life.a (lifeP p)) ([])), (5, Option.some ly1, Go.Sl.Row (α := Int) 3 (Life.b (lifeP p)) ([])), (6, Option.some lz1, Go.Sl.Row (α := Int) 3 (Life.sets (lifeP p)) ([])), (7, Option.map (fun x => Go.Addr.block x) loo1, Go.Sl.Row (α := Int) 3 (Life.outs (lifeP p)) (loj1)), (8, Option.map (fun x => Go.Addr.block x) lo1, Go.Sl.Row (α := Int) 3 (Life.till (lifeP p)) (lj1)), (1, Option.some b2, Go.Obj.cells #[Go.Value.int Go.IntKind.i64 0, Go.Value.int Go.IntKind.i64 0, Go.Value.slice Option.none 0 0, Go.Value.slice Option.none 0 0] 25), (0, Option.some b1, Go.Obj.cells #[Go.Value.int Go.IntKind.i64 (PV.ins p), Go.Value.int Go.IntKind.i64 (PV.regs p), Go.Value.slice ac (List.length (PV.code p)) cc, Go.Value.slice ao (List.length (PV.outs p)) co] 25)])) (fun (k, x, (oa, oc, oj), (a, c, j)) => k ≤ p.code.length ∧ x = pkTo p k ∧ OwnA oa oc x.code oj ∧ OwnA a c x.s.free j ∧ (∀ v : Int, (lifeTo p k).till.length ≤ v → mget x.s.at_ v = none)) (fun (k, x, (oa, oc, oj), (a, c, j)) => p.code.length - k) ((0, ⟨s0, (pkTo p 0).regs, []⟩, (none, 0, []), (a0, c0, j0))) (⟨Nat.zero_le _, by rw [hs0]; rfl, OwnA.nil, hoa0, lay0_keys hs0 r1⟩) ⟨rfl, rfl, rfl, rfl, rfl, rfl, rfl, rfl, trivial⟩ ⟨rfl, rfl, rfl, rfl, rfl, rfl, rfl, rfl, rfl, rfl, rfl, rfl, rfl, rfl, trivial⟩ (fun ⟨k, x, (oa, oc, oj), (a, c, j)⟩ => fun (hk : k ≤ p.code.length ∧ x = pkTo p k ∧ OwnA oa oc x.code oj ∧ OwnA a c x.s.free j ∧ (∀ v : Int, (lifeTo p k).till.length ≤ v → mget x.s.at_ v = none)) => ?_)
     obtain ⟨hkc0, hx, hoc, hof, hkeys⟩ := hk
     have hxo := pkTo_ok r1 k
     have hxl := pkTo_len r1 k
     rw [← hx] at hxo hxl
     obtain ⟨hxl1, hxl2⟩ := hxl
     rcases Nat.lt_or_ge k p.code.length with hkc | hkc
     · have hm := code_may hR hkc
       unfold cAt at hm
       have hnl : (neededP p).length = p.code.length := needed_len9 p
       have hvA := k8 _ (get_mem (r := ((k : Nat) : Int)) (l := (lifeP p).a) (by omega))
       have hvB := k9 _ (get_mem (r := ((k : Nat) : Int)) (l := (lifeP p).b) (by omega))
       refine Wc.seq (Wc.region rfl (Wl.q rfl (Qy.lss rfl rfl) (Wl.done (Ar.next (Wc.seq (Wc.condP rfl (by first | assumption | omega) ?_))))))
       refine Wc.skip (Ar.next (Wc.seq (Wc.block (Wc.seq (Wc.region rfl (Wl.q rfl (Qy.move rfl) (Wl.q rfl (Qy.at (α := Sl.Instr) T.sl22 rfl rfl (by assumption) (by omega)) ?_)))))))
       refine Wl.q rfl (Qy.loadsG T.agg55 rfl (Arr.elem (by assumption) (by omega)) rfl) ?_
       refine Wl.alloc 15 rfl T.zero55 (fun b6 => ?_)
       refine Wl.q rfl (Qy.assign rfl) ?_
       refine Wl.storeAll 15 T.size55 rfl rfl rfl rfl rfl rfl ?_
       refine Wl.done (Ar.next (Wc.seq (Wc.seq (Wc.region rfl (Wl.q rfl (Qy.move rfl) (Wl.q rfl (Qy.nilCheck rfl) (Wl.q rfl (Qy.fieldAddr T.fa100_1 rfl) (Wl.q rfl (Qy.load 2 T.one95 rfl rfl rfl) (Wl.q rfl (Qy.move rfl) (Wl.q rfl (Qy.indexAddrO (α := Bool) T.sl95 rfl rfl (by assumption) (by omega)) ?_))))))))))
       refine Wl.q rfl (Qy.loadO 3 0 T.one4 rfl rfl (by assumption) (by omega) rfl rfl) ?_
       refine Wl.q rfl (Qy.not rfl) (Wl.done (Ar.next (Wc.ite rfl (fun hc1 => ?_) (fun hc1 => ?_))))
       refine Wc.exit (Ar.passExit ?_)
       refine Ar.here ?_
       refine Ar.next (Wc.region rfl (Wl.q rfl (Qy.add rfl rfl (by omega)) ?_))
       refine Wl.q rfl (Qy.move rfl) (Wl.done ?_)
       rotate_left
       refine Wc.skip (Ar.next (Wc.seq (Wc.region rfl (Wl.q rfl (Qy.loadAll 15 T.agg55 rfl rfl rfl) ?_))))
       refine Wl.call 16 rfl T.fn49 rfl (c49 _ _) (tags_of trivial) (fun v2 G2 Ho2 hle2 hp => ?_)
       obtain ⟨ad2, cd2, junk2, rfl, hoa2, rfl, rfl⟩ := hp
       refine Wl.q rfl (Qy.len T.sl23 rfl) (Wl.q rfl (Qy.gtr rfl rfl) (Wl.q rfl (Qy.assign rfl) (Wl.done (Ar.next (Wc.seq (Wc.draw [0, 1, 8, 7, 6, 5, 4, 3, 2, 14, 13, 12, 11, 10, 15, 17] [(15, 13)] T.mixed rfl ?_))))))
       refine Gm.q 0 [] (by kernel_rfl) rfl rfl (Qy.move rfl) (Gm.q 1 [] (by kernel_rfl) rfl rfl (Qy.nilCheck rfl) ?_)
       refine Gm.q 2 [] (by kernel_rfl) rfl rfl (Qy.fieldAddr T.fa97_0 rfl) (Gm.q 3 [10] (by kernel_rfl) rfl rfl (Qy.load 10 T.one94 rfl rfl rfl) (Gm.q 4 [] (by kernel_rfl) rfl rfl (Qy.move rfl) (Gm.q 5 [] (by kernel_rfl) rfl rfl (Qy.nilCheck rfl) ?_)))
       refine Gm.q 6 [] (by kernel_rfl) rfl rfl (Qy.fieldAddr T.fa100_2 rfl) (Gm.q 7 [2] (by kernel_rfl) rfl rfl (Qy.load 2 T.one23 rfl rfl rfl) (Gm.q 8 [] (by kernel_rfl) rfl rfl (Qy.move rfl) (Gm.q 9 [] (by kernel_rfl) rfl rfl (Qy.indexAddrO (α := Int) T.sl23 rfl rfl (by assumption) (by omega)) ?_)))
       refine Gm.q 10 [0, 4] (by kernel_rfl) rfl rfl (Qy.loadO 4 0 T.one3 rfl rfl (by assumption) (by omega) rfl rfl) ?_
       refine Gm.q 11 [11] (by kernel_rfl) rfl rfl (Qy.lookup1 11 T.mp94 rfl rfl rfl) ?_
       refine Gm.q 12 [] (by kernel_rfl) rfl rfl (Qy.fieldAddr T.fa55_2 rfl) (Gm.one 13 ⟨rfl, rfl, rfl, rfl, rfl, rfl, rfl, rfl, rfl, rfl, rfl, rfl, rfl, rfl, rfl, rfl, trivial⟩ (by first | exact Imm.le_refl _ | assumption) (by kernel_rfl) rfl ?_)
       refine Wl.store 15 T.one3 rfl rfl rfl rfl rfl ?_
       refine Wl.on0 ?_
       refine Gm.doneA (by kernel_rfl) ⟨rfl, rfl, rfl, rfl, rfl, rfl, rfl, rfl, rfl, rfl, rfl, rfl, rfl, rfl, rfl, trivial⟩ (by first | exact Imm.le_refl _ | assumption) ?_
       refine Ar.next ?_
       rotate_left
       · have hn : ¬ nAt p k = true := by unfold nAt; simpa using hc1
         refine Ar.again ((k + 1, x, (oa, oc, oj), (a, c, j))) ?_ ?_ rfl ⟨rfl, rfl, rfl, rfl, rfl, rfl, rfl, rfl, trivial⟩ ⟨rfl, rfl, rfl, rfl, rfl, rfl, rfl, rfl, rfl, rfl, rfl, rfl, rfl, rfl, trivial⟩
         · refine ⟨hkc, by rw [hx]; exact (if_neg hn).symm, hoc, hof, fun v hv => hkeys v ?_⟩
           have e : lifeTo p (k + 1) = lifeTo p k := if_neg hn
           rw [e] at hv; exact hv
         · show p.code.length - (k + 1) < p.code.length - k
           omega
       · have hn : nAt p k = true := by unfold nAt; simpa using hc1
         refine Wc.meet (ι := Int) (fun v => ([(4, .pointer (some ⟨lu1, 0, none⟩)), (77, .slice ac p.code.length cc), (78, .int .i64 (p.code.length : Int)), (79, .int .i64 (k : Int)), (9, Go.Value.int Go.IntKind.i64 (↑k : Int)), (10, Go.Value.pointer (Option.some (Go.Addr.mk b6 0 Option.none))), (8, Go.Value.pointer (Option.some (Go.Addr.mk b5 0 Option.none))), (6, Go.Value.pointer (Option.some (Go.Addr.mk b4 0 Option.none))), (3, Go.Value.int Go.IntKind.i64 0), (2, Go.Value.pointer (Option.some (Go.Addr.mk b2 0 Option.none)))], [(15, some b6, .cells #[.int .i64 (p.code[((k : Nat) : Int).toNat]?.getD default).op, .int .i64 (p.code[((k : Nat) : Int).toNat]?.getD default).to, .int .i64 (stand x.s ((lifeP p).a[((k : Nat) : Int).toNat]?.getD default)), .int .i64 v, .int .i64 (p.code[((k : Nat) : Int).toNat]?.getD default).c] 55), (17, Option.map (fun x => Go.Addr.block x) ad2, Go.Sl.Row (α := Int) 3 (asks (Option.getD (PV.code p)[Int.toNat (↑k : Int)]? Inhabited.default)) (junk2)), (10, Option.some b4, Go.Obj.cells #[Go.Value.map (Option.some b3), Go.Value.slice a (List.length (Pl.free (PkS.s x))) c] 97), (11, Option.some b3, Go.Sl.mapObj (κ := Int) (Pl.at_ (PkS.s x))), (12, Option.map (fun x => Go.Addr.block x) a, Go.Sl.Row (α := Bool) 4 (Pl.free (PkS.s x)) (j)), (13, Option.some b5, Go.Obj.cells #[Go.Value.int Go.IntKind.i64 (PV.ins p), Go.Value.int Go.IntKind.i64 (PkS.regs x), Go.Value.slice oa (List.length (PkS.code x)) oc, Go.Value.slice Option.none 0 0] 25), (14, Option.map (fun x => Go.Addr.block x) oa, Go.Sl.Row (α := Go.Sl.Instr) 55 (PkS.code x) (oj)), (2, Option.some lu1, Go.Obj.cells #[Go.Value.int Go.IntKind.i64 (PV.ins p), Go.Value.int Go.IntKind.i64 (PV.regs p), Go.Value.slice ac (List.length (PV.code p)) cc, Go.Value.slice ao (List.length (PV.outs p)) co, Go.Value.slice lnb1 (List.length (neededP p)) lnc1, Go.Value.slice (Option.some (Go.Addr.mk lx1 0 Option.none)) (List.length (Life.a (lifeP p))) ln1, Go.Value.slice (Option.some (Go.Addr.mk ly1 0 Option.none)) (List.length (Life.b (lifeP p))) ln1, Go.Value.slice (Option.some (Go.Addr.mk lz1 0 Option.none)) (List.length (Life.sets (lifeP p))) ln1, Go.Value.slice loo1 (List.length (Life.outs (lifeP p))) lod1, Go.Value.slice lo1 (List.length (Life.till (lifeP p))) ld1] 100), (3, Option.map (fun x => Go.Addr.block x) lnb1, Go.Sl.Row (α := Bool) 4 (neededP p) (lnj1)), (4, Option.some lx1, Go.Sl.Row (α := Int) 3 (Life.a (lifeP p)) ([])), (5, Option.some ly1, Go.Sl.Row (α := Int) 3 (Life.b (lifeP p)) ([])), (6, Option.some lz1, Go.Sl.Row (α := Int) 3 (Life.sets (lifeP p)) ([])), (7, Option.map (fun x => Go.Addr.block x) loo1, Go.Sl.Row (α := Int) 3 (Life.outs (lifeP p)) (loj1)), (8, Option.map (fun x => Go.Addr.block x) lo1, Go.Sl.Row (α := Int) 3 (Life.till (lifeP p)) (lj1)), (1, Option.some b2, Go.Obj.cells #[Go.Value.int Go.IntKind.i64 0, Go.Value.int Go.IntKind.i64 0, Go.Value.slice Option.none 0 0, Go.Value.slice Option.none 0 0] 25), (0, Option.some b1, Go.Obj.cells #[Go.Value.int Go.IntKind.i64 (PV.ins p), Go.Value.int Go.IntKind.i64 (PV.regs p), Go.Value.slice ac (List.length (PV.code p)) cc, Go.Value.slice ao (List.length (PV.outs p)) co] 25)])) (fun v => v = if 1 < (asks (p.code[((k : Nat) : Int).toNat]?.getD default)).length then stand x.s ((lifeP p).b[((k : Nat) : Int).toNat]?.getD default) else (p.code[((k : Nat) : Int).toNat]?.getD default).b) ?_ (fun v => fun (hk : v = if 1 < (asks (p.code[((k : Nat) : Int).toNat]?.getD default)).length then stand x.s ((lifeP p).b[((k : Nat) : Int).toNat]?.getD default) else (p.code[((k : Nat) : Int).toNat]?.getD default).b) => ?_)
         · refine Wc.seq (Wc.region rfl (Wl.q rfl (Qy.move rfl) (Wl.done (Ar.next ?_))))
           refine Wc.cond rfl (fun hc2 => ?_) (fun hc2 => ?_)
           refine Wc.draw [0, 1, 8, 7, 6, 5, 4, 3, 2, 14, 13, 12, 11, 10, 17, 15] [(15, 13)] T.mixed rfl ?_
           refine Gm.q 0 [] (by kernel_rfl) rfl rfl (Qy.move rfl) (Gm.q 1 [] (by kernel_rfl) rfl rfl (Qy.nilCheck rfl) ?_)
           refine Gm.q 2 [] (by kernel_rfl) rfl rfl (Qy.fieldAddr T.fa97_0 rfl) (Gm.q 3 [10] (by kernel_rfl) rfl rfl (Qy.load 10 T.one94 rfl rfl rfl) (Gm.q 4 [] (by kernel_rfl) rfl rfl (Qy.move rfl) (Gm.q 5 [] (by kernel_rfl) rfl rfl (Qy.nilCheck rfl) ?_)))
           refine Gm.q 6 [] (by kernel_rfl) rfl rfl (Qy.fieldAddr T.fa100_3 rfl) (Gm.q 7 [2] (by kernel_rfl) rfl rfl (Qy.load 2 T.one23 rfl rfl rfl) (Gm.q 8 [] (by kernel_rfl) rfl rfl (Qy.move rfl) (Gm.q 9 [] (by kernel_rfl) rfl rfl (Qy.indexAddrO (α := Int) T.sl23 rfl rfl (by assumption) (by omega)) ?_)))
           refine Gm.q 10 [0, 5] (by kernel_rfl) rfl rfl (Qy.loadO 5 0 T.one3 rfl rfl (by assumption) (by omega) rfl rfl) ?_
           refine Gm.q 11 [11] (by kernel_rfl) rfl rfl (Qy.lookup1 11 T.mp94 rfl rfl rfl) ?_
           refine Gm.q 12 [] (by kernel_rfl) rfl rfl (Qy.fieldAddr T.fa55_3 rfl) (Gm.one 13 ⟨rfl, rfl, rfl, rfl, rfl, rfl, rfl, rfl, rfl, rfl, rfl, rfl, rfl, rfl, rfl, rfl, trivial⟩ (by first | exact Imm.le_refl _ | assumption) (by kernel_rfl) rfl ?_)
           refine Wl.store 15 T.one3 rfl rfl rfl rfl rfl ?_
           refine Wl.on0 ?_
           refine Gm.doneA (by kernel_rfl) ⟨rfl, rfl, rfl, rfl, rfl, rfl, rfl, rfl, rfl, rfl, rfl, rfl, rfl, rfl, rfl, trivial⟩ (by first | exact Imm.le_refl _ | assumption) ?_
           rotate_left
           refine Wc.skip ?_
           rotate_left
           · refine Ar.meet (stand x.s ((lifeP p).b[((k : Nat) : Int).toNat]?.getD default)) ?_ rfl ⟨rfl, rfl, rfl, rfl, rfl, rfl, rfl, rfl, rfl, rfl, trivial⟩ ⟨rfl, rfl, rfl, rfl, rfl, rfl, rfl, rfl, rfl, rfl, rfl, rfl, rfl, rfl, rfl, rfl, trivial⟩
             exact (if_pos (by omega)).symm
           · refine Ar.meet ((p.code[((k : Nat) : Int).toNat]?.getD default).b) ?_ rfl ⟨rfl, rfl, rfl, rfl, rfl, rfl, rfl, rfl, rfl, rfl, trivial⟩ ⟨rfl, rfl, rfl, rfl, rfl, rfl, rfl, rfl, rfl, rfl, rfl, rfl, rfl, rfl, rfl, rfl, trivial⟩
             exact (if_neg (by omega)).symm
         · have hv9 := hk
           refine Wc.seq (Wc.seq (Wc.draw [0, 1, 8, 7, 6, 5, 4, 3, 2, 14, 13, 12, 11, 10, 17, 15] [] T.mixed rfl ?_))
           refine Gm.q 0 [] (by kernel_rfl) rfl rfl (Qy.move rfl) (Gm.q 1 [] (by kernel_rfl) rfl rfl (Qy.nilCheck rfl) ?_)
           refine Gm.q 2 [] (by kernel_rfl) rfl rfl (Qy.fieldAddr T.fa100_2 rfl) (Gm.q 3 [2] (by kernel_rfl) rfl rfl (Qy.load 2 T.one23 rfl rfl rfl) (Gm.q 4 [] (by kernel_rfl) rfl rfl (Qy.move rfl) (Gm.q 5 [] (by kernel_rfl) rfl rfl (Qy.indexAddrO (α := Int) T.sl23 rfl rfl (by assumption) (by omega)) ?_)))
           refine Gm.q 6 [0, 4] (by kernel_rfl) rfl rfl (Qy.loadO 4 0 T.one3 rfl rfl (by assumption) (by omega) rfl rfl) ?_
           refine Gm.q 7 [] (by kernel_rfl) rfl rfl (Qy.move rfl) (Gm.q 8 [] (by kernel_rfl) rfl rfl (Qy.nilCheck rfl) ?_)
           refine Gm.q 9 [] (by kernel_rfl) rfl rfl (Qy.fieldAddr T.fa100_3 rfl) (Gm.q 10 [2] (by kernel_rfl) rfl rfl (Qy.load 2 T.one23 rfl rfl rfl) (Gm.q 11 [] (by kernel_rfl) rfl rfl (Qy.move rfl) (Gm.q 12 [] (by kernel_rfl) rfl rfl (Qy.indexAddrO (α := Int) T.sl23 rfl rfl (by assumption) (by omega)) ?_)))
           refine Gm.q 13 [0, 5] (by kernel_rfl) rfl rfl (Qy.loadO 5 0 T.one3 rfl rfl (by assumption) (by omega) rfl rfl) ?_
           refine Gm.q 14 [] (by kernel_rfl) rfl rfl (Qy.buildA (cs := [_, _]) T.ar102 rfl rfl rfl) ?_
           refine Gm.q 15 [] (by kernel_rfl) rfl rfl (Qy.move rfl) (Gm.doneA (by kernel_rfl) ⟨rfl, rfl, rfl, rfl, rfl, rfl, rfl, rfl, rfl, rfl, rfl, rfl, rfl, rfl, rfl, rfl, trivial⟩ (by first | exact Imm.le_refl _ | assumption) ?_)
           refine Ar.next (Wc.block ?_)
           refine Wc.loop (ι := Nat × Pl) (fun (m, s1) => ([(138, .int .i64 (m : Int)), (77, .slice ac p.code.length cc), (78, .int .i64 (p.code.length : Int)), (79, .int .i64 (k : Int)), (137, Go.Value.agg #[Go.Value.int Go.IntKind.i64 (Option.getD (Life.a (lifeP p))[Int.toNat (↑k : Int)]? Inhabited.default), Go.Value.int Go.IntKind.i64 (Option.getD (Life.b (lifeP p))[Int.toNat (↑k : Int)]? Inhabited.default)]), (4, Go.Value.pointer (Option.some (Go.Addr.mk lu1 0 Option.none))), (9, Go.Value.int Go.IntKind.i64 (↑k : Int)), (10, Go.Value.pointer (Option.some (Go.Addr.mk b6 0 Option.none))), (8, Go.Value.pointer (Option.some (Go.Addr.mk b5 0 Option.none))), (6, Go.Value.pointer (Option.some (Go.Addr.mk b4 0 Option.none))), (3, Go.Value.int Go.IntKind.i64 0), (2, Go.Value.pointer (Option.some (Go.Addr.mk b2 0 Option.none)))], [(10, some b4, .cells #[.map (some b3), .slice a s1.free.length c] 97), (11, some b3, mapObj s1.at_), (12, a.map (·.block), Row 4 s1.free j), (15, Option.some b6, Go.Obj.cells #[Go.Value.int Go.IntKind.i64 (Go.Sl.Instr.op (Option.getD (PV.code p)[Int.toNat (↑k : Int)]? Inhabited.default)), Go.Value.int Go.IntKind.i64 (Go.Sl.Instr.to (Option.getD (PV.code p)[Int.toNat (↑k : Int)]? Inhabited.default)), Go.Value.int Go.IntKind.i64 (stand (PkS.s x) (Option.getD (Life.a (lifeP p))[Int.toNat (↑k : Int)]? Inhabited.default)), Go.Value.int Go.IntKind.i64 v, Go.Value.int Go.IntKind.i64 (Go.Sl.Instr.c (Option.getD (PV.code p)[Int.toNat (↑k : Int)]? Inhabited.default))] 55), (17, Option.map (fun x => Go.Addr.block x) ad2, Go.Sl.Row (α := Int) 3 (asks (Option.getD (PV.code p)[Int.toNat (↑k : Int)]? Inhabited.default)) (junk2)), (13, Option.some b5, Go.Obj.cells #[Go.Value.int Go.IntKind.i64 (PV.ins p), Go.Value.int Go.IntKind.i64 (PkS.regs x), Go.Value.slice oa (List.length (PkS.code x)) oc, Go.Value.slice Option.none 0 0] 25), (14, Option.map (fun x => Go.Addr.block x) oa, Go.Sl.Row (α := Go.Sl.Instr) 55 (PkS.code x) (oj)), (2, Option.some lu1, Go.Obj.cells #[Go.Value.int Go.IntKind.i64 (PV.ins p), Go.Value.int Go.IntKind.i64 (PV.regs p), Go.Value.slice ac (List.length (PV.code p)) cc, Go.Value.slice ao (List.length (PV.outs p)) co, Go.Value.slice lnb1 (List.length (neededP p)) lnc1, Go.Value.slice (Option.some (Go.Addr.mk lx1 0 Option.none)) (List.length (Life.a (lifeP p))) ln1, Go.Value.slice (Option.some (Go.Addr.mk ly1 0 Option.none)) (List.length (Life.b (lifeP p))) ln1, Go.Value.slice (Option.some (Go.Addr.mk lz1 0 Option.none)) (List.length (Life.sets (lifeP p))) ln1, Go.Value.slice loo1 (List.length (Life.outs (lifeP p))) lod1, Go.Value.slice lo1 (List.length (Life.till (lifeP p))) ld1] 100), (3, Option.map (fun x => Go.Addr.block x) lnb1, Go.Sl.Row (α := Bool) 4 (neededP p) (lnj1)), (4, Option.some lx1, Go.Sl.Row (α := Int) 3 (Life.a (lifeP p)) ([])), (5, Option.some ly1, Go.Sl.Row (α := Int) 3 (Life.b (lifeP p)) ([])), (6, Option.some lz1, Go.Sl.Row (α := Int) 3 (Life.sets (lifeP p)) ([])), (7, Option.map (fun x => Go.Addr.block x) loo1, Go.Sl.Row (α := Int) 3 (Life.outs (lifeP p)) (loj1)), (8, Option.map (fun x => Go.Addr.block x) lo1, Go.Sl.Row (α := Int) 3 (Life.till (lifeP p)) (lj1)), (1, Option.some b2, Go.Obj.cells #[Go.Value.int Go.IntKind.i64 0, Go.Value.int Go.IntKind.i64 0, Go.Value.slice Option.none 0 0, Go.Value.slice Option.none 0 0] 25), (0, Option.some b1, Go.Obj.cells #[Go.Value.int Go.IntKind.i64 (PV.ins p), Go.Value.int Go.IntKind.i64 (PV.regs p), Go.Value.slice ac (List.length (PV.code p)) cc, Go.Value.slice ao (List.length (PV.outs p)) co] 25)])) (fun (m, s1) => m ≤ 2 ∧ s1 = freesTo (lifeP p) k x.s m ∧ OwnA a c s1.free j) (fun (m, s1) => 2 - m) ((0, x.s)) (⟨Nat.zero_le _, rfl, hof⟩) ⟨rfl, rfl, rfl, rfl, rfl, rfl, rfl, rfl, rfl, rfl, rfl, rfl, trivial⟩ ⟨rfl, rfl, rfl, rfl, rfl, rfl, rfl, rfl, rfl, rfl, rfl, rfl, rfl, rfl, rfl, rfl, trivial⟩ (fun ⟨m, s1⟩ => fun (hk : m ≤ 2 ∧ s1 = freesTo (lifeP p) k x.s m ∧ OwnA a c s1.free j) => ?_)
           obtain ⟨hm2, hs1, hof1⟩ := hk
           by_cases hm0 : m = 0
           · subst hm0
             have hs1 : s1 = x.s := hs1
             subst hs1
             have hst := hxo.ab ((lifeP p).a[((k : Nat) : Int).toNat]?.getD default)
             unfold stand at hst
             refine Wc.seq (Wc.region rfl (Wl.q rfl (Qy.lss rfl rfl) (Wl.done (Ar.next (Wc.seq (Wc.condP rfl (by first | assumption | omega) ?_))))))
             refine Wc.skip (Ar.next (Wc.seq (Wc.block (Wc.seq (Wc.region rfl (Wl.q rfl (Qy.indexA (i := 0) und62 pk3 size3 rfl rfl (by decide) rfl) ?_))))))
             refine Wl.q rfl (Qy.assign rfl) (Wl.done (Ar.next (Wc.seq (Wc.region rfl (Wl.q rfl (Qy.move rfl) (Wl.q rfl (Qy.nilCheck rfl) (Wl.q rfl (Qy.fieldAddr T.fa100_6 rfl) (Wl.q rfl (Qy.load 2 T.one23 rfl rfl rfl) (Wl.q rfl (Qy.move rfl) (Wl.q rfl (Qy.indexAddrO (α := Int) T.sl23 rfl rfl (by assumption) (by omega)) ?_))))))))))
             refine Wl.q rfl (Qy.loadO 8 0 T.one3 rfl rfl (by assumption) (by omega) rfl rfl) ?_
             refine Wl.q rfl (Qy.move rfl) (Wl.q rfl (Qy.eql rfl rfl) (Wl.done (Ar.next ?_)))
             refine Wc.cond rfl (fun hc2 => ?_) (fun hc2 => ?_)
             refine Wc.draw [0, 1, 8, 7, 6, 5, 4, 3, 2, 14, 13, 17, 15, 12, 11, 10] [(10, 11), (12, 11), (15, 11), (17, 11), (13, 11), (14, 11), (2, 11), (3, 11), (4, 11), (5, 11), (6, 11), (7, 11), (8, 11), (1, 11), (0, 11)] T.mixed rfl ?_
             refine Gm.q 0 [] (by kernel_rfl) rfl rfl (Qy.move rfl) (Gm.q 1 [] (by kernel_rfl) rfl rfl (Qy.nilCheck rfl) ?_)
             refine Gm.q 2 [] (by kernel_rfl) rfl rfl (Qy.fieldAddr T.fa97_1 rfl) (Gm.q 3 [10] (by kernel_rfl) rfl rfl (Qy.load 10 T.one95 rfl rfl rfl) (Gm.q 4 [] (by kernel_rfl) rfl rfl (Qy.move rfl) (Gm.q 5 [] (by kernel_rfl) rfl rfl (Qy.nilCheck rfl) ?_)))
             refine Gm.q 6 [] (by kernel_rfl) rfl rfl (Qy.fieldAddr T.fa97_0 rfl) (Gm.q 7 [10] (by kernel_rfl) rfl rfl (Qy.load 10 T.one94 rfl rfl rfl) (Gm.q 8 [] (by kernel_rfl) rfl rfl (Qy.move rfl) (Gm.q 9 [11] (by kernel_rfl) rfl rfl (Qy.lookup1 11 T.mp94 rfl rfl rfl) ?_)))
             refine Gm.q 10 [] (by kernel_rfl) rfl rfl (Qy.indexAddrO (α := Bool) T.sl95 rfl rfl (by assumption) (by omega)) ?_
             refine Gm.one 11 ⟨rfl, rfl, rfl, rfl, rfl, rfl, rfl, rfl, rfl, rfl, rfl, rfl, rfl, rfl, rfl, rfl, trivial⟩ (by first | exact Imm.le_refl _ | assumption) (by kernel_rfl) rfl ?_
             refine Wl.setO (z := _) 12 T.size4 rfl rfl rfl (by assumption) (by omega) rfl (fun ho1 => ?_)
             refine Wl.on0 ?_
             refine Gm.doneA (by kernel_rfl) ⟨rfl, trivial⟩ (by first | exact Imm.le_refl _ | assumption) ?_
             refine Ar.outNormal ?_
             refine Ar.next (Wc.region rfl (Wl.q rfl (Qy.add rfl rfl (by omega)) ?_))
             refine Wl.q rfl (Qy.move rfl) (Wl.done ?_)
             rotate_left
             refine Wc.skip ?_
             refine Ar.outNormal ?_
             refine Ar.next (Wc.region rfl (Wl.q rfl (Qy.add rfl rfl (by omega)) ?_))
             refine Wl.q rfl (Qy.move rfl) (Wl.done ?_)
             rotate_left
             · refine Ar.reH 10 (.cells #[.map (some b3), .slice a (x.s.free.set ((mget x.s.at_ ((lifeP p).a[((k : Nat) : Int).toNat]?.getD default)).getD 0).toNat true).length c] 97) rfl (by rw [List.length_set]) ?_
               refine Ar.again ((0 + 1, ⟨x.s.at_, x.s.free.set ((mget x.s.at_ ((lifeP p).a[((k : Nat) : Int).toNat]?.getD default)).getD 0).toNat true⟩)) ?_ ?_ rfl ⟨rfl, rfl, rfl, rfl, rfl, rfl, rfl, rfl, rfl, rfl, rfl, rfl, trivial⟩ ⟨rfl, rfl, rfl, rfl, rfl, rfl, rfl, rfl, rfl, rfl, rfl, rfl, rfl, rfl, rfl, rfl, trivial⟩
               · refine ⟨by omega, ?_, by assumption⟩
                 exact (if_pos (by assumption)).symm
               · exact Nat.lt_succ_self 1
             · refine Ar.again ((0 + 1, x.s)) ?_ ?_ rfl ⟨rfl, rfl, rfl, rfl, rfl, rfl, rfl, rfl, rfl, rfl, rfl, rfl, trivial⟩ ⟨rfl, rfl, rfl, rfl, rfl, rfl, rfl, rfl, rfl, rfl, rfl, rfl, rfl, rfl, rfl, rfl, trivial⟩
               · refine ⟨by omega, ?_, hof1⟩
                 exact (if_neg (by assumption)).symm
               · exact Nat.lt_succ_self 1
           · by_cases hm1 : m = 1
             · subst hm1
               have hs1 : s1 = freeAt (lifeP p) k x.s ((lifeP p).a[((k : Nat) : Int).toNat]?.getD default) := hs1
               have hst := (freeAt_ok (l := lifeP p) (k := k) (v := ((lifeP p).a[((k : Nat) : Int).toNat]?.getD default)) hxo).ab ((lifeP p).b[((k : Nat) : Int).toNat]?.getD default)
               rw [← hs1] at hst
               unfold stand at hst
               refine Wc.seq (Wc.region rfl (Wl.q rfl (Qy.lss rfl rfl) (Wl.done (Ar.next (Wc.seq (Wc.condP rfl (by first | assumption | omega) ?_))))))
               refine Wc.skip (Ar.next (Wc.seq (Wc.block (Wc.seq (Wc.region rfl (Wl.q rfl (Qy.indexA (i := 1) und62 pk3 size3 rfl rfl (by decide) rfl) ?_))))))
               refine Wl.q rfl (Qy.assign rfl) (Wl.done (Ar.next (Wc.seq (Wc.region rfl (Wl.q rfl (Qy.move rfl) (Wl.q rfl (Qy.nilCheck rfl) (Wl.q rfl (Qy.fieldAddr T.fa100_6 rfl) (Wl.q rfl (Qy.load 2 T.one23 rfl rfl rfl) (Wl.q rfl (Qy.move rfl) (Wl.q rfl (Qy.indexAddrO (α := Int) T.sl23 rfl rfl (by assumption) (by omega)) ?_))))))))))
               refine Wl.q rfl (Qy.loadO 8 0 T.one3 rfl rfl (by assumption) (by omega) rfl rfl) ?_
               refine Wl.q rfl (Qy.move rfl) (Wl.q rfl (Qy.eql rfl rfl) (Wl.done (Ar.next ?_)))
               refine Wc.cond rfl (fun hc2 => ?_) (fun hc2 => ?_)
               refine Wc.draw [0, 1, 8, 7, 6, 5, 4, 3, 2, 14, 13, 17, 15, 12, 11, 10] [(10, 11), (12, 11), (15, 11), (17, 11), (13, 11), (14, 11), (2, 11), (3, 11), (4, 11), (5, 11), (6, 11), (7, 11), (8, 11), (1, 11), (0, 11)] T.mixed rfl ?_
               refine Gm.q 0 [] (by kernel_rfl) rfl rfl (Qy.move rfl) (Gm.q 1 [] (by kernel_rfl) rfl rfl (Qy.nilCheck rfl) ?_)
               refine Gm.q 2 [] (by kernel_rfl) rfl rfl (Qy.fieldAddr T.fa97_1 rfl) (Gm.q 3 [10] (by kernel_rfl) rfl rfl (Qy.load 10 T.one95 rfl rfl rfl) (Gm.q 4 [] (by kernel_rfl) rfl rfl (Qy.move rfl) (Gm.q 5 [] (by kernel_rfl) rfl rfl (Qy.nilCheck rfl) ?_)))
               refine Gm.q 6 [] (by kernel_rfl) rfl rfl (Qy.fieldAddr T.fa97_0 rfl) (Gm.q 7 [10] (by kernel_rfl) rfl rfl (Qy.load 10 T.one94 rfl rfl rfl) (Gm.q 8 [] (by kernel_rfl) rfl rfl (Qy.move rfl) (Gm.q 9 [11] (by kernel_rfl) rfl rfl (Qy.lookup1 11 T.mp94 rfl rfl rfl) ?_)))
               refine Gm.q 10 [] (by kernel_rfl) rfl rfl (Qy.indexAddrO (α := Bool) T.sl95 rfl rfl (by assumption) (by omega)) ?_
               refine Gm.one 11 ⟨rfl, rfl, rfl, rfl, rfl, rfl, rfl, rfl, rfl, rfl, rfl, rfl, rfl, rfl, rfl, rfl, trivial⟩ (by first | exact Imm.le_refl _ | assumption) (by kernel_rfl) rfl ?_
               refine Wl.setO (z := _) 12 T.size4 rfl rfl rfl (by assumption) (by omega) rfl (fun ho1 => ?_)
               refine Wl.on0 ?_
               refine Gm.doneA (by kernel_rfl) ⟨rfl, trivial⟩ (by first | exact Imm.le_refl _ | assumption) ?_
               refine Ar.outNormal ?_
               refine Ar.next (Wc.region rfl (Wl.q rfl (Qy.add rfl rfl (by omega)) ?_))
               refine Wl.q rfl (Qy.move rfl) (Wl.done ?_)
               rotate_left
               refine Wc.skip ?_
               refine Ar.outNormal ?_
               refine Ar.next (Wc.region rfl (Wl.q rfl (Qy.add rfl rfl (by omega)) ?_))
               refine Wl.q rfl (Qy.move rfl) (Wl.done ?_)
               rotate_left
               · refine Ar.reH 10 (.cells #[.map (some b3), .slice a (s1.free.set ((mget s1.at_ ((lifeP p).b[((k : Nat) : Int).toNat]?.getD default)).getD 0).toNat true).length c] 97) rfl (by rw [List.length_set]) ?_
                 refine Ar.again ((1 + 1, ⟨s1.at_, s1.free.set ((mget s1.at_ ((lifeP p).b[((k : Nat) : Int).toNat]?.getD default)).getD 0).toNat true⟩)) ?_ ?_ rfl ⟨rfl, rfl, rfl, rfl, rfl, rfl, rfl, rfl, rfl, rfl, rfl, rfl, trivial⟩ ⟨rfl, rfl, rfl, rfl, rfl, rfl, rfl, rfl, rfl, rfl, rfl, rfl, rfl, rfl, rfl, rfl, trivial⟩
                 · refine ⟨by omega, ?_, by assumption⟩
                   show _ = freeAt (lifeP p) k (freeAt (lifeP p) k x.s ((lifeP p).a[((k : Nat) : Int).toNat]?.getD default)) ((lifeP p).b[((k : Nat) : Int).toNat]?.getD default)
                   rw [← hs1]
                   exact (if_pos (by assumption)).symm
                 · exact Nat.lt_succ_self 0
               · refine Ar.again ((1 + 1, s1)) ?_ ?_ rfl ⟨rfl, rfl, rfl, rfl, rfl, rfl, rfl, rfl, rfl, rfl, rfl, rfl, trivial⟩ ⟨rfl, rfl, rfl, rfl, rfl, rfl, rfl, rfl, rfl, rfl, rfl, rfl, rfl, rfl, rfl, rfl, trivial⟩
                 · refine ⟨by omega, ?_, hof1⟩
                   show _ = freeAt (lifeP p) k (freeAt (lifeP p) k x.s ((lifeP p).a[((k : Nat) : Int).toNat]?.getD default)) ((lifeP p).b[((k : Nat) : Int).toNat]?.getD default)
                   rw [← hs1]
                   exact (if_neg (by assumption)).symm
                 · exact Nat.lt_succ_self 0
             · have hm3 : m = 2 := by omega
               subst hm3
               have hs1 : s1 = freeAt (lifeP p) k (freeAt (lifeP p) k x.s ((lifeP p).a[((k : Nat) : Int).toNat]?.getD default)) ((lifeP p).b[((k : Nat) : Int).toNat]?.getD default) := hs1
               have hs1l : s1.free.length = x.s.free.length := by rw [hs1, freeAt_len, freeAt_len]
               have hsets : (lifeP p).sets[((k : Nat) : Int).toNat]?.getD default = (lifeTo p k).till.length := life_sets hR hkc hn
               have hm9 : mget s1.at_ ((lifeP p).sets[((k : Nat) : Int).toNat]?.getD default) = none := by
                rw [hs1, freeAt_at, freeAt_at, hsets]; exact hkeys _ (Int.le_refl _)
               have hle := least_le s1.free
               refine Wc.seq (Wc.region rfl (Wl.q rfl (Qy.lss rfl rfl) (Wl.done (Ar.next (Wc.seq (Wc.condN rfl (by first | assumption | omega) ?_))))))
               refine Wc.exit (Ar.passExit ?_)
               refine Ar.passExit ?_
               refine Ar.here ?_
               refine Ar.next (Wc.seq (Wc.region rfl (Wl.q rfl (Qy.move rfl) (Wl.q rfl (Qy.move rfl) (Wl.q rfl (Qy.nilCheck rfl) (Wl.q rfl (Qy.fieldAddr T.fa100_4 rfl) (Wl.q rfl (Qy.load 2 T.one23 rfl rfl rfl) (Wl.q rfl (Qy.move rfl) (Wl.q rfl (Qy.indexAddrO (α := Int) T.sl23 rfl rfl (by assumption) (by omega)) ?_)))))))))
               refine Wl.q rfl (Qy.loadO 6 0 T.one3 rfl rfl (by assumption) (by omega) rfl rfl) ?_
               refine Wl.call 10 rfl T.fn50 rfl (c50 _ s1 _ _ _ _ _ _ hof1 (by omega) hm9) (tags_of ⟨rfl, rfl, rfl, trivial⟩) (fun v3 G3 Ho3 hle3 hp => ?_)
               obtain ⟨pa3, pc3, pj3, rfl, hpo3, rfl, rfl⟩ := hp
               refine Wl.q rfl (Qy.fieldAddr T.fa55_1 rfl) ?_
               refine Wl.store 15 T.one3 rfl rfl rfl rfl rfl ?_
               refine Wl.done (Ar.next (Wc.seq (Wc.region rfl (Wl.q rfl (Qy.fieldAddr T.fa25_2 rfl) (Wl.q rfl (Qy.load 13 T.one22 rfl rfl rfl) (Wl.q rfl (Qy.loadAll 15 T.agg55 rfl rfl rfl) ?_))))))
               refine Wl.lit (α := Sl.Instr) 18 [⟨Go.Sl.Instr.op (Option.getD (PV.code p)[Int.toNat (↑k : Int)]? Inhabited.default), (↑(least (Pl.free s1)) : Int), stand (PkS.s x) (Option.getD (Life.a (lifeP p))[Int.toNat (↑k : Int)]? Inhabited.default), v, Go.Sl.Instr.c (Option.getD (PV.code p)[Int.toNat (↑k : Int)]? Inhabited.default)⟩] rfl T.sl22 T.el55 rfl rfl rfl rfl rfl (fun b7 => ?_)
               refine Wl.append (α := Sl.Instr) 14 rfl T.sl22 T.el55 rfl rfl rfl (by first | assumption | exact OwnA.nil | exact OwnA.made (by simp)) (Src.row 18 rfl) (by first | omega | (simp only [List.length_append, List.length_cons, List.length_nil, maxLen]; omega)) (by first | omega | (simp only [List.length_append, List.length_cons, List.length_nil, maxLen]; omega)) (fun a1 c1 junk1 ho1 => ?_)
               refine Wl.q rfl (Qy.fieldAddr T.fa25_2 rfl) ?_
               refine Wl.store 13 T.one22 rfl rfl rfl rfl rfl ?_
               refine Wl.done (Ar.next (Wc.region rfl (Wl.q rfl (Qy.fieldAddr T.fa25_1 rfl) (Wl.q rfl (Qy.load 13 T.one3 rfl rfl rfl) (Wl.q rfl (Qy.fieldAddr T.fa55_1 rfl) (Wl.q rfl (Qy.load 15 T.one3 rfl rfl rfl) (Wl.q rfl (Qy.add rfl rfl (by omega)) ?_)))))))
               refine Wl.q rfl (Qy.max rfl rfl) ?_
               refine Wl.q rfl (Qy.fieldAddr T.fa25_1 rfl) ?_
               refine Wl.store 13 T.one3 rfl rfl rfl rfl rfl ?_
               refine Wl.done ?_
               refine Ar.outNormal ?_
               refine Ar.next (Wc.region rfl (Wl.q rfl (Qy.add rfl rfl (by omega)) ?_))
               refine Wl.q rfl (Qy.move rfl) (Wl.done ?_)
               have hst9 : pkStep (lifeP p) x k (p.code[((k : Nat) : Int).toNat]?.getD default) = ⟨giveP s1 ((lifeP p).sets[((k : Nat) : Int).toNat]?.getD default), max x.regs ((least s1.free : Int) + 1), x.code ++ [⟨(p.code[((k : Nat) : Int).toNat]?.getD default).op, (least s1.free : Int), stand x.s ((lifeP p).a[((k : Nat) : Int).toNat]?.getD default), v, (p.code[((k : Nat) : Int).toNat]?.getD default).c⟩]⟩ := by
                unfold pkStep; simp only; rw [← hs1, ← hv9]
               refine Ar.reH 13 (.cells #[.int .i64 p.ins, .int .i64 (max x.regs ((least s1.free : Int) + 1)), .slice a1 (x.code ++ [(⟨(p.code[((k : Nat) : Int).toNat]?.getD default).op, (least s1.free : Int), stand x.s ((lifeP p).a[((k : Nat) : Int).toNat]?.getD default), v, (p.code[((k : Nat) : Int).toNat]?.getD default).c⟩ : Sl.Instr)]).length c1, .slice none 0 0] 25) rfl (by rw [show max x.regs ((least s1.free : Int) + 1) = (if x.regs < (least s1.free : Int) + 1 then (least s1.free : Int) + 1 else x.regs) from by split <;> omega]; rfl) ?_
               refine Ar.again ((k + 1, ⟨giveP s1 ((lifeP p).sets[((k : Nat) : Int).toNat]?.getD default), max x.regs ((least s1.free : Int) + 1), x.code ++ [⟨(p.code[((k : Nat) : Int).toNat]?.getD default).op, (least s1.free : Int), stand x.s ((lifeP p).a[((k : Nat) : Int).toNat]?.getD default), v, (p.code[((k : Nat) : Int).toNat]?.getD default).c⟩]⟩, (a1, c1, junk1), (pa3, pc3, pj3))) ?_ ?_ rfl ⟨rfl, rfl, rfl, rfl, rfl, rfl, rfl, rfl, trivial⟩ ⟨rfl, rfl, rfl, rfl, rfl, rfl, rfl, rfl, rfl, rfl, rfl, rfl, rfl, rfl, trivial⟩
               · refine ⟨hkc, ?_, by assumption, hpo3, fun w hw => ?_⟩
                 · show _ = (if nAt p k = true then pkStep (lifeP p) (pkTo p k) k (cAt p k) else pkTo p k)
                   rw [if_pos hn, ← hx]; exact hst9.symm
                 · have e : (lifeTo p (k + 1)).till.length = (lifeTo p k).till.length + 1 := by
                    show (if nAt p k = true then lifeStep (lifeTo p k) k (cAt p k) else lifeTo p k).till.length = _
                    rw [if_pos hn]; exact step_till_len _ _ _
                   rw [e] at hw
                   show mget (mput s1.at_ ((lifeP p).sets[((k : Nat) : Int).toNat]?.getD default) _) w = none
                   rw [mget_mput, if_neg (by rw [hsets]; omega), hs1, freeAt_at, freeAt_at]
                   exact hkeys w (by omega)
               · show p.code.length - (k + 1) < p.code.length - k
                 omega
     · have hke : k = p.code.length := Nat.le_antisymm hkc0 hkc
       subst hke
       have hlo := lifeP_outs p
       refine Wc.seq (Wc.region rfl (Wl.q rfl (Qy.lss rfl rfl) (Wl.done (Ar.next (Wc.seq (Wc.condN rfl (by first | assumption | omega) ?_))))))
       refine Wc.exit (Ar.passExit ?_)
       refine Ar.passExit ?_
       refine Ar.here ?_
       refine Ar.next (Wc.seq (Wc.seq (Wc.region rfl (Wl.q rfl (Qy.move rfl) (Wl.q rfl (Qy.nilCheck rfl) (Wl.q rfl (Qy.fieldAddr T.fa100_5 rfl) (Wl.q rfl (Qy.load 2 T.one23 rfl rfl rfl) (Wl.q rfl (Qy.len T.sl23 rfl) (Wl.q rfl (Qy.move rfl) (Wl.done (Ar.next (Wc.block ?_))))))))))))
       refine Wc.nilRow 20 (Row 3 ([] : List Int) []) ?_
       refine Wc.loop (ι := Nat × List Int × (Option Addr × Nat × List Value)) (fun (q, ol, (oo, od, ok)) => ([(191, .int .i64 (q : Int)), (190, Go.Value.int Go.IntKind.i64 (↑(List.length (Life.outs (lifeP p))) : Int)), (189, Go.Value.slice loo1 (List.length (Life.outs (lifeP p))) lod1), (8, Go.Value.pointer (Option.some (Go.Addr.mk b5 0 Option.none))), (6, Go.Value.pointer (Option.some (Go.Addr.mk b4 0 Option.none))), (3, Go.Value.int Go.IntKind.i64 0), (2, Go.Value.pointer (Option.some (Go.Addr.mk b2 0 Option.none)))], [(13, some b5, .cells #[.int .i64 p.ins, .int .i64 x.regs, .slice oa x.code.length oc, .slice oo ol.length od] 25), (20, oo.map (·.block), Row 3 ol ok), (10, Option.some b4, Go.Obj.cells #[Go.Value.map (Option.some b3), Go.Value.slice a (List.length (Pl.free (PkS.s x))) c] 97), (11, Option.some b3, Go.Sl.mapObj (κ := Int) (Pl.at_ (PkS.s x))), (12, Option.map (fun x => Go.Addr.block x) a, Go.Sl.Row (α := Bool) 4 (Pl.free (PkS.s x)) (j)), (14, Option.map (fun x => Go.Addr.block x) oa, Go.Sl.Row (α := Go.Sl.Instr) 55 (PkS.code x) (oj)), (2, Option.some lu1, Go.Obj.cells #[Go.Value.int Go.IntKind.i64 (PV.ins p), Go.Value.int Go.IntKind.i64 (PV.regs p), Go.Value.slice ac (List.length (PV.code p)) cc, Go.Value.slice ao (List.length (PV.outs p)) co, Go.Value.slice lnb1 (List.length (neededP p)) lnc1, Go.Value.slice (Option.some (Go.Addr.mk lx1 0 Option.none)) (List.length (Life.a (lifeP p))) ln1, Go.Value.slice (Option.some (Go.Addr.mk ly1 0 Option.none)) (List.length (Life.b (lifeP p))) ln1, Go.Value.slice (Option.some (Go.Addr.mk lz1 0 Option.none)) (List.length (Life.sets (lifeP p))) ln1, Go.Value.slice loo1 (List.length (Life.outs (lifeP p))) lod1, Go.Value.slice lo1 (List.length (Life.till (lifeP p))) ld1] 100), (3, Option.map (fun x => Go.Addr.block x) lnb1, Go.Sl.Row (α := Bool) 4 (neededP p) (lnj1)), (4, Option.some lx1, Go.Sl.Row (α := Int) 3 (Life.a (lifeP p)) ([])), (5, Option.some ly1, Go.Sl.Row (α := Int) 3 (Life.b (lifeP p)) ([])), (6, Option.some lz1, Go.Sl.Row (α := Int) 3 (Life.sets (lifeP p)) ([])), (7, Option.map (fun x => Go.Addr.block x) loo1, Go.Sl.Row (α := Int) 3 (Life.outs (lifeP p)) (loj1)), (8, Option.map (fun x => Go.Addr.block x) lo1, Go.Sl.Row (α := Int) 3 (Life.till (lifeP p)) (lj1)), (1, Option.some b2, Go.Obj.cells #[Go.Value.int Go.IntKind.i64 0, Go.Value.int Go.IntKind.i64 0, Go.Value.slice Option.none 0 0, Go.Value.slice Option.none 0 0] 25), (0, Option.some b1, Go.Obj.cells #[Go.Value.int Go.IntKind.i64 (PV.ins p), Go.Value.int Go.IntKind.i64 (PV.regs p), Go.Value.slice ac (List.length (PV.code p)) cc, Go.Value.slice ao (List.length (PV.outs p)) co] 25)])) (fun (q, ol, (oo, od, ok)) => q ≤ p.outs.length ∧ ol = ((lifeP p).outs.map (stand x.s)).take q ∧ OwnA oo od ol ok) (fun (q, ol, (oo, od, ok)) => p.outs.length - q) ((0, [], (none, 0, []))) (⟨Nat.zero_le _, by rw [List.take_zero], OwnA.nil⟩) ⟨rfl, rfl, rfl, rfl, rfl, rfl, rfl, trivial⟩ ⟨rfl, rfl, rfl, rfl, rfl, rfl, rfl, rfl, rfl, rfl, rfl, rfl, rfl, rfl, rfl, trivial⟩ (fun ⟨q, ol, (oo, od, ok)⟩ => fun (hk : q ≤ p.outs.length ∧ ol = ((lifeP p).outs.map (stand x.s)).take q ∧ OwnA oo od ol ok) => ?_)
       obtain ⟨hq1, hol, hoo⟩ := hk
       have hoq : ol.length = q := by rw [hol, List.length_take, List.length_map]; omega
       rcases Nat.lt_or_ge q p.outs.length with hqc | hqc
       · refine Wc.seq (Wc.region rfl (Wl.q rfl (Qy.lss rfl rfl) (Wl.done (Ar.next (Wc.seq (Wc.condP rfl (by first | assumption | omega) ?_))))))
         refine Wc.skip (Ar.next (Wc.seq (Wc.block (Wc.seq (Wc.region rfl (Wl.q rfl (Qy.indexAddrO (α := Int) T.sl23 rfl rfl (by assumption) (by omega)) ?_))))))
         refine Wl.q rfl (Qy.loadO 7 0 T.one3 rfl rfl (by assumption) (by omega) rfl rfl) ?_
         refine Wl.q rfl (Qy.assign rfl) (Wl.done (Ar.next (Wc.draw [0, 1, 8, 7, 6, 5, 4, 3, 2, 14, 12, 11, 10, 20, 13] [(13, 11), (20, 9), (12, 9), (14, 9), (3, 9), (4, 9), (5, 9), (6, 9), (7, 9), (8, 9)] T.mixed rfl ?_)))
         refine Gm.q 0 [] (by kernel_rfl) rfl rfl (Qy.fieldAddr T.fa25_3 rfl) (Gm.q 1 [13] (by kernel_rfl) rfl rfl (Qy.load 13 T.one23 rfl rfl rfl) (Gm.q 2 [] (by kernel_rfl) rfl rfl (Qy.move rfl) (Gm.q 3 [] (by kernel_rfl) rfl rfl (Qy.nilCheck rfl) ?_)))
         refine Gm.q 4 [] (by kernel_rfl) rfl rfl (Qy.fieldAddr T.fa97_0 rfl) (Gm.q 5 [10] (by kernel_rfl) rfl rfl (Qy.load 10 T.one94 rfl rfl rfl) (Gm.q 6 [] (by kernel_rfl) rfl rfl (Qy.move rfl) (Gm.q 7 [11] (by kernel_rfl) rfl rfl (Qy.lookup1 11 T.mp94 rfl rfl rfl) ?_)))
         refine Gm.one 8 ⟨rfl, rfl, rfl, rfl, rfl, rfl, rfl, rfl, rfl, rfl, rfl, rfl, rfl, rfl, rfl, trivial⟩ (by first | exact Imm.le_refl _ | assumption) (by kernel_rfl) rfl ?_
         refine Wl.lit (α := Int) 21 [(Option.getD (Go.Sl.mget (Pl.at_ (PkS.s x)) (Option.getD (Life.outs (lifeP p))[Int.toNat (↑q : Int)]? Inhabited.default)) 0)] rfl T.sl23 T.el3 rfl rfl rfl rfl rfl (fun b6 => ?_)
         refine Wl.on0 ?_
         refine Gm.one 9 ⟨rfl, rfl, rfl, rfl, rfl, rfl, rfl, rfl, rfl, rfl, rfl, rfl, rfl, rfl, rfl, trivial⟩ (by first | exact Imm.le_refl _ | assumption) (by kernel_rfl) rfl ?_
         refine Wl.append (α := Int) 20 rfl T.sl23 T.el3 rfl rfl rfl (by first | assumption | exact OwnA.nil | exact OwnA.made (by simp)) (Src.row 21 rfl) (by first | omega | (simp only [List.length_append, List.length_cons, List.length_nil, maxLen]; omega)) (by first | omega | (simp only [List.length_append, List.length_cons, List.length_nil, maxLen]; omega)) (fun a1 c1 junk1 ho1 => ?_)
         refine Wl.on0 ?_
         refine Gm.q 10 [] (by kernel_rfl) rfl rfl (Qy.fieldAddr T.fa25_3 rfl) (Gm.one 11 ⟨rfl, rfl, rfl, rfl, rfl, rfl, trivial⟩ (by first | exact Imm.le_refl _ | assumption) (by kernel_rfl) rfl ?_)
         refine Wl.store 13 T.one23 rfl rfl rfl rfl rfl ?_
         refine Wl.on0 ?_
         refine Gm.doneA (by kernel_rfl) ⟨rfl, rfl, rfl, rfl, rfl, trivial⟩ (by first | exact Imm.le_refl _ | assumption) ?_
         refine Ar.outNormal ?_
         refine Ar.next (Wc.region rfl (Wl.q rfl (Qy.add rfl rfl (by omega)) ?_))
         refine Wl.q rfl (Qy.move rfl) (Wl.done ?_)
         refine Ar.again ((q + 1, ol ++ [stand x.s ((lifeP p).outs[((q : Nat) : Int).toNat]?.getD default)], (a1, c1, junk1))) ?_ ?_ rfl ⟨rfl, rfl, rfl, rfl, rfl, rfl, rfl, trivial⟩ ⟨rfl, rfl, rfl, rfl, rfl, rfl, rfl, rfl, rfl, rfl, rfl, rfl, rfl, rfl, rfl, trivial⟩
         · exact ⟨hqc, by rw [map_take_next (by omega), hol], by assumption⟩
         · show p.outs.length - (q + 1) < p.outs.length - q
           omega
       · have hqe : q = p.outs.length := Nat.le_antisymm hq1 hqc
         subst hqe
         rw [List.take_of_length_le (by rw [List.length_map]; omega)] at hol
         subst hol hx
         refine Wc.seq (Wc.region rfl (Wl.q rfl (Qy.lss rfl rfl) (Wl.done (Ar.next (Wc.seq (Wc.condN rfl (by first | assumption | omega) ?_))))))
         refine Wc.exit (Ar.passExit ?_)
         refine Ar.passExit ?_
         refine Ar.here ?_
         refine Ar.next (Wc.seq (Wc.region rfl (Wl.q rfl (Qy.loadAll 13 T.agg25 rfl rfl rfl) ?_)))
         refine Wl.storeAll 1 T.size25 rfl rfl rfl rfl rfl rfl ?_
         refine Wl.q rfl (Qy.assign rfl) (Wl.done (Ar.next (Wc.ret (Ar.retag 1 30 rfl rfl (Ar.retag 14 0 rfl rfl (Ar.retag 20 1 rfl rfl ?_))))))
         refine Ar.out2 (.inr rfl) (Ho := Hp.only _ [0, 1]) rfl (.agg 30 rfl rfl T.agg25) (.tmp rfl) (Hp.sub_only _ _) ?_
         exact ⟨oa, oo, oc, od, oj, ok, rfl, hoc, hoo, rfl, rfl⟩
end Go.Proofs.YtbppmiimeccclaaDoor
set_option maxRecDepth 100000
set_option linter.unusedVariables false
namespace Go.Proofs.YtbppmiimeccclaaDoor
open Go Go.Sl
set_option maxHeartbeats 4000000
def Fit (ls : List (List Int)) : Prop := ∀ z ∈ ls, z.length = (ls[0]?.getD []).length ∧ z.length ≤ 20
instance (ls : List (List Int)) : Decidable (Fit ls) := by unfold Fit; infer_instance
def GridsOk (G : Imm) (ls : List (List Int)) (v : Value) : Prop := ∃ (go : Option Addr) (n gc : Nat), v = .tuple #[.slice go n gc, .bool (decide (Fit ls))] ∧ (Fit ls → ∃ (r : List SV), n = r.length ∧ Arr G go r ∧ Grid G r ls)
theorem not_fit {G : Imm} {ls : List (List Int)} {go : Option Addr} {n gc : Nat} {i : Nat} (hi : i < ls.length) (h : (ls[i]?.getD []).length = (ls[0]?.getD []).length → (ls[i]?.getD []).length ≤ 20 → False) : GridsOk G ls (.tuple #[.slice go n gc, .bool false]) := by
 have hn : ¬ Fit ls := fun hf => by
  have h1 := hf (ls[i]) (List.getElem_mem hi)
  rw [List.getElem?_eq_getElem hi] at h
  exact h h1.1 h1.2
 exact ⟨go, n, gc, by rw [decide_eq_false hn], fun h => absurd h hn⟩
theorem fit_even {G : Imm} {gl : List SV} {ls : List (List Int)} (hg : IGrid G gl ls) (hf : Fit ls) : Even 4 (ls[0]?.getD []).length ls := by
 have hgl := hg.1
 intro zs hz
 refine ⟨(hf zs hz).1, fun z hz2 => ?_⟩
 obtain ⟨q, hq, rfl⟩ := List.mem_iff_getElem.1 hz
 have hr9 := (hg.2 q (by omega)).2.2 z (by rw [List.getElem?_eq_getElem hq]; exact hz2)
 rw [pw4]; omega
attribute [local irreducible] valL pw cmpZ p2 passP passTo followP rightP Fit
theorem c14 (G : Imm) (ga : Option Addr) (gc : Nat) (gl : List SV) (ls : List (List Int)) (hga : Arr G ga gl) (hg : IGrid G gl ls) (h3 : gl.length ≤ 1099511627776) (h4 : ∀ l ∈ ls, l.length ≤ 1099511627776) :
 Does Tryd.prog 14 [.slice ga gl.length gc] G [] (fun v G' Ho => GridsOk G' ls v ∧ Ho = []) := by
 have hgl := hg.1
 refine Does.enter Tryd.func14 rfl Tryd.ntmps14 rfl (fun w => ?_)
 refine Wc.seq (Wc.region rfl (Wl.q rfl (Qy.assign rfl) (Wl.q rfl (Qy.assign rfl) (Wl.done (Ar.next (Wc.seq (Wc.region rfl (Wl.q rfl (Qy.assign rfl) (Wl.done (Ar.next (Wc.seq (Wc.seq (Wc.region rfl (Wl.q rfl (Qy.assign rfl) (Wl.done (Ar.next (Wc.block (Wc.nilRow 4 (Row 80 ([] : List SV) []) ?_))))))))))))))))))
 refine Wc.loopG (ι := Nat × Imm × List SV × (Option Addr × Nat × List Value)) (fun (i, Gx, r, (o, d, j)) => ([(5, .int .i64 (i : Int)), (4, .slice o r.length d), (0, Go.Value.slice ga (List.length gl) gc)], [(4, o.map (·.block), Row 80 r j)])) (fun (i, Gx, r, (o, d, j)) => Gx) (fun (i, Gx, r, (o, d, j)) => i ≤ gl.length ∧ G.le Gx ∧ r.length = i ∧ Grid Gx r (ls.take i) ∧ OwnA o d r j ∧ (∀ k : Nat, k < i → (ls[k]?.getD []).length = (ls[0]?.getD []).length ∧ (ls[0]?.getD []).length ≤ 20)) (fun (i, Gx, r, (o, d, j)) => gl.length - i) ((0, G, [], (none, 0, []))) (⟨Nat.zero_le _, Imm.le_refl _, rfl, by rw [List.take_zero]; exact Grid.nil _, OwnA.nil, fun k hk => by omega⟩) rfl ⟨rfl, rfl, rfl, trivial⟩ ⟨rfl, trivial⟩ (fun ⟨i, Gx, r, (o, d, j)⟩ => fun (hk : i ≤ gl.length ∧ G.le Gx ∧ r.length = i ∧ Grid Gx r (ls.take i) ∧ OwnA o d r j ∧ (∀ k : Nat, k < i → (ls[k]?.getD []).length = (ls[0]?.getD []).length ∧ (ls[0]?.getD []).length ≤ 20)) => ?_)
 obtain ⟨hi, hgx, hri, hrs, hob, hfit⟩ := hk
 replace hga := hga.up hgx
 replace hg := hg.up hgx
 rcases Nat.lt_or_ge i gl.length with hia | hia
 · have hg0 := hg.at (m := 0) (by omega)
   have hgI := hg.at (m := (i : Int)) (by omega)
   refine Wc.seq (Wc.seq (Wc.region rfl (Wl.q rfl (Qy.move rfl) (Wl.q rfl (Qy.move rfl) (Wl.q rfl (Qy.len T.sl41 rfl) (Wl.q rfl (Qy.lss rfl rfl) (Wl.done (Ar.next (Wc.condP rfl (by first | assumption | omega) ?_)))))))))
   refine Wc.skip (Ar.next (Wc.seq (Wc.block (Wc.seq (Wc.seq (Wc.draw [4] [] T.mixed rfl ?_))))))
   refine Gm.q 0 [] (by kernel_rfl) rfl rfl (Qy.move rfl) (Gm.q 1 [] (by kernel_rfl) rfl rfl (Qy.move rfl) (Gm.q 2 [] (by kernel_rfl) rfl rfl (Qy.at (α := SV) T.sl41 rfl rfl (by assumption) (by omega)) ?_))
   refine Gm.q 3 [] (by kernel_rfl) rfl rfl (Qy.loadG T.one26 rfl (Arr.cell (by assumption) (by omega) 0 rfl rfl)) ?_
   refine Gm.q 4 [] (by kernel_rfl) rfl rfl (Qy.len T.sl26 rfl) (Gm.q 5 [] (by kernel_rfl) rfl rfl (Qy.move rfl) (Gm.q 6 [] (by kernel_rfl) rfl rfl (Qy.at (α := SV) T.sl41 rfl rfl (by assumption) (by omega)) ?_))
   refine Gm.q 7 [] (by kernel_rfl) rfl rfl (Qy.loadG T.one26 rfl (Arr.cell (by assumption) (by omega) 0 rfl rfl)) ?_
   refine Gm.q 8 [] (by kernel_rfl) rfl rfl (Qy.len T.sl26 rfl) (Gm.q 9 [] (by kernel_rfl) rfl rfl (Qy.neq rfl rfl) ?_)
   refine Gm.q 10 [] (by kernel_rfl) rfl rfl (Qy.move rfl) (Gm.cases 24 rfl (fun hg1 => ?_) (fun hg1 => ?_))
   refine Gm.qNo 11 (by kernel_rfl) rfl rfl rfl rfl ?_
   refine Gm.qNo 12 (by kernel_rfl) rfl rfl rfl rfl ?_
   refine Gm.qNo 13 (by kernel_rfl) rfl rfl rfl rfl ?_
   refine Gm.qNo 14 (by kernel_rfl) rfl rfl rfl rfl ?_
   refine Gm.qNo 15 (by kernel_rfl) rfl rfl rfl rfl ?_
   refine Gm.qNo 16 (by kernel_rfl) rfl rfl rfl rfl ?_
   refine Gm.q 17 [] (by kernel_rfl) rfl rfl (Qy.pick rfl rfl) ?_
   refine Gm.doneA (by kernel_rfl) ⟨rfl, trivial⟩ (by first | exact Imm.le_refl _ | assumption) ?_
   refine Ar.next (Wc.condT rfl ?_)
   refine Wc.seq (Wc.region rfl (Wl.q rfl (Qy.assign rfl) (Wl.q rfl (Qy.assign rfl) (Wl.done (Ar.next (Wc.ret (Ar.passRet ?_)))))))
   refine Ar.outRet ?_
   refine Ar.passRet ?_
   refine Ar.passRet ?_
   refine Ar.outRet ?_
   refine Ar.passRet ?_
   rotate_left
   refine Gm.qYes 11 [] (by kernel_rfl) rfl rfl rfl rfl (Qy.move rfl) ?_
   refine Gm.qYes 12 [] (by kernel_rfl) rfl rfl rfl rfl (Qy.move rfl) ?_
   refine Gm.qYes 13 [] (by kernel_rfl) rfl rfl rfl rfl (Qy.at (α := SV) T.sl41 rfl rfl (by assumption) (by omega)) ?_
   refine Gm.qYes 14 [] (by kernel_rfl) rfl rfl rfl rfl (Qy.loadG T.one26 rfl (Arr.cell (by assumption) (by omega) 0 rfl rfl)) ?_
   refine Gm.qYes 15 [] (by kernel_rfl) rfl rfl rfl rfl (Qy.len T.sl26 rfl) ?_
   refine Gm.qYes 16 [] (by kernel_rfl) rfl rfl rfl rfl (Qy.gtr rfl rfl) ?_
   refine Gm.q 17 [] (by kernel_rfl) rfl rfl (Qy.pick rfl rfl) ?_
   refine Gm.doneA (by kernel_rfl) ⟨rfl, trivial⟩ (by first | exact Imm.le_refl _ | assumption) ?_
   refine Ar.next ?_
   refine Wc.cond rfl (fun hc1 => ?_) (fun hc1 => ?_)
   refine Wc.seq (Wc.region rfl (Wl.q rfl (Qy.assign rfl) (Wl.q rfl (Qy.assign rfl) (Wl.done (Ar.next (Wc.ret (Ar.passRet ?_)))))))
   refine Ar.outRet ?_
   refine Ar.passRet ?_
   refine Ar.passRet ?_
   refine Ar.outRet ?_
   refine Ar.passRet ?_
   rotate_left
   refine Wc.skip (Ar.next (Wc.seq (Wc.region rfl ?_)))
   refine Wl.lit0 5 rfl T.sl80 (fun b1 => ?_)
   refine Wl.q rfl (Qy.assign rfl) (Wl.done (Ar.next (Wc.seq (Wc.seq (Wc.region rfl (Wl.q rfl (Qy.assign rfl) (Wl.done (Ar.next (Wc.block ?_)))))))))
   rotate_left
   · refine Ar.out2 (.inr rfl) (Ho := []) rfl (.tmp rfl) (.tmp rfl) trivial ?_
     refine ⟨not_fit (i := i) (by omega) (fun h9 h8 => ?_), rfl⟩
     have e0 := hg0.1
     have e1 := hgI.1
     rw [Int.toNat_natCast] at e1
     have e0' : (ls[0]?.getD []).length = (gl[((0 : Int)).toNat]?.getD default).n := e0
     rw [Int.toNat_natCast] at hg1
     omega
   · refine Ar.out2 (.inr rfl) (Ho := []) rfl (.tmp rfl) (.tmp rfl) trivial ?_
     refine ⟨not_fit (i := i) (by omega) (fun h9 h8 => ?_), rfl⟩
     have e1 := hgI.1
     rw [Int.toNat_natCast] at e1 hc1
     omega
   obtain ⟨li, hli⟩ : ∃ li, li = ls[((i : Nat) : Int).toNat]?.getD [] := ⟨_, rfl⟩
   rw [← hli] at hgI
   obtain ⟨gI1, gI2, gI3⟩ := hgI
   refine Wc.reH 5 (Row 82 ([] : List IV) []) rfl rfl ?_
   refine Wc.re 6 rfl (show _ = Value.slice (some ⟨b1, 0, none⟩) ([] : List IV).length 0 from rfl) ?_
   refine Wc.loopG (ι := Nat × Imm × List IV × (Option Addr × Nat × List Value)) (fun (k, Gy, r2, (o2, d2, j2)) => ([(7, .int .i64 (k : Int)), (6, .slice o2 r2.length d2), (5, Go.Value.int Go.IntKind.i64 (↑i : Int)), (4, Go.Value.slice o (List.length r) d), (0, Go.Value.slice ga (List.length gl) gc)], [(5, o2.map (·.block), Row 82 r2 j2), (4, Option.map (fun x => Go.Addr.block x) o, Go.Sl.Row (α := Go.Sl.SV) 80 (r) (j))])) (fun (k, Gy, r2, (o2, d2, j2)) => Gy) (fun (k, Gy, r2, (o2, d2, j2)) => k ≤ li.length ∧ Gx.le Gy ∧ r2.length = k ∧ Nums Gy r2 (li.take k) ∧ OwnA o2 d2 r2 j2) (fun (k, Gy, r2, (o2, d2, j2)) => li.length - k) ((0, Gx, [], (some ⟨b1, 0, none⟩, 0, []))) (⟨Nat.zero_le _, Imm.le_refl _, rfl, by rw [List.take_zero]; exact Nums.nil _, .inr ⟨b1, rfl, rfl, Nat.le_refl _, by simp [maxLen]⟩⟩) rfl ⟨rfl, rfl, rfl, rfl, rfl, trivial⟩ ⟨rfl, rfl, trivial⟩ (fun ⟨k, Gy, r2, (o2, d2, j2)⟩ => fun (hk : k ≤ li.length ∧ Gx.le Gy ∧ r2.length = k ∧ Nums Gy r2 (li.take k) ∧ OwnA o2 d2 r2 j2) => ?_)
   obtain ⟨hk0, hgy, hr2, hn2, hob2⟩ := hk
   replace hga := hga.up hgy
   replace hg := hg.up hgy
   replace hrs := hrs.up hgy
   replace gI2 := gI2.up hgy
   rcases Nat.lt_or_ge k li.length with hkl | hkl
   · have hx9 := gI3 (li[((k : Nat) : Int).toNat]?.getD default) (by rw [Int.toNat_natCast, List.getElem?_eq_getElem hkl]; exact List.getElem_mem hkl)
     refine Wc.seq (Wc.seq (Wc.region rfl (Wl.q rfl (Qy.move rfl) (Wl.q rfl (Qy.move rfl) (Wl.q rfl (Qy.move rfl) (Wl.q rfl (Qy.at (α := SV) T.sl41 rfl rfl (by assumption) (by omega)) ?_))))))
     refine Wl.q rfl (Qy.loadG T.one26 rfl (Arr.cell (by assumption) (by omega) 0 rfl rfl)) ?_
     refine Wl.q rfl (Qy.len T.sl26 rfl) (Wl.q rfl (Qy.lss rfl rfl) (Wl.done (Ar.next (Wc.condP rfl (by first | assumption | omega) ?_))))
     refine Wc.skip (Ar.next (Wc.seq (Wc.block (Wc.region rfl (Wl.q rfl (Qy.move rfl) (Wl.q rfl (Qy.move rfl) (Wl.q rfl (Qy.move rfl) (Wl.q rfl (Qy.at (α := SV) T.sl41 rfl rfl (by assumption) (by omega)) ?_))))))))
     refine Wl.q rfl (Qy.loadG T.one26 rfl (Arr.cell (by assumption) (by omega) 0 rfl rfl)) ?_
     refine Wl.q rfl (Qy.move rfl) (Wl.re 46 rfl (show _ = Value.slice (gl[((i : Nat) : Int).toNat]?.getD default).a li.length (gl[((i : Nat) : Int).toNat]?.getD default).c by rw [gI1]) ?_)
     refine Wl.q rfl (Qy.at (α := Int) T.sl26 rfl rfl (by assumption) (by omega)) ?_
     refine Wl.q rfl (Qy.loadG T.one2 rfl (Arr.cell (by assumption) (by omega) 0 rfl rfl)) ?_
     refine Wl.call 6 rfl T.fn42 rfl (num_of _ _ hx9) (tags_of trivial) (fun v1 G1 Ho1 hle1 hp => ?_)
     obtain ⟨ri1, rfl, hri1, rfl⟩ := hp
     replace hn2 := hn2.up hle1
     replace hga := hga.up hle1
     replace hrs := hrs.up hle1
     replace gI2 := gI2.up hle1
     refine Wl.lit (α := IV) 6 [(ri1)] rfl T.sl80 T.el82 rfl rfl rfl rfl rfl (fun b2 => ?_)
     refine Wl.append (α := IV) 5 rfl T.sl80 T.el82 rfl rfl rfl (by first | assumption | exact OwnA.nil | exact OwnA.made (by simp)) (Src.row 6 rfl) (by first | omega | (simp only [List.length_append, List.length_cons, List.length_nil, maxLen]; omega)) (by first | omega | (simp only [List.length_append, List.length_cons, List.length_nil, maxLen]; omega)) (fun a1 c1 junk1 ho1 => ?_)
     refine Wl.q rfl (Qy.assign rfl) (Wl.done ?_)
     refine Ar.outNormal ?_
     refine Ar.next (Wc.region rfl (Wl.q rfl (Qy.move rfl) (Wl.q rfl (Qy.add rfl rfl (by omega)) ?_)))
     refine Wl.q rfl (Qy.assign rfl) (Wl.done ?_)
     refine Ar.again ((k + 1, G1, r2 ++ [ri1], (a1, c1, junk1))) ?_ ?_ rfl ⟨rfl, rfl, rfl, rfl, rfl, trivial⟩ ⟨rfl, rfl, trivial⟩
     · exact ⟨by omega, Imm.le_trans hgy hle1, by rw [List.length_append]; show r2.length + 1 = k + 1; omega, by rw [take_nextN hkl]; exact hn2.snoc hri1, ho1⟩
     · show li.length - (k + 1) < li.length - k
       omega
   · refine Wc.seq (Wc.seq (Wc.region rfl (Wl.q rfl (Qy.move rfl) (Wl.q rfl (Qy.move rfl) (Wl.q rfl (Qy.move rfl) (Wl.q rfl (Qy.at (α := SV) T.sl41 rfl rfl (by assumption) (by omega)) ?_))))))
     refine Wl.q rfl (Qy.loadG T.one26 rfl (Arr.cell (by assumption) (by omega) 0 rfl rfl)) ?_
     refine Wl.q rfl (Qy.len T.sl26 rfl) (Wl.q rfl (Qy.lss rfl rfl) (Wl.done (Ar.next (Wc.condN rfl (by first | assumption | omega) ?_))))
     refine Wc.exit (Ar.passExit ?_)
     refine Ar.passExit ?_
     refine Ar.here ?_
     refine Ar.next (Wc.region rfl (Wl.q rfl (Qy.move rfl) (Wl.q rfl (Qy.move rfl) ?_)))
     refine Wl.lit (α := SV) 6 [⟨_, _, _⟩] rfl T.sl42 T.el80 rfl rfl rfl rfl rfl (fun b2 => ?_)
     refine Wl.append (α := SV) 4 rfl T.sl42 T.el80 rfl rfl rfl (by first | assumption | exact OwnA.nil | exact OwnA.made (by simp)) (Src.row 6 rfl) (by first | omega | (simp only [List.length_append, List.length_cons, List.length_nil, maxLen]; omega)) (by first | omega | (simp only [List.length_append, List.length_cons, List.length_nil, maxLen]; omega)) (fun a1 c1 junk1 ho1 => ?_)
     refine Wl.q rfl (Qy.assign rfl) (Wl.done ?_)
     refine Ar.outNormal ?_
     refine Ar.next (Wc.region rfl (Wl.q rfl (Qy.move rfl) (Wl.q rfl (Qy.add rfl rfl (by omega)) ?_)))
     refine Wl.q rfl (Qy.assign rfl) (Wl.done (Ar.freezeRow 5 rfl hob2 (fun G9 hle9 hA => ?_)))
     have hke : k = li.length := by omega
     rw [List.take_of_length_le (by omega)] at hn2
     refine Ar.again ((i + 1, G9, r ++ [⟨o2, r2.length, d2⟩], (a1, c1, junk1))) ?_ ?_ rfl ⟨rfl, rfl, rfl, trivial⟩ ⟨rfl, trivial⟩
     · refine ⟨by omega, Imm.le_trans hgx (Imm.le_trans hgy hle9), by rw [List.length_append]; show r.length + 1 = i + 1; omega, ?_, ho1, fun q hq => ?_⟩
       · rw [ls_next (by omega), ← hli]
         exact (hrs.up hle9).snoc ⟨r2, rfl, hob2.le, hA, hn2.up hle9⟩
       · have e0 := hg0.1
         have hc1' : (gl[((i : Nat) : Int).toNat]?.getD default).n = (gl[((0 : Int)).toNat]?.getD default).n := by omega
         have e1 : (ls[((i : Nat) : Int).toNat]?.getD []).length = (ls[((0 : Int)).toNat]?.getD []).length := by rw [← hli, gI1, e0]; exact hc1'
         rw [Int.toNat_natCast] at e1
         by_cases hqi : q = i
         · subst hqi
           refine ⟨e1, ?_⟩
           show (ls[((0 : Int)).toNat]?.getD []).length ≤ 20
           rw [e0]; omega
         · exact hfit q (by omega)
     · show gl.length - (i + 1) < gl.length - i
       omega
 · have hie : i = gl.length := by omega
   subst hie
   rw [List.take_of_length_le (by omega)] at hrs
   refine Wc.seq (Wc.seq (Wc.region rfl (Wl.q rfl (Qy.move rfl) (Wl.q rfl (Qy.move rfl) (Wl.q rfl (Qy.len T.sl41 rfl) (Wl.q rfl (Qy.lss rfl rfl) (Wl.done (Ar.next (Wc.condN rfl (by first | assumption | omega) ?_)))))))))
   refine Wc.exit (Ar.passExit ?_)
   refine Ar.passExit ?_
   refine Ar.here ?_
   refine Ar.next (Wc.seq (Wc.region rfl (Wl.q rfl (Qy.move rfl) (Wl.q rfl (Qy.assign rfl) (Wl.q rfl (Qy.assign rfl) (Wl.done (Ar.next (Wc.ret (Ar.freezeRow 4 rfl hob (fun G9 hle9 hA => ?_))))))))))
   refine Ar.out2 (.inr rfl) (Ho := []) rfl (.tmp rfl) (.tmp rfl) trivial ?_
   have hft : Fit ls := by
    unfold Fit
    intro z hz
    obtain ⟨q, hq, rfl⟩ := List.mem_iff_getElem.1 hz
    have h9 := hfit q (by omega)
    rw [List.getElem?_eq_getElem hq] at h9
    exact ⟨h9.1, by have := h9.1; have := h9.2; simp only [Option.getD_some] at *; omega⟩
   exact ⟨⟨o, r.length, d, by rw [decide_eq_true hft], fun _ => ⟨r, rfl, hA, hrs.up hle9⟩⟩, rfl⟩
end Go.Proofs.YtbppmiimeccclaaDoor
set_option maxRecDepth 100000
set_option linter.unusedVariables false
namespace Go.Proofs.YtbppmiimeccclaaDoor
open Go Go.Sl
set_option maxHeartbeats 4000000
def shiftsTo (p : PV) : Nat → Nat
 | 0 => 0
 | k + 1 => shiftsTo p k + (if (p.code[((k : Nat) : Int).toNat]?.getD default).op = 7 then 1 else 0)
theorem shiftsTo_le (p : PV) (k : Nat) : shiftsTo p k ≤ k := by
 induction k with
 | zero => exact Nat.le_refl _
 | succ k ih => unfold shiftsTo; split <;> omega
end Go.Proofs.YtbppmiimeccclaaDoor
set_option maxRecDepth 100000
set_option linter.unusedVariables false
namespace Go.Proofs.YtbppmiimeccclaaDoor
open Go Go.Sl
set_option maxHeartbeats 4000000
def exO : PV := ⟨1, 9, [], [0]⟩
theorem exO_right : rightP exO = true := by decide
theorem exO_pack : (orderP exO).regs = 1 ∧ (orderP exO).outs.length = 1 := by decide
attribute [local irreducible] valL pw cmpZ p2 rightP
theorem c15 (G : Imm) (p : PV) (ac ao : Option Addr) (cc co : Nat) (h1 : p.code.length ≤ 1099511627776) (h2 : p.outs.length ≤ 1099511627776) :
 Does Tryd.prog 15 [.agg #[.int .i64 p.ins, .int .i64 p.regs, .slice ac p.code.length cc, .slice ao p.outs.length co]] G [] (fun v G' Ho => v = .bool (decide (40 < (p.code.length : Int) ∨ 40 < (p.outs.length : Int))) ∧ G' = G ∧ Ho = []) := by
 refine Does.enter Tryd.func15 rfl Tryd.ntmps15 rfl (fun w => ?_)
 refine Wc.seq (Wc.region rfl ?_)
 refine Wl.box 0 rfl rfl rfl (fun b1 => ?_)
 refine Wl.q rfl (Qy.assign rfl) (Wl.done (Ar.next (Wc.seq (Wc.region rfl (Wl.q rfl (Qy.fieldAddr T.fa25_2 rfl) (Wl.q rfl (Qy.load 0 T.one22 rfl rfl rfl) (Wl.q rfl (Qy.len T.sl22 rfl) (Wl.q rfl (Qy.gtr rfl rfl) (Wl.q rfl (Qy.move rfl) ?_)))))))))
 apply Wl.joinOr 5 7 12 rfl
 intro hg1
 refine Wl.want rfl rfl (Wl.q rfl (Qy.fieldAddr T.fa25_3 rfl) (Wl.want rfl rfl (Wl.q rfl (Qy.load 0 T.one23 rfl rfl rfl) (Wl.want rfl rfl (Wl.q rfl (Qy.len T.sl23 rfl) (Wl.want rfl rfl (Wl.q rfl (Qy.gtr rfl rfl) (Wl.q rfl (Qy.pick rfl rfl) ?_))))))))
 exact Wl.back 5 0 rfl rfl rfl rfl rfl
 intro hg1
 refine Wl.pass rfl rfl rfl (Wl.pass rfl rfl rfl (Wl.pass rfl rfl rfl (Wl.pass rfl rfl rfl (Wl.q rfl (Qy.pick rfl rfl) ?_))))
 exact Wl.back 5 0 rfl rfl rfl rfl rfl
 refine Wl.q rfl (Qy.assign rfl) (Wl.done (Ar.next (Wc.ret ?_)))
 refine Ar.out1 (.inr rfl) (Ho := []) rfl (.tmp rfl) trivial ?_
 exact ⟨rfl, rfl, rfl⟩
theorem c16 (G : Imm) (p : PV) (ac ao : Option Addr) (cc co : Nat) (hc : Arr G ac p.code) (ho : Arr G ao p.outs) (h1 : p.code.length ≤ 1099511627776) (h2 : p.outs.length ≤ 1099511627776) :
 Does Tryd.prog 16 [.agg #[.int .i64 p.ins, .int .i64 p.regs, .slice ac p.code.length cc, .slice ao p.outs.length co]] G [] (fun v G' Ho => v = .int .i64 (shiftsTo p p.code.length : Int) ∧ G' = G ∧ Ho = []) := by
 refine Does.enter Tryd.func16 rfl Tryd.ntmps16 rfl (fun w => ?_)
 refine Wc.seq (Wc.region rfl ?_)
 refine Wl.box 0 rfl rfl rfl (fun b1 => ?_)
 refine Wl.q rfl (Qy.assign rfl) (Wl.done (Ar.next (Wc.seq (Wc.region rfl (Wl.q rfl (Qy.assign rfl) (Wl.done (Ar.next (Wc.seq (Wc.seq (Wc.region rfl (Wl.q rfl (Qy.assign rfl) (Wl.done (Ar.next (Wc.block ?_))))))))))))))
 refine Wc.loop (ι := Nat) (fun k => ([(4, .int .i64 (k : Int)), (3, .int .i64 (shiftsTo p k : Int)), (2, Go.Value.int Go.IntKind.i64 0), (1, Go.Value.pointer (Option.some (Go.Addr.mk b1 0 Option.none)))], [(0, Option.some b1, Go.Obj.cells #[Go.Value.int Go.IntKind.i64 (PV.ins p), Go.Value.int Go.IntKind.i64 (PV.regs p), Go.Value.slice ac (List.length (PV.code p)) cc, Go.Value.slice ao (List.length (PV.outs p)) co] 25)])) (fun k => k ≤ p.code.length) (fun k => p.code.length - k) (0) (Nat.zero_le _) ⟨rfl, rfl, rfl, rfl, trivial⟩ ⟨rfl, trivial⟩ (fun k => fun (hk : k ≤ p.code.length) => ?_)
 have hs := shiftsTo_le p k
 rcases Nat.lt_or_ge k p.code.length with hkc | hkc
 · by_cases h7 : (p.code[((k : Nat) : Int).toNat]?.getD default).op = 7
   · have e : shiftsTo p (k + 1) = shiftsTo p k + 1 := by show shiftsTo p k + (if _ then 1 else 0) = _; rw [if_pos h7]
     refine Wc.seq (Wc.seq (Wc.region rfl (Wl.q rfl (Qy.move rfl) (Wl.q rfl (Qy.fieldAddr T.fa25_2 rfl) (Wl.q rfl (Qy.load 0 T.one22 rfl rfl rfl) (Wl.q rfl (Qy.len T.sl22 rfl) (Wl.q rfl (Qy.lss rfl rfl) (Wl.done (Ar.next (Wc.condP rfl (by first | assumption | omega) ?_))))))))))
     refine Wc.skip (Ar.next (Wc.seq (Wc.block (Wc.seq (Wc.region rfl (Wl.q rfl (Qy.fieldAddr T.fa25_2 rfl) (Wl.q rfl (Qy.load 0 T.one22 rfl rfl rfl) (Wl.q rfl (Qy.move rfl) (Wl.q rfl (Qy.at (α := Sl.Instr) T.sl22 rfl rfl (by assumption) (by omega)) ?_)))))))))
     refine Wl.q rfl (Qy.fieldAddr T.fa55_0 rfl) (Wl.q rfl (Qy.loadG T.one3 rfl (Arr.cell (by assumption) (by omega) 0 rfl rfl)) ?_)
     refine Wl.q rfl (Qy.eql rfl rfl) (Wl.done (Ar.next (Wc.condP rfl (by first | assumption | omega) ?_)))
     refine Wc.region rfl (Wl.q rfl (Qy.move rfl) (Wl.q rfl (Qy.add rfl rfl (by omega)) ?_))
     refine Wl.q rfl (Qy.assign rfl) (Wl.done ?_)
     refine Ar.outNormal ?_
     refine Ar.next (Wc.region rfl (Wl.q rfl (Qy.move rfl) (Wl.q rfl (Qy.add rfl rfl (by omega)) ?_)))
     refine Wl.q rfl (Qy.assign rfl) (Wl.done (Ar.re 3 rfl (show _ = Value.int .i64 ((shiftsTo p (k + 1) : Nat) : Int) by rw [e]; rfl) ?_))
     refine Ar.again (k + 1) ?_ ?_ rfl ⟨rfl, rfl, rfl, rfl, trivial⟩ ⟨rfl, trivial⟩
     · exact hkc
     · show p.code.length - (k + 1) < p.code.length - k
       omega
   · have e : shiftsTo p (k + 1) = shiftsTo p k := by show shiftsTo p k + (if _ then 1 else 0) = _; rw [if_neg h7]; rfl
     refine Wc.seq (Wc.seq (Wc.region rfl (Wl.q rfl (Qy.move rfl) (Wl.q rfl (Qy.fieldAddr T.fa25_2 rfl) (Wl.q rfl (Qy.load 0 T.one22 rfl rfl rfl) (Wl.q rfl (Qy.len T.sl22 rfl) (Wl.q rfl (Qy.lss rfl rfl) (Wl.done (Ar.next (Wc.condP rfl (by first | assumption | omega) ?_))))))))))
     refine Wc.skip (Ar.next (Wc.seq (Wc.block (Wc.seq (Wc.region rfl (Wl.q rfl (Qy.fieldAddr T.fa25_2 rfl) (Wl.q rfl (Qy.load 0 T.one22 rfl rfl rfl) (Wl.q rfl (Qy.move rfl) (Wl.q rfl (Qy.at (α := Sl.Instr) T.sl22 rfl rfl (by assumption) (by omega)) ?_)))))))))
     refine Wl.q rfl (Qy.fieldAddr T.fa55_0 rfl) (Wl.q rfl (Qy.loadG T.one3 rfl (Arr.cell (by assumption) (by omega) 0 rfl rfl)) ?_)
     refine Wl.q rfl (Qy.eql rfl rfl) (Wl.done (Ar.next (Wc.condN rfl (by first | assumption | omega) ?_)))
     refine Wc.skip ?_
     refine Ar.outNormal ?_
     refine Ar.next (Wc.region rfl (Wl.q rfl (Qy.move rfl) (Wl.q rfl (Qy.add rfl rfl (by omega)) ?_)))
     refine Wl.q rfl (Qy.assign rfl) (Wl.done (Ar.re 3 rfl (show _ = Value.int .i64 ((shiftsTo p (k + 1) : Nat) : Int) by rw [e]) ?_))
     refine Ar.again (k + 1) ?_ ?_ rfl ⟨rfl, rfl, rfl, rfl, trivial⟩ ⟨rfl, trivial⟩
     · exact hkc
     · show p.code.length - (k + 1) < p.code.length - k
       omega
 · have hke : k = p.code.length := Nat.le_antisymm hk hkc
   subst hke
   refine Wc.seq (Wc.seq (Wc.region rfl (Wl.q rfl (Qy.move rfl) (Wl.q rfl (Qy.fieldAddr T.fa25_2 rfl) (Wl.q rfl (Qy.load 0 T.one22 rfl rfl rfl) (Wl.q rfl (Qy.len T.sl22 rfl) (Wl.q rfl (Qy.lss rfl rfl) (Wl.done (Ar.next (Wc.condN rfl (by first | assumption | omega) ?_))))))))))
   refine Wc.exit (Ar.passExit ?_)
   refine Ar.passExit ?_
   refine Ar.here ?_
   refine Ar.next (Wc.seq (Wc.region rfl (Wl.q rfl (Qy.move rfl) (Wl.q rfl (Qy.assign rfl) (Wl.done (Ar.next (Wc.ret ?_)))))))
   refine Ar.out1 (.inr rfl) (Ho := []) rfl (.tmp rfl) trivial ?_
   exact ⟨rfl, rfl, rfl⟩
theorem c13 (G : Imm) : Does Tryd.prog 13 [] G [] (fun v G' Ho => v = .bool true ∧ G' = G ∧ Ho = []) := by
 refine Does.enter Tryd.func13 rfl Tryd.ntmps13 rfl (fun w => ?_)
 obtain ⟨e1, e2⟩ := exO_pack
 refine Wc.seq (Wc.region rfl (Wl.q rfl (Qy.assign rfl) (Wl.done (Ar.next (Wc.seq (Wc.region rfl ?_))))))
 refine Wl.lit (α := Int) 0 [(0)] rfl T.sl23 T.el3 rfl rfl rfl rfl rfl (fun b1 => ?_)
 refine Wl.q rfl (Qy.build (cs := [_, _, _, _]) T.st25 rfl rfl rfl) ?_
 refine Wl.callB 2 rfl T.fn23 rfl (fun Gx hGx hgx => c23R Gx exO _ _ _ _ (Arr.nil _) (Arr.own hgx 0 rfl (OwnA.made (by simp [maxLen, exO]))) (by decide) (by decide) exO_right) (fun v1 Gx1 G1 Ho1 hlx1 hp => ?_)
 obtain ⟨qc, qo, qcc, qoc, qj, qk, rfl, hqc, hqo, rfl, rfl⟩ := hp
 have e0 : (orderP exO).ins = 1 := rfl
 refine Wl.q rfl (Qy.move rfl) (Wl.q rfl (Qy.extract rfl rfl) (Wl.q rfl (Qy.extract rfl rfl) ?_))
 refine Wl.alloc 4 rfl T.zero25 (fun b2 => ?_)
 refine Wl.storeAll 4 T.size25 rfl rfl rfl rfl rfl rfl ?_
 refine Wl.q rfl (Qy.assign rfl) (Wl.done (Ar.next (Wc.seq (Wc.region rfl (Wl.q rfl (Qy.move rfl) (Wl.q rfl (Qy.eql rfl rfl) (Wl.q rfl (Qy.move rfl) (Wl.yes 11 rfl (by first | assumption | omega) ?_))))))))
 refine Wl.want rfl rfl (Wl.q rfl (Qy.fieldAddr T.fa25_0 rfl) (Wl.want rfl rfl (Wl.q rfl (Qy.load 4 T.one3 rfl rfl rfl) (Wl.want rfl rfl (Wl.q rfl (Qy.eql rfl rfl) (Wl.q rfl (Qy.pick rfl rfl) (Wl.q rfl (Qy.move rfl) (Wl.yes 16 rfl (by first | assumption | omega) ?_))))))))
 refine Wl.want rfl rfl (Wl.q rfl (Qy.fieldAddr T.fa25_1 rfl) (Wl.want rfl rfl (Wl.q rfl (Qy.load 4 T.one3 rfl rfl rfl) (Wl.want rfl rfl (Wl.q rfl (Qy.eql rfl rfl) (Wl.q rfl (Qy.pick rfl rfl) (Wl.q rfl (Qy.move rfl) (Wl.yes 21 rfl (by first | assumption | omega) ?_))))))))
 refine Wl.want rfl rfl (Wl.q rfl (Qy.fieldAddr T.fa25_3 rfl) (Wl.want rfl rfl (Wl.q rfl (Qy.load 4 T.one23 rfl rfl rfl) (Wl.want rfl rfl (Wl.q rfl (Qy.len T.sl23 rfl) (Wl.want rfl rfl (Wl.q rfl (Qy.eql rfl rfl) (Wl.q rfl (Qy.pick rfl rfl) (Wl.q rfl (Qy.assign rfl) ?_)))))))))
 refine Wl.done (Ar.next (Wc.ret ?_))
 refine Ar.out1 (.inr rfl) (Ho := []) rfl (.tmp rfl) trivial ?_
 refine ⟨?_, rfl, rfl⟩
 simp [e0, e1, e2]
theorem c26 (G : Imm) (p q : PV) (ac ao bc bo ga : Option Addr) (cc co dc do_ gc : Nat) (r : List SV) (ls : List (List Int)) (N : Nat) (hc : Arr G ac p.code) (ho : Arr G ao p.outs) (hc2 : Arr G bc q.code) (ho2 : Arr G bo q.outs)
 (hAg : Arr G ga r) (hrs : Grid G r ls) (hev : Even 4 N ls) (hN9 : N ≤ 1048576) (hR : rightP p = true) (hRq : rightP q = true) (hgi : (r.length : Int) = p.ins) (hcl : p.code.length ≤ 1024) (hcl2 : q.code.length ≤ 1024) (hqi : q.ins = p.ins) (hqo : q.outs.length = p.outs.length)
 (hall : ∀ os, followP p ls = some os → followP q ls = some os) :
 Does Tryd.prog 26 [.agg #[.int .i64 p.ins, .int .i64 p.regs, .slice ac p.code.length cc, .slice ao p.outs.length co], .agg #[.int .i64 q.ins, .int .i64 q.regs, .slice bc q.code.length dc, .slice bo q.outs.length do_], .slice ga r.length gc] G [] (fun v G' Ho => v = .bool true ∧ Ho = []) := by
 obtain ⟨f1, f2, f3, f4, f5, f6, f7, f8⟩ := right_facts hR
 have hrl := hrs.1
 refine Does.enter Tryd.func26 rfl Tryd.ntmps26 rfl (fun w => ?_)
 by_cases hf : followP p ls = none
 · refine Wc.seq (Wc.region rfl ?_)
   refine Wl.box 0 rfl rfl rfl (fun b1 => ?_)
   refine Wl.box 1 rfl rfl rfl (fun b2 => ?_)
   refine Wl.q rfl (Qy.assign rfl) (Wl.done (Ar.next (Wc.seq (Wc.region rfl (Wl.q rfl (Qy.loadAll 1 T.agg25 rfl rfl rfl) ?_)))))
   refine Wl.callB 2 rfl T.fn19 rfl (fun Gx hGx hgx => (c19 _ _ _ _ _ _ (by first | exact Arr.up (by assumption) hGx | exact Arr.nil _) (by first | exact Arr.up (by assumption) hGx | exact Arr.nil _) (by omega) (by omega))) (fun v1 Gx1 G1 Ho1 hlx1 hp => ?_)
   obtain ⟨rfl, rfl, rfl⟩ := hp
   refine Wl.q rfl (Qy.assign rfl) (Wl.done (Ar.next (Wc.seq (Wc.seq (Wc.region rfl (Wl.q rfl (Qy.move rfl) (Wl.q rfl (Qy.notD rfl) (Wl.q rfl (Qy.move rfl) ?_))))))))
   apply Wl.joinOr 6 19 25 rfl
   intro hg1
   refine Wl.want rfl rfl (Wl.q rfl (Qy.fieldAddr T.fa25_0 rfl) (Wl.want rfl rfl (Wl.q rfl (Qy.load 1 T.one3 rfl rfl rfl) (Wl.want rfl rfl (Wl.q rfl (Qy.fieldAddr T.fa25_0 rfl) (Wl.want rfl rfl (Wl.q rfl (Qy.load 0 T.one3 rfl rfl rfl) (Wl.want rfl rfl (Wl.q rfl (Qy.neq rfl rfl) ?_)))))))))
   refine Wl.q rfl (Qy.pick rfl rfl) ?_
   exact Wl.back 6 0 rfl rfl rfl rfl rfl
   intro hg1
   refine Wl.pass rfl rfl rfl (Wl.pass rfl rfl rfl (Wl.pass rfl rfl rfl (Wl.pass rfl rfl rfl (Wl.pass rfl rfl rfl (Wl.q rfl (Qy.pick rfl rfl) ?_)))))
   exact Wl.back 6 0 rfl rfl rfl rfl rfl
   refine Wl.q rfl (Qy.move rfl) ?_
   apply Wl.joinOr 8 26 34 rfl
   intro hg1
   refine Wl.want rfl rfl (Wl.q rfl (Qy.fieldAddr T.fa25_3 rfl) (Wl.want rfl rfl (Wl.q rfl (Qy.load 1 T.one23 rfl rfl rfl) (Wl.want rfl rfl (Wl.q rfl (Qy.len T.sl23 rfl) (Wl.want rfl rfl (Wl.q rfl (Qy.fieldAddr T.fa25_3 rfl) (Wl.want rfl rfl (Wl.q rfl (Qy.load 0 T.one23 rfl rfl rfl) ?_)))))))))
   refine Wl.want rfl rfl (Wl.q rfl (Qy.len T.sl23 rfl) (Wl.want rfl rfl (Wl.q rfl (Qy.neq rfl rfl) (Wl.q rfl (Qy.pick rfl rfl) ?_))))
   exact Wl.back 8 0 rfl rfl rfl rfl rfl
   intro hg1
   refine Wl.pass rfl rfl rfl (Wl.pass rfl rfl rfl (Wl.pass rfl rfl rfl (Wl.pass rfl rfl rfl (Wl.pass rfl rfl rfl (Wl.pass rfl rfl rfl (Wl.pass rfl rfl rfl (Wl.q rfl (Qy.pick rfl rfl) ?_)))))))
   exact Wl.back 8 0 rfl rfl rfl rfl rfl
   refine Wl.done (Ar.next ?_)
   refine Wc.cond rfl (fun hc1 => ?_) (fun hc1 => ?_)
   refine Wc.seq (Wc.region rfl (Wl.q rfl (Qy.assign rfl) (Wl.done (Ar.next (Wc.ret (Ar.passRet ?_))))))
   rotate_left
   refine Wc.skip (Ar.next (Wc.seq (Wc.region rfl (Wl.q rfl (Qy.loadAll 0 T.agg25 rfl rfl rfl) (Wl.q rfl (Qy.move rfl) ?_)))))
   rotate_left
   · rcases hc1 with (h | h) | h
     · exact absurd hRq h
     · exact absurd hqi h
     · omega
   refine Wl.call 10 rfl T.fn57 rfl (follow_none _ p _ _ _ _ _ _ r ls _ hc ho hAg hrs hev hN9 hR (by omega) (by omega) hf) (tags_of trivial) (fun v8 G8 Ho8 hle8 hp => ?_)
   obtain ⟨sv8, bad8, rfl, hb8, rfl⟩ := hp
   refine Wl.q rfl (Qy.move rfl) (Wl.q rfl (Qy.extract rfl rfl) (Wl.q rfl (Qy.extract rfl rfl) (Wl.q rfl (Qy.extract rfl rfl) (Wl.q rfl (Qy.assign rfl) (Wl.q rfl (Qy.assign rfl) (Wl.q rfl (Qy.assign rfl) (Wl.done (Ar.next (Wc.seq (Wc.seq (Wc.region rfl (Wl.q rfl (Qy.move rfl) ?_))))))))))))
   refine Wl.q rfl (Qy.geq rfl rfl) (Wl.done (Ar.next (Wc.condP rfl (by first | assumption | omega) ?_)))
   refine Wc.seq (Wc.region rfl (Wl.q rfl (Qy.assign rfl) (Wl.done (Ar.next (Wc.ret (Ar.passRet ?_))))))
   refine Ar.out1 (.inr rfl) (Ho := []) rfl (.tmp rfl) trivial ?_
   exact ⟨rfl, rfl⟩
 · obtain ⟨os, hf⟩ := Option.ne_none_iff_exists'.1 hf
   have hf2 := hall os hf
   have heo := follow_even hR hev (by omega) hf
   have hol := follow_len hf
   refine Wc.seq (Wc.region rfl ?_)
   refine Wl.box 0 rfl rfl rfl (fun b1 => ?_)
   refine Wl.box 1 rfl rfl rfl (fun b2 => ?_)
   refine Wl.q rfl (Qy.assign rfl) (Wl.done (Ar.next (Wc.seq (Wc.region rfl (Wl.q rfl (Qy.loadAll 1 T.agg25 rfl rfl rfl) ?_)))))
   refine Wl.callB 2 rfl T.fn19 rfl (fun Gx hGx hgx => (c19 _ _ _ _ _ _ (by first | exact Arr.up (by assumption) hGx | exact Arr.nil _) (by first | exact Arr.up (by assumption) hGx | exact Arr.nil _) (by omega) (by omega))) (fun v1 Gx1 G1 Ho1 hlx1 hp => ?_)
   obtain ⟨rfl, rfl, rfl⟩ := hp
   refine Wl.q rfl (Qy.assign rfl) (Wl.done (Ar.next (Wc.seq (Wc.seq (Wc.region rfl (Wl.q rfl (Qy.move rfl) (Wl.q rfl (Qy.notD rfl) (Wl.q rfl (Qy.move rfl) ?_))))))))
   apply Wl.joinOr 6 19 25 rfl
   intro hg1
   refine Wl.want rfl rfl (Wl.q rfl (Qy.fieldAddr T.fa25_0 rfl) (Wl.want rfl rfl (Wl.q rfl (Qy.load 1 T.one3 rfl rfl rfl) (Wl.want rfl rfl (Wl.q rfl (Qy.fieldAddr T.fa25_0 rfl) (Wl.want rfl rfl (Wl.q rfl (Qy.load 0 T.one3 rfl rfl rfl) (Wl.want rfl rfl (Wl.q rfl (Qy.neq rfl rfl) ?_)))))))))
   refine Wl.q rfl (Qy.pick rfl rfl) ?_
   exact Wl.back 6 0 rfl rfl rfl rfl rfl
   intro hg1
   refine Wl.pass rfl rfl rfl (Wl.pass rfl rfl rfl (Wl.pass rfl rfl rfl (Wl.pass rfl rfl rfl (Wl.pass rfl rfl rfl (Wl.q rfl (Qy.pick rfl rfl) ?_)))))
   exact Wl.back 6 0 rfl rfl rfl rfl rfl
   refine Wl.q rfl (Qy.move rfl) ?_
   apply Wl.joinOr 8 26 34 rfl
   intro hg1
   refine Wl.want rfl rfl (Wl.q rfl (Qy.fieldAddr T.fa25_3 rfl) (Wl.want rfl rfl (Wl.q rfl (Qy.load 1 T.one23 rfl rfl rfl) (Wl.want rfl rfl (Wl.q rfl (Qy.len T.sl23 rfl) (Wl.want rfl rfl (Wl.q rfl (Qy.fieldAddr T.fa25_3 rfl) (Wl.want rfl rfl (Wl.q rfl (Qy.load 0 T.one23 rfl rfl rfl) ?_)))))))))
   refine Wl.want rfl rfl (Wl.q rfl (Qy.len T.sl23 rfl) (Wl.want rfl rfl (Wl.q rfl (Qy.neq rfl rfl) (Wl.q rfl (Qy.pick rfl rfl) ?_))))
   exact Wl.back 8 0 rfl rfl rfl rfl rfl
   intro hg1
   refine Wl.pass rfl rfl rfl (Wl.pass rfl rfl rfl (Wl.pass rfl rfl rfl (Wl.pass rfl rfl rfl (Wl.pass rfl rfl rfl (Wl.pass rfl rfl rfl (Wl.pass rfl rfl rfl (Wl.q rfl (Qy.pick rfl rfl) ?_)))))))
   exact Wl.back 8 0 rfl rfl rfl rfl rfl
   refine Wl.done (Ar.next ?_)
   refine Wc.cond rfl (fun hc1 => ?_) (fun hc1 => ?_)
   refine Wc.seq (Wc.region rfl (Wl.q rfl (Qy.assign rfl) (Wl.done (Ar.next (Wc.ret (Ar.passRet ?_))))))
   rotate_left
   refine Wc.skip (Ar.next (Wc.seq (Wc.region rfl (Wl.q rfl (Qy.loadAll 0 T.agg25 rfl rfl rfl) (Wl.q rfl (Qy.move rfl) ?_)))))
   rotate_left
   · rcases hc1 with (h | h) | h
     · exact absurd hRq h
     · exact absurd hqi h
     · omega
   refine Wl.call 10 rfl T.fn57 rfl (follow_some _ p _ _ _ _ _ _ r ls _ hc ho hAg hrs hev hN9 hR (by omega) (by omega) os hf) (tags_of trivial) (fun v8 G8 Ho8 hle8 hp => ?_)
   obtain ⟨sv8, xo, xc, xl, rfl, hxA, hxG, rfl⟩ := hp
   replace hc2 := hc2.up hle8
   replace ho2 := ho2.up hle8
   replace hAg := hAg.up hle8
   replace hrs := hrs.up hle8
   refine Wl.q rfl (Qy.move rfl) (Wl.q rfl (Qy.extract rfl rfl) (Wl.q rfl (Qy.extract rfl rfl) (Wl.q rfl (Qy.extract rfl rfl) (Wl.q rfl (Qy.assign rfl) (Wl.q rfl (Qy.assign rfl) (Wl.q rfl (Qy.assign rfl) (Wl.done (Ar.next (Wc.seq (Wc.seq (Wc.region rfl (Wl.q rfl (Qy.move rfl) ?_))))))))))))
   refine Wl.q rfl (Qy.geq rfl rfl) (Wl.done (Ar.next (Wc.condN rfl (by first | assumption | omega) ?_)))
   refine Wc.skip (Ar.next (Wc.seq (Wc.region rfl (Wl.q rfl (Qy.loadAll 1 T.agg25 rfl rfl rfl) (Wl.q rfl (Qy.move rfl) ?_)))))
   refine Wl.call 10 rfl T.fn57 rfl (follow_some _ q _ _ _ _ _ _ r ls _ hc2 ho2 hAg hrs hev hN9 hRq (by omega) (by omega) os hf2) (tags_of trivial) (fun v9 G9 Ho9 hle9 hp => ?_)
   obtain ⟨sv9, yo, yc, yl, rfl, hyA, hyG, rfl⟩ := hp
   replace hxA := hxA.up hle9
   replace hxG := hxG.up hle9
   have hxl := hxG.1
   have hyl := hyG.1
   clear hc1
   refine Wl.q rfl (Qy.move rfl) (Wl.q rfl (Qy.extract rfl rfl) (Wl.q rfl (Qy.extract rfl rfl) (Wl.q rfl (Qy.extract rfl rfl) (Wl.q rfl (Qy.assign rfl) (Wl.q rfl (Qy.assign rfl) (Wl.q rfl (Qy.assign rfl) (Wl.done (Ar.next (Wc.seq (Wc.seq (Wc.region rfl (Wl.q rfl (Qy.move rfl) ?_))))))))))))
   refine Wl.q rfl (Qy.geq rfl rfl) (Wl.q rfl (Qy.move rfl) (Wl.no 53 rfl (by first | assumption | omega) ?_))
   refine Wl.want rfl rfl (Wl.q rfl (Qy.move rfl) (Wl.want rfl rfl (Wl.q rfl (Qy.len T.sl42 rfl) (Wl.want rfl rfl (Wl.q rfl (Qy.move rfl) (Wl.want rfl rfl (Wl.q rfl (Qy.len T.sl42 rfl) (Wl.want rfl rfl (Wl.q rfl (Qy.neq rfl rfl) (Wl.q rfl (Qy.pick rfl rfl) (Wl.done ?_)))))))))))
   refine Ar.next (Wc.condN rfl (by first | assumption | omega) ?_)
   refine Wc.skip (Ar.next (Wc.seq (Wc.seq (Wc.region rfl (Wl.q rfl (Qy.assign rfl) (Wl.done (Ar.next (Wc.block ?_))))))))
   refine Wc.loop (ι := Nat) (fun k => ([(14, .int .i64 (k : Int)), (13, Go.Value.slice yo (List.length yl) yc), (10, Go.Value.slice xo (List.length xl) xc)], [(1, Option.some b2, Go.Obj.cells #[Go.Value.int Go.IntKind.i64 (PV.ins q), Go.Value.int Go.IntKind.i64 (PV.regs q), Go.Value.slice bc (List.length (PV.code q)) dc, Go.Value.slice bo (List.length (PV.outs q)) do_] 25), (0, Option.some b1, Go.Obj.cells #[Go.Value.int Go.IntKind.i64 (PV.ins p), Go.Value.int Go.IntKind.i64 (PV.regs p), Go.Value.slice ac (List.length (PV.code p)) cc, Go.Value.slice ao (List.length (PV.outs p)) co] 25)])) (fun k => k ≤ xl.length) (fun k => xl.length - k) (0) (Nat.zero_le _) ⟨rfl, rfl, rfl, trivial⟩ ⟨rfl, rfl, trivial⟩ (fun k => fun (hk : k ≤ xl.length) => ?_)
   rcases Nat.lt_or_ge k xl.length with hqx | hqx
   · have hxR := hxG.at (m := (k : Int)) (by omega)
     have hyR := hyG.at (m := (k : Int)) (by omega)
     obtain ⟨hbL, hbB⟩ := heo.at (k := (k : Int)) (by omega)
     have hmm : 4 + 5 * p.code.length ≤ 1073741824 := by omega
     have hnx : (xl[((k : Nat) : Int).toNat]?.getD default).n ≤ 1048576 := by rw [hxR.len, hbL]; exact hN9
     have hny : (yl[((k : Nat) : Int).toNat]?.getD default).n ≤ 1048576 := by rw [hyR.len, hbL]; exact hN9
     refine Wc.seq (Wc.seq (Wc.region rfl (Wl.q rfl (Qy.move rfl) (Wl.q rfl (Qy.move rfl) (Wl.q rfl (Qy.len T.sl42 rfl) (Wl.q rfl (Qy.lss rfl rfl) (Wl.done (Ar.next (Wc.condP rfl (by first | assumption | omega) ?_)))))))))
     refine Wc.skip (Ar.next (Wc.seq (Wc.block (Wc.seq (Wc.draw [0, 1] [] T.mixed rfl ?_)))))
     refine Gm.q 0 [] (by kernel_rfl) rfl rfl (Qy.move rfl) (Gm.q 1 [] (by kernel_rfl) rfl rfl (Qy.move rfl) (Gm.q 2 [] (by kernel_rfl) rfl rfl (Qy.at (α := SV) T.sl42 rfl rfl (by assumption) (by omega)) ?_))
     refine Gm.q 3 [0] (by kernel_rfl) rfl rfl (Qy.loadG T.one80 rfl (Arr.cell (by assumption) (by omega) 0 rfl rfl)) ?_
     refine Gm.q 4 [] (by kernel_rfl) rfl rfl (Qy.move rfl) (Gm.q 5 [] (by kernel_rfl) rfl rfl (Qy.move rfl) (Gm.q 6 [] (by kernel_rfl) rfl rfl (Qy.at (α := SV) T.sl42 rfl rfl (by assumption) (by omega)) ?_))
     refine Gm.q 7 [0] (by kernel_rfl) rfl rfl (Qy.loadG T.one80 rfl (Arr.cell (by assumption) (by omega) 0 rfl rfl)) ?_
     refine Gm.one 8 ⟨rfl, rfl, trivial⟩ (by first | exact Imm.le_refl _ | assumption) (by kernel_rfl) rfl ?_
     refine Wl.call0 rfl T.fn58 rfl (row_same _ _ _ _ _ hxR hyR _ hmm hbB hbB hnx hny) ?_
     refine Wl.on0 ?_
     refine Gm.q 9 [] (by kernel_rfl) rfl rfl (Qy.notD rfl) ?_
     refine Gm.doneA (by kernel_rfl) ⟨rfl, rfl, trivial⟩ (by first | exact Imm.le_refl _ | assumption) ?_
     refine Ar.next ?_
     refine Wc.cond rfl (fun hc1 => ?_) (fun hc1 => ?_)
     refine Wc.seq (Wc.region rfl (Wl.q rfl (Qy.assign rfl) (Wl.done (Ar.next (Wc.ret ?_)))))
     refine Ar.outRet ?_
     refine Ar.passRet ?_
     refine Ar.passRet ?_
     refine Ar.outRet ?_
     refine Ar.passRet ?_
     rotate_left
     refine Wc.skip ?_
     refine Ar.outNormal ?_
     refine Ar.next (Wc.region rfl (Wl.q rfl (Qy.move rfl) (Wl.q rfl (Qy.add rfl rfl (by omega)) ?_)))
     refine Wl.q rfl (Qy.assign rfl) (Wl.done ?_)
     rotate_left
     · exact absurd rfl hc1
     refine Ar.again (k + 1) ?_ ?_ rfl ⟨rfl, rfl, rfl, trivial⟩ ⟨rfl, rfl, trivial⟩
     · exact hqx
     · show xl.length - (k + 1) < xl.length - k
       omega
   · refine Wc.seq (Wc.seq (Wc.region rfl (Wl.q rfl (Qy.move rfl) (Wl.q rfl (Qy.move rfl) (Wl.q rfl (Qy.len T.sl42 rfl) (Wl.q rfl (Qy.lss rfl rfl) (Wl.done (Ar.next (Wc.condN rfl (by first | assumption | omega) ?_)))))))))
     refine Wc.exit (Ar.passExit ?_)
     refine Ar.passExit ?_
     refine Ar.here ?_
     refine Ar.next (Wc.seq (Wc.region rfl (Wl.q rfl (Qy.assign rfl) (Wl.done (Ar.next (Wc.ret ?_))))))
     refine Ar.out1 (.inr rfl) (Ho := []) rfl (.tmp rfl) trivial ?_
     exact ⟨rfl, rfl⟩
end Go.Proofs.YtbppmiimeccclaaDoor
set_option maxRecDepth 100000
set_option linter.unusedVariables false
namespace Go.Proofs.YtbppmiimeccclaaDoor
open Go Go.Sl
set_option maxHeartbeats 4000000
attribute [local irreducible] neededP rightP lifeP
theorem own_cap {α : Type} [Cells α] {a : Option Addr} {c : Nat} {xs : List α} {junk : List Value} (h : OwnA a c xs junk) : c ≤ 9223372036854775807 := by
 rcases h with ⟨_, _, _, h⟩ | ⟨b, _, _, _, h⟩
 · omega
 · simp only [maxLen] at h; omega
theorem c20 (G : Imm) (p : PV) (ac ao : Option Addr) (cc co : Nat) :
 Does Tryd.prog 20 [.agg #[.int .i64 p.ins, .int .i64 p.regs, .slice ac p.code.length cc, .slice ao p.outs.length co]] G [] (fun v G' Ho => v = .bool (decide (p = ⟨0, 0, [], []⟩)) ∧ G' = G ∧ Ho = []) := by
 refine Does.enter Tryd.func20 rfl Tryd.ntmps20 rfl (fun w => ?_)
 refine Wc.seq (Wc.region rfl ?_)
 refine Wl.box 0 rfl rfl rfl (fun b1 => ?_)
 refine Wl.q rfl (Qy.assign rfl) (Wl.done (Ar.next (Wc.seq (Wc.region rfl (Wl.q rfl (Qy.fieldAddr T.fa25_0 rfl) (Wl.q rfl (Qy.load 0 T.one3 rfl rfl rfl) (Wl.q rfl (Qy.eql rfl rfl) (Wl.q rfl (Qy.move rfl) ?_))))))))
 apply Wl.joinAnd 4 6 10 rfl
 intro hg1
 refine Wl.want rfl rfl (Wl.q rfl (Qy.fieldAddr T.fa25_1 rfl) (Wl.want rfl rfl (Wl.q rfl (Qy.load 0 T.one3 rfl rfl rfl) (Wl.want rfl rfl (Wl.q rfl (Qy.eql rfl rfl) (Wl.q rfl (Qy.pick rfl rfl) ?_))))))
 exact Wl.back 4 0 rfl rfl rfl rfl rfl
 intro hg1
 refine Wl.pass rfl rfl rfl (Wl.pass rfl rfl rfl (Wl.pass rfl rfl rfl (Wl.q rfl (Qy.pick rfl rfl) ?_)))
 exact Wl.back 4 0 rfl rfl rfl rfl rfl
 refine Wl.q rfl (Qy.move rfl) ?_
 apply Wl.joinAnd 5 11 16 rfl
 intro hg1
 refine Wl.want rfl rfl (Wl.q rfl (Qy.fieldAddr T.fa25_2 rfl) (Wl.want rfl rfl (Wl.q rfl (Qy.load 0 T.one22 rfl rfl rfl) (Wl.want rfl rfl (Wl.q rfl (Qy.len T.sl22 rfl) (Wl.want rfl rfl (Wl.q rfl (Qy.eql rfl rfl) (Wl.q rfl (Qy.pick rfl rfl) ?_))))))))
 exact Wl.back 5 0 rfl rfl rfl rfl rfl
 intro hg1
 refine Wl.pass rfl rfl rfl (Wl.pass rfl rfl rfl (Wl.pass rfl rfl rfl (Wl.pass rfl rfl rfl (Wl.q rfl (Qy.pick rfl rfl) ?_))))
 exact Wl.back 5 0 rfl rfl rfl rfl rfl
 refine Wl.q rfl (Qy.move rfl) ?_
 apply Wl.joinAnd 5 17 22 rfl
 intro hg1
 refine Wl.want rfl rfl (Wl.q rfl (Qy.fieldAddr T.fa25_3 rfl) (Wl.want rfl rfl (Wl.q rfl (Qy.load 0 T.one23 rfl rfl rfl) (Wl.want rfl rfl (Wl.q rfl (Qy.len T.sl23 rfl) (Wl.want rfl rfl (Wl.q rfl (Qy.eql rfl rfl) (Wl.q rfl (Qy.pick rfl rfl) ?_))))))))
 exact Wl.back 5 0 rfl rfl rfl rfl rfl
 intro hg1
 refine Wl.pass rfl rfl rfl (Wl.pass rfl rfl rfl (Wl.pass rfl rfl rfl (Wl.pass rfl rfl rfl (Wl.q rfl (Qy.pick rfl rfl) ?_))))
 exact Wl.back 5 0 rfl rfl rfl rfl rfl
 refine Wl.q rfl (Qy.assign rfl) (Wl.done (Ar.next (Wc.ret ?_)))
 refine Ar.out1 (.inr rfl) (Ho := []) rfl (.tmp rfl) trivial ?_
 refine ⟨?_, rfl, rfl⟩
 cases p
 simp [and_assoc]
theorem c27 (G : Imm) (p : PV) (bc bo : Option Addr) (dc do_ : Nat) (j1 j2 : List Value) (h1 : OwnA bc dc p.code j1) (h2 : OwnA bo do_ p.outs j2) :
 Does Tryd.prog 27 [.agg #[.int .i64 p.ins, .int .i64 p.regs, .slice bc p.code.length dc, .slice bo p.outs.length do_]] G [(0, bc.map (·.block), Row 55 p.code j1), (1, bo.map (·.block), Row 3 p.outs j2)] (fun v G' Ho => v = .tuple #[] ∧ Ho = [] ∧ G' = G) := by
 have hl1 := h1.le
 have hl2 := h2.le
 refine Does.enter Tryd.func27 rfl Tryd.ntmps27 rfl (fun w => ?_)
 refine Wc.seq (Wc.region rfl ?_)
 refine Wl.box 2 rfl rfl rfl (fun b1 => ?_)
 refine Wl.done (Ar.next (Wc.seq (Wc.draw [1, 0, 2] [] T.mixed rfl ?_)))
 refine Gm.q 0 [] (by kernel_rfl) rfl rfl (Qy.fieldAddr T.fa25_2 rfl) (Gm.q 1 [2] (by kernel_rfl) rfl rfl (Qy.load 2 T.one22 rfl rfl rfl) (Gm.q 2 [] (by kernel_rfl) rfl rfl (Qy.fieldAddr T.fa25_2 rfl) (Gm.q 3 [2] (by kernel_rfl) rfl rfl (Qy.load 2 T.one22 rfl rfl rfl) ?_)))
 refine Gm.q 4 [] (by kernel_rfl) rfl rfl (Qy.cap T.sl22 rfl) ?_
 refine Gm.q 5 [] (by kernel_rfl) rfl rfl (Qy.cutH T.sl22 rfl rfl (by omega)) ?_
 refine Gm.q 6 [] (by kernel_rfl) rfl rfl (Qy.fieldAddr T.fa25_3 rfl) (Gm.q 7 [2] (by kernel_rfl) rfl rfl (Qy.load 2 T.one23 rfl rfl rfl) (Gm.q 8 [] (by kernel_rfl) rfl rfl (Qy.fieldAddr T.fa25_3 rfl) (Gm.q 9 [2] (by kernel_rfl) rfl rfl (Qy.load 2 T.one23 rfl rfl rfl) ?_)))
 refine Gm.q 10 [] (by kernel_rfl) rfl rfl (Qy.cap T.sl23 rfl) ?_
 refine Gm.q 11 [] (by kernel_rfl) rfl rfl (Qy.cutH T.sl23 rfl rfl (by omega)) ?_
 refine Gm.q 12 [] (by kernel_rfl) rfl rfl (Qy.assign rfl) (Gm.q 13 [] (by kernel_rfl) rfl rfl (Qy.assign rfl) (Gm.doneA (by kernel_rfl) ⟨rfl, rfl, rfl, trivial⟩ (by first | exact Imm.le_refl _ | assumption) ?_))
 refine Ar.next (Wc.seq (Wc.seq (Wc.region rfl (Wl.q rfl (Qy.assign rfl) (Wl.done (Ar.next (Wc.block ?_)))))))
 rw [subA_zero_own h1, subA_zero_own h2]
 have hB0 := h1.blkOf
 have hC0 := h2.blkOf
 have hm1 := own_cap h1
 have hm2 := own_cap h2
 refine Wc.loop (ι := Nat × List Value) (fun (i, cs) => ([(4, .int .i64 (i : Int)), (3, Go.Value.slice bo (Int.toNat (↑do_ : Int)) do_), (2, Go.Value.slice bc (Int.toNat (↑dc : Int)) dc)], [(0, bc.map (·.block), .cells cs.toArray 55), (2, Option.some b1, Go.Obj.cells #[Go.Value.int Go.IntKind.i64 (PV.ins p), Go.Value.int Go.IntKind.i64 (PV.regs p), Go.Value.slice bc (List.length (PV.code p)) dc, Go.Value.slice bo (List.length (PV.outs p)) do_] 25), (1, Option.map (fun x => Go.Addr.block x) bo, Go.Sl.Row (α := Int) 3 (PV.outs p) (j2))])) (fun (i, cs) => i ≤ dc ∧ Blk bc dc 5 cs) (fun (i, cs) => dc - i) ((0, _)) (⟨Nat.zero_le _, hB0⟩) ⟨rfl, rfl, rfl, trivial⟩ ⟨rfl, rfl, rfl, trivial⟩ (fun ⟨i, cs⟩ => fun (hk : i ≤ dc ∧ Blk bc dc 5 cs) => ?_)
 obtain ⟨hi1, hB⟩ := hk
 have hcap := hB.2
 rcases Nat.lt_or_ge i dc with hil | hil
 · refine Wc.seq (Wc.seq (Wc.region rfl (Wl.q rfl (Qy.move rfl) (Wl.q rfl (Qy.move rfl) (Wl.q rfl (Qy.len T.sl22 rfl) (Wl.q rfl (Qy.lss rfl rfl) (Wl.done (Ar.next (Wc.condP rfl (by first | assumption | omega) ?_)))))))))
   refine Wc.skip (Ar.next (Wc.seq (Wc.block (Wc.region rfl (Wl.q rfl (Qy.move rfl) (Wl.q rfl (Qy.move rfl) (Wl.q rfl (Qy.build (cs := [_, _, _, _, _]) T.st55 rfl rfl rfl) ?_)))))))
   refine Wl.q rfl (Qy.indexAddrKn T.sl22 rfl rfl hB (by omega) (by omega)) ?_
   skip
   refine Wl.storeKj (m := (i : Int)) (sz := 5) (vs := [.int .i64 55, .int .i64 0, .int .i64 0, .int .i64 0, .int .i64 0]) 0 0 5 T.size55 rfl rfl rfl rfl rfl rfl hB (by omega) (by omega) (fun cs1 hB1 => ?_)
   refine Wl.done ?_
   refine Ar.outNormal ?_
   refine Ar.next (Wc.region rfl (Wl.q rfl (Qy.move rfl) (Wl.q rfl (Qy.add rfl rfl (by omega)) ?_)))
   refine Wl.q rfl (Qy.assign rfl) (Wl.done ?_)
   refine Ar.again ((i + 1, cs1)) ?_ ?_ rfl ⟨rfl, rfl, rfl, trivial⟩ ⟨rfl, rfl, rfl, trivial⟩
   · exact ⟨hil, hB1⟩
   · show dc - (i + 1) < dc - i
     omega
 · refine Wc.seq (Wc.seq (Wc.region rfl (Wl.q rfl (Qy.move rfl) (Wl.q rfl (Qy.move rfl) (Wl.q rfl (Qy.len T.sl22 rfl) (Wl.q rfl (Qy.lss rfl rfl) (Wl.done (Ar.next (Wc.condN rfl (by first | assumption | omega) ?_)))))))))
   refine Wc.exit (Ar.passExit ?_)
   refine Ar.passExit ?_
   refine Ar.here ?_
   refine Ar.next (Wc.seq (Wc.region rfl (Wl.q rfl (Qy.assign rfl) (Wl.done (Ar.next (Wc.block ?_))))))
   refine Wc.loop (ι := Nat × List Value) (fun (q, ds) => ([(5, .int .i64 (q : Int)), (3, Go.Value.slice bo (Int.toNat (↑do_ : Int)) do_)], [(1, bo.map (·.block), .cells ds.toArray 3), (0, Option.map (fun x => Go.Addr.block x) bc, Go.Obj.cells (List.toArray cs) 55), (2, Option.some b1, Go.Obj.cells #[Go.Value.int Go.IntKind.i64 (PV.ins p), Go.Value.int Go.IntKind.i64 (PV.regs p), Go.Value.slice bc (List.length (PV.code p)) dc, Go.Value.slice bo (List.length (PV.outs p)) do_] 25)])) (fun (q, ds) => q ≤ do_ ∧ Blk bo do_ 1 ds) (fun (q, ds) => do_ - q) ((0, _)) (⟨Nat.zero_le _, hC0⟩) ⟨rfl, rfl, trivial⟩ ⟨rfl, rfl, rfl, trivial⟩ (fun ⟨q, ds⟩ => fun (hk : q ≤ do_ ∧ Blk bo do_ 1 ds) => ?_)
   obtain ⟨hq1, hC⟩ := hk
   rcases Nat.lt_or_ge q do_ with hql | hql
   · refine Wc.seq (Wc.seq (Wc.region rfl (Wl.q rfl (Qy.move rfl) (Wl.q rfl (Qy.move rfl) (Wl.q rfl (Qy.len T.sl23 rfl) (Wl.q rfl (Qy.lss rfl rfl) (Wl.done (Ar.next (Wc.condP rfl (by first | assumption | omega) ?_)))))))))
     refine Wc.skip (Ar.next (Wc.seq (Wc.block (Wc.region rfl (Wl.q rfl (Qy.move rfl) (Wl.q rfl (Qy.move rfl) (Wl.q rfl (Qy.indexAddrKn T.sl23 rfl rfl hC (by omega) (by omega)) ?_)))))))
     skip
     refine Wl.storeKj (m := (q : Int)) (sz := 1) (vs := [.int .i64 (-9)]) 1 0 1 T.size3 rfl rfl rfl rfl rfl rfl hC (by omega) (by omega) (fun ds1 hC1 => ?_)
     refine Wl.done ?_
     refine Ar.outNormal ?_
     refine Ar.next (Wc.region rfl (Wl.q rfl (Qy.move rfl) (Wl.q rfl (Qy.add rfl rfl (by omega)) ?_)))
     refine Wl.q rfl (Qy.assign rfl) (Wl.done ?_)
     refine Ar.again ((q + 1, ds1)) ?_ ?_ rfl ⟨rfl, rfl, trivial⟩ ⟨rfl, rfl, rfl, trivial⟩
     · exact ⟨hql, hC1⟩
     · show do_ - (q + 1) < do_ - q
       omega
   · refine Wc.seq (Wc.seq (Wc.region rfl (Wl.q rfl (Qy.move rfl) (Wl.q rfl (Qy.move rfl) (Wl.q rfl (Qy.len T.sl23 rfl) (Wl.q rfl (Qy.lss rfl rfl) (Wl.done (Ar.next (Wc.condN rfl (by first | assumption | omega) ?_)))))))))
     refine Wc.exit (Ar.passExit ?_)
     refine Ar.passExit ?_
     refine Ar.here ?_
     refine Ar.out0 (.inl rfl) (Ho := []) rfl trivial ?_
     exact ⟨rfl, rfl, rfl⟩
end Go.Proofs.YtbppmiimeccclaaDoor
set_option maxRecDepth 100000
set_option linter.unusedVariables false
namespace Go.Proofs.YtbppmiimeccclaaDoor
open Go Go.Sl
set_option maxHeartbeats 4000000
theorem c76 (G : Imm) (a : Option Addr) (c : Nat) (xs : List Sl.Instr) (hx : Arr G a xs) (hl : xs.length ≤ 1099511627776) :
 Does Tryd.prog 76 [.slice a xs.length c] G [] (fun v G' Ho => ∃ b d j, v = .slice b xs.length d ∧ OwnA b d xs j ∧ Ho = [(0, b.map (·.block), Row 55 xs j)] ∧ G' = G) := by
 refine Does.enter Tryd.func76 rfl Tryd.ntmps76 rfl (fun w => ?_)
 refine Wc.seq (Wc.region rfl (Wl.q rfl (Qy.assign rfl) (Wl.done (Ar.next (Wc.seq (Wc.seq (Wc.region rfl (Wl.q rfl (Qy.move rfl) (Wl.q rfl (Qy.eqlSliceNil T.sl22 rfl rfl) ?_)))))))))
 refine Wl.done (Ar.next ?_)
 refine Wc.cond rfl (fun hc1 => ?_) (fun hc1 => ?_)
 refine Wc.seq (Wc.region rfl (Wl.q rfl (Qy.assign rfl) (Wl.done (Ar.next (Wc.ret (Ar.passRet ?_))))))
 rotate_left
 refine Wc.skip (Ar.next (Wc.seq (Wc.region rfl ?_)))
 refine Wl.lit0 0 rfl T.sl22 (fun b1 => ?_)
 refine Wl.q rfl (Qy.move rfl) ?_
 rotate_left
 · subst hc1
   have hn : xs = [] := by
    rcases hx.2 with h | ⟨b, o, h, _⟩
    · exact List.eq_nil_of_length_eq_zero h
    · cases h
   subst hn
   refine Ar.nilRow 0 (Row 55 ([] : List Sl.Instr) []) ?_
   refine Ar.out1 (.inr rfl) (Ho := Hp.only _ [0]) rfl (.tmp rfl) (Hp.sub_only _ _) ?_
   exact ⟨none, 0, [], rfl, OwnA.nil, rfl, rfl⟩
 · refine Wl.reH 0 (Row 55 ([] : List Sl.Instr) []) rfl rfl ?_
   refine Wl.append (α := Sl.Instr) 0 rfl T.sl22 T.el55 rfl rfl rfl (OwnA.made (by simp)) (Src.arr (by assumption)) (by simp only [List.length_nil]; omega) (by simp only [List.length_nil, maxLen]; omega) (fun a1 c1 junk1 ho1 => ?_)
   refine Wl.q rfl (Qy.assign rfl) (Wl.done (Ar.next (Wc.ret ?_)))
   refine Ar.out1 (.inr rfl) (Ho := Hp.only _ [0]) rfl (.tmp rfl) (Hp.sub_only _ _) ?_
   exact ⟨_, _, _, rfl, ho1, rfl, rfl⟩
theorem c44 (G : Imm) (p : PV) (ac ao : Option Addr) (cc co : Nat) (hc : Arr G ac p.code) (ho : Arr G ao p.outs) (h1 : p.code.length ≤ 1099511627776) (h2 : p.outs.length ≤ 1099511627776) :
 Does Tryd.prog 44 [.agg #[.int .i64 p.ins, .int .i64 p.regs, .slice ac p.code.length cc, .slice ao p.outs.length co]] G [] (fun v G' Ho => ∃ bc bo dc do_ j1 j2, v = .agg #[.int .i64 p.ins, .int .i64 p.regs, .slice bc p.code.length dc, .slice bo p.outs.length do_] ∧
  OwnA bc dc p.code j1 ∧ OwnA bo do_ p.outs j2 ∧ Ho = [(0, bc.map (·.block), Row 55 p.code j1), (1, bo.map (·.block), Row 3 p.outs j2)] ∧ G' = G) := by
 refine Does.enter Tryd.func44 rfl Tryd.ntmps44 rfl (fun w => ?_)
 refine Wc.seq (Wc.region rfl ?_)
 refine Wl.box 0 rfl rfl rfl (fun b1 => ?_)
 refine Wl.alloc 1 rfl T.zero25 (fun b2 => ?_)
 refine Wl.done (Ar.next (Wc.seq (Wc.draw [0, 1] [(0, 9), (0, 7)] T.mixed rfl ?_)))
 refine Gm.q 0 [] (by kernel_rfl) rfl rfl (Qy.fieldAddr T.fa25_2 rfl) (Gm.q 1 [0] (by kernel_rfl) rfl rfl (Qy.load 0 T.one22 rfl rfl rfl) (Gm.q 3 [] (by kernel_rfl) rfl rfl (Qy.fieldAddr T.fa25_3 rfl) (Gm.q 4 [0] (by kernel_rfl) rfl rfl (Qy.load 0 T.one23 rfl rfl rfl) ?_)))
 refine Gm.one 2 ⟨rfl, rfl, trivial⟩ (by first | exact Imm.le_refl _ | assumption) (by kernel_rfl) rfl ?_
 refine Wl.call 2 rfl T.fn76 rfl (c76 _ _ _ _ (by assumption) (by omega)) (tags_of trivial) (fun v1 G1 Ho1 hle1 hp => ?_)
 obtain ⟨lb1, ld1, lj1, rfl, hlb1, rfl, rfl⟩ := hp
 refine Wl.on0 ?_
 refine Gm.q 6 [] (by kernel_rfl) rfl rfl (Qy.fieldAddr T.fa25_2 rfl) (Gm.one 5 ⟨rfl, rfl, trivial⟩ (by first | exact Imm.le_refl _ | assumption) (by kernel_rfl) rfl ?_)
 refine Wl.call 3 rfl T.fn32 rfl (c32 _ _ _ _ (by assumption) (by omega)) (tags_of trivial) (fun v2 G2 Ho2 hle2 hp => ?_)
 obtain ⟨lb2, ld2, lj2, rfl, hlb2, rfl, rfl⟩ := hp
 refine Wl.on0 ?_
 refine Gm.one 7 ⟨rfl, rfl, trivial⟩ (by first | exact Imm.le_refl _ | assumption) (by kernel_rfl) rfl ?_
 refine Wl.store 0 T.one22 rfl rfl rfl rfl rfl ?_
 refine Wl.on0 ?_
 refine Gm.q 8 [] (by kernel_rfl) rfl rfl (Qy.fieldAddr T.fa25_3 rfl) (Gm.one 9 ⟨rfl, trivial⟩ (by first | exact Imm.le_refl _ | assumption) (by kernel_rfl) rfl ?_)
 refine Wl.store 0 T.one23 rfl rfl rfl rfl rfl ?_
 refine Wl.on0 ?_
 refine Gm.doneA (by kernel_rfl) ⟨rfl, trivial⟩ (by first | exact Imm.le_refl _ | assumption) ?_
 refine Ar.next (Wc.seq (Wc.region rfl (Wl.q rfl (Qy.loadAll 0 T.agg25 rfl rfl rfl) ?_)))
 refine Wl.storeAll 1 T.size25 rfl rfl rfl rfl rfl rfl ?_
 refine Wl.done (Ar.next (Wc.ret (Ar.pick [2, 3, 1] (by decide) (Ar.out1 (.inr rfl) (Ho := Hp.only _ [0, 1]) rfl (.agg 2 rfl rfl T.agg25) (Hp.sub_only _ _) ?_))))
 exact ⟨_, _, _, _, _, _, rfl, hlb1, hlb2, rfl, rfl⟩
theorem c18 (G : Imm) (p : PV) (ac ao : Option Addr) (cc co : Nat) :
 Does Tryd.prog 18 [.agg #[.int .i64 p.ins, .int .i64 p.regs, .slice ac p.code.length cc, .slice ao p.outs.length co]] G [] (fun v G' Ho =>
  ∃ b, v = .func (.func 43) #[] #[.pointer (some ⟨b, 0, none⟩)] ∧ Ho = [] ∧ G' b = some (.cells [.int .i64 p.ins, .int .i64 p.regs, .slice ac p.code.length cc, .slice ao p.outs.length co].toArray 25)) := by
 refine Does.enter Tryd.func18 rfl Tryd.ntmps18 rfl (fun w => ?_)
 refine Wc.seq (Wc.region rfl ?_)
 refine Wl.box 0 rfl rfl rfl (fun b1 => ?_)
 refine Wl.q rfl (Qy.assign rfl) (Wl.done (Ar.next (Wc.seq (Wc.region rfl (Wl.q rfl (Qy.makeFunc rfl rfl) (Wl.q rfl (Qy.assign rfl) (Wl.done (Ar.next (Wc.ret (Ar.freeze 0 rfl (fun G' hle hb => ?_)))))))))))
 refine Ar.out1 (.inr rfl) (Ho := []) rfl (.tmp rfl) trivial ?_
 exact ⟨_, rfl, rfl, hb⟩
def Passes (G : Imm) (f : Nat) (p : PV) (ac ao : Option Addr) (cc co : Nat) (q : PV) : Prop :=
 Does Tryd.prog f [.agg #[.int .i64 p.ins, .int .i64 p.regs, .slice ac p.code.length cc, .slice ao p.outs.length co]] G [] (fun v G' Ho =>
  ∃ bc bo dc do_, v = .tuple #[.agg #[.int .i64 q.ins, .int .i64 q.regs, .slice bc q.code.length dc, .slice bo q.outs.length do_], .int .i64 0] ∧ Arr G' bc q.code ∧ Arr G' bo q.outs ∧ Ho = [])
theorem passes_of {G : Imm} {f : Nat} {p : PV} {ac ao : Option Addr} {cc co : Nat} {q : PV} (h : Does Tryd.prog f [.agg #[.int .i64 p.ins, .int .i64 p.regs, .slice ac p.code.length cc, .slice ao p.outs.length co]] G [] (fun v G' Ho =>
 ∃ bc bo dc do_ j1 j2, v = .tuple #[.agg #[.int .i64 q.ins, .int .i64 q.regs, .slice bc q.code.length dc, .slice bo q.outs.length do_], .int .i64 0] ∧
  OwnA bc dc q.code j1 ∧ OwnA bo do_ q.outs j2 ∧ Ho = [(0, bc.map (·.block), Row 55 q.code j1), (1, bo.map (·.block), Row 3 q.outs j2)] ∧ G' = G)) : Passes G f p ac ao cc co q := by
 refine (Does.frz2 (α := Sl.Instr) (β := Int) (E := 55) (E' := 3) (q := fun v a c xs b d ys => v = .tuple #[.agg #[.int .i64 q.ins, .int .i64 q.regs, .slice a q.code.length c, .slice b q.outs.length d], .int .i64 0] ∧ xs = q.code ∧ ys = q.outs)
  (h.mono fun v G' Ho _ ⟨bc, bo, dc, do_, j1, j2, g1, g2, g3, g4, g5⟩ => ⟨bc, dc, q.code, j1, bo, do_, q.outs, j2, ⟨g1, rfl, rfl⟩, g2, g3, g4, g5⟩)).mono
  fun v G' Ho _ ⟨a, c, xs, b, d, ys, ⟨g1, hx, hy⟩, h2, h3, h4⟩ => ?_
 subst hx hy
 exact ⟨a, b, c, d, g1, h2, h3, h4⟩
theorem c7A (G : Imm) (hT : TabOk G) (p : PV) (ac ao : Option Addr) (cc co : Nat) (hc : Arr G ac p.code) (ho : Arr G ao p.outs) (hR : rightP p = true) : Passes G 7 p ac ao cc co (foldP p) := by
 obtain ⟨f1, f2, f3, f4, f5, f6, f7, f8⟩ := right_facts hR
 exact passes_of (c7R G hT p ac ao cc co hc ho (by omega) (by omega) hR)
theorem c24A (G : Imm) (p : PV) (ac ao : Option Addr) (cc co : Nat) (hc : Arr G ac p.code) (ho : Arr G ao p.outs) (hR : rightP p = true) : Passes G 24 p ac ao cc co (passP p) := by
 obtain ⟨f1, f2, f3, f4, f5, f6, f7, f8⟩ := right_facts hR
 exact passes_of (c24R G p ac ao cc co hc ho (by omega) (by omega) hR)
theorem c25A (G : Imm) (p : PV) (ac ao : Option Addr) (cc co : Nat) (hc : Arr G ac p.code) (ho : Arr G ao p.outs) (hR : rightP p = true) : Passes G 25 p ac ao cc co (deadP p) := by
 obtain ⟨f1, f2, f3, f4, f5, f6, f7, f8⟩ := right_facts hR
 exact passes_of (c25R G p ac ao cc co hc ho (by omega) (by omega) hR)
theorem c23A (G : Imm) (p : PV) (ac ao : Option Addr) (cc co : Nat) (hc : Arr G ac p.code) (ho : Arr G ao p.outs) (hR : rightP p = true) : Passes G 23 p ac ao cc co (orderP p) := by
 obtain ⟨f1, f2, f3, f4, f5, f6, f7, f8⟩ := right_facts hR
 exact passes_of (c23R G p ac ao cc co hc ho (by omega) (by omega) hR)
end Go.Proofs.YtbppmiimeccclaaDoor
