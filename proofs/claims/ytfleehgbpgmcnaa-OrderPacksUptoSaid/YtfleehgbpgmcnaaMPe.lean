/- Parts of the proof (part 5): what the rows' text needs of the texts that lead to it. -/
import Derived.Test.YtfleehgbpgmcnaaMPd
set_option maxRecDepth 100000
set_option linter.unusedVariables false
namespace Go.Proofs.Ytfleehgbpgmcnaa
open Go Go.Sl
set_option maxHeartbeats 4000000
section
variable {P : Program} {B : Bs} {e : Env} {D : List Deferred} {H : Hp} {G : Imm}
theorem Qy.indexA {ty : TypeId} {T et : TypeId} {len i : Nat} {x y : Operand} {cs : List Value} {v : Value} (hT : P.underlying T = some (.array len et)) (h1 : P.plainKey et = true) (hs : (P.info? et).map (·.size) = some 1)
    (hx : e.ev x = some (.agg cs.toArray)) (hy : e.ev y = some (.int .i64 (i : Int))) (hi : i < len) (hv : cs[i]? = some v) : Qy P (.index T x y) ty e H G v := fun a w _ _ _ _ hh => by
  have hp : (part et cs.toArray i).run P w = .ok v w := by
    unfold Program.plainKey at h1
    cases hu : P.underlying et with
    | none => simp [hu] at h1
    | some d => cases d <;> simp [hu] at h1 <;> simp [part, isAgg, run_underlying hu, hv, Result.andThen]
  have hsz := Go.Sl.run_sizeOf (P := P) w hs
  have h2 : (0 : Int) ≤ (i : Int) ∧ (i : Int) < (len : Int) := by omega
  simp only [execOp, hh.eval hx, hh.eval hy, Instr.index, asIntOf, Sem.run_bind, Sem.run_pure, Result.andThen_ok, run_underlying hT]
  rw [if_pos h2]
  simp only [Sem.run_bind, hsz, Result.andThen_ok, Int.toNat_natCast, Nat.mul_one, hp, Sem.run_pure]
end
theorem und62 : Try.prog.underlying 62 = some (.array 2 3) := by kernel_rfl
theorem pk3 : Try.prog.plainKey 3 = true := by kernel_rfl
theorem size3 : (Try.prog.info? 3).map (·.size) = some 1 := by kernel_rfl
section
variable {P : Program} {B : Bs} {e : Env} {D : List Deferred} {H : Hp} {G : Imm}
theorem Wc.retag {r : Option Nat} {c : Code} {Q : Exit → Act → World → Prop} (t t' : Nat) {k : Option Nat} {o : Obj} (ht : H.get t = some (k, o)) (hn : Nat.beq t t' = false) (h : Wc r P c B ⟨e, D, (t', k, o) :: (t, none, o) :: H, G⟩ Q) : Wc r P c B ⟨e, D, H, G⟩ Q :=
  fun a w hh => h a w (retagH hh t t' ht (fun e => by subst e; simp at hn) (.inr trivial))
end
theorem needed_len9 (p : PV) : (neededP p).length = p.code.length := by unfold neededP; exact (needTo_len p _).2
def freesTo (l : Life) (k : Nat) (s : Pl) : Nat → Pl
  | 0 => s
  | 1 => freeAt l k s (l.a[((k : Nat) : Int).toNat]?.getD default)
  | _ => freeAt l k (freeAt l k s (l.a[((k : Nat) : Int).toNat]?.getD default)) (l.b[((k : Nat) : Int).toNat]?.getD default)
theorem sets_keep (p : PV) {k : Nat} : ∀ (j : Nat), k < j → j ≤ p.code.length → (lifeTo p j).sets[((k : Nat) : Int).toNat]?.getD default = (lifeTo p (k + 1)).sets[((k : Nat) : Int).toNat]?.getD default
  | 0, h, _ => absurd h (Nat.not_lt_zero _)
  | j + 1, h, hj => by
    by_cases hk : k = j
    · rw [hk]
    · rw [← sets_keep p j (by omega) (by omega)]
      show (if nAt p j = true then lifeStep (lifeTo p j) j (cAt p j) else lifeTo p j).sets[_]?.getD default = _
      split
      · show ((lifeTo p j).sets.set j _)[((k : Nat) : Int).toNat]?.getD default = _
        rw [List.getElem?_set, if_neg (by omega)]
      · rfl
theorem life_sets {p : PV} (hR : rightP p = true) {k : Nat} (hk : k < p.code.length) (hn : nAt p k = true) : (lifeP p).sets[((k : Nat) : Int).toNat]?.getD default = (lifeTo p k).till.length := by
  unfold lifeP
  rw [(outTo_same p _).2.2, sets_keep p p.code.length hk (Nat.le_refl _)]
  show (if nAt p k = true then lifeStep (lifeTo p k) k (cAt p k) else lifeTo p k).sets[_]?.getD default = _
  rw [if_pos hn]
  exact set_back_i (by rw [(lifeTo_ok hR k (by omega)).sl]; exact hk)
theorem map_take_next {l : List Int} {f : Int → Int} {k : Nat} (h : k < l.length) : (l.map f).take (k + 1) = (l.map f).take k ++ [f (l[((k : Nat) : Int).toNat]?.getD default)] := by
  rw [List.take_succ_eq_append_getElem (by rw [List.length_map]; exact h), Int.toNat_natCast, List.getElem?_eq_getElem h, List.getElem_map]; rfl
theorem lay_keys (l : Life) : ∀ (n : Nat) (v : Int), (n : Int) ≤ v → mget (layTo l n).at_ v = none
  | 0, v, _ => rfl
  | n + 1, v, h => by
    show mget (mput (layTo l n).at_ n _) v = none
    rw [mget_mput, if_neg (by omega), lay_keys l n v (by omega)]
theorem lay0_keys {p : PV} {s : Pl} (hs : s = lay0 p (lifeP p)) (h : 1 ≤ p.ins) (v : Int) (hv : (lifeTo p 0).till.length ≤ v) : mget s.at_ v = none := by
  have h1 : (lifeTo p 0).till.length = p.ins.toNat + 1 := List.length_replicate
  rw [h1] at hv
  rw [hs]
  unfold lay0
  split
  · show mget (mput (layTo (lifeP p) p.ins.toNat).at_ p.ins _) v = none
    rw [mget_mput, if_neg (by omega), lay_keys _ _ v (by omega)]
  · exact lay_keys _ _ v (by omega)
attribute [local irreducible] lifeP neededP rightP least
theorem c42R (G : Imm) (p : PV) (ac ao : Option Addr) (cc co : Nat) (hc : Arr G ac p.code) (ho : Arr G ao p.outs) (h1 : p.code.length ≤ 1099511627776) (h2 : p.outs.length ≤ 1099511627776) (hR : rightP p = true) :
    Does Try.prog 42 [.agg #[.int .i64 p.ins, .int .i64 p.regs, .slice ac p.code.length cc, .slice ao p.outs.length co]] G [] (fun v G' Ho =>
      ∃ bc bo dc do_ j1 j2, v = .tuple #[.agg #[.int .i64 (orderP p).ins, .int .i64 (orderP p).regs, .slice bc (orderP p).code.length dc, .slice bo (orderP p).outs.length do_], .int .i64 0] ∧
        OwnA bc dc (orderP p).code j1 ∧ OwnA bo do_ (orderP p).outs j2 ∧ Ho = [(0, bc.map (·.block), Row 34 (orderP p).code j1), (1, bo.map (·.block), Row 3 (orderP p).outs j2)] ∧ G' = G) := by
  obtain ⟨r1, r2, r3, r4, r5, r6, r7, r8⟩ := right_facts hR
  have hlok := lifeP_ok hR
  obtain ⟨k1, k2, k3, k4, k5, k6, k7, k8, k9, k10, k11⟩ := hlok
  refine Does.enter Try.func42 rfl Try.ntmps42 rfl (fun w => ?_)
  refine Wc.seq ?_
  refine Wc.region rfl ?_
  refine Wl.box 0 rfl rfl rfl (fun b1 => ?_)
  refine Wl.alloc 1 rfl T.zero25 (fun b2 => ?_)
  refine Wl.q rfl (Qy.assign rfl) ?_
  refine Wl.done ?_
  refine Ar.next ?_
  refine Wc.seq ?_
  refine Wc.region rfl ?_
  refine Wl.q rfl (Qy.loadAll 0 T.agg25 rfl rfl rfl) ?_
  refine Wl.call 2 rfl T.fn73 rfl (c73 _ _ _ _ _ _ (by assumption) (by assumption) (by omega) (by omega) hR) (tags_of trivial) (fun v1 G1 Ho1 hle1 hp => ?_)
  obtain ⟨lu1, lnb1, lnc1, lnj1, lx1, ly1, lz1, ln1, loo1, lod1, loj1, lo1, ld1, lj1, rfl, hln1, hlx1, hly1, hlz1, hlo1, hlt1, rfl, rfl⟩ := hp
  refine Wl.q rfl (Qy.move rfl) ?_
  refine Wl.q rfl (Qy.extract rfl rfl) ?_
  refine Wl.q rfl (Qy.extract rfl rfl) ?_
  refine Wl.q rfl (Qy.assign rfl) ?_
  refine Wl.q rfl (Qy.assign rfl) ?_
  refine Wl.done ?_
  refine Ar.next ?_
  refine Wc.seq ?_
  refine Wc.seq ?_
  refine Wc.region rfl ?_
  refine Wl.q rfl (Qy.move rfl) ?_
  refine Wl.q rfl (Qy.neq rfl rfl) ?_
  refine Wl.done ?_
  refine Ar.next ?_
  refine Wc.condN rfl (by first | assumption | omega) ?_
  refine Wc.skip ?_
  refine Ar.next ?_
  refine Wc.seq ?_
  refine Wc.region rfl ?_
  refine Wl.makeMap (κ := Int) 9 rfl (fun b3 => ?_)
  refine Wl.q rfl (Qy.build (cs := [_, _]) T.st114 rfl rfl rfl) ?_
  refine Wl.box 10 rfl rfl rfl (fun b4 => ?_)
  refine Wl.q rfl (Qy.assign rfl) ?_
  refine Wl.done ?_
  refine Ar.next ?_
  refine Wc.seq ?_
  refine Wc.seq ?_
  refine Wc.region rfl ?_
  refine Wl.q rfl (Qy.fieldAddr T.fa25_0 rfl) ?_
  refine Wl.q rfl (Qy.load 0 T.one3 rfl rfl rfl) ?_
  refine Wl.q rfl (Qy.move rfl) ?_
  refine Wl.done ?_
  refine Ar.next ?_
  refine Wc.block ?_
  refine Wc.retag 9 11 rfl rfl ?_
  refine Wc.nilRow 12 (Row 4 ([] : List Bool) []) ?_
  refine Wc.loop (ι := Nat × Pl × (Option Addr × Nat × List Value)) (fun (v, s, (a, c, j)) => ([(30, .int .i64 (v : Int)), (29, Go.Value.int Go.IntKind.i64 (Go.Proofs.Ytfleehgbpgmcnaa.PV.ins p)), (6, Go.Value.pointer (Option.some (Go.Addr.mk b4 0 Option.none))), (4, Go.Value.pointer (Option.some (Go.Addr.mk lu1 0 Option.none))), (3, Go.Value.int Go.IntKind.i64 0), (2, Go.Value.pointer (Option.some (Go.Addr.mk b2 0 Option.none))), (1, Go.Value.pointer (Option.some (Go.Addr.mk b1 0 Option.none)))], [(10, some b4, .cells #[.map (some b3), .slice a s.free.length c] 114), (11, some b3, mapObj s.at_), (12, a.map (·.block), Row 4 s.free j), (2, Option.some lu1, Go.Obj.cells #[Go.Value.int Go.IntKind.i64 (Go.Proofs.Ytfleehgbpgmcnaa.PV.ins p), Go.Value.int Go.IntKind.i64 (Go.Proofs.Ytfleehgbpgmcnaa.PV.regs p), Go.Value.slice ac (List.length (Go.Proofs.Ytfleehgbpgmcnaa.PV.code p)) cc, Go.Value.slice ao (List.length (Go.Proofs.Ytfleehgbpgmcnaa.PV.outs p)) co, Go.Value.slice lnb1 (List.length (Go.Proofs.Ytfleehgbpgmcnaa.neededP p)) lnc1, Go.Value.slice (Option.some (Go.Addr.mk lx1 0 Option.none)) (List.length (Go.Proofs.Ytfleehgbpgmcnaa.Life.a (Go.Proofs.Ytfleehgbpgmcnaa.lifeP p))) ln1, Go.Value.slice (Option.some (Go.Addr.mk ly1 0 Option.none)) (List.length (Go.Proofs.Ytfleehgbpgmcnaa.Life.b (Go.Proofs.Ytfleehgbpgmcnaa.lifeP p))) ln1, Go.Value.slice (Option.some (Go.Addr.mk lz1 0 Option.none)) (List.length (Go.Proofs.Ytfleehgbpgmcnaa.Life.sets (Go.Proofs.Ytfleehgbpgmcnaa.lifeP p))) ln1, Go.Value.slice loo1 (List.length (Go.Proofs.Ytfleehgbpgmcnaa.Life.outs (Go.Proofs.Ytfleehgbpgmcnaa.lifeP p))) lod1, Go.Value.slice lo1 (List.length (Go.Proofs.Ytfleehgbpgmcnaa.Life.till (Go.Proofs.Ytfleehgbpgmcnaa.lifeP p))) ld1] 117), (3, Option.map (fun x => Go.Addr.block x) lnb1, Go.Sl.Row (α := Bool) 4 (Go.Proofs.Ytfleehgbpgmcnaa.neededP p) (lnj1)), (4, Option.some lx1, Go.Sl.Row (α := Int) 3 (Go.Proofs.Ytfleehgbpgmcnaa.Life.a (Go.Proofs.Ytfleehgbpgmcnaa.lifeP p)) ([])), (5, Option.some ly1, Go.Sl.Row (α := Int) 3 (Go.Proofs.Ytfleehgbpgmcnaa.Life.b (Go.Proofs.Ytfleehgbpgmcnaa.lifeP p)) ([])), (6, Option.some lz1, Go.Sl.Row (α := Int) 3 (Go.Proofs.Ytfleehgbpgmcnaa.Life.sets (Go.Proofs.Ytfleehgbpgmcnaa.lifeP p)) ([])), (7, Option.map (fun x => Go.Addr.block x) loo1, Go.Sl.Row (α := Int) 3 (Go.Proofs.Ytfleehgbpgmcnaa.Life.outs (Go.Proofs.Ytfleehgbpgmcnaa.lifeP p)) (loj1)), (8, Option.map (fun x => Go.Addr.block x) lo1, Go.Sl.Row (α := Int) 3 (Go.Proofs.Ytfleehgbpgmcnaa.Life.till (Go.Proofs.Ytfleehgbpgmcnaa.lifeP p)) (lj1)), (1, Option.some b2, Go.Obj.cells #[Go.Value.int Go.IntKind.i64 0, Go.Value.int Go.IntKind.i64 0, Go.Value.slice Option.none 0 0, Go.Value.slice Option.none 0 0] 25), (0, Option.some b1, Go.Obj.cells #[Go.Value.int Go.IntKind.i64 (Go.Proofs.Ytfleehgbpgmcnaa.PV.ins p), Go.Value.int Go.IntKind.i64 (Go.Proofs.Ytfleehgbpgmcnaa.PV.regs p), Go.Value.slice ac (List.length (Go.Proofs.Ytfleehgbpgmcnaa.PV.code p)) cc, Go.Value.slice ao (List.length (Go.Proofs.Ytfleehgbpgmcnaa.PV.outs p)) co] 25)])) (fun (v, s, (a, c, j)) => (v : Int) ≤ p.ins ∧ s = layTo (lifeP p) v ∧ OwnA a c s.free j) (fun (v, s, (a, c, j)) => p.ins.toNat - v) ((0, ⟨[], []⟩, (none, 0, []))) (⟨by show (0 : Int) ≤ _; omega, rfl, OwnA.nil⟩) ⟨rfl, rfl, rfl, rfl, rfl, rfl, rfl, trivial⟩ ⟨rfl, rfl, rfl, rfl, rfl, rfl, rfl, rfl, rfl, rfl, rfl, rfl, trivial⟩ (fun ⟨v, s, (a, c, j)⟩ => fun (hk : (v : Int) ≤ p.ins ∧ s = layTo (lifeP p) v ∧ OwnA a c s.free j) => ?_)
  obtain ⟨hv1, hs, hoa⟩ := hk
  have hsl : s.free.length = v := by rw [hs]; exact layTo_len _ v
  by_cases hvi : (v : Int) < p.ins
  · refine Wc.seq ?_
    refine Wc.region rfl ?_
    refine Wl.q rfl (Qy.lss rfl rfl) ?_
    refine Wl.done ?_
    refine Ar.next ?_
    refine Wc.seq ?_
    refine Wc.condP rfl (by first | assumption | omega) ?_
    refine Wc.skip ?_
    refine Ar.next ?_
    refine Wc.seq ?_
    refine Wc.block ?_
    refine Wc.seq ?_
    refine Wc.region rfl ?_
    refine Wl.q rfl (Qy.move rfl) ?_
    refine Wl.q rfl (Qy.assign rfl) ?_
    refine Wl.done ?_
    refine Ar.next ?_
    refine Wc.region rfl ?_
    refine Wl.q rfl (Qy.move rfl) ?_
    refine Wl.q rfl (Qy.move rfl) ?_
    refine Wl.q rfl (Qy.move rfl) ?_
    refine Wl.q rfl (Qy.nilCheck rfl) ?_
    refine Wl.q rfl (Qy.fieldAddr T.fa117_6 rfl) ?_
    refine Wl.q rfl (Qy.load 2 T.one23 rfl rfl rfl) ?_
    refine Wl.q rfl (Qy.move rfl) ?_
    refine Wl.q rfl (Qy.indexAddrO (α := Int) T.sl23 rfl rfl (by assumption) (by omega)) ?_
    refine Wl.q rfl (Qy.loadO 8 0 T.one3 rfl rfl (by assumption) (by omega) rfl rfl) ?_
    refine Wl.call 10 rfl T.fn74 rfl (c74 _ s _ _ _ _ _ _ _ hoa (by omega)) (tags_of ⟨rfl, rfl, rfl, trivial⟩) (fun v2 G2 Ho2 hle2 hp => ?_)
    obtain ⟨pa2, pc2, pj2, rfl, hpo2, rfl, rfl⟩ := hp
    refine Wl.done ?_
    refine Ar.outNormal ?_
    refine Ar.next ?_
    refine Wc.region rfl ?_
    refine Wl.q rfl (Qy.add rfl rfl (by omega)) ?_
    refine Wl.q rfl (Qy.move rfl) ?_
    refine Wl.done ?_
    refine Ar.again ((v + 1, layP s v ((lifeP p).till[((v : Nat) : Int).toNat]?.getD default), (pa2, pc2, pj2))) ?_ ?_ rfl ⟨rfl, rfl, rfl, rfl, rfl, rfl, rfl, trivial⟩ ⟨rfl, rfl, rfl, rfl, rfl, rfl, rfl, rfl, rfl, rfl, rfl, rfl, trivial⟩
    · exact ⟨by omega, by rw [hs]; rfl, hpo2⟩
    · show p.ins.toNat - (v + 1) < p.ins.toNat - v
      omega
  · have hve : v = p.ins.toNat := by omega
    refine Wc.seq ?_
    refine Wc.region rfl ?_
    refine Wl.q rfl (Qy.lss rfl rfl) ?_
    refine Wl.done ?_
    refine Ar.next ?_
    refine Wc.seq ?_
    refine Wc.condN rfl (by first | assumption | omega) ?_
    refine Wc.exit ?_
    refine Ar.passExit ?_
    refine Ar.passExit ?_
    refine Ar.here ?_
    refine Ar.next ?_
    refine Wc.meet (ι := Pl × (Option Addr × Nat × List Value)) (fun (s0, (a0, c0, j0)) => ([(6, Go.Value.pointer (Option.some (Go.Addr.mk b4 0 Option.none))), (4, Go.Value.pointer (Option.some (Go.Addr.mk lu1 0 Option.none))), (3, Go.Value.int Go.IntKind.i64 0), (2, Go.Value.pointer (Option.some (Go.Addr.mk b2 0 Option.none))), (1, Go.Value.pointer (Option.some (Go.Addr.mk b1 0 Option.none)))], [(10, some b4, .cells #[.map (some b3), .slice a0 s0.free.length c0] 114), (11, some b3, mapObj s0.at_), (12, a0.map (·.block), Row 4 s0.free j0), (2, Option.some lu1, Go.Obj.cells #[Go.Value.int Go.IntKind.i64 (Go.Proofs.Ytfleehgbpgmcnaa.PV.ins p), Go.Value.int Go.IntKind.i64 (Go.Proofs.Ytfleehgbpgmcnaa.PV.regs p), Go.Value.slice ac (List.length (Go.Proofs.Ytfleehgbpgmcnaa.PV.code p)) cc, Go.Value.slice ao (List.length (Go.Proofs.Ytfleehgbpgmcnaa.PV.outs p)) co, Go.Value.slice lnb1 (List.length (Go.Proofs.Ytfleehgbpgmcnaa.neededP p)) lnc1, Go.Value.slice (Option.some (Go.Addr.mk lx1 0 Option.none)) (List.length (Go.Proofs.Ytfleehgbpgmcnaa.Life.a (Go.Proofs.Ytfleehgbpgmcnaa.lifeP p))) ln1, Go.Value.slice (Option.some (Go.Addr.mk ly1 0 Option.none)) (List.length (Go.Proofs.Ytfleehgbpgmcnaa.Life.b (Go.Proofs.Ytfleehgbpgmcnaa.lifeP p))) ln1, Go.Value.slice (Option.some (Go.Addr.mk lz1 0 Option.none)) (List.length (Go.Proofs.Ytfleehgbpgmcnaa.Life.sets (Go.Proofs.Ytfleehgbpgmcnaa.lifeP p))) ln1, Go.Value.slice loo1 (List.length (Go.Proofs.Ytfleehgbpgmcnaa.Life.outs (Go.Proofs.Ytfleehgbpgmcnaa.lifeP p))) lod1, Go.Value.slice lo1 (List.length (Go.Proofs.Ytfleehgbpgmcnaa.Life.till (Go.Proofs.Ytfleehgbpgmcnaa.lifeP p))) ld1] 117), (3, Option.map (fun x => Go.Addr.block x) lnb1, Go.Sl.Row (α := Bool) 4 (Go.Proofs.Ytfleehgbpgmcnaa.neededP p) (lnj1)), (4, Option.some lx1, Go.Sl.Row (α := Int) 3 (Go.Proofs.Ytfleehgbpgmcnaa.Life.a (Go.Proofs.Ytfleehgbpgmcnaa.lifeP p)) ([])), (5, Option.some ly1, Go.Sl.Row (α := Int) 3 (Go.Proofs.Ytfleehgbpgmcnaa.Life.b (Go.Proofs.Ytfleehgbpgmcnaa.lifeP p)) ([])), (6, Option.some lz1, Go.Sl.Row (α := Int) 3 (Go.Proofs.Ytfleehgbpgmcnaa.Life.sets (Go.Proofs.Ytfleehgbpgmcnaa.lifeP p)) ([])), (7, Option.map (fun x => Go.Addr.block x) loo1, Go.Sl.Row (α := Int) 3 (Go.Proofs.Ytfleehgbpgmcnaa.Life.outs (Go.Proofs.Ytfleehgbpgmcnaa.lifeP p)) (loj1)), (8, Option.map (fun x => Go.Addr.block x) lo1, Go.Sl.Row (α := Int) 3 (Go.Proofs.Ytfleehgbpgmcnaa.Life.till (Go.Proofs.Ytfleehgbpgmcnaa.lifeP p)) (lj1)), (1, Option.some b2, Go.Obj.cells #[Go.Value.int Go.IntKind.i64 0, Go.Value.int Go.IntKind.i64 0, Go.Value.slice Option.none 0 0, Go.Value.slice Option.none 0 0] 25), (0, Option.some b1, Go.Obj.cells #[Go.Value.int Go.IntKind.i64 (Go.Proofs.Ytfleehgbpgmcnaa.PV.ins p), Go.Value.int Go.IntKind.i64 (Go.Proofs.Ytfleehgbpgmcnaa.PV.regs p), Go.Value.slice ac (List.length (Go.Proofs.Ytfleehgbpgmcnaa.PV.code p)) cc, Go.Value.slice ao (List.length (Go.Proofs.Ytfleehgbpgmcnaa.PV.outs p)) co] 25)])) (fun (s0, (a0, c0, j0)) => s0 = lay0 p (lifeP p) ∧ OwnA a0 c0 s0.free j0) ?_ (fun ⟨s0, (a0, c0, j0)⟩ => fun (hk : s0 = lay0 p (lifeP p) ∧ OwnA a0 c0 s0.free j0) => ?_)
    · refine Wc.seq ?_
      refine Wc.draw [0, 1, 8, 7, 6, 5, 4, 3, 2, 12, 11, 10] [] T.mixed rfl ?_
      refine Gm.q 0 [] (by kernel_rfl) rfl rfl (Qy.move rfl) ?_
      refine Gm.q 1 [] (by kernel_rfl) rfl rfl (Qy.nilCheck rfl) ?_
      refine Gm.q 2 [] (by kernel_rfl) rfl rfl (Qy.fieldAddr T.fa117_6 rfl) ?_
      refine Gm.q 3 [2] (by kernel_rfl) rfl rfl (Qy.load 2 T.one23 rfl rfl rfl) ?_
      refine Gm.q 4 [] (by kernel_rfl) rfl rfl (Qy.fieldAddr T.fa25_0 rfl) ?_
      refine Gm.q 5 [0] (by kernel_rfl) rfl rfl (Qy.load 0 T.one3 rfl rfl rfl) ?_
      refine Gm.q 6 [] (by kernel_rfl) rfl rfl (Qy.indexAddrO (α := Int) T.sl23 rfl rfl (by assumption) (by omega)) ?_
      refine Gm.q 7 [0, 8] (by kernel_rfl) rfl rfl (Qy.loadO 8 0 T.one3 rfl rfl (by assumption) (by omega) rfl rfl) ?_
      refine Gm.q 8 [] (by kernel_rfl) rfl rfl (Qy.geq rfl rfl) ?_
      refine Gm.doneA (by kernel_rfl) ⟨rfl, rfl, rfl, rfl, rfl, rfl, rfl, rfl, rfl, rfl, rfl, rfl, trivial⟩ (by first | exact Imm.le_refl _ | assumption | (refine Imm.le_trans ?_ (by assumption); first | assumption | (refine Imm.le_trans ?_ (by assumption); assumption))) ?_
      refine Ar.next ?_
      refine Wc.cond rfl (fun hc1 => ?_) (fun hc1 => ?_)
      refine Wc.draw [0, 1, 8, 7, 6, 5, 4, 3, 2, 12, 11, 10] [(12, 11), (11, 11), (10, 11)] T.mixed rfl ?_
      refine Gm.q 0 [] (by kernel_rfl) rfl rfl (Qy.move rfl) ?_
      refine Gm.q 1 [] (by kernel_rfl) rfl rfl (Qy.fieldAddr T.fa25_0 rfl) ?_
      refine Gm.q 2 [0] (by kernel_rfl) rfl rfl (Qy.load 0 T.one3 rfl rfl rfl) ?_
      refine Gm.q 3 [] (by kernel_rfl) rfl rfl (Qy.move rfl) ?_
      refine Gm.q 4 [] (by kernel_rfl) rfl rfl (Qy.nilCheck rfl) ?_
      refine Gm.q 5 [] (by kernel_rfl) rfl rfl (Qy.fieldAddr T.fa117_6 rfl) ?_
      refine Gm.q 6 [2] (by kernel_rfl) rfl rfl (Qy.load 2 T.one23 rfl rfl rfl) ?_
      refine Gm.q 7 [] (by kernel_rfl) rfl rfl (Qy.fieldAddr T.fa25_0 rfl) ?_
      refine Gm.q 8 [0] (by kernel_rfl) rfl rfl (Qy.load 0 T.one3 rfl rfl rfl) ?_
      refine Gm.q 9 [] (by kernel_rfl) rfl rfl (Qy.indexAddrO (α := Int) T.sl23 rfl rfl (by assumption) (by omega)) ?_
      refine Gm.q 10 [0, 8] (by kernel_rfl) rfl rfl (Qy.loadO 8 0 T.one3 rfl rfl (by assumption) (by omega) rfl rfl) ?_
      refine Gm.one 11 ⟨rfl, rfl, rfl, rfl, rfl, rfl, rfl, rfl, rfl, rfl, rfl, rfl, trivial⟩ (by first | exact Imm.le_refl _ | assumption | (refine Imm.le_trans ?_ (by assumption); first | assumption | (refine Imm.le_trans ?_ (by assumption); assumption))) (by kernel_rfl) rfl ?_
      refine Wl.call 10 rfl T.fn74 rfl (c74 _ s _ _ _ _ _ _ _ hoa (by omega)) (tags_of ⟨rfl, rfl, rfl, trivial⟩) (fun v2 G2 Ho2 hle2 hp => ?_)
      obtain ⟨pa2, pc2, pj2, rfl, hpo2, rfl, rfl⟩ := hp
      refine Wl.on0 ?_
      refine Gm.doneA (by kernel_rfl) ⟨rfl, rfl, rfl, rfl, rfl, rfl, rfl, rfl, rfl, trivial⟩ (by first | exact Imm.le_refl _ | assumption | (refine Imm.le_trans ?_ (by assumption); first | assumption | (refine Imm.le_trans ?_ (by assumption); assumption))) ?_
      rotate_left
      refine Wc.skip ?_
      rotate_left
      · refine Ar.meet ((layP s p.ins ((lifeP p).till[p.ins.toNat]?.getD default), (pa2, pc2, pj2))) ?_ rfl ⟨rfl, rfl, rfl, rfl, rfl, trivial⟩ ⟨rfl, rfl, rfl, rfl, rfl, rfl, rfl, rfl, rfl, rfl, rfl, rfl, trivial⟩
        exact ⟨by rw [hs, hve]; exact (if_pos (by omega)).symm, hpo2⟩
      · refine Ar.meet ((s, (a, c, j))) ?_ rfl ⟨rfl, rfl, rfl, rfl, rfl, trivial⟩ ⟨rfl, rfl, rfl, rfl, rfl, rfl, rfl, rfl, rfl, rfl, rfl, rfl, trivial⟩
        exact ⟨by rw [hs, hve]; exact (if_neg (by omega)).symm, hoa⟩
    · obtain ⟨hs0, hoa0⟩ := hk
      have hl0 := lay0_ok r1 (lifeP p)
      rw [← hs0] at hl0
      obtain ⟨hp0, hf1, hf2⟩ := hl0
      refine Wc.seq ?_
      refine Wc.draw [0, 1, 8, 7, 6, 5, 4, 3, 2, 12, 11, 10] [] T.mixed rfl ?_
      refine Gm.q 0 [] (by kernel_rfl) rfl rfl (Qy.fieldAddr T.fa25_0 rfl) ?_
      refine Gm.q 1 [0] (by kernel_rfl) rfl rfl (Qy.load 0 T.one3 rfl rfl rfl) ?_
      refine Gm.q 2 [] (by kernel_rfl) rfl rfl (Qy.fieldAddr T.fa25_0 rfl) ?_
      refine Gm.q 3 [0] (by kernel_rfl) rfl rfl (Qy.load 0 T.one3 rfl rfl rfl) ?_
      refine Gm.q 4 [] (by kernel_rfl) rfl rfl (Qy.move rfl) ?_
      refine Gm.q 5 [] (by kernel_rfl) rfl rfl (Qy.nilCheck rfl) ?_
      refine Gm.q 6 [] (by kernel_rfl) rfl rfl (Qy.fieldAddr T.fa114_1 rfl) ?_
      refine Gm.q 7 [10] (by kernel_rfl) rfl rfl (Qy.load 10 T.one64 rfl rfl rfl) ?_
      refine Gm.q 8 [] (by kernel_rfl) rfl rfl (Qy.len T.sl64 rfl) ?_
      refine Gm.q 9 [] (by kernel_rfl) rfl rfl (Qy.max rfl rfl) ?_
      refine Gm.q 10 [] (by kernel_rfl) rfl rfl (Qy.build (cs := [_, _, _, _]) T.st25 rfl rfl rfl) ?_
      refine Gm.one 11 ⟨rfl, rfl, rfl, rfl, rfl, rfl, rfl, rfl, rfl, rfl, rfl, rfl, trivial⟩ (by first | exact Imm.le_refl _ | assumption | (refine Imm.le_trans ?_ (by assumption); first | assumption | (refine Imm.le_trans ?_ (by assumption); assumption))) (by kernel_rfl) rfl ?_
      refine Wl.alloc 13 rfl T.zero25 (fun b5 => ?_)
      refine Wl.on0 ?_
      refine Gm.one 12 ⟨rfl, rfl, rfl, rfl, rfl, rfl, rfl, rfl, rfl, rfl, rfl, rfl, trivial⟩ (by first | exact Imm.le_refl _ | assumption | (refine Imm.le_trans ?_ (by assumption); first | assumption | (refine Imm.le_trans ?_ (by assumption); assumption))) (by kernel_rfl) rfl ?_
      refine Wl.storeAll 13 T.size25 rfl rfl rfl rfl rfl rfl ?_
      refine Wl.on0 ?_
      refine Gm.doneA (by kernel_rfl) ⟨rfl, rfl, rfl, rfl, rfl, rfl, rfl, rfl, rfl, rfl, rfl, rfl, trivial⟩ (by first | exact Imm.le_refl _ | assumption | (refine Imm.le_trans ?_ (by assumption); first | assumption | (refine Imm.le_trans ?_ (by assumption); assumption))) ?_
      refine Ar.next ?_
      refine Wc.seq ?_
      refine Wc.seq ?_
      refine Wc.region rfl ?_
      refine Wl.q rfl (Qy.fieldAddr T.fa25_2 rfl) ?_
      refine Wl.q rfl (Qy.load 0 T.one22 rfl rfl rfl) ?_
      refine Wl.q rfl (Qy.len T.sl22 rfl) ?_
      refine Wl.q rfl (Qy.move rfl) ?_
      refine Wl.done ?_
      refine Ar.next ?_
      refine Wc.block ?_
      refine Wc.reH 13 (.cells #[.int .i64 p.ins, .int .i64 (pkTo p 0).regs, .slice none 0 0, .slice none 0 0] 25) rfl (by rw [show (pkTo p 0).regs = (if p.ins < (s0.free.length : Int) then (s0.free.length : Int) else p.ins) from by show max p.ins ((lay0 p (lifeP p)).free.length : Int) = _; rw [← hs0]; split <;> omega]) ?_
      refine Wc.nilRow 14 (Row 34 ([] : List Sl.Instr) []) ?_
      refine Wc.loop (ι := Nat × PkS × (Option Addr × Nat × List Value) × (Option Addr × Nat × List Value)) (fun (k, x, (oa, oc, oj), (a, c, j)) => ([(79, .int .i64 (k : Int)), (78, Go.Value.int Go.IntKind.i64 (↑(List.length (Go.Proofs.Ytfleehgbpgmcnaa.PV.code p)) : Int)), (77, Go.Value.slice ac (List.length (Go.Proofs.Ytfleehgbpgmcnaa.PV.code p)) cc), (8, Go.Value.pointer (Option.some (Go.Addr.mk b5 0 Option.none))), (6, Go.Value.pointer (Option.some (Go.Addr.mk b4 0 Option.none))), (4, Go.Value.pointer (Option.some (Go.Addr.mk lu1 0 Option.none))), (3, Go.Value.int Go.IntKind.i64 0), (2, Go.Value.pointer (Option.some (Go.Addr.mk b2 0 Option.none)))], [(10, some b4, .cells #[.map (some b3), .slice a x.s.free.length c] 114), (11, some b3, mapObj x.s.at_), (12, a.map (·.block), Row 4 x.s.free j), (13, some b5, .cells #[.int .i64 p.ins, .int .i64 x.regs, .slice oa x.code.length oc, .slice none 0 0] 25), (14, oa.map (·.block), Row 34 x.code oj), (2, Option.some lu1, Go.Obj.cells #[Go.Value.int Go.IntKind.i64 (Go.Proofs.Ytfleehgbpgmcnaa.PV.ins p), Go.Value.int Go.IntKind.i64 (Go.Proofs.Ytfleehgbpgmcnaa.PV.regs p), Go.Value.slice ac (List.length (Go.Proofs.Ytfleehgbpgmcnaa.PV.code p)) cc, Go.Value.slice ao (List.length (Go.Proofs.Ytfleehgbpgmcnaa.PV.outs p)) co, Go.Value.slice lnb1 (List.length (Go.Proofs.Ytfleehgbpgmcnaa.neededP p)) lnc1, Go.Value.slice (Option.some (Go.Addr.mk lx1 0 Option.none)) (List.length (Go.Proofs.Ytfleehgbpgmcnaa.Life.a (Go.Proofs.Ytfleehgbpgmcnaa.lifeP p))) ln1, Go.Value.slice (Option.some (Go.Addr.mk ly1 0 Option.none)) (List.length (Go.Proofs.Ytfleehgbpgmcnaa.Life.b (Go.Proofs.Ytfleehgbpgmcnaa.lifeP p))) ln1, Go.Value.slice (Option.some (Go.Addr.mk lz1 0 Option.none)) (List.length (Go.Proofs.Ytfleehgbpgmcnaa.Life.sets (Go.Proofs.Ytfleehgbpgmcnaa.lifeP p))) ln1, Go.Value.slice loo1 (List.length (Go.Proofs.Ytfleehgbpgmcnaa.Life.outs (Go.Proofs.Ytfleehgbpgmcnaa.lifeP p))) lod1, Go.Value.slice lo1 (List.length (Go.Proofs.Ytfleehgbpgmcnaa.Life.till (Go.Proofs.Ytfleehgbpgmcnaa.lifeP p))) ld1] 117), (3, Option.map (fun x => Go.Addr.block x) lnb1, Go.Sl.Row (α := Bool) 4 (Go.Proofs.Ytfleehgbpgmcnaa.neededP p) (lnj1)), (4, Option.some lx1, Go.Sl.Row (α := Int) 3 (Go.Proofs.Ytfleehgbpgmcnaa.Life.a (Go.Proofs.Ytfleehgbpgmcnaa.lifeP p)) ([])), (5, Option.some ly1, Go.Sl.Row (α := Int) 3 (Go.Proofs.Ytfleehgbpgmcnaa.Life.b (Go.Proofs.Ytfleehgbpgmcnaa.lifeP p)) ([])), (6, Option.some lz1, Go.Sl.Row (α := Int) 3 (Go.Proofs.Ytfleehgbpgmcnaa.Life.sets (Go.Proofs.Ytfleehgbpgmcnaa.lifeP p)) ([])), (7, Option.map (fun x => Go.Addr.block x) loo1, Go.Sl.Row (α := Int) 3 (Go.Proofs.Ytfleehgbpgmcnaa.Life.outs (Go.Proofs.Ytfleehgbpgmcnaa.lifeP p)) (loj1)), (8, Option.map (fun x => Go.Addr.block x) lo1, Go.Sl.Row (α := Int) 3 (Go.Proofs.Ytfleehgbpgmcnaa.Life.till (Go.Proofs.Ytfleehgbpgmcnaa.lifeP p)) (lj1)), (1, Option.some b2, Go.Obj.cells #[Go.Value.int Go.IntKind.i64 0, Go.Value.int Go.IntKind.i64 0, Go.Value.slice Option.none 0 0, Go.Value.slice Option.none 0 0] 25), (0, Option.some b1, Go.Obj.cells #[Go.Value.int Go.IntKind.i64 (Go.Proofs.Ytfleehgbpgmcnaa.PV.ins p), Go.Value.int Go.IntKind.i64 (Go.Proofs.Ytfleehgbpgmcnaa.PV.regs p), Go.Value.slice ac (List.length (Go.Proofs.Ytfleehgbpgmcnaa.PV.code p)) cc, Go.Value.slice ao (List.length (Go.Proofs.Ytfleehgbpgmcnaa.PV.outs p)) co] 25)])) (fun (k, x, (oa, oc, oj), (a, c, j)) => k ≤ p.code.length ∧ x = pkTo p k ∧ OwnA oa oc x.code oj ∧ OwnA a c x.s.free j ∧ (∀ v : Int, (lifeTo p k).till.length ≤ v → mget x.s.at_ v = none)) (fun (k, x, (oa, oc, oj), (a, c, j)) => p.code.length - k) ((0, ⟨s0, (pkTo p 0).regs, []⟩, (none, 0, []), (a0, c0, j0))) (⟨Nat.zero_le _, by rw [hs0]; rfl, OwnA.nil, hoa0, lay0_keys hs0 r1⟩) ⟨rfl, rfl, rfl, rfl, rfl, rfl, rfl, rfl, trivial⟩ ⟨rfl, rfl, rfl, rfl, rfl, rfl, rfl, rfl, rfl, rfl, rfl, rfl, rfl, rfl, trivial⟩ (fun ⟨k, x, (oa, oc, oj), (a, c, j)⟩ => fun (hk : k ≤ p.code.length ∧ x = pkTo p k ∧ OwnA oa oc x.code oj ∧ OwnA a c x.s.free j ∧ (∀ v : Int, (lifeTo p k).till.length ≤ v → mget x.s.at_ v = none)) => ?_)
      obtain ⟨hkc0, hx, hoc, hof, hkeys⟩ := hk
      have hxo := pkTo_ok r1 k
      have hxl := pkTo_len r1 k
      rw [← hx] at hxo hxl
      obtain ⟨hxl1, hxl2⟩ := hxl
      rcases Nat.lt_or_ge k p.code.length with hkc | hkc
      · have hm := code_may hR hkc
        unfold cAt at hm
        have hnl : (neededP p).length = p.code.length := needed_len9 p
        have hvA := k8 _ (get_mem (r := ((k : Nat) : Int)) (l := (lifeP p).a) (by omega))
        have hvB := k9 _ (get_mem (r := ((k : Nat) : Int)) (l := (lifeP p).b) (by omega))
        refine Wc.seq ?_
        refine Wc.region rfl ?_
        refine Wl.q rfl (Qy.lss rfl rfl) ?_
        refine Wl.done ?_
        refine Ar.next ?_
        refine Wc.seq ?_
        refine Wc.condP rfl (by first | assumption | omega) ?_
        refine Wc.skip ?_
        refine Ar.next ?_
        refine Wc.seq ?_
        refine Wc.block ?_
        refine Wc.seq ?_
        refine Wc.region rfl ?_
        refine Wl.q rfl (Qy.move rfl) ?_
        refine Wl.q rfl (Qy.at (α := Sl.Instr) T.sl22 rfl rfl (by assumption) (by omega)) ?_
        refine Wl.q rfl (Qy.loadsG T.agg34 rfl (Arr.elem (by assumption) (by omega)) rfl) ?_
        refine Wl.alloc 15 rfl T.zero34 (fun b6 => ?_)
        refine Wl.q rfl (Qy.assign rfl) ?_
        refine Wl.storeAll 15 T.size34 rfl rfl rfl rfl rfl rfl ?_
        refine Wl.done ?_
        refine Ar.next ?_
        refine Wc.seq ?_
        refine Wc.seq ?_
        refine Wc.region rfl ?_
        refine Wl.q rfl (Qy.move rfl) ?_
        refine Wl.q rfl (Qy.nilCheck rfl) ?_
        refine Wl.q rfl (Qy.fieldAddr T.fa117_1 rfl) ?_
        refine Wl.q rfl (Qy.load 2 T.one64 rfl rfl rfl) ?_
        refine Wl.q rfl (Qy.move rfl) ?_
        refine Wl.q rfl (Qy.indexAddrO (α := Bool) T.sl64 rfl rfl (by assumption) (by omega)) ?_
        refine Wl.q rfl (Qy.loadO 3 0 T.one4 rfl rfl (by assumption) (by omega) rfl rfl) ?_
        refine Wl.q rfl (Qy.not rfl) ?_
        refine Wl.done ?_
        refine Ar.next ?_
        refine Wc.ite rfl (fun hc1 => ?_) (fun hc1 => ?_)
        refine Wc.exit ?_
        refine Ar.passExit ?_
        refine Ar.here ?_
        refine Ar.next ?_
        refine Wc.region rfl ?_
        refine Wl.q rfl (Qy.add rfl rfl (by omega)) ?_
        refine Wl.q rfl (Qy.move rfl) ?_
        refine Wl.done ?_
        rotate_left
        refine Wc.skip ?_
        refine Ar.next ?_
        refine Wc.seq ?_
        refine Wc.region rfl ?_
        refine Wl.q rfl (Qy.loadAll 15 T.agg34 rfl rfl rfl) ?_
        refine Wl.call 16 rfl T.fn70 rfl (c70 _ _) (tags_of trivial) (fun v2 G2 Ho2 hle2 hp => ?_)
        obtain ⟨ad2, cd2, junk2, rfl, hoa2, rfl, rfl⟩ := hp
        refine Wl.q rfl (Qy.len T.sl23 rfl) ?_
        refine Wl.q rfl (Qy.gtr rfl rfl) ?_
        refine Wl.q rfl (Qy.assign rfl) ?_
        refine Wl.done ?_
        refine Ar.next ?_
        refine Wc.seq ?_
        refine Wc.draw [0, 1, 8, 7, 6, 5, 4, 3, 2, 14, 13, 12, 11, 10, 15, 17] [(15, 13)] T.mixed rfl ?_
        refine Gm.q 0 [] (by kernel_rfl) rfl rfl (Qy.move rfl) ?_
        refine Gm.q 1 [] (by kernel_rfl) rfl rfl (Qy.nilCheck rfl) ?_
        refine Gm.q 2 [] (by kernel_rfl) rfl rfl (Qy.fieldAddr T.fa114_0 rfl) ?_
        refine Gm.q 3 [10] (by kernel_rfl) rfl rfl (Qy.load 10 T.one112 rfl rfl rfl) ?_
        refine Gm.q 4 [] (by kernel_rfl) rfl rfl (Qy.move rfl) ?_
        refine Gm.q 5 [] (by kernel_rfl) rfl rfl (Qy.nilCheck rfl) ?_
        refine Gm.q 6 [] (by kernel_rfl) rfl rfl (Qy.fieldAddr T.fa117_2 rfl) ?_
        refine Gm.q 7 [2] (by kernel_rfl) rfl rfl (Qy.load 2 T.one23 rfl rfl rfl) ?_
        refine Gm.q 8 [] (by kernel_rfl) rfl rfl (Qy.move rfl) ?_
        refine Gm.q 9 [] (by kernel_rfl) rfl rfl (Qy.indexAddrO (α := Int) T.sl23 rfl rfl (by assumption) (by omega)) ?_
        refine Gm.q 10 [0, 4] (by kernel_rfl) rfl rfl (Qy.loadO 4 0 T.one3 rfl rfl (by assumption) (by omega) rfl rfl) ?_
        refine Gm.q 11 [11] (by kernel_rfl) rfl rfl (Qy.lookup1 11 T.mp112 rfl rfl rfl) ?_
        refine Gm.q 12 [] (by kernel_rfl) rfl rfl (Qy.fieldAddr T.fa34_2 rfl) ?_
        refine Gm.one 13 ⟨rfl, rfl, rfl, rfl, rfl, rfl, rfl, rfl, rfl, rfl, rfl, rfl, rfl, rfl, rfl, rfl, trivial⟩ (by first | exact Imm.le_refl _ | assumption | (refine Imm.le_trans ?_ (by assumption); first | assumption | (refine Imm.le_trans ?_ (by assumption); assumption))) (by kernel_rfl) rfl ?_
        refine Wl.store 15 T.one3 rfl rfl rfl rfl rfl ?_
        refine Wl.on0 ?_
        refine Gm.doneA (by kernel_rfl) ⟨rfl, rfl, rfl, rfl, rfl, rfl, rfl, rfl, rfl, rfl, rfl, rfl, rfl, rfl, rfl, trivial⟩ (by first | exact Imm.le_refl _ | assumption | (refine Imm.le_trans ?_ (by assumption); first | assumption | (refine Imm.le_trans ?_ (by assumption); assumption))) ?_
        refine Ar.next ?_
        rotate_left
        · have hn : ¬ nAt p k = true := by unfold nAt; simpa using hc1
          refine Ar.again ((k + 1, x, (oa, oc, oj), (a, c, j))) ?_ ?_ rfl ⟨rfl, rfl, rfl, rfl, rfl, rfl, rfl, rfl, trivial⟩ ⟨rfl, rfl, rfl, rfl, rfl, rfl, rfl, rfl, rfl, rfl, rfl, rfl, rfl, rfl, trivial⟩
          · refine ⟨hkc, by rw [hx]; exact (if_neg hn).symm, hoc, hof, fun v hv => hkeys v ?_⟩
            have e : lifeTo p (k + 1) = lifeTo p k := if_neg hn
            rw [e] at hv; exact hv
          · show p.code.length - (k + 1) < p.code.length - k
            omega
        · have hn : nAt p k = true := by unfold nAt; simpa using hc1
          refine Wc.meet (ι := Int) (fun v => ([(4, .pointer (some ⟨lu1, 0, none⟩)), (77, .slice ac p.code.length cc), (78, .int .i64 (p.code.length : Int)), (79, .int .i64 (k : Int)), (9, Go.Value.int Go.IntKind.i64 (↑k : Int)), (10, Go.Value.pointer (Option.some (Go.Addr.mk b6 0 Option.none))), (8, Go.Value.pointer (Option.some (Go.Addr.mk b5 0 Option.none))), (6, Go.Value.pointer (Option.some (Go.Addr.mk b4 0 Option.none))), (3, Go.Value.int Go.IntKind.i64 0), (2, Go.Value.pointer (Option.some (Go.Addr.mk b2 0 Option.none)))], [(15, some b6, .cells #[.int .i64 (p.code[((k : Nat) : Int).toNat]?.getD default).op, .int .i64 (p.code[((k : Nat) : Int).toNat]?.getD default).to, .int .i64 (stand x.s ((lifeP p).a[((k : Nat) : Int).toNat]?.getD default)), .int .i64 v, .int .i64 (p.code[((k : Nat) : Int).toNat]?.getD default).c] 34), (17, Option.map (fun x => Go.Addr.block x) ad2, Go.Sl.Row (α := Int) 3 (Go.Proofs.Ytfleehgbpgmcnaa.asks (Option.getD (Go.Proofs.Ytfleehgbpgmcnaa.PV.code p)[Int.toNat (↑k : Int)]? Inhabited.default)) (junk2)), (10, Option.some b4, Go.Obj.cells #[Go.Value.map (Option.some b3), Go.Value.slice a (List.length (Go.Proofs.Ytfleehgbpgmcnaa.Pl.free (Go.Proofs.Ytfleehgbpgmcnaa.PkS.s x))) c] 114), (11, Option.some b3, Go.Sl.mapObj (κ := Int) (Go.Proofs.Ytfleehgbpgmcnaa.Pl.at_ (Go.Proofs.Ytfleehgbpgmcnaa.PkS.s x))), (12, Option.map (fun x => Go.Addr.block x) a, Go.Sl.Row (α := Bool) 4 (Go.Proofs.Ytfleehgbpgmcnaa.Pl.free (Go.Proofs.Ytfleehgbpgmcnaa.PkS.s x)) (j)), (13, Option.some b5, Go.Obj.cells #[Go.Value.int Go.IntKind.i64 (Go.Proofs.Ytfleehgbpgmcnaa.PV.ins p), Go.Value.int Go.IntKind.i64 (Go.Proofs.Ytfleehgbpgmcnaa.PkS.regs x), Go.Value.slice oa (List.length (Go.Proofs.Ytfleehgbpgmcnaa.PkS.code x)) oc, Go.Value.slice Option.none 0 0] 25), (14, Option.map (fun x => Go.Addr.block x) oa, Go.Sl.Row (α := Go.Sl.Instr) 34 (Go.Proofs.Ytfleehgbpgmcnaa.PkS.code x) (oj)), (2, Option.some lu1, Go.Obj.cells #[Go.Value.int Go.IntKind.i64 (Go.Proofs.Ytfleehgbpgmcnaa.PV.ins p), Go.Value.int Go.IntKind.i64 (Go.Proofs.Ytfleehgbpgmcnaa.PV.regs p), Go.Value.slice ac (List.length (Go.Proofs.Ytfleehgbpgmcnaa.PV.code p)) cc, Go.Value.slice ao (List.length (Go.Proofs.Ytfleehgbpgmcnaa.PV.outs p)) co, Go.Value.slice lnb1 (List.length (Go.Proofs.Ytfleehgbpgmcnaa.neededP p)) lnc1, Go.Value.slice (Option.some (Go.Addr.mk lx1 0 Option.none)) (List.length (Go.Proofs.Ytfleehgbpgmcnaa.Life.a (Go.Proofs.Ytfleehgbpgmcnaa.lifeP p))) ln1, Go.Value.slice (Option.some (Go.Addr.mk ly1 0 Option.none)) (List.length (Go.Proofs.Ytfleehgbpgmcnaa.Life.b (Go.Proofs.Ytfleehgbpgmcnaa.lifeP p))) ln1, Go.Value.slice (Option.some (Go.Addr.mk lz1 0 Option.none)) (List.length (Go.Proofs.Ytfleehgbpgmcnaa.Life.sets (Go.Proofs.Ytfleehgbpgmcnaa.lifeP p))) ln1, Go.Value.slice loo1 (List.length (Go.Proofs.Ytfleehgbpgmcnaa.Life.outs (Go.Proofs.Ytfleehgbpgmcnaa.lifeP p))) lod1, Go.Value.slice lo1 (List.length (Go.Proofs.Ytfleehgbpgmcnaa.Life.till (Go.Proofs.Ytfleehgbpgmcnaa.lifeP p))) ld1] 117), (3, Option.map (fun x => Go.Addr.block x) lnb1, Go.Sl.Row (α := Bool) 4 (Go.Proofs.Ytfleehgbpgmcnaa.neededP p) (lnj1)), (4, Option.some lx1, Go.Sl.Row (α := Int) 3 (Go.Proofs.Ytfleehgbpgmcnaa.Life.a (Go.Proofs.Ytfleehgbpgmcnaa.lifeP p)) ([])), (5, Option.some ly1, Go.Sl.Row (α := Int) 3 (Go.Proofs.Ytfleehgbpgmcnaa.Life.b (Go.Proofs.Ytfleehgbpgmcnaa.lifeP p)) ([])), (6, Option.some lz1, Go.Sl.Row (α := Int) 3 (Go.Proofs.Ytfleehgbpgmcnaa.Life.sets (Go.Proofs.Ytfleehgbpgmcnaa.lifeP p)) ([])), (7, Option.map (fun x => Go.Addr.block x) loo1, Go.Sl.Row (α := Int) 3 (Go.Proofs.Ytfleehgbpgmcnaa.Life.outs (Go.Proofs.Ytfleehgbpgmcnaa.lifeP p)) (loj1)), (8, Option.map (fun x => Go.Addr.block x) lo1, Go.Sl.Row (α := Int) 3 (Go.Proofs.Ytfleehgbpgmcnaa.Life.till (Go.Proofs.Ytfleehgbpgmcnaa.lifeP p)) (lj1)), (1, Option.some b2, Go.Obj.cells #[Go.Value.int Go.IntKind.i64 0, Go.Value.int Go.IntKind.i64 0, Go.Value.slice Option.none 0 0, Go.Value.slice Option.none 0 0] 25), (0, Option.some b1, Go.Obj.cells #[Go.Value.int Go.IntKind.i64 (Go.Proofs.Ytfleehgbpgmcnaa.PV.ins p), Go.Value.int Go.IntKind.i64 (Go.Proofs.Ytfleehgbpgmcnaa.PV.regs p), Go.Value.slice ac (List.length (Go.Proofs.Ytfleehgbpgmcnaa.PV.code p)) cc, Go.Value.slice ao (List.length (Go.Proofs.Ytfleehgbpgmcnaa.PV.outs p)) co] 25)])) (fun v => v = if 1 < (asks (p.code[((k : Nat) : Int).toNat]?.getD default)).length then stand x.s ((lifeP p).b[((k : Nat) : Int).toNat]?.getD default) else (p.code[((k : Nat) : Int).toNat]?.getD default).b) ?_ (fun v => fun (hk : v = if 1 < (asks (p.code[((k : Nat) : Int).toNat]?.getD default)).length then stand x.s ((lifeP p).b[((k : Nat) : Int).toNat]?.getD default) else (p.code[((k : Nat) : Int).toNat]?.getD default).b) => ?_)
          · refine Wc.seq ?_
            refine Wc.region rfl ?_
            refine Wl.q rfl (Qy.move rfl) ?_
            refine Wl.done ?_
            refine Ar.next ?_
            refine Wc.cond rfl (fun hc2 => ?_) (fun hc2 => ?_)
            refine Wc.draw [0, 1, 8, 7, 6, 5, 4, 3, 2, 14, 13, 12, 11, 10, 17, 15] [(15, 13)] T.mixed rfl ?_
            refine Gm.q 0 [] (by kernel_rfl) rfl rfl (Qy.move rfl) ?_
            refine Gm.q 1 [] (by kernel_rfl) rfl rfl (Qy.nilCheck rfl) ?_
            refine Gm.q 2 [] (by kernel_rfl) rfl rfl (Qy.fieldAddr T.fa114_0 rfl) ?_
            refine Gm.q 3 [10] (by kernel_rfl) rfl rfl (Qy.load 10 T.one112 rfl rfl rfl) ?_
            refine Gm.q 4 [] (by kernel_rfl) rfl rfl (Qy.move rfl) ?_
            refine Gm.q 5 [] (by kernel_rfl) rfl rfl (Qy.nilCheck rfl) ?_
            refine Gm.q 6 [] (by kernel_rfl) rfl rfl (Qy.fieldAddr T.fa117_3 rfl) ?_
            refine Gm.q 7 [2] (by kernel_rfl) rfl rfl (Qy.load 2 T.one23 rfl rfl rfl) ?_
            refine Gm.q 8 [] (by kernel_rfl) rfl rfl (Qy.move rfl) ?_
            refine Gm.q 9 [] (by kernel_rfl) rfl rfl (Qy.indexAddrO (α := Int) T.sl23 rfl rfl (by assumption) (by omega)) ?_
            refine Gm.q 10 [0, 5] (by kernel_rfl) rfl rfl (Qy.loadO 5 0 T.one3 rfl rfl (by assumption) (by omega) rfl rfl) ?_
            refine Gm.q 11 [11] (by kernel_rfl) rfl rfl (Qy.lookup1 11 T.mp112 rfl rfl rfl) ?_
            refine Gm.q 12 [] (by kernel_rfl) rfl rfl (Qy.fieldAddr T.fa34_3 rfl) ?_
            refine Gm.one 13 ⟨rfl, rfl, rfl, rfl, rfl, rfl, rfl, rfl, rfl, rfl, rfl, rfl, rfl, rfl, rfl, rfl, trivial⟩ (by first | exact Imm.le_refl _ | assumption | (refine Imm.le_trans ?_ (by assumption); first | assumption | (refine Imm.le_trans ?_ (by assumption); assumption))) (by kernel_rfl) rfl ?_
            refine Wl.store 15 T.one3 rfl rfl rfl rfl rfl ?_
            refine Wl.on0 ?_
            refine Gm.doneA (by kernel_rfl) ⟨rfl, rfl, rfl, rfl, rfl, rfl, rfl, rfl, rfl, rfl, rfl, rfl, rfl, rfl, rfl, trivial⟩ (by first | exact Imm.le_refl _ | assumption | (refine Imm.le_trans ?_ (by assumption); first | assumption | (refine Imm.le_trans ?_ (by assumption); assumption))) ?_
            rotate_left
            refine Wc.skip ?_
            rotate_left
            · refine Ar.meet (stand x.s ((lifeP p).b[((k : Nat) : Int).toNat]?.getD default)) ?_ rfl ⟨rfl, rfl, rfl, rfl, rfl, rfl, rfl, rfl, rfl, rfl, trivial⟩ ⟨rfl, rfl, rfl, rfl, rfl, rfl, rfl, rfl, rfl, rfl, rfl, rfl, rfl, rfl, rfl, rfl, trivial⟩
              exact (if_pos (by omega)).symm
            · refine Ar.meet ((p.code[((k : Nat) : Int).toNat]?.getD default).b) ?_ rfl ⟨rfl, rfl, rfl, rfl, rfl, rfl, rfl, rfl, rfl, rfl, trivial⟩ ⟨rfl, rfl, rfl, rfl, rfl, rfl, rfl, rfl, rfl, rfl, rfl, rfl, rfl, rfl, rfl, rfl, trivial⟩
              exact (if_neg (by omega)).symm
          · have hv9 := hk
            refine Wc.seq ?_
            refine Wc.seq ?_
            refine Wc.draw [0, 1, 8, 7, 6, 5, 4, 3, 2, 14, 13, 12, 11, 10, 17, 15] [] T.mixed rfl ?_
            refine Gm.q 0 [] (by kernel_rfl) rfl rfl (Qy.move rfl) ?_
            refine Gm.q 1 [] (by kernel_rfl) rfl rfl (Qy.nilCheck rfl) ?_
            refine Gm.q 2 [] (by kernel_rfl) rfl rfl (Qy.fieldAddr T.fa117_2 rfl) ?_
            refine Gm.q 3 [2] (by kernel_rfl) rfl rfl (Qy.load 2 T.one23 rfl rfl rfl) ?_
            refine Gm.q 4 [] (by kernel_rfl) rfl rfl (Qy.move rfl) ?_
            refine Gm.q 5 [] (by kernel_rfl) rfl rfl (Qy.indexAddrO (α := Int) T.sl23 rfl rfl (by assumption) (by omega)) ?_
            refine Gm.q 6 [0, 4] (by kernel_rfl) rfl rfl (Qy.loadO 4 0 T.one3 rfl rfl (by assumption) (by omega) rfl rfl) ?_
            refine Gm.q 7 [] (by kernel_rfl) rfl rfl (Qy.move rfl) ?_
            refine Gm.q 8 [] (by kernel_rfl) rfl rfl (Qy.nilCheck rfl) ?_
            refine Gm.q 9 [] (by kernel_rfl) rfl rfl (Qy.fieldAddr T.fa117_3 rfl) ?_
            refine Gm.q 10 [2] (by kernel_rfl) rfl rfl (Qy.load 2 T.one23 rfl rfl rfl) ?_
            refine Gm.q 11 [] (by kernel_rfl) rfl rfl (Qy.move rfl) ?_
            refine Gm.q 12 [] (by kernel_rfl) rfl rfl (Qy.indexAddrO (α := Int) T.sl23 rfl rfl (by assumption) (by omega)) ?_
            refine Gm.q 13 [0, 5] (by kernel_rfl) rfl rfl (Qy.loadO 5 0 T.one3 rfl rfl (by assumption) (by omega) rfl rfl) ?_
            refine Gm.q 14 [] (by kernel_rfl) rfl rfl (Qy.buildA (cs := [_, _]) T.ar62 rfl rfl rfl) ?_
            refine Gm.q 15 [] (by kernel_rfl) rfl rfl (Qy.move rfl) ?_
            refine Gm.doneA (by kernel_rfl) ⟨rfl, rfl, rfl, rfl, rfl, rfl, rfl, rfl, rfl, rfl, rfl, rfl, rfl, rfl, rfl, rfl, trivial⟩ (by first | exact Imm.le_refl _ | assumption | (refine Imm.le_trans ?_ (by assumption); first | assumption | (refine Imm.le_trans ?_ (by assumption); assumption))) ?_
            refine Ar.next ?_
            refine Wc.block ?_
            refine Wc.loop (ι := Nat × Pl) (fun (m, s1) => ([(138, .int .i64 (m : Int)), (77, .slice ac p.code.length cc), (78, .int .i64 (p.code.length : Int)), (79, .int .i64 (k : Int)), (137, Go.Value.agg #[Go.Value.int Go.IntKind.i64 (Option.getD (Go.Proofs.Ytfleehgbpgmcnaa.Life.a (Go.Proofs.Ytfleehgbpgmcnaa.lifeP p))[Int.toNat (↑k : Int)]? Inhabited.default), Go.Value.int Go.IntKind.i64 (Option.getD (Go.Proofs.Ytfleehgbpgmcnaa.Life.b (Go.Proofs.Ytfleehgbpgmcnaa.lifeP p))[Int.toNat (↑k : Int)]? Inhabited.default)]), (4, Go.Value.pointer (Option.some (Go.Addr.mk lu1 0 Option.none))), (9, Go.Value.int Go.IntKind.i64 (↑k : Int)), (10, Go.Value.pointer (Option.some (Go.Addr.mk b6 0 Option.none))), (8, Go.Value.pointer (Option.some (Go.Addr.mk b5 0 Option.none))), (6, Go.Value.pointer (Option.some (Go.Addr.mk b4 0 Option.none))), (3, Go.Value.int Go.IntKind.i64 0), (2, Go.Value.pointer (Option.some (Go.Addr.mk b2 0 Option.none)))], [(10, some b4, .cells #[.map (some b3), .slice a s1.free.length c] 114), (11, some b3, mapObj s1.at_), (12, a.map (·.block), Row 4 s1.free j), (15, Option.some b6, Go.Obj.cells #[Go.Value.int Go.IntKind.i64 (Go.Sl.Instr.op (Option.getD (Go.Proofs.Ytfleehgbpgmcnaa.PV.code p)[Int.toNat (↑k : Int)]? Inhabited.default)), Go.Value.int Go.IntKind.i64 (Go.Sl.Instr.to (Option.getD (Go.Proofs.Ytfleehgbpgmcnaa.PV.code p)[Int.toNat (↑k : Int)]? Inhabited.default)), Go.Value.int Go.IntKind.i64 (Go.Proofs.Ytfleehgbpgmcnaa.stand (Go.Proofs.Ytfleehgbpgmcnaa.PkS.s x) (Option.getD (Go.Proofs.Ytfleehgbpgmcnaa.Life.a (Go.Proofs.Ytfleehgbpgmcnaa.lifeP p))[Int.toNat (↑k : Int)]? Inhabited.default)), Go.Value.int Go.IntKind.i64 v, Go.Value.int Go.IntKind.i64 (Go.Sl.Instr.c (Option.getD (Go.Proofs.Ytfleehgbpgmcnaa.PV.code p)[Int.toNat (↑k : Int)]? Inhabited.default))] 34), (17, Option.map (fun x => Go.Addr.block x) ad2, Go.Sl.Row (α := Int) 3 (Go.Proofs.Ytfleehgbpgmcnaa.asks (Option.getD (Go.Proofs.Ytfleehgbpgmcnaa.PV.code p)[Int.toNat (↑k : Int)]? Inhabited.default)) (junk2)), (13, Option.some b5, Go.Obj.cells #[Go.Value.int Go.IntKind.i64 (Go.Proofs.Ytfleehgbpgmcnaa.PV.ins p), Go.Value.int Go.IntKind.i64 (Go.Proofs.Ytfleehgbpgmcnaa.PkS.regs x), Go.Value.slice oa (List.length (Go.Proofs.Ytfleehgbpgmcnaa.PkS.code x)) oc, Go.Value.slice Option.none 0 0] 25), (14, Option.map (fun x => Go.Addr.block x) oa, Go.Sl.Row (α := Go.Sl.Instr) 34 (Go.Proofs.Ytfleehgbpgmcnaa.PkS.code x) (oj)), (2, Option.some lu1, Go.Obj.cells #[Go.Value.int Go.IntKind.i64 (Go.Proofs.Ytfleehgbpgmcnaa.PV.ins p), Go.Value.int Go.IntKind.i64 (Go.Proofs.Ytfleehgbpgmcnaa.PV.regs p), Go.Value.slice ac (List.length (Go.Proofs.Ytfleehgbpgmcnaa.PV.code p)) cc, Go.Value.slice ao (List.length (Go.Proofs.Ytfleehgbpgmcnaa.PV.outs p)) co, Go.Value.slice lnb1 (List.length (Go.Proofs.Ytfleehgbpgmcnaa.neededP p)) lnc1, Go.Value.slice (Option.some (Go.Addr.mk lx1 0 Option.none)) (List.length (Go.Proofs.Ytfleehgbpgmcnaa.Life.a (Go.Proofs.Ytfleehgbpgmcnaa.lifeP p))) ln1, Go.Value.slice (Option.some (Go.Addr.mk ly1 0 Option.none)) (List.length (Go.Proofs.Ytfleehgbpgmcnaa.Life.b (Go.Proofs.Ytfleehgbpgmcnaa.lifeP p))) ln1, Go.Value.slice (Option.some (Go.Addr.mk lz1 0 Option.none)) (List.length (Go.Proofs.Ytfleehgbpgmcnaa.Life.sets (Go.Proofs.Ytfleehgbpgmcnaa.lifeP p))) ln1, Go.Value.slice loo1 (List.length (Go.Proofs.Ytfleehgbpgmcnaa.Life.outs (Go.Proofs.Ytfleehgbpgmcnaa.lifeP p))) lod1, Go.Value.slice lo1 (List.length (Go.Proofs.Ytfleehgbpgmcnaa.Life.till (Go.Proofs.Ytfleehgbpgmcnaa.lifeP p))) ld1] 117), (3, Option.map (fun x => Go.Addr.block x) lnb1, Go.Sl.Row (α := Bool) 4 (Go.Proofs.Ytfleehgbpgmcnaa.neededP p) (lnj1)), (4, Option.some lx1, Go.Sl.Row (α := Int) 3 (Go.Proofs.Ytfleehgbpgmcnaa.Life.a (Go.Proofs.Ytfleehgbpgmcnaa.lifeP p)) ([])), (5, Option.some ly1, Go.Sl.Row (α := Int) 3 (Go.Proofs.Ytfleehgbpgmcnaa.Life.b (Go.Proofs.Ytfleehgbpgmcnaa.lifeP p)) ([])), (6, Option.some lz1, Go.Sl.Row (α := Int) 3 (Go.Proofs.Ytfleehgbpgmcnaa.Life.sets (Go.Proofs.Ytfleehgbpgmcnaa.lifeP p)) ([])), (7, Option.map (fun x => Go.Addr.block x) loo1, Go.Sl.Row (α := Int) 3 (Go.Proofs.Ytfleehgbpgmcnaa.Life.outs (Go.Proofs.Ytfleehgbpgmcnaa.lifeP p)) (loj1)), (8, Option.map (fun x => Go.Addr.block x) lo1, Go.Sl.Row (α := Int) 3 (Go.Proofs.Ytfleehgbpgmcnaa.Life.till (Go.Proofs.Ytfleehgbpgmcnaa.lifeP p)) (lj1)), (1, Option.some b2, Go.Obj.cells #[Go.Value.int Go.IntKind.i64 0, Go.Value.int Go.IntKind.i64 0, Go.Value.slice Option.none 0 0, Go.Value.slice Option.none 0 0] 25), (0, Option.some b1, Go.Obj.cells #[Go.Value.int Go.IntKind.i64 (Go.Proofs.Ytfleehgbpgmcnaa.PV.ins p), Go.Value.int Go.IntKind.i64 (Go.Proofs.Ytfleehgbpgmcnaa.PV.regs p), Go.Value.slice ac (List.length (Go.Proofs.Ytfleehgbpgmcnaa.PV.code p)) cc, Go.Value.slice ao (List.length (Go.Proofs.Ytfleehgbpgmcnaa.PV.outs p)) co] 25)])) (fun (m, s1) => m ≤ 2 ∧ s1 = freesTo (lifeP p) k x.s m ∧ OwnA a c s1.free j) (fun (m, s1) => 2 - m) ((0, x.s)) (⟨Nat.zero_le _, rfl, hof⟩) ⟨rfl, rfl, rfl, rfl, rfl, rfl, rfl, rfl, rfl, rfl, rfl, rfl, trivial⟩ ⟨rfl, rfl, rfl, rfl, rfl, rfl, rfl, rfl, rfl, rfl, rfl, rfl, rfl, rfl, rfl, rfl, trivial⟩ (fun ⟨m, s1⟩ => fun (hk : m ≤ 2 ∧ s1 = freesTo (lifeP p) k x.s m ∧ OwnA a c s1.free j) => ?_)
            obtain ⟨hm2, hs1, hof1⟩ := hk
            by_cases hm0 : m = 0
            · subst hm0
              have hs1 : s1 = x.s := hs1
              subst hs1
              have hst := hxo.ab ((lifeP p).a[((k : Nat) : Int).toNat]?.getD default)
              unfold stand at hst
              refine Wc.seq ?_
              refine Wc.region rfl ?_
              refine Wl.q rfl (Qy.lss rfl rfl) ?_
              refine Wl.done ?_
              refine Ar.next ?_
              refine Wc.seq ?_
              refine Wc.condP rfl (by first | assumption | omega) ?_
              refine Wc.skip ?_
              refine Ar.next ?_
              refine Wc.seq ?_
              refine Wc.block ?_
              refine Wc.seq ?_
              refine Wc.region rfl ?_
              refine Wl.q rfl (Qy.indexA (i := 0) und62 pk3 size3 rfl rfl (by decide) rfl) ?_
              refine Wl.q rfl (Qy.assign rfl) ?_
              refine Wl.done ?_
              refine Ar.next ?_
              refine Wc.seq ?_
              refine Wc.region rfl ?_
              refine Wl.q rfl (Qy.move rfl) ?_
              refine Wl.q rfl (Qy.nilCheck rfl) ?_
              refine Wl.q rfl (Qy.fieldAddr T.fa117_6 rfl) ?_
              refine Wl.q rfl (Qy.load 2 T.one23 rfl rfl rfl) ?_
              refine Wl.q rfl (Qy.move rfl) ?_
              refine Wl.q rfl (Qy.indexAddrO (α := Int) T.sl23 rfl rfl (by assumption) (by omega)) ?_
              refine Wl.q rfl (Qy.loadO 8 0 T.one3 rfl rfl (by assumption) (by omega) rfl rfl) ?_
              refine Wl.q rfl (Qy.move rfl) ?_
              refine Wl.q rfl (Qy.eql rfl rfl) ?_
              refine Wl.done ?_
              refine Ar.next ?_
              refine Wc.cond rfl (fun hc2 => ?_) (fun hc2 => ?_)
              refine Wc.draw [0, 1, 8, 7, 6, 5, 4, 3, 2, 14, 13, 17, 15, 12, 11, 10] [(10, 11), (12, 11), (15, 11), (17, 11), (13, 11), (14, 11), (2, 11), (3, 11), (4, 11), (5, 11), (6, 11), (7, 11), (8, 11), (1, 11), (0, 11)] T.mixed rfl ?_
              refine Gm.q 0 [] (by kernel_rfl) rfl rfl (Qy.move rfl) ?_
              refine Gm.q 1 [] (by kernel_rfl) rfl rfl (Qy.nilCheck rfl) ?_
              refine Gm.q 2 [] (by kernel_rfl) rfl rfl (Qy.fieldAddr T.fa114_1 rfl) ?_
              refine Gm.q 3 [10] (by kernel_rfl) rfl rfl (Qy.load 10 T.one64 rfl rfl rfl) ?_
              refine Gm.q 4 [] (by kernel_rfl) rfl rfl (Qy.move rfl) ?_
              refine Gm.q 5 [] (by kernel_rfl) rfl rfl (Qy.nilCheck rfl) ?_
              refine Gm.q 6 [] (by kernel_rfl) rfl rfl (Qy.fieldAddr T.fa114_0 rfl) ?_
              refine Gm.q 7 [10] (by kernel_rfl) rfl rfl (Qy.load 10 T.one112 rfl rfl rfl) ?_
              refine Gm.q 8 [] (by kernel_rfl) rfl rfl (Qy.move rfl) ?_
              refine Gm.q 9 [11] (by kernel_rfl) rfl rfl (Qy.lookup1 11 T.mp112 rfl rfl rfl) ?_
              refine Gm.q 10 [] (by kernel_rfl) rfl rfl (Qy.indexAddrO (α := Bool) T.sl64 rfl rfl (by assumption) (by omega)) ?_
              refine Gm.one 11 ⟨rfl, rfl, rfl, rfl, rfl, rfl, rfl, rfl, rfl, rfl, rfl, rfl, rfl, rfl, rfl, rfl, trivial⟩ (by first | exact Imm.le_refl _ | assumption | (refine Imm.le_trans ?_ (by assumption); first | assumption | (refine Imm.le_trans ?_ (by assumption); assumption))) (by kernel_rfl) rfl ?_
              refine Wl.setO (z := _) 12 T.size4 rfl rfl rfl (by assumption) (by omega) rfl (fun ho1 => ?_)
              refine Wl.on0 ?_
              refine Gm.doneA (by kernel_rfl) ⟨rfl, trivial⟩ (by first | exact Imm.le_refl _ | assumption | (refine Imm.le_trans ?_ (by assumption); first | assumption | (refine Imm.le_trans ?_ (by assumption); assumption))) ?_
              refine Ar.outNormal ?_
              refine Ar.next ?_
              refine Wc.region rfl ?_
              refine Wl.q rfl (Qy.add rfl rfl (by omega)) ?_
              refine Wl.q rfl (Qy.move rfl) ?_
              refine Wl.done ?_
              rotate_left
              refine Wc.skip ?_
              refine Ar.outNormal ?_
              refine Ar.next ?_
              refine Wc.region rfl ?_
              refine Wl.q rfl (Qy.add rfl rfl (by omega)) ?_
              refine Wl.q rfl (Qy.move rfl) ?_
              refine Wl.done ?_
              rotate_left
              · refine Ar.reH 10 (.cells #[.map (some b3), .slice a (x.s.free.set ((mget x.s.at_ ((lifeP p).a[((k : Nat) : Int).toNat]?.getD default)).getD 0).toNat true).length c] 114) rfl (by rw [List.length_set]) ?_
                refine Ar.again ((0 + 1, ⟨x.s.at_, x.s.free.set ((mget x.s.at_ ((lifeP p).a[((k : Nat) : Int).toNat]?.getD default)).getD 0).toNat true⟩)) ?_ ?_ rfl ⟨rfl, rfl, rfl, rfl, rfl, rfl, rfl, rfl, rfl, rfl, rfl, rfl, trivial⟩ ⟨rfl, rfl, rfl, rfl, rfl, rfl, rfl, rfl, rfl, rfl, rfl, rfl, rfl, rfl, rfl, rfl, trivial⟩
                · refine ⟨by omega, ?_, by assumption⟩
                  exact (if_pos (by assumption)).symm
                · exact Nat.lt_succ_self 1
              · refine Ar.again ((0 + 1, x.s)) ?_ ?_ rfl ⟨rfl, rfl, rfl, rfl, rfl, rfl, rfl, rfl, rfl, rfl, rfl, rfl, trivial⟩ ⟨rfl, rfl, rfl, rfl, rfl, rfl, rfl, rfl, rfl, rfl, rfl, rfl, rfl, rfl, rfl, rfl, trivial⟩
                · refine ⟨by omega, ?_, hof1⟩
                  exact (if_neg (by assumption)).symm
                · exact Nat.lt_succ_self 1
            · by_cases hm1 : m = 1
              · subst hm1
                have hs1 : s1 = freeAt (lifeP p) k x.s ((lifeP p).a[((k : Nat) : Int).toNat]?.getD default) := hs1
                have hst := (freeAt_ok (l := lifeP p) (k := k) (v := ((lifeP p).a[((k : Nat) : Int).toNat]?.getD default)) hxo).ab ((lifeP p).b[((k : Nat) : Int).toNat]?.getD default)
                rw [← hs1] at hst
                unfold stand at hst
                refine Wc.seq ?_
                refine Wc.region rfl ?_
                refine Wl.q rfl (Qy.lss rfl rfl) ?_
                refine Wl.done ?_
                refine Ar.next ?_
                refine Wc.seq ?_
                refine Wc.condP rfl (by first | assumption | omega) ?_
                refine Wc.skip ?_
                refine Ar.next ?_
                refine Wc.seq ?_
                refine Wc.block ?_
                refine Wc.seq ?_
                refine Wc.region rfl ?_
                refine Wl.q rfl (Qy.indexA (i := 1) und62 pk3 size3 rfl rfl (by decide) rfl) ?_
                refine Wl.q rfl (Qy.assign rfl) ?_
                refine Wl.done ?_
                refine Ar.next ?_
                refine Wc.seq ?_
                refine Wc.region rfl ?_
                refine Wl.q rfl (Qy.move rfl) ?_
                refine Wl.q rfl (Qy.nilCheck rfl) ?_
                refine Wl.q rfl (Qy.fieldAddr T.fa117_6 rfl) ?_
                refine Wl.q rfl (Qy.load 2 T.one23 rfl rfl rfl) ?_
                refine Wl.q rfl (Qy.move rfl) ?_
                refine Wl.q rfl (Qy.indexAddrO (α := Int) T.sl23 rfl rfl (by assumption) (by omega)) ?_
                refine Wl.q rfl (Qy.loadO 8 0 T.one3 rfl rfl (by assumption) (by omega) rfl rfl) ?_
                refine Wl.q rfl (Qy.move rfl) ?_
                refine Wl.q rfl (Qy.eql rfl rfl) ?_
                refine Wl.done ?_
                refine Ar.next ?_
                refine Wc.cond rfl (fun hc2 => ?_) (fun hc2 => ?_)
                refine Wc.draw [0, 1, 8, 7, 6, 5, 4, 3, 2, 14, 13, 17, 15, 12, 11, 10] [(10, 11), (12, 11), (15, 11), (17, 11), (13, 11), (14, 11), (2, 11), (3, 11), (4, 11), (5, 11), (6, 11), (7, 11), (8, 11), (1, 11), (0, 11)] T.mixed rfl ?_
                refine Gm.q 0 [] (by kernel_rfl) rfl rfl (Qy.move rfl) ?_
                refine Gm.q 1 [] (by kernel_rfl) rfl rfl (Qy.nilCheck rfl) ?_
                refine Gm.q 2 [] (by kernel_rfl) rfl rfl (Qy.fieldAddr T.fa114_1 rfl) ?_
                refine Gm.q 3 [10] (by kernel_rfl) rfl rfl (Qy.load 10 T.one64 rfl rfl rfl) ?_
                refine Gm.q 4 [] (by kernel_rfl) rfl rfl (Qy.move rfl) ?_
                refine Gm.q 5 [] (by kernel_rfl) rfl rfl (Qy.nilCheck rfl) ?_
                refine Gm.q 6 [] (by kernel_rfl) rfl rfl (Qy.fieldAddr T.fa114_0 rfl) ?_
                refine Gm.q 7 [10] (by kernel_rfl) rfl rfl (Qy.load 10 T.one112 rfl rfl rfl) ?_
                refine Gm.q 8 [] (by kernel_rfl) rfl rfl (Qy.move rfl) ?_
                refine Gm.q 9 [11] (by kernel_rfl) rfl rfl (Qy.lookup1 11 T.mp112 rfl rfl rfl) ?_
                refine Gm.q 10 [] (by kernel_rfl) rfl rfl (Qy.indexAddrO (α := Bool) T.sl64 rfl rfl (by assumption) (by omega)) ?_
                refine Gm.one 11 ⟨rfl, rfl, rfl, rfl, rfl, rfl, rfl, rfl, rfl, rfl, rfl, rfl, rfl, rfl, rfl, rfl, trivial⟩ (by first | exact Imm.le_refl _ | assumption | (refine Imm.le_trans ?_ (by assumption); first | assumption | (refine Imm.le_trans ?_ (by assumption); assumption))) (by kernel_rfl) rfl ?_
                refine Wl.setO (z := _) 12 T.size4 rfl rfl rfl (by assumption) (by omega) rfl (fun ho1 => ?_)
                refine Wl.on0 ?_
                refine Gm.doneA (by kernel_rfl) ⟨rfl, trivial⟩ (by first | exact Imm.le_refl _ | assumption | (refine Imm.le_trans ?_ (by assumption); first | assumption | (refine Imm.le_trans ?_ (by assumption); assumption))) ?_
                refine Ar.outNormal ?_
                refine Ar.next ?_
                refine Wc.region rfl ?_
                refine Wl.q rfl (Qy.add rfl rfl (by omega)) ?_
                refine Wl.q rfl (Qy.move rfl) ?_
                refine Wl.done ?_
                rotate_left
                refine Wc.skip ?_
                refine Ar.outNormal ?_
                refine Ar.next ?_
                refine Wc.region rfl ?_
                refine Wl.q rfl (Qy.add rfl rfl (by omega)) ?_
                refine Wl.q rfl (Qy.move rfl) ?_
                refine Wl.done ?_
                rotate_left
                · refine Ar.reH 10 (.cells #[.map (some b3), .slice a (s1.free.set ((mget s1.at_ ((lifeP p).b[((k : Nat) : Int).toNat]?.getD default)).getD 0).toNat true).length c] 114) rfl (by rw [List.length_set]) ?_
                  refine Ar.again ((1 + 1, ⟨s1.at_, s1.free.set ((mget s1.at_ ((lifeP p).b[((k : Nat) : Int).toNat]?.getD default)).getD 0).toNat true⟩)) ?_ ?_ rfl ⟨rfl, rfl, rfl, rfl, rfl, rfl, rfl, rfl, rfl, rfl, rfl, rfl, trivial⟩ ⟨rfl, rfl, rfl, rfl, rfl, rfl, rfl, rfl, rfl, rfl, rfl, rfl, rfl, rfl, rfl, rfl, trivial⟩
                  · refine ⟨by omega, ?_, by assumption⟩
                    show _ = freeAt (lifeP p) k (freeAt (lifeP p) k x.s ((lifeP p).a[((k : Nat) : Int).toNat]?.getD default)) ((lifeP p).b[((k : Nat) : Int).toNat]?.getD default)
                    rw [← hs1]
                    exact (if_pos (by assumption)).symm
                  · exact Nat.lt_succ_self 0
                · refine Ar.again ((1 + 1, s1)) ?_ ?_ rfl ⟨rfl, rfl, rfl, rfl, rfl, rfl, rfl, rfl, rfl, rfl, rfl, rfl, trivial⟩ ⟨rfl, rfl, rfl, rfl, rfl, rfl, rfl, rfl, rfl, rfl, rfl, rfl, rfl, rfl, rfl, rfl, trivial⟩
                  · refine ⟨by omega, ?_, hof1⟩
                    show _ = freeAt (lifeP p) k (freeAt (lifeP p) k x.s ((lifeP p).a[((k : Nat) : Int).toNat]?.getD default)) ((lifeP p).b[((k : Nat) : Int).toNat]?.getD default)
                    rw [← hs1]
                    exact (if_neg (by assumption)).symm
                  · exact Nat.lt_succ_self 0
              · have hm3 : m = 2 := by omega
                subst hm3
                have hs1 : s1 = freeAt (lifeP p) k (freeAt (lifeP p) k x.s ((lifeP p).a[((k : Nat) : Int).toNat]?.getD default)) ((lifeP p).b[((k : Nat) : Int).toNat]?.getD default) := hs1
                have hs1l : s1.free.length = x.s.free.length := by rw [hs1, freeAt_len, freeAt_len]
                have hsets : (lifeP p).sets[((k : Nat) : Int).toNat]?.getD default = (lifeTo p k).till.length := life_sets hR hkc hn
                have hm9 : mget s1.at_ ((lifeP p).sets[((k : Nat) : Int).toNat]?.getD default) = none := by
                  rw [hs1, freeAt_at, freeAt_at, hsets]; exact hkeys _ (Int.le_refl _)
                have hle := least_le s1.free
                refine Wc.seq ?_
                refine Wc.region rfl ?_
                refine Wl.q rfl (Qy.lss rfl rfl) ?_
                refine Wl.done ?_
                refine Ar.next ?_
                refine Wc.seq ?_
                refine Wc.condN rfl (by first | assumption | omega) ?_
                refine Wc.exit ?_
                refine Ar.passExit ?_
                refine Ar.passExit ?_
                refine Ar.here ?_
                refine Ar.next ?_
                refine Wc.seq ?_
                refine Wc.region rfl ?_
                refine Wl.q rfl (Qy.move rfl) ?_
                refine Wl.q rfl (Qy.move rfl) ?_
                refine Wl.q rfl (Qy.nilCheck rfl) ?_
                refine Wl.q rfl (Qy.fieldAddr T.fa117_4 rfl) ?_
                refine Wl.q rfl (Qy.load 2 T.one23 rfl rfl rfl) ?_
                refine Wl.q rfl (Qy.move rfl) ?_
                refine Wl.q rfl (Qy.indexAddrO (α := Int) T.sl23 rfl rfl (by assumption) (by omega)) ?_
                refine Wl.q rfl (Qy.loadO 6 0 T.one3 rfl rfl (by assumption) (by omega) rfl rfl) ?_
                refine Wl.call 10 rfl T.fn75 rfl (c75 _ s1 _ _ _ _ _ _ hof1 (by omega) hm9) (tags_of ⟨rfl, rfl, rfl, trivial⟩) (fun v3 G3 Ho3 hle3 hp => ?_)
                obtain ⟨pa3, pc3, pj3, rfl, hpo3, rfl, rfl⟩ := hp
                refine Wl.q rfl (Qy.fieldAddr T.fa34_1 rfl) ?_
                refine Wl.store 15 T.one3 rfl rfl rfl rfl rfl ?_
                refine Wl.done ?_
                refine Ar.next ?_
                refine Wc.seq ?_
                refine Wc.region rfl ?_
                refine Wl.q rfl (Qy.fieldAddr T.fa25_2 rfl) ?_
                refine Wl.q rfl (Qy.load 13 T.one22 rfl rfl rfl) ?_
                refine Wl.q rfl (Qy.loadAll 15 T.agg34 rfl rfl rfl) ?_
                refine Wl.lit (α := Sl.Instr) 18 [⟨Go.Sl.Instr.op (Option.getD (Go.Proofs.Ytfleehgbpgmcnaa.PV.code p)[Int.toNat (↑k : Int)]? Inhabited.default), (↑(Go.Proofs.Ytfleehgbpgmcnaa.least (Go.Proofs.Ytfleehgbpgmcnaa.Pl.free s1)) : Int), Go.Proofs.Ytfleehgbpgmcnaa.stand (Go.Proofs.Ytfleehgbpgmcnaa.PkS.s x) (Option.getD (Go.Proofs.Ytfleehgbpgmcnaa.Life.a (Go.Proofs.Ytfleehgbpgmcnaa.lifeP p))[Int.toNat (↑k : Int)]? Inhabited.default), v, Go.Sl.Instr.c (Option.getD (Go.Proofs.Ytfleehgbpgmcnaa.PV.code p)[Int.toNat (↑k : Int)]? Inhabited.default)⟩] rfl T.sl22 T.el34 rfl rfl rfl rfl rfl (fun b7 => ?_)
                refine Wl.append (α := Sl.Instr) 14 rfl T.sl22 T.el34 rfl rfl rfl (by first | assumption | exact OwnA.nil | exact OwnA.made (by simp)) (Src.row 18 rfl) (by first | omega | (simp only [List.length_append, List.length_cons, List.length_nil, maxLen]; omega)) (by first | omega | (simp only [List.length_append, List.length_cons, List.length_nil, maxLen]; omega)) (fun a1 c1 junk1 ho1 => ?_)
                refine Wl.q rfl (Qy.fieldAddr T.fa25_2 rfl) ?_
                refine Wl.store 13 T.one22 rfl rfl rfl rfl rfl ?_
                refine Wl.done ?_
                refine Ar.next ?_
                refine Wc.region rfl ?_
                refine Wl.q rfl (Qy.fieldAddr T.fa25_1 rfl) ?_
                refine Wl.q rfl (Qy.load 13 T.one3 rfl rfl rfl) ?_
                refine Wl.q rfl (Qy.fieldAddr T.fa34_1 rfl) ?_
                refine Wl.q rfl (Qy.load 15 T.one3 rfl rfl rfl) ?_
                refine Wl.q rfl (Qy.add rfl rfl (by omega)) ?_
                refine Wl.q rfl (Qy.max rfl rfl) ?_
                refine Wl.q rfl (Qy.fieldAddr T.fa25_1 rfl) ?_
                refine Wl.store 13 T.one3 rfl rfl rfl rfl rfl ?_
                refine Wl.done ?_
                refine Ar.outNormal ?_
                refine Ar.next ?_
                refine Wc.region rfl ?_
                refine Wl.q rfl (Qy.add rfl rfl (by omega)) ?_
                refine Wl.q rfl (Qy.move rfl) ?_
                refine Wl.done ?_
                have hst9 : pkStep (lifeP p) x k (p.code[((k : Nat) : Int).toNat]?.getD default) = ⟨giveP s1 ((lifeP p).sets[((k : Nat) : Int).toNat]?.getD default), max x.regs ((least s1.free : Int) + 1), x.code ++ [⟨(p.code[((k : Nat) : Int).toNat]?.getD default).op, (least s1.free : Int), stand x.s ((lifeP p).a[((k : Nat) : Int).toNat]?.getD default), v, (p.code[((k : Nat) : Int).toNat]?.getD default).c⟩]⟩ := by
                  unfold pkStep; simp only; rw [← hs1, ← hv9]
                refine Ar.reH 13 (.cells #[.int .i64 p.ins, .int .i64 (max x.regs ((least s1.free : Int) + 1)), .slice a1 (x.code ++ [(⟨(p.code[((k : Nat) : Int).toNat]?.getD default).op, (least s1.free : Int), stand x.s ((lifeP p).a[((k : Nat) : Int).toNat]?.getD default), v, (p.code[((k : Nat) : Int).toNat]?.getD default).c⟩ : Sl.Instr)]).length c1, .slice none 0 0] 25) rfl (by rw [show max x.regs ((least s1.free : Int) + 1) = (if x.regs < (least s1.free : Int) + 1 then (least s1.free : Int) + 1 else x.regs) from by split <;> omega]; rfl) ?_
                refine Ar.again ((k + 1, ⟨giveP s1 ((lifeP p).sets[((k : Nat) : Int).toNat]?.getD default), max x.regs ((least s1.free : Int) + 1), x.code ++ [⟨(p.code[((k : Nat) : Int).toNat]?.getD default).op, (least s1.free : Int), stand x.s ((lifeP p).a[((k : Nat) : Int).toNat]?.getD default), v, (p.code[((k : Nat) : Int).toNat]?.getD default).c⟩]⟩, (a1, c1, junk1), (pa3, pc3, pj3))) ?_ ?_ rfl ⟨rfl, rfl, rfl, rfl, rfl, rfl, rfl, rfl, trivial⟩ ⟨rfl, rfl, rfl, rfl, rfl, rfl, rfl, rfl, rfl, rfl, rfl, rfl, rfl, rfl, trivial⟩
                · refine ⟨hkc, ?_, by assumption, hpo3, fun w hw => ?_⟩
                  · show _ = (if nAt p k = true then pkStep (lifeP p) (pkTo p k) k (cAt p k) else pkTo p k)
                    rw [if_pos hn, ← hx]; exact hst9.symm
                  · have e : (lifeTo p (k + 1)).till.length = (lifeTo p k).till.length + 1 := by
                      show (if nAt p k = true then lifeStep (lifeTo p k) k (cAt p k) else lifeTo p k).till.length = _
                      rw [if_pos hn]; exact step_till_len _ _ _
                    rw [e] at hw
                    show mget (mput s1.at_ ((lifeP p).sets[((k : Nat) : Int).toNat]?.getD default) _) w = none
                    rw [mget_mput, if_neg (by rw [hsets]; omega), hs1, freeAt_at, freeAt_at]
                    exact hkeys w (by omega)
                · show p.code.length - (k + 1) < p.code.length - k
                  omega
      · have hke : k = p.code.length := Nat.le_antisymm hkc0 hkc
        subst hke
        have hlo := lifeP_outs p
        refine Wc.seq ?_
        refine Wc.region rfl ?_
        refine Wl.q rfl (Qy.lss rfl rfl) ?_
        refine Wl.done ?_
        refine Ar.next ?_
        refine Wc.seq ?_
        refine Wc.condN rfl (by first | assumption | omega) ?_
        refine Wc.exit ?_
        refine Ar.passExit ?_
        refine Ar.passExit ?_
        refine Ar.here ?_
        refine Ar.next ?_
        refine Wc.seq ?_
        refine Wc.seq ?_
        refine Wc.region rfl ?_
        refine Wl.q rfl (Qy.move rfl) ?_
        refine Wl.q rfl (Qy.nilCheck rfl) ?_
        refine Wl.q rfl (Qy.fieldAddr T.fa117_5 rfl) ?_
        refine Wl.q rfl (Qy.load 2 T.one23 rfl rfl rfl) ?_
        refine Wl.q rfl (Qy.len T.sl23 rfl) ?_
        refine Wl.q rfl (Qy.move rfl) ?_
        refine Wl.done ?_
        refine Ar.next ?_
        refine Wc.block ?_
        refine Wc.nilRow 20 (Row 3 ([] : List Int) []) ?_
        refine Wc.loop (ι := Nat × List Int × (Option Addr × Nat × List Value)) (fun (q, ol, (oo, od, ok)) => ([(191, .int .i64 (q : Int)), (190, Go.Value.int Go.IntKind.i64 (↑(List.length (Go.Proofs.Ytfleehgbpgmcnaa.Life.outs (Go.Proofs.Ytfleehgbpgmcnaa.lifeP p))) : Int)), (189, Go.Value.slice loo1 (List.length (Go.Proofs.Ytfleehgbpgmcnaa.Life.outs (Go.Proofs.Ytfleehgbpgmcnaa.lifeP p))) lod1), (8, Go.Value.pointer (Option.some (Go.Addr.mk b5 0 Option.none))), (6, Go.Value.pointer (Option.some (Go.Addr.mk b4 0 Option.none))), (3, Go.Value.int Go.IntKind.i64 0), (2, Go.Value.pointer (Option.some (Go.Addr.mk b2 0 Option.none)))], [(13, some b5, .cells #[.int .i64 p.ins, .int .i64 x.regs, .slice oa x.code.length oc, .slice oo ol.length od] 25), (20, oo.map (·.block), Row 3 ol ok), (10, Option.some b4, Go.Obj.cells #[Go.Value.map (Option.some b3), Go.Value.slice a (List.length (Go.Proofs.Ytfleehgbpgmcnaa.Pl.free (Go.Proofs.Ytfleehgbpgmcnaa.PkS.s x))) c] 114), (11, Option.some b3, Go.Sl.mapObj (κ := Int) (Go.Proofs.Ytfleehgbpgmcnaa.Pl.at_ (Go.Proofs.Ytfleehgbpgmcnaa.PkS.s x))), (12, Option.map (fun x => Go.Addr.block x) a, Go.Sl.Row (α := Bool) 4 (Go.Proofs.Ytfleehgbpgmcnaa.Pl.free (Go.Proofs.Ytfleehgbpgmcnaa.PkS.s x)) (j)), (14, Option.map (fun x => Go.Addr.block x) oa, Go.Sl.Row (α := Go.Sl.Instr) 34 (Go.Proofs.Ytfleehgbpgmcnaa.PkS.code x) (oj)), (2, Option.some lu1, Go.Obj.cells #[Go.Value.int Go.IntKind.i64 (Go.Proofs.Ytfleehgbpgmcnaa.PV.ins p), Go.Value.int Go.IntKind.i64 (Go.Proofs.Ytfleehgbpgmcnaa.PV.regs p), Go.Value.slice ac (List.length (Go.Proofs.Ytfleehgbpgmcnaa.PV.code p)) cc, Go.Value.slice ao (List.length (Go.Proofs.Ytfleehgbpgmcnaa.PV.outs p)) co, Go.Value.slice lnb1 (List.length (Go.Proofs.Ytfleehgbpgmcnaa.neededP p)) lnc1, Go.Value.slice (Option.some (Go.Addr.mk lx1 0 Option.none)) (List.length (Go.Proofs.Ytfleehgbpgmcnaa.Life.a (Go.Proofs.Ytfleehgbpgmcnaa.lifeP p))) ln1, Go.Value.slice (Option.some (Go.Addr.mk ly1 0 Option.none)) (List.length (Go.Proofs.Ytfleehgbpgmcnaa.Life.b (Go.Proofs.Ytfleehgbpgmcnaa.lifeP p))) ln1, Go.Value.slice (Option.some (Go.Addr.mk lz1 0 Option.none)) (List.length (Go.Proofs.Ytfleehgbpgmcnaa.Life.sets (Go.Proofs.Ytfleehgbpgmcnaa.lifeP p))) ln1, Go.Value.slice loo1 (List.length (Go.Proofs.Ytfleehgbpgmcnaa.Life.outs (Go.Proofs.Ytfleehgbpgmcnaa.lifeP p))) lod1, Go.Value.slice lo1 (List.length (Go.Proofs.Ytfleehgbpgmcnaa.Life.till (Go.Proofs.Ytfleehgbpgmcnaa.lifeP p))) ld1] 117), (3, Option.map (fun x => Go.Addr.block x) lnb1, Go.Sl.Row (α := Bool) 4 (Go.Proofs.Ytfleehgbpgmcnaa.neededP p) (lnj1)), (4, Option.some lx1, Go.Sl.Row (α := Int) 3 (Go.Proofs.Ytfleehgbpgmcnaa.Life.a (Go.Proofs.Ytfleehgbpgmcnaa.lifeP p)) ([])), (5, Option.some ly1, Go.Sl.Row (α := Int) 3 (Go.Proofs.Ytfleehgbpgmcnaa.Life.b (Go.Proofs.Ytfleehgbpgmcnaa.lifeP p)) ([])), (6, Option.some lz1, Go.Sl.Row (α := Int) 3 (Go.Proofs.Ytfleehgbpgmcnaa.Life.sets (Go.Proofs.Ytfleehgbpgmcnaa.lifeP p)) ([])), (7, Option.map (fun x => Go.Addr.block x) loo1, Go.Sl.Row (α := Int) 3 (Go.Proofs.Ytfleehgbpgmcnaa.Life.outs (Go.Proofs.Ytfleehgbpgmcnaa.lifeP p)) (loj1)), (8, Option.map (fun x => Go.Addr.block x) lo1, Go.Sl.Row (α := Int) 3 (Go.Proofs.Ytfleehgbpgmcnaa.Life.till (Go.Proofs.Ytfleehgbpgmcnaa.lifeP p)) (lj1)), (1, Option.some b2, Go.Obj.cells #[Go.Value.int Go.IntKind.i64 0, Go.Value.int Go.IntKind.i64 0, Go.Value.slice Option.none 0 0, Go.Value.slice Option.none 0 0] 25), (0, Option.some b1, Go.Obj.cells #[Go.Value.int Go.IntKind.i64 (Go.Proofs.Ytfleehgbpgmcnaa.PV.ins p), Go.Value.int Go.IntKind.i64 (Go.Proofs.Ytfleehgbpgmcnaa.PV.regs p), Go.Value.slice ac (List.length (Go.Proofs.Ytfleehgbpgmcnaa.PV.code p)) cc, Go.Value.slice ao (List.length (Go.Proofs.Ytfleehgbpgmcnaa.PV.outs p)) co] 25)])) (fun (q, ol, (oo, od, ok)) => q ≤ p.outs.length ∧ ol = ((lifeP p).outs.map (stand x.s)).take q ∧ OwnA oo od ol ok) (fun (q, ol, (oo, od, ok)) => p.outs.length - q) ((0, [], (none, 0, []))) (⟨Nat.zero_le _, by rw [List.take_zero], OwnA.nil⟩) ⟨rfl, rfl, rfl, rfl, rfl, rfl, rfl, trivial⟩ ⟨rfl, rfl, rfl, rfl, rfl, rfl, rfl, rfl, rfl, rfl, rfl, rfl, rfl, rfl, rfl, trivial⟩ (fun ⟨q, ol, (oo, od, ok)⟩ => fun (hk : q ≤ p.outs.length ∧ ol = ((lifeP p).outs.map (stand x.s)).take q ∧ OwnA oo od ol ok) => ?_)
        obtain ⟨hq1, hol, hoo⟩ := hk
        have hoq : ol.length = q := by rw [hol, List.length_take, List.length_map]; omega
        rcases Nat.lt_or_ge q p.outs.length with hqc | hqc
        · refine Wc.seq ?_
          refine Wc.region rfl ?_
          refine Wl.q rfl (Qy.lss rfl rfl) ?_
          refine Wl.done ?_
          refine Ar.next ?_
          refine Wc.seq ?_
          refine Wc.condP rfl (by first | assumption | omega) ?_
          refine Wc.skip ?_
          refine Ar.next ?_
          refine Wc.seq ?_
          refine Wc.block ?_
          refine Wc.seq ?_
          refine Wc.region rfl ?_
          refine Wl.q rfl (Qy.indexAddrO (α := Int) T.sl23 rfl rfl (by assumption) (by omega)) ?_
          refine Wl.q rfl (Qy.loadO 7 0 T.one3 rfl rfl (by assumption) (by omega) rfl rfl) ?_
          refine Wl.q rfl (Qy.assign rfl) ?_
          refine Wl.done ?_
          refine Ar.next ?_
          refine Wc.draw [0, 1, 8, 7, 6, 5, 4, 3, 2, 14, 12, 11, 10, 20, 13] [(13, 11), (20, 9), (12, 9), (14, 9), (3, 9), (4, 9), (5, 9), (6, 9), (7, 9), (8, 9)] T.mixed rfl ?_
          refine Gm.q 0 [] (by kernel_rfl) rfl rfl (Qy.fieldAddr T.fa25_3 rfl) ?_
          refine Gm.q 1 [13] (by kernel_rfl) rfl rfl (Qy.load 13 T.one23 rfl rfl rfl) ?_
          refine Gm.q 2 [] (by kernel_rfl) rfl rfl (Qy.move rfl) ?_
          refine Gm.q 3 [] (by kernel_rfl) rfl rfl (Qy.nilCheck rfl) ?_
          refine Gm.q 4 [] (by kernel_rfl) rfl rfl (Qy.fieldAddr T.fa114_0 rfl) ?_
          refine Gm.q 5 [10] (by kernel_rfl) rfl rfl (Qy.load 10 T.one112 rfl rfl rfl) ?_
          refine Gm.q 6 [] (by kernel_rfl) rfl rfl (Qy.move rfl) ?_
          refine Gm.q 7 [11] (by kernel_rfl) rfl rfl (Qy.lookup1 11 T.mp112 rfl rfl rfl) ?_
          refine Gm.one 8 ⟨rfl, rfl, rfl, rfl, rfl, rfl, rfl, rfl, rfl, rfl, rfl, rfl, rfl, rfl, rfl, trivial⟩ (by first | exact Imm.le_refl _ | assumption | (refine Imm.le_trans ?_ (by assumption); first | assumption | (refine Imm.le_trans ?_ (by assumption); assumption))) (by kernel_rfl) rfl ?_
          refine Wl.lit (α := Int) 21 [(Option.getD (Go.Sl.mget (Go.Proofs.Ytfleehgbpgmcnaa.Pl.at_ (Go.Proofs.Ytfleehgbpgmcnaa.PkS.s x)) (Option.getD (Go.Proofs.Ytfleehgbpgmcnaa.Life.outs (Go.Proofs.Ytfleehgbpgmcnaa.lifeP p))[Int.toNat (↑q : Int)]? Inhabited.default)) 0)] rfl T.sl23 T.el3 rfl rfl rfl rfl rfl (fun b6 => ?_)
          refine Wl.on0 ?_
          refine Gm.one 9 ⟨rfl, rfl, rfl, rfl, rfl, rfl, rfl, rfl, rfl, rfl, rfl, rfl, rfl, rfl, rfl, trivial⟩ (by first | exact Imm.le_refl _ | assumption | (refine Imm.le_trans ?_ (by assumption); first | assumption | (refine Imm.le_trans ?_ (by assumption); assumption))) (by kernel_rfl) rfl ?_
          refine Wl.append (α := Int) 20 rfl T.sl23 T.el3 rfl rfl rfl (by first | assumption | exact OwnA.nil | exact OwnA.made (by simp)) (Src.row 21 rfl) (by first | omega | (simp only [List.length_append, List.length_cons, List.length_nil, maxLen]; omega)) (by first | omega | (simp only [List.length_append, List.length_cons, List.length_nil, maxLen]; omega)) (fun a1 c1 junk1 ho1 => ?_)
          refine Wl.on0 ?_
          refine Gm.q 10 [] (by kernel_rfl) rfl rfl (Qy.fieldAddr T.fa25_3 rfl) ?_
          refine Gm.one 11 ⟨rfl, rfl, rfl, rfl, rfl, rfl, trivial⟩ (by first | exact Imm.le_refl _ | assumption | (refine Imm.le_trans ?_ (by assumption); first | assumption | (refine Imm.le_trans ?_ (by assumption); assumption))) (by kernel_rfl) rfl ?_
          refine Wl.store 13 T.one23 rfl rfl rfl rfl rfl ?_
          refine Wl.on0 ?_
          refine Gm.doneA (by kernel_rfl) ⟨rfl, rfl, rfl, rfl, rfl, trivial⟩ (by first | exact Imm.le_refl _ | assumption | (refine Imm.le_trans ?_ (by assumption); first | assumption | (refine Imm.le_trans ?_ (by assumption); assumption))) ?_
          refine Ar.outNormal ?_
          refine Ar.next ?_
          refine Wc.region rfl ?_
          refine Wl.q rfl (Qy.add rfl rfl (by omega)) ?_
          refine Wl.q rfl (Qy.move rfl) ?_
          refine Wl.done ?_
          refine Ar.again ((q + 1, ol ++ [stand x.s ((lifeP p).outs[((q : Nat) : Int).toNat]?.getD default)], (a1, c1, junk1))) ?_ ?_ rfl ⟨rfl, rfl, rfl, rfl, rfl, rfl, rfl, trivial⟩ ⟨rfl, rfl, rfl, rfl, rfl, rfl, rfl, rfl, rfl, rfl, rfl, rfl, rfl, rfl, rfl, trivial⟩
          · exact ⟨hqc, by rw [map_take_next (by omega), hol], by assumption⟩
          · show p.outs.length - (q + 1) < p.outs.length - q
            omega
        · have hqe : q = p.outs.length := Nat.le_antisymm hq1 hqc
          subst hqe
          rw [List.take_of_length_le (by rw [List.length_map]; omega)] at hol
          subst hol hx
          refine Wc.seq ?_
          refine Wc.region rfl ?_
          refine Wl.q rfl (Qy.lss rfl rfl) ?_
          refine Wl.done ?_
          refine Ar.next ?_
          refine Wc.seq ?_
          refine Wc.condN rfl (by first | assumption | omega) ?_
          refine Wc.exit ?_
          refine Ar.passExit ?_
          refine Ar.passExit ?_
          refine Ar.here ?_
          refine Ar.next ?_
          refine Wc.seq ?_
          refine Wc.region rfl ?_
          refine Wl.q rfl (Qy.loadAll 13 T.agg25 rfl rfl rfl) ?_
          refine Wl.storeAll 1 T.size25 rfl rfl rfl rfl rfl rfl ?_
          refine Wl.q rfl (Qy.assign rfl) ?_
          refine Wl.done ?_
          refine Ar.next ?_
          refine Wc.ret ?_
          refine Ar.retag 1 30 rfl rfl (Ar.retag 14 0 rfl rfl (Ar.retag 20 1 rfl rfl ?_))
          refine Ar.out2 (.inr rfl) (Ho := Hp.only _ [0, 1]) rfl (.agg 30 rfl rfl T.agg25) (.tmp rfl) (Hp.sub_only _ _) ?_
          exact ⟨oa, oo, oc, od, oj, ok, rfl, hoc, hoo, rfl, rfl⟩
end Go.Proofs.Ytfleehgbpgmcnaa
set_option maxRecDepth 100000
set_option linter.unusedVariables false
namespace Go.Proofs.Ytfleehgbpgmcnaa
open Go Go.Sl
set_option maxHeartbeats 4000000
/-- rows of one length, none too long -/
def Fit (ls : List (List Int)) : Prop := ∀ z ∈ ls, z.length = (ls[0]?.getD []).length ∧ z.length ≤ 20
instance (ls : List (List Int)) : Decidable (Fit ls) := by unfold Fit; infer_instance
attribute [local irreducible] valL pw p2 passP passTo rightP Fit
end Go.Proofs.Ytfleehgbpgmcnaa
set_option maxRecDepth 100000
set_option linter.unusedVariables false
namespace Go.Proofs.Ytfleehgbpgmcnaa
open Go Go.Sl
set_option maxHeartbeats 4000000
def exO : PV := ⟨1, 9, [], [0]⟩
theorem exO_right : rightP exO = true := by decide
theorem exO_pack : (orderP exO).regs = 1 ∧ (orderP exO).outs.length = 1 := by decide
attribute [local irreducible] valL pw p2 rightP
theorem c40 (G : Imm) (p : PV) (ac ao : Option Addr) (cc co : Nat) (h1 : p.code.length ≤ 1099511627776) (h2 : p.outs.length ≤ 1099511627776) :
    Does Try.prog 40 [.agg #[.int .i64 p.ins, .int .i64 p.regs, .slice ac p.code.length cc, .slice ao p.outs.length co]] G [] (fun v G' Ho => v = .bool (decide (40 < (p.code.length : Int) ∨ 40 < (p.outs.length : Int))) ∧ G' = G ∧ Ho = []) := by
  refine Does.enter Try.func40 rfl Try.ntmps40 rfl (fun w => ?_)
  refine Wc.seq ?_
  refine Wc.region rfl ?_
  refine Wl.box 0 rfl rfl rfl (fun b1 => ?_)
  refine Wl.q rfl (Qy.assign rfl) ?_
  refine Wl.done ?_
  refine Ar.next ?_
  refine Wc.seq ?_
  refine Wc.region rfl ?_
  refine Wl.q rfl (Qy.fieldAddr T.fa25_2 rfl) ?_
  refine Wl.q rfl (Qy.load 0 T.one22 rfl rfl rfl) ?_
  refine Wl.q rfl (Qy.len T.sl22 rfl) ?_
  refine Wl.q rfl (Qy.gtr rfl rfl) ?_
  refine Wl.q rfl (Qy.move rfl) ?_
  apply Wl.joinOr 5 7 12 rfl
  intro hg1
  refine Wl.want rfl rfl ?_
  refine Wl.q rfl (Qy.fieldAddr T.fa25_3 rfl) ?_
  refine Wl.want rfl rfl ?_
  refine Wl.q rfl (Qy.load 0 T.one23 rfl rfl rfl) ?_
  refine Wl.want rfl rfl ?_
  refine Wl.q rfl (Qy.len T.sl23 rfl) ?_
  refine Wl.want rfl rfl ?_
  refine Wl.q rfl (Qy.gtr rfl rfl) ?_
  refine Wl.q rfl (Qy.pick rfl rfl) ?_
  exact Wl.back 5 0 rfl rfl rfl rfl rfl
  intro hg1
  refine Wl.pass rfl rfl rfl ?_
  refine Wl.pass rfl rfl rfl ?_
  refine Wl.pass rfl rfl rfl ?_
  refine Wl.pass rfl rfl rfl ?_
  refine Wl.q rfl (Qy.pick rfl rfl) ?_
  exact Wl.back 5 0 rfl rfl rfl rfl rfl
  refine Wl.q rfl (Qy.assign rfl) ?_
  refine Wl.done ?_
  refine Ar.next ?_
  refine Wc.ret ?_
  refine Ar.out1 (.inr rfl) (Ho := []) rfl (.tmp rfl) trivial ?_
  exact ⟨rfl, rfl, rfl⟩
theorem c38 (G : Imm) : Does Try.prog 38 [] G [] (fun v G' Ho => v = .bool true ∧ G' = G ∧ Ho = []) := by
  refine Does.enter Try.func38 rfl Try.ntmps38 rfl (fun w => ?_)
  obtain ⟨e1, e2⟩ := exO_pack
  refine Wc.seq ?_
  refine Wc.region rfl ?_
  refine Wl.q rfl (Qy.assign rfl) ?_
  refine Wl.done ?_
  refine Ar.next ?_
  refine Wc.seq ?_
  refine Wc.region rfl ?_
  refine Wl.lit (α := Int) 0 [(0)] rfl T.sl23 T.el3 rfl rfl rfl rfl rfl (fun b1 => ?_)
  refine Wl.q rfl (Qy.build (cs := [_, _, _, _]) T.st25 rfl rfl rfl) ?_
  refine Wl.callB 2 rfl T.fn42 rfl (fun Gx hGx hgx => c42R Gx exO _ _ _ _ (Arr.nil _) (Arr.own hgx 0 rfl (OwnA.made (by simp [maxLen, exO]))) (by decide) (by decide) exO_right) (fun v1 Gx1 G1 Ho1 hlx1 hp => ?_)
  obtain ⟨qc, qo, qcc, qoc, qj, qk, rfl, hqc, hqo, rfl, rfl⟩ := hp
  have e0 : (orderP exO).ins = 1 := rfl
  refine Wl.q rfl (Qy.move rfl) ?_
  refine Wl.q rfl (Qy.extract rfl rfl) ?_
  refine Wl.q rfl (Qy.extract rfl rfl) ?_
  refine Wl.alloc 4 rfl T.zero25 (fun b2 => ?_)
  refine Wl.storeAll 4 T.size25 rfl rfl rfl rfl rfl rfl ?_
  refine Wl.q rfl (Qy.assign rfl) ?_
  refine Wl.done ?_
  refine Ar.next ?_
  refine Wc.seq ?_
  refine Wc.region rfl ?_
  refine Wl.q rfl (Qy.move rfl) ?_
  refine Wl.q rfl (Qy.eql rfl rfl) ?_
  refine Wl.q rfl (Qy.move rfl) ?_
  refine Wl.yes 11 rfl (by first | assumption | omega) ?_
  refine Wl.want rfl rfl ?_
  refine Wl.q rfl (Qy.fieldAddr T.fa25_0 rfl) ?_
  refine Wl.want rfl rfl ?_
  refine Wl.q rfl (Qy.load 4 T.one3 rfl rfl rfl) ?_
  refine Wl.want rfl rfl ?_
  refine Wl.q rfl (Qy.eql rfl rfl) ?_
  refine Wl.q rfl (Qy.pick rfl rfl) ?_
  refine Wl.q rfl (Qy.move rfl) ?_
  refine Wl.yes 16 rfl (by first | assumption | omega) ?_
  refine Wl.want rfl rfl ?_
  refine Wl.q rfl (Qy.fieldAddr T.fa25_1 rfl) ?_
  refine Wl.want rfl rfl ?_
  refine Wl.q rfl (Qy.load 4 T.one3 rfl rfl rfl) ?_
  refine Wl.want rfl rfl ?_
  refine Wl.q rfl (Qy.eql rfl rfl) ?_
  refine Wl.q rfl (Qy.pick rfl rfl) ?_
  refine Wl.q rfl (Qy.move rfl) ?_
  refine Wl.yes 21 rfl (by first | assumption | omega) ?_
  refine Wl.want rfl rfl ?_
  refine Wl.q rfl (Qy.fieldAddr T.fa25_3 rfl) ?_
  refine Wl.want rfl rfl ?_
  refine Wl.q rfl (Qy.load 4 T.one23 rfl rfl rfl) ?_
  refine Wl.want rfl rfl ?_
  refine Wl.q rfl (Qy.len T.sl23 rfl) ?_
  refine Wl.want rfl rfl ?_
  refine Wl.q rfl (Qy.eql rfl rfl) ?_
  refine Wl.q rfl (Qy.pick rfl rfl) ?_
  refine Wl.q rfl (Qy.assign rfl) ?_
  refine Wl.done ?_
  refine Ar.next ?_
  refine Wc.ret ?_
  refine Ar.out1 (.inr rfl) (Ho := []) rfl (.tmp rfl) trivial ?_
  refine ⟨?_, rfl, rfl⟩
  simp [e0, e1, e2]
end Go.Proofs.Ytfleehgbpgmcnaa
set_option maxRecDepth 100000
set_option linter.unusedVariables false
namespace Go.Proofs.Ytfleehgbpgmcnaa
open Go Go.Sl
set_option maxHeartbeats 4000000
theorem order_len {p : PV} (hR : rightP p = true) : (orderP p).code.length ≤ p.code.length := (pk_code hR p.code.length (Nat.le_refl _)).2
theorem order_outs (p : PV) : (orderP p).outs.length = p.outs.length := by
  show ((lifeP p).outs.map _).length = _
  rw [List.length_map]; exact lifeP_outs p
attribute [local irreducible] valL pw p2 rightP orderP Fit
end Go.Proofs.Ytfleehgbpgmcnaa
namespace Go.Proofs.Ytfleehgbpgmcnaa
open Go Go.Sl
set_option maxRecDepth 100000
set_option maxHeartbeats 2000000
theorem c72 (G : Imm) (i : Sl.Instr) : Does Try.prog 72 [.agg (Cells.enc i).toArray] G [] (fun v G' Ho => ∃ a c junk, v = .slice a (asks i).length c ∧ OwnA a c (asks i) junk ∧ Ho = [(1, a.map (·.block), Row 3 (asks i) junk)] ∧ G' = G) := by
  refine Does.enter Try.func72 rfl Try.ntmps72 rfl (fun w => ?_)
  refine Wc.seq ?_
  refine Wc.region rfl ?_
  refine Wl.box 0 rfl rfl rfl (fun b1 => ?_)
  refine Wl.q rfl (Qy.assign rfl) ?_
  refine Wl.done ?_
  refine Ar.next ?_
  refine Wc.seq ?_
  refine Wc.seq ?_
  refine Wc.region rfl ?_
  refine Wl.q rfl (Qy.fieldAddr T.fa34_0 rfl) ?_
  refine Wl.q rfl (Qy.load 0 T.one3 rfl rfl rfl) ?_
  refine Wl.q rfl (Qy.eql rfl rfl) ?_
  refine Wl.q rfl (Qy.move rfl) ?_
  apply Wl.joinOr 4 6 10 rfl
  intro hg1
  refine Wl.want rfl rfl ?_
  refine Wl.q rfl (Qy.fieldAddr T.fa34_0 rfl) ?_
  refine Wl.want rfl rfl ?_
  refine Wl.q rfl (Qy.load 0 T.one3 rfl rfl rfl) ?_
  refine Wl.want rfl rfl ?_
  refine Wl.q rfl (Qy.eql rfl rfl) ?_
  refine Wl.q rfl (Qy.pick rfl rfl) ?_
  exact Wl.back 4 0 rfl rfl rfl rfl rfl
  intro hg1
  refine Wl.pass rfl rfl rfl ?_
  refine Wl.pass rfl rfl rfl ?_
  refine Wl.pass rfl rfl rfl ?_
  refine Wl.q rfl (Qy.pick rfl rfl) ?_
  exact Wl.back 4 0 rfl rfl rfl rfl rfl
  refine Wl.done ?_
  refine Ar.next ?_
  refine Wc.cond rfl (fun hc1 => ?_) (fun hc1 => ?_)
  refine Wc.seq ?_
  refine Wc.region rfl ?_
  refine Wl.q rfl (Qy.fieldAddr T.fa34_2 rfl) ?_
  refine Wl.q rfl (Qy.load 0 T.one3 rfl rfl rfl) ?_
  refine Wl.q rfl (Qy.fieldAddr T.fa34_3 rfl) ?_
  refine Wl.q rfl (Qy.load 0 T.one3 rfl rfl rfl) ?_
  refine Wl.lit (α := Int) 1 [(Go.Sl.Instr.a i), (Go.Sl.Instr.b i)] rfl T.sl23 T.el3 rfl rfl rfl rfl rfl (fun b2 => ?_)
  refine Wl.q rfl (Qy.assign rfl) ?_
  refine Wl.done ?_
  refine Ar.next ?_
  refine Wc.ret ?_
  refine Ar.passRet ?_
  rotate_left
  refine Wc.skip ?_
  refine Ar.next ?_
  refine Wc.seq ?_
  refine Wc.seq ?_
  refine Wc.region rfl ?_
  refine Wl.q rfl (Qy.fieldAddr T.fa34_0 rfl) ?_
  refine Wl.q rfl (Qy.load 0 T.one3 rfl rfl rfl) ?_
  refine Wl.q rfl (Qy.geq rfl rfl) ?_
  refine Wl.q rfl (Qy.move rfl) ?_
  apply Wl.joinAnd 4 19 23 rfl
  intro hg1
  refine Wl.want rfl rfl ?_
  refine Wl.q rfl (Qy.fieldAddr T.fa34_0 rfl) ?_
  refine Wl.want rfl rfl ?_
  refine Wl.q rfl (Qy.load 0 T.one3 rfl rfl rfl) ?_
  refine Wl.want rfl rfl ?_
  refine Wl.q rfl (Qy.leq rfl rfl) ?_
  refine Wl.q rfl (Qy.pick rfl rfl) ?_
  exact Wl.back 4 0 rfl rfl rfl rfl rfl
  intro hg1
  refine Wl.pass rfl rfl rfl ?_
  refine Wl.pass rfl rfl rfl ?_
  refine Wl.pass rfl rfl rfl ?_
  refine Wl.q rfl (Qy.pick rfl rfl) ?_
  exact Wl.back 4 0 rfl rfl rfl rfl rfl
  refine Wl.done ?_
  refine Ar.next ?_
  refine Wc.cond rfl (fun hc2 => ?_) (fun hc2 => ?_)
  refine Wc.seq ?_
  refine Wc.region rfl ?_
  refine Wl.q rfl (Qy.fieldAddr T.fa34_2 rfl) ?_
  refine Wl.q rfl (Qy.load 0 T.one3 rfl rfl rfl) ?_
  refine Wl.lit (α := Int) 1 [(Go.Sl.Instr.a i)] rfl T.sl23 T.el3 rfl rfl rfl rfl rfl (fun b2 => ?_)
  refine Wl.q rfl (Qy.assign rfl) ?_
  refine Wl.done ?_
  refine Ar.next ?_
  refine Wc.ret ?_
  refine Ar.passRet ?_
  rotate_left
  refine Wc.skip ?_
  refine Ar.next ?_
  refine Wc.seq ?_
  refine Wc.region rfl ?_
  refine Wl.q rfl (Qy.assign rfl) ?_
  refine Wl.done ?_
  refine Ar.next ?_
  refine Wc.ret ?_
  rotate_left
  rotate_right
  · have h : asks i = [] := by unfold asks; rw [if_neg (by omega), if_neg (by omega)]
    refine Ar.nilRow 1 (Row 3 ([] : List Int) []) ?_
    refine Ar.out1 (.inr rfl) (Ho := Hp.only _ [1]) rfl (.tmp rfl) (Hp.sub_only _ _) ?_
    rw [h]; exact ⟨_, _, _, rfl, OwnA.nil, rfl, rfl⟩
  all_goals first | refine Ar.out1 (.inr rfl) (Ho := Hp.only _ [1]) rfl (.tmp rfl) (Hp.sub_only _ _) ?_
  all_goals first
    | (have h : asks i = [i.a, i.b] := by unfold asks; rw [if_pos (by omega)]
       rw [h]; exact ⟨_, _, _, rfl, OwnA.made (by simp [maxLen]), rfl, rfl⟩)
    | (have h : asks i = [i.a] := by unfold asks; rw [if_neg (by omega), if_pos (by omega)]
       rw [h]; exact ⟨_, _, _, rfl, OwnA.made (by simp [maxLen]), rfl, rfl⟩)
    | skip
/-- the marks: m are not yet set; .. of a it is being looked at -/
def ON (p : PV) (m : Nat) : List Bool := List.replicate m false ++ rf p (p.code.drop m)
def OM (p : PV) (a : Nat) (f : Bool) : List Bool := List.replicate a false ++ f :: rf p (p.code.drop (a + 1))
theorem ON_succ (p : PV) (a : Nat) : ON p (a + 1) = OM p a false := by
  unfold ON OM; rw [List.replicate_succ', List.append_assoc]; rfl
theorem OM_len {p : PV} {a : Nat} (h : a < p.code.length) (f : Bool) : (OM p a f).length = p.code.length := by
  unfold OM; simp [rf_len]; omega
theorem OM_set (p : PV) (a : Nat) (f : Bool) : (OM p a f).set ((a : Nat) : Int).toNat true = OM p a true := by
  unfold OM
  rw [Int.toNat_natCast, List.set_append_right _ _ (by simp)]
  simp
theorem OM_get {p : PV} {a j : Nat} (h : a + 1 ≤ j) (hj : j < p.code.length) (f : Bool) : (OM p a f)[((j : Nat) : Int).toNat]?.getD default = fromAt p (p.code[((j : Nat) : Int).toNat]?.getD default).to (j + 1) := by
  unfold OM
  rw [Int.toNat_natCast, List.getElem?_append_right (by simp; omega), List.length_replicate]
  obtain ⟨d, hd⟩ : ∃ d, j = a + 1 + d := ⟨j - (a + 1), by omega⟩
  have e : j - a = d + 1 := by omega
  rw [e, List.getElem?_cons_succ]
  have h1 := rf_drop p (p.code.drop (a + 1)) d
  rw [List.drop_drop, ← hd, rf_at p hj] at h1
  have h2 : (rf p (p.code.drop (a + 1)))[d]? = ((rf p (p.code.drop (a + 1))).drop d)[0]? := by rw [List.getElem?_drop]; simp
  rw [h2, h1]; rfl
theorem OM_done {p : PV} {a : Nat} (h : a < p.code.length) : OM p a (fromAt p (p.code[((a : Nat) : Int).toNat]?.getD default).to (a + 1)) = ON p a := by
  unfold OM ON
  rw [rf_at p h, Int.toNat_natCast]
theorem ON_all (p : PV) : ON p p.code.length = List.replicate p.code.length false := by
  unfold ON; rw [List.drop_length]; simp [rf]
theorem ON_zero (p : PV) : ON p 0 = rf p p.code := by unfold ON; simp
attribute [local irreducible] ON OM rf fromAt
theorem c51 (G : Imm) (p : PV) (ac ao : Option Addr) (cc co : Nat) (hc : Arr G ac p.code) (ho : Arr G ao p.outs) (hR : rightP p = true) :
    Does Try.prog 51 [.agg #[.int .i64 p.ins, .int .i64 p.regs, .slice ac p.code.length cc, .slice ao p.outs.length co]] G [] (fun v G' Ho => ∃ b c j, v = .slice b (neededP p).length c ∧ OwnA b c (neededP p) j ∧ Ho = [(0, b.map (·.block), Row 4 (neededP p) j)] ∧ G' = G) := by
  obtain ⟨r1, r2, r3, r4, r5, r6, r7, r8⟩ := right_facts hR
  have hnr := needed_rf hR
  refine Does.enter Try.func51 rfl Try.ntmps51 rfl (fun w => ?_)
  refine Wc.seq ?_
  refine Wc.region rfl ?_
  refine Wl.box 0 rfl rfl rfl (fun b1 => ?_)
  refine Wl.q rfl (Qy.assign rfl) ?_
  refine Wl.done ?_
  refine Ar.next ?_
  refine Wc.seq ?_
  refine Wc.region rfl ?_
  refine Wl.q rfl (Qy.fieldAddr T.fa25_2 rfl) ?_
  refine Wl.q rfl (Qy.load 0 T.one22 rfl rfl rfl) ?_
  refine Wl.q rfl (Qy.len T.sl22 rfl) ?_
  refine Wl.make (α := Bool) 1 rfl T.sl64 T.el4 rfl rfl (by omega) (by omega) (fun b2 => ?_)
  refine Wl.q rfl (Qy.assign rfl) ?_
  refine Wl.done ?_
  refine Ar.next ?_
  refine Wc.seq ?_
  refine Wc.seq ?_
  refine Wc.region rfl ?_
  refine Wl.q rfl (Qy.fieldAddr T.fa25_2 rfl) ?_
  refine Wl.q rfl (Qy.load 0 T.one22 rfl rfl rfl) ?_
  refine Wl.q rfl (Qy.len T.sl22 rfl) ?_
  refine Wl.q rfl (Qy.sub rfl rfl (by omega)) ?_
  refine Wl.q rfl (Qy.assign rfl) ?_
  refine Wl.done ?_
  refine Ar.next ?_
  refine Wc.block ?_
  generalize hS0 : List.replicate ((p.code.length : Int)).toNat (default : Bool) = S0 at *
  have hS0l : S0.length = p.code.length := by rw [← hS0, List.length_replicate]; omega
  have hS1 : S0 = ON p p.code.length := by rw [ON_all, ← hS0]; rfl
  have hOw : ∀ O : List Bool, O.length = p.code.length → OwnA (some ⟨b2, 0, none⟩) S0.length O [] := fun O hO => .inr ⟨b2, rfl, by rw [hO, hS0l]; simp, by omega, by simp only [maxLen]; omega⟩
  refine Wc.re 3 rfl (show _ = Value.slice (some ⟨b2, 0, none⟩) (ON p p.code.length).length S0.length by rw [hS1]) (Wc.reH 1 (Row 4 (ON p p.code.length) []) rfl (by rw [hS1]) ?_)
  refine Wc.loop (ι := Nat) (fun m => ([(4, .int .i64 ((m : Int) - 1)), (3, .slice (some ⟨b2, 0, none⟩) (ON p m).length S0.length), (2, Go.Value.slice Option.none 0 0), (1, Go.Value.pointer (Option.some (Go.Addr.mk b1 0 Option.none)))], [(1, some b2, Row 4 (ON p m) []), (0, Option.some b1, Go.Obj.cells #[Go.Value.int Go.IntKind.i64 (Go.Proofs.Ytfleehgbpgmcnaa.PV.ins p), Go.Value.int Go.IntKind.i64 (Go.Proofs.Ytfleehgbpgmcnaa.PV.regs p), Go.Value.slice ac (List.length (Go.Proofs.Ytfleehgbpgmcnaa.PV.code p)) cc, Go.Value.slice ao (List.length (Go.Proofs.Ytfleehgbpgmcnaa.PV.outs p)) co] 25)])) (fun m => m ≤ p.code.length) (fun m => m) (p.code.length) (Nat.le_refl _) ⟨rfl, rfl, rfl, rfl, trivial⟩ ⟨rfl, rfl, trivial⟩ (fun m => fun (hk : m ≤ p.code.length) => ?_)
  rcases m with _ | a
  · refine Wc.seq ?_
    refine Wc.seq ?_
    refine Wc.region rfl ?_
    refine Wl.q rfl (Qy.move rfl) ?_
    refine Wl.q rfl (Qy.geq rfl rfl) ?_
    refine Wl.done ?_
    refine Ar.next ?_
    refine Wc.condN rfl (by first | assumption | omega) ?_
    refine Wc.exit ?_
    refine Ar.passExit ?_
    refine Ar.passExit ?_
    refine Ar.here ?_
    refine Ar.next ?_
    refine Wc.seq ?_
    refine Wc.region rfl ?_
    refine Wl.q rfl (Qy.move rfl) ?_
    refine Wl.q rfl (Qy.assign rfl) ?_
    refine Wl.done ?_
    refine Ar.next ?_
    refine Wc.ret ?_
    refine Ar.pick [1] (by decide) (Ar.out1 (.inr rfl) rfl (.tmp rfl) (Hp.sub_self 0 _) ?_)
    rw [hnr, ← ON_zero]
    exact ⟨_, _, _, rfl, hOw _ (by rw [ON_zero, rf_len]), rfl, rfl⟩
  have hal : a < p.code.length := hk
  refine Wc.re 4 rfl (show _ = Value.int .i64 (a : Int) by congr 1; omega) (Wc.re 3 rfl (show _ = Value.slice (some ⟨b2, 0, none⟩) (OM p a false).length S0.length by rw [ON_succ]) (Wc.reH 1 (Row 4 (OM p a false) []) rfl (by rw [ON_succ]) ?_))
  refine Wc.seq ?_
  refine Wc.seq ?_
  refine Wc.region rfl ?_
  refine Wl.q rfl (Qy.move rfl) ?_
  refine Wl.q rfl (Qy.geq rfl rfl) ?_
  refine Wl.done ?_
  refine Ar.next ?_
  refine Wc.condP rfl (by first | assumption | omega) ?_
  refine Wc.skip ?_
  refine Ar.next ?_
  refine Wc.seq ?_
  refine Wc.block ?_
  refine Wc.seq ?_
  refine Wc.region rfl ?_
  refine Wl.q rfl (Qy.fieldAddr T.fa25_2 rfl) ?_
  refine Wl.q rfl (Qy.load 0 T.one22 rfl rfl rfl) ?_
  refine Wl.q rfl (Qy.move rfl) ?_
  refine Wl.q rfl (Qy.at (α := Instr) T.sl22 rfl rfl (by assumption) (by omega)) ?_
  refine Wl.q rfl (Qy.fieldAddr T.fa34_1 rfl) ?_
  refine Wl.q rfl (Qy.loadG T.one3 rfl (Arr.cell (by assumption) (by omega) 1 rfl rfl)) ?_
  refine Wl.q rfl (Qy.assign rfl) ?_
  refine Wl.done ?_
  refine Ar.next ?_
  refine Wc.seq ?_
  refine Wc.region rfl ?_
  refine Wl.q rfl (Qy.assign rfl) ?_
  refine Wl.done ?_
  refine Ar.next ?_
  refine Wc.seq ?_
  refine Wc.seq ?_
  refine Wc.region rfl ?_
  refine Wl.q rfl (Qy.move rfl) ?_
  refine Wl.q rfl (Qy.add rfl rfl (by omega)) ?_
  refine Wl.q rfl (Qy.assign rfl) ?_
  refine Wl.done ?_
  refine Ar.next ?_
  refine Wc.block ?_
  generalize hF : fromAt p (p.code[((a : Nat) : Int).toNat]?.getD default).to (a + 1) = F at *
  refine Wc.loop (ι := Nat × Bool × Bool) (fun (j, ov, f) => ([(7, .int .i64 (j : Int)), (6, .bool ov), (3, .slice (some ⟨b2, 0, none⟩) (OM p a f).length S0.length), (5, Go.Value.int Go.IntKind.i64 (Go.Sl.Instr.to (Option.getD (Go.Proofs.Ytfleehgbpgmcnaa.PV.code p)[Int.toNat (↑a : Int)]? Inhabited.default))), (4, Go.Value.int Go.IntKind.i64 (↑a : Int)), (2, Go.Value.slice Option.none 0 0), (1, Go.Value.pointer (Option.some (Go.Addr.mk b1 0 Option.none)))], [(1, some b2, Row 4 (OM p a f) []), (0, Option.some b1, Go.Obj.cells #[Go.Value.int Go.IntKind.i64 (Go.Proofs.Ytfleehgbpgmcnaa.PV.ins p), Go.Value.int Go.IntKind.i64 (Go.Proofs.Ytfleehgbpgmcnaa.PV.regs p), Go.Value.slice ac (List.length (Go.Proofs.Ytfleehgbpgmcnaa.PV.code p)) cc, Go.Value.slice ao (List.length (Go.Proofs.Ytfleehgbpgmcnaa.PV.outs p)) co] 25)])) (fun (j, ov, f) => a + 1 ≤ j ∧ j ≤ p.code.length ∧ (ov = true → F = f) ∧ (ov = false → F = (f || fromAt p (p.code[((a : Nat) : Int).toNat]?.getD default).to j))) (fun (j, ov, f) => p.code.length - j) ((a + 1, false, false)) (⟨Nat.le_refl _, hk, fun h => Bool.noConfusion h, fun _ => (by rw [hF]; simp)⟩) ⟨rfl, rfl, rfl, rfl, rfl, rfl, rfl, trivial⟩ ⟨rfl, rfl, trivial⟩ (fun ⟨j, ov, f⟩ => fun (hk : a + 1 ≤ j ∧ j ≤ p.code.length ∧ (ov = true → F = f) ∧ (ov = false → F = (f || fromAt p (p.code[((a : Nat) : Int).toNat]?.getD default).to j))) => ?_)
  obtain ⟨hj1, hj2, ht, hf⟩ := hk
  have hoO := hOw (OM p a f) (OM_len hal f)
  have hOl := OM_len hal f
  rcases Decidable.em (ov = false ∧ j < p.code.length) with ⟨hov, hlt⟩ | hstop
  · subst hov
    have hf := hf rfl
    clear ht
    have hX := OM_get hj1 hlt f
    have hst := fromAt_step p (p.code[((a : Nat) : Int).toNat]?.getD default).to hlt
    have hI : p.code[j]?.getD default = p.code[((j : Nat) : Int).toNat]?.getD default := by rw [Int.toNat_natCast]
    rw [hI] at hst
    generalize hX2 : fromAt p (p.code[((j : Nat) : Int).toNat]?.getD default).to (j + 1) = X at *
    have hasks : (asks (p.code[((j : Nat) : Int).toNat]?.getD default)).length ≤ 2 := by unfold asks; split <;> (try split) <;> simp
    refine Wc.seq ?_
    refine Wc.seq ?_
    refine Wc.region rfl ?_
    refine Wl.q rfl (Qy.move rfl) ?_
    refine Wl.q rfl (Qy.fieldAddr T.fa25_2 rfl) ?_
    refine Wl.q rfl (Qy.load 0 T.one22 rfl rfl rfl) ?_
    refine Wl.q rfl (Qy.len T.sl22 rfl) ?_
    refine Wl.q rfl (Qy.lss rfl rfl) ?_
    refine Wl.q rfl (Qy.move rfl) ?_
    refine Wl.yes 36 rfl (by first | assumption | omega) ?_
    refine Wl.want rfl rfl ?_
    refine Wl.q rfl (Qy.move rfl) ?_
    refine Wl.want rfl rfl ?_
    refine Wl.q rfl (Qy.not rfl) ?_
    refine Wl.q rfl (Qy.pick rfl rfl) ?_
    refine Wl.done ?_
    refine Ar.next ?_
    refine Wc.condT rfl ?_
    refine Wc.skip ?_
    refine Ar.next ?_
    refine Wc.seq ?_
    refine Wc.block ?_
    refine Wc.seq ?_
    refine Wc.region rfl ?_
    refine Wl.q rfl (Qy.fieldAddr T.fa25_2 rfl) ?_
    refine Wl.q rfl (Qy.load 0 T.one22 rfl rfl rfl) ?_
    refine Wl.q rfl (Qy.move rfl) ?_
    refine Wl.q rfl (Qy.at (α := Instr) T.sl22 rfl rfl (by assumption) (by omega)) ?_
    refine Wl.q rfl (Qy.loadsG T.agg34 rfl (Arr.elem (by assumption) (by omega)) rfl) ?_
    refine Wl.call 2 rfl T.fn72 rfl (c72 _ _) (tags_of trivial) (fun v1 G1 Ho1 hle1 hp => ?_)
    obtain ⟨ad1, cd1, junk1, rfl, hoa1, rfl, rfl⟩ := hp
    refine Wl.q rfl (Qy.assign rfl) ?_
    refine Wl.done ?_
    refine Ar.next ?_
    refine Wc.seq ?_
    refine Wc.seq ?_
    refine Wc.region rfl ?_
    refine Wl.q rfl (Qy.assign rfl) ?_
    refine Wl.done ?_
    refine Ar.next ?_
    refine Wc.block ?_
    refine Wc.loop (ι := Nat × Bool) (fun (b, g) => ([(9, .int .i64 (b : Int)), (3, .slice (some ⟨b2, 0, none⟩) (OM p a g).length S0.length), (8, Go.Value.slice ad1 (List.length (Go.Proofs.Ytfleehgbpgmcnaa.asks (Option.getD (Go.Proofs.Ytfleehgbpgmcnaa.PV.code p)[Int.toNat (↑j : Int)]? Inhabited.default))) cd1), (7, Go.Value.int Go.IntKind.i64 (↑j : Int)), (6, Go.Value.bool Bool.false), (5, Go.Value.int Go.IntKind.i64 (Go.Sl.Instr.to (Option.getD (Go.Proofs.Ytfleehgbpgmcnaa.PV.code p)[Int.toNat (↑a : Int)]? Inhabited.default))), (4, Go.Value.int Go.IntKind.i64 (↑a : Int)), (2, Go.Value.slice Option.none 0 0), (1, Go.Value.pointer (Option.some (Go.Addr.mk b1 0 Option.none)))], [(1, some b2, Row 4 (OM p a g) []), (3, Option.map (fun x => Go.Addr.block x) ad1, Go.Sl.Row (α := Int) 3 (Go.Proofs.Ytfleehgbpgmcnaa.asks (Option.getD (Go.Proofs.Ytfleehgbpgmcnaa.PV.code p)[Int.toNat (↑j : Int)]? Inhabited.default)) (junk1)), (0, Option.some b1, Go.Obj.cells #[Go.Value.int Go.IntKind.i64 (Go.Proofs.Ytfleehgbpgmcnaa.PV.ins p), Go.Value.int Go.IntKind.i64 (Go.Proofs.Ytfleehgbpgmcnaa.PV.regs p), Go.Value.slice ac (List.length (Go.Proofs.Ytfleehgbpgmcnaa.PV.code p)) cc, Go.Value.slice ao (List.length (Go.Proofs.Ytfleehgbpgmcnaa.PV.outs p)) co] 25)])) (fun (b, g) => b ≤ (asks (p.code[((j : Nat) : Int).toNat]?.getD default)).length ∧ g = (f || (X && decide ((p.code[((a : Nat) : Int).toNat]?.getD default).to ∈ (asks (p.code[((j : Nat) : Int).toNat]?.getD default)).take b)))) (fun (b, g) => (asks (p.code[((j : Nat) : Int).toNat]?.getD default)).length - b) ((0, f)) (⟨Nat.zero_le _, by simp⟩) ⟨rfl, rfl, rfl, rfl, rfl, rfl, rfl, rfl, rfl, trivial⟩ ⟨rfl, rfl, rfl, trivial⟩ (fun ⟨b, g⟩ => fun (hk : b ≤ (asks (p.code[((j : Nat) : Int).toNat]?.getD default)).length ∧ g = (f || (X && decide ((p.code[((a : Nat) : Int).toNat]?.getD default).to ∈ (asks (p.code[((j : Nat) : Int).toNat]?.getD default)).take b)))) => ?_)
    obtain ⟨hb1, hg⟩ := hk
    have hoO := hOw (OM p a g) (OM_len hal g)
    have hOl := OM_len hal g
    have hXg := OM_get hj1 hlt g
    rw [hX2] at hXg
    rcases Nat.lt_or_ge b (asks (p.code[((j : Nat) : Int).toNat]?.getD default)).length with hblt | hbge
    · have htk : (asks (p.code[((j : Nat) : Int).toNat]?.getD default)).take (b + 1) = (asks (p.code[((j : Nat) : Int).toNat]?.getD default)).take b ++ [(asks (p.code[((j : Nat) : Int).toNat]?.getD default))[((b : Nat) : Int).toNat]?.getD default] := by
        have e : ((b : Nat) : Int).toNat = b := Int.toNat_natCast b
        rw [List.take_add_one, e, List.getElem?_eq_getElem hblt]; rfl
      by_cases hq : (asks (p.code[((j : Nat) : Int).toNat]?.getD default))[((b : Nat) : Int).toNat]?.getD default = (p.code[((a : Nat) : Int).toNat]?.getD default).to
      · refine Wc.seq ?_
        refine Wc.seq ?_
        refine Wc.region rfl ?_
        refine Wl.q rfl (Qy.move rfl) ?_
        refine Wl.q rfl (Qy.move rfl) ?_
        refine Wl.q rfl (Qy.len T.sl23 rfl) ?_
        refine Wl.q rfl (Qy.lss rfl rfl) ?_
        refine Wl.done ?_
        refine Ar.next ?_
        refine Wc.condP rfl (by first | assumption | omega) ?_
        refine Wc.skip ?_
        refine Ar.next ?_
        refine Wc.seq ?_
        refine Wc.block ?_
        refine Wc.seq ?_
        refine Wc.region rfl ?_
        refine Wl.q rfl (Qy.move rfl) ?_
        refine Wl.q rfl (Qy.move rfl) ?_
        refine Wl.q rfl (Qy.indexAddrO (α := Int) T.sl23 rfl rfl (by assumption) (by omega)) ?_
        refine Wl.q rfl (Qy.loadO 3 0 T.one3 rfl rfl (by assumption) (by omega) rfl rfl) ?_
        refine Wl.q rfl (Qy.move rfl) ?_
        refine Wl.q rfl (Qy.eql rfl rfl) ?_
        refine Wl.q rfl (Qy.move rfl) ?_
        refine Wl.yes 60 rfl (by first | assumption | omega) ?_
        refine Wl.want rfl rfl ?_
        refine Wl.q rfl (Qy.move rfl) ?_
        refine Wl.want rfl rfl ?_
        refine Wl.q rfl (Qy.move rfl) ?_
        refine Wl.want rfl rfl ?_
        refine Wl.q rfl (Qy.indexAddrO (α := Bool) T.sl64 rfl rfl (by assumption) (by omega)) ?_
        refine Wl.want rfl rfl ?_
        refine Wl.q rfl (Qy.loadO 1 0 T.one4 rfl rfl (by assumption) (by omega) rfl rfl) ?_
        refine Wl.q rfl (Qy.pick rfl rfl) ?_
        refine Wl.done ?_
        refine Ar.next ?_
        refine Wc.ite rfl (fun hc1 => ?_) (fun hc1 => ?_)
        refine Wc.region rfl ?_
        refine Wl.q rfl (Qy.move rfl) ?_
        refine Wl.q rfl (Qy.move rfl) ?_
        refine Wl.q rfl (Qy.indexAddrO (α := Bool) T.sl64 rfl rfl (by assumption) (by omega)) ?_
        refine Wl.setO (z := _) 1 T.size4 rfl rfl rfl (by assumption) (by omega) rfl (fun ho1 => ?_)
        refine Wl.done ?_
        refine Ar.outNormal ?_
        refine Ar.next ?_
        refine Wc.region rfl ?_
        refine Wl.q rfl (Qy.move rfl) ?_
        refine Wl.q rfl (Qy.add rfl rfl (by omega)) ?_
        refine Wl.q rfl (Qy.assign rfl) ?_
        refine Wl.done ?_
        rotate_left
        refine Wc.skip ?_
        refine Ar.outNormal ?_
        refine Ar.next ?_
        refine Wc.region rfl ?_
        refine Wl.q rfl (Qy.move rfl) ?_
        refine Wl.q rfl (Qy.add rfl rfl (by omega)) ?_
        refine Wl.q rfl (Qy.assign rfl) ?_
        refine Wl.done ?_
        rotate_left
        · have hXt : X = true := by rw [← hXg]; exact hc1
          have hset := OM_set p a g
          refine Ar.reH 1 (Row 4 (OM p a true) []) rfl (by rw [hset]) (Ar.re 3 rfl (show _ = Value.slice (some ⟨b2, 0, none⟩) (OM p a true).length S0.length by rw [OM_len hal, OM_len hal]) ?_)
          refine Ar.again ((b + 1, true)) ?_ ?_ rfl ⟨rfl, rfl, rfl, rfl, rfl, rfl, rfl, rfl, rfl, trivial⟩ ⟨rfl, rfl, rfl, trivial⟩
          · have hmem : (p.code[((a : Nat) : Int).toNat]?.getD default).to ∈ (asks (p.code[((j : Nat) : Int).toNat]?.getD default)).take (b + 1) := by rw [htk, ← hq]; exact List.mem_append_right _ (List.mem_singleton.2 rfl)
            exact ⟨by omega, by rw [hXt, decide_eq_true hmem]; simp⟩
          · show (asks (p.code[((j : Nat) : Int).toNat]?.getD default)).length - (b + 1) < (asks (p.code[((j : Nat) : Int).toNat]?.getD default)).length - b
            omega
        · have hXf : X = false := by rw [← hXg]; exact hc1
          refine Ar.again ((b + 1, g)) ?_ ?_ rfl ⟨rfl, rfl, rfl, rfl, rfl, rfl, rfl, rfl, rfl, trivial⟩ ⟨rfl, rfl, rfl, trivial⟩
          · exact ⟨by omega, by rw [hg, hXf]; simp⟩
          · show (asks (p.code[((j : Nat) : Int).toNat]?.getD default)).length - (b + 1) < (asks (p.code[((j : Nat) : Int).toNat]?.getD default)).length - b
            omega
      · refine Wc.seq ?_
        refine Wc.seq ?_
        refine Wc.region rfl ?_
        refine Wl.q rfl (Qy.move rfl) ?_
        refine Wl.q rfl (Qy.move rfl) ?_
        refine Wl.q rfl (Qy.len T.sl23 rfl) ?_
        refine Wl.q rfl (Qy.lss rfl rfl) ?_
        refine Wl.done ?_
        refine Ar.next ?_
        refine Wc.condP rfl (by first | assumption | omega) ?_
        refine Wc.skip ?_
        refine Ar.next ?_
        refine Wc.seq ?_
        refine Wc.block ?_
        refine Wc.seq ?_
        refine Wc.region rfl ?_
        refine Wl.q rfl (Qy.move rfl) ?_
        refine Wl.q rfl (Qy.move rfl) ?_
        refine Wl.q rfl (Qy.indexAddrO (α := Int) T.sl23 rfl rfl (by assumption) (by omega)) ?_
        refine Wl.q rfl (Qy.loadO 3 0 T.one3 rfl rfl (by assumption) (by omega) rfl rfl) ?_
        refine Wl.q rfl (Qy.move rfl) ?_
        refine Wl.q rfl (Qy.eql rfl rfl) ?_
        refine Wl.q rfl (Qy.move rfl) ?_
        refine Wl.no 60 rfl (by first | assumption | omega) ?_
        refine Wl.pass rfl rfl rfl ?_
        refine Wl.pass rfl rfl rfl ?_
        refine Wl.pass rfl rfl rfl ?_
        refine Wl.pass rfl rfl rfl ?_
        refine Wl.q rfl (Qy.pick rfl rfl) ?_
        refine Wl.done ?_
        refine Ar.next ?_
        refine Wc.condF rfl ?_
        refine Wc.skip ?_
        refine Ar.outNormal ?_
        refine Ar.next ?_
        refine Wc.region rfl ?_
        refine Wl.q rfl (Qy.move rfl) ?_
        refine Wl.q rfl (Qy.add rfl rfl (by omega)) ?_
        refine Wl.q rfl (Qy.assign rfl) ?_
        refine Wl.done ?_
        refine Ar.again ((b + 1, g)) ?_ ?_ rfl ⟨rfl, rfl, rfl, rfl, rfl, rfl, rfl, rfl, rfl, trivial⟩ ⟨rfl, rfl, rfl, trivial⟩
        · refine ⟨by omega, ?_⟩
          rw [htk, hg]
          have hq' : ¬ (p.code[((a : Nat) : Int).toNat]?.getD default).to = (asks (p.code[((j : Nat) : Int).toNat]?.getD default))[((b : Nat) : Int).toNat]?.getD default := fun h => hq h.symm
          simp only [List.mem_append, List.mem_singleton, hq', or_false]
        · show (asks (p.code[((j : Nat) : Int).toNat]?.getD default)).length - (b + 1) < (asks (p.code[((j : Nat) : Int).toNat]?.getD default)).length - b
          omega
    · have hbb : b = (asks (p.code[((j : Nat) : Int).toNat]?.getD default)).length := by omega
      subst hbb
      rw [List.take_length] at hg
      refine Wc.seq ?_
      refine Wc.seq ?_
      refine Wc.region rfl ?_
      refine Wl.q rfl (Qy.move rfl) ?_
      refine Wl.q rfl (Qy.move rfl) ?_
      refine Wl.q rfl (Qy.len T.sl23 rfl) ?_
      refine Wl.q rfl (Qy.lss rfl rfl) ?_
      refine Wl.done ?_
      refine Ar.next ?_
      refine Wc.condN rfl (by first | assumption | omega) ?_
      refine Wc.exit ?_
      refine Ar.passExit ?_
      refine Ar.passExit ?_
      refine Ar.here ?_
      refine Ar.next ?_
      refine Wc.region rfl ?_
      refine Wl.q rfl (Qy.fieldAddr T.fa25_2 rfl) ?_
      refine Wl.q rfl (Qy.load 0 T.one22 rfl rfl rfl) ?_
      refine Wl.q rfl (Qy.move rfl) ?_
      refine Wl.q rfl (Qy.at (α := Instr) T.sl22 rfl rfl (by assumption) (by omega)) ?_
      refine Wl.q rfl (Qy.fieldAddr T.fa34_1 rfl) ?_
      refine Wl.q rfl (Qy.loadG T.one3 rfl (Arr.cell (by assumption) (by omega) 1 rfl rfl)) ?_
      refine Wl.q rfl (Qy.move rfl) ?_
      refine Wl.q rfl (Qy.eql rfl rfl) ?_
      refine Wl.q rfl (Qy.assign rfl) ?_
      refine Wl.done ?_
      refine Ar.outNormal ?_
      refine Ar.next ?_
      refine Wc.region rfl ?_
      refine Wl.q rfl (Qy.move rfl) ?_
      refine Wl.q rfl (Qy.add rfl rfl (by omega)) ?_
      refine Wl.q rfl (Qy.assign rfl) ?_
      refine Wl.done ?_
      refine Ar.again ((j + 1, decide ((p.code[((j : Nat) : Int).toNat]?.getD default).to = (p.code[((a : Nat) : Int).toNat]?.getD default).to), g)) ?_ ?_ rfl ⟨rfl, rfl, rfl, rfl, rfl, rfl, rfl, trivial⟩ ⟨rfl, rfl, trivial⟩
      · refine ⟨by omega, by omega, fun h => ?_, fun h => ?_⟩
        · rw [hf, hst, hg, h]; simp
        · rw [hf, hst, hg, h]; simp [Bool.or_assoc]
      · show p.code.length - (j + 1) < p.code.length - j
        omega
  cases ov
  · have hjn : p.code.length ≤ j := by
      rcases Nat.lt_or_ge j p.code.length with h | h
      · exact absurd ⟨rfl, h⟩ hstop
      · exact h
    have hf := hf rfl
    rw [fromAt_end p _ hjn] at hf
    refine Wc.seq ?_
    refine Wc.seq ?_
    refine Wc.region rfl ?_
    refine Wl.q rfl (Qy.move rfl) ?_
    refine Wl.q rfl (Qy.fieldAddr T.fa25_2 rfl) ?_
    refine Wl.q rfl (Qy.load 0 T.one22 rfl rfl rfl) ?_
    refine Wl.q rfl (Qy.len T.sl22 rfl) ?_
    refine Wl.q rfl (Qy.lss rfl rfl) ?_
    refine Wl.q rfl (Qy.move rfl) ?_
    refine Wl.no 36 rfl (by first | assumption | omega) ?_
    refine Wl.pass rfl rfl rfl ?_
    refine Wl.pass rfl rfl rfl ?_
    refine Wl.q rfl (Qy.pick rfl rfl) ?_
    refine Wl.done ?_
    refine Ar.next ?_
    refine Wc.condF rfl ?_
    refine Wc.exit ?_
    refine Ar.passExit ?_
    refine Ar.passExit ?_
    refine Ar.here ?_
    refine Ar.next ?_
    refine Wc.seq ?_
    refine Wc.region rfl ?_
    refine Wl.q rfl (Qy.assign rfl) ?_
    refine Wl.done ?_
    refine Ar.next ?_
    refine Wc.block ?_
    refine Wc.loop (ι := Nat × Bool) (fun (b, g) => ([(10, .int .i64 (b : Int)), (3, .slice (some ⟨b2, 0, none⟩) (OM p a g).length S0.length), (6, Go.Value.bool Bool.false), (5, Go.Value.int Go.IntKind.i64 (Go.Sl.Instr.to (Option.getD (Go.Proofs.Ytfleehgbpgmcnaa.PV.code p)[Int.toNat (↑a : Int)]? Inhabited.default))), (4, Go.Value.int Go.IntKind.i64 (↑a : Int)), (2, Go.Value.slice Option.none 0 0), (1, Go.Value.pointer (Option.some (Go.Addr.mk b1 0 Option.none)))], [(1, some b2, Row 4 (OM p a g) []), (0, Option.some b1, Go.Obj.cells #[Go.Value.int Go.IntKind.i64 (Go.Proofs.Ytfleehgbpgmcnaa.PV.ins p), Go.Value.int Go.IntKind.i64 (Go.Proofs.Ytfleehgbpgmcnaa.PV.regs p), Go.Value.slice ac (List.length (Go.Proofs.Ytfleehgbpgmcnaa.PV.code p)) cc, Go.Value.slice ao (List.length (Go.Proofs.Ytfleehgbpgmcnaa.PV.outs p)) co] 25)])) (fun (b, g) => b ≤ p.outs.length ∧ g = (f || decide ((p.code[((a : Nat) : Int).toNat]?.getD default).to ∈ p.outs.take b))) (fun (b, g) => p.outs.length - b) ((0, f)) (⟨Nat.zero_le _, by simp⟩) ⟨rfl, rfl, rfl, rfl, rfl, rfl, rfl, trivial⟩ ⟨rfl, rfl, trivial⟩ (fun ⟨b, g⟩ => fun (hk : b ≤ p.outs.length ∧ g = (f || decide ((p.code[((a : Nat) : Int).toNat]?.getD default).to ∈ p.outs.take b))) => ?_)
    obtain ⟨hb1, hg⟩ := hk
    have hoO := hOw (OM p a g) (OM_len hal g)
    have hOl := OM_len hal g
    rcases Nat.lt_or_ge b p.outs.length with hblt | hbge
    · have htk : p.outs.take (b + 1) = p.outs.take b ++ [p.outs[((b : Nat) : Int).toNat]?.getD default] := by
        have e : ((b : Nat) : Int).toNat = b := Int.toNat_natCast b
        rw [List.take_add_one, e, List.getElem?_eq_getElem hblt]; rfl
      by_cases hq : p.outs[((b : Nat) : Int).toNat]?.getD default = (p.code[((a : Nat) : Int).toNat]?.getD default).to
      · refine Wc.seq ?_
        refine Wc.seq ?_
        refine Wc.region rfl ?_
        refine Wl.q rfl (Qy.move rfl) ?_
        refine Wl.q rfl (Qy.fieldAddr T.fa25_3 rfl) ?_
        refine Wl.q rfl (Qy.load 0 T.one23 rfl rfl rfl) ?_
        refine Wl.q rfl (Qy.len T.sl23 rfl) ?_
        refine Wl.q rfl (Qy.lss rfl rfl) ?_
        refine Wl.q rfl (Qy.move rfl) ?_
        refine Wl.yes 82 rfl (by first | assumption | omega) ?_
        refine Wl.want rfl rfl ?_
        refine Wl.q rfl (Qy.move rfl) ?_
        refine Wl.want rfl rfl ?_
        refine Wl.q rfl (Qy.not rfl) ?_
        refine Wl.q rfl (Qy.pick rfl rfl) ?_
        refine Wl.done ?_
        refine Ar.next ?_
        refine Wc.condT rfl ?_
        refine Wc.skip ?_
        refine Ar.next ?_
        refine Wc.seq ?_
        refine Wc.block ?_
        refine Wc.seq ?_
        refine Wc.region rfl ?_
        refine Wl.q rfl (Qy.fieldAddr T.fa25_3 rfl) ?_
        refine Wl.q rfl (Qy.load 0 T.one23 rfl rfl rfl) ?_
        refine Wl.q rfl (Qy.move rfl) ?_
        refine Wl.q rfl (Qy.at (α := Int) T.sl23 rfl rfl (by assumption) (by omega)) ?_
        refine Wl.q rfl (Qy.loadG T.one3 rfl (Arr.cell (by assumption) (by omega) 0 rfl rfl)) ?_
        refine Wl.q rfl (Qy.move rfl) ?_
        refine Wl.q rfl (Qy.eql rfl rfl) ?_
        refine Wl.done ?_
        refine Ar.next ?_
        refine Wc.condP rfl (by first | assumption | omega) ?_
        refine Wc.region rfl ?_
        refine Wl.q rfl (Qy.move rfl) ?_
        refine Wl.q rfl (Qy.move rfl) ?_
        refine Wl.q rfl (Qy.indexAddrO (α := Bool) T.sl64 rfl rfl (by assumption) (by omega)) ?_
        refine Wl.setO (z := _) 1 T.size4 rfl rfl rfl (by assumption) (by omega) rfl (fun ho1 => ?_)
        refine Wl.done ?_
        refine Ar.outNormal ?_
        refine Ar.next ?_
        refine Wc.region rfl ?_
        refine Wl.q rfl (Qy.move rfl) ?_
        refine Wl.q rfl (Qy.add rfl rfl (by omega)) ?_
        refine Wl.q rfl (Qy.assign rfl) ?_
        refine Wl.done ?_
        have hset := OM_set p a g
        refine Ar.reH 1 (Row 4 (OM p a true) []) rfl (by rw [hset]) (Ar.re 3 rfl (show _ = Value.slice (some ⟨b2, 0, none⟩) (OM p a true).length S0.length by rw [OM_len hal, OM_len hal]) ?_)
        refine Ar.again ((b + 1, true)) ?_ ?_ rfl ⟨rfl, rfl, rfl, rfl, rfl, rfl, rfl, trivial⟩ ⟨rfl, rfl, trivial⟩
        · have hmem : (p.code[((a : Nat) : Int).toNat]?.getD default).to ∈ p.outs.take (b + 1) := by rw [htk, ← hq]; exact List.mem_append_right _ (List.mem_singleton.2 rfl)
          exact ⟨by omega, by rw [decide_eq_true hmem]; simp⟩
        · show p.outs.length - (b + 1) < p.outs.length - b
          omega
      · refine Wc.seq ?_
        refine Wc.seq ?_
        refine Wc.region rfl ?_
        refine Wl.q rfl (Qy.move rfl) ?_
        refine Wl.q rfl (Qy.fieldAddr T.fa25_3 rfl) ?_
        refine Wl.q rfl (Qy.load 0 T.one23 rfl rfl rfl) ?_
        refine Wl.q rfl (Qy.len T.sl23 rfl) ?_
        refine Wl.q rfl (Qy.lss rfl rfl) ?_
        refine Wl.q rfl (Qy.move rfl) ?_
        refine Wl.yes 82 rfl (by first | assumption | omega) ?_
        refine Wl.want rfl rfl ?_
        refine Wl.q rfl (Qy.move rfl) ?_
        refine Wl.want rfl rfl ?_
        refine Wl.q rfl (Qy.not rfl) ?_
        refine Wl.q rfl (Qy.pick rfl rfl) ?_
        refine Wl.done ?_
        refine Ar.next ?_
        refine Wc.condT rfl ?_
        refine Wc.skip ?_
        refine Ar.next ?_
        refine Wc.seq ?_
        refine Wc.block ?_
        refine Wc.seq ?_
        refine Wc.region rfl ?_
        refine Wl.q rfl (Qy.fieldAddr T.fa25_3 rfl) ?_
        refine Wl.q rfl (Qy.load 0 T.one23 rfl rfl rfl) ?_
        refine Wl.q rfl (Qy.move rfl) ?_
        refine Wl.q rfl (Qy.at (α := Int) T.sl23 rfl rfl (by assumption) (by omega)) ?_
        refine Wl.q rfl (Qy.loadG T.one3 rfl (Arr.cell (by assumption) (by omega) 0 rfl rfl)) ?_
        refine Wl.q rfl (Qy.move rfl) ?_
        refine Wl.q rfl (Qy.eql rfl rfl) ?_
        refine Wl.done ?_
        refine Ar.next ?_
        refine Wc.condN rfl (by first | assumption | omega) ?_
        refine Wc.skip ?_
        refine Ar.outNormal ?_
        refine Ar.next ?_
        refine Wc.region rfl ?_
        refine Wl.q rfl (Qy.move rfl) ?_
        refine Wl.q rfl (Qy.add rfl rfl (by omega)) ?_
        refine Wl.q rfl (Qy.assign rfl) ?_
        refine Wl.done ?_
        refine Ar.again ((b + 1, g)) ?_ ?_ rfl ⟨rfl, rfl, rfl, rfl, rfl, rfl, rfl, trivial⟩ ⟨rfl, rfl, trivial⟩
        · refine ⟨by omega, ?_⟩
          rw [htk, hg]
          have hq' : ¬ (p.code[((a : Nat) : Int).toNat]?.getD default).to = p.outs[((b : Nat) : Int).toNat]?.getD default := fun h => hq h.symm
          simp only [List.mem_append, List.mem_singleton, hq', or_false]
        · show p.outs.length - (b + 1) < p.outs.length - b
          omega
    · have hbb : b = p.outs.length := by omega
      subst hbb
      rw [List.take_length] at hg
      have hgF : g = F := by rw [hg, hf]
      subst hgF
      have hON : OM p a g = ON p a := by rw [← hF]; exact OM_done hal
      refine Wc.seq ?_
      refine Wc.seq ?_
      refine Wc.region rfl ?_
      refine Wl.q rfl (Qy.move rfl) ?_
      refine Wl.q rfl (Qy.fieldAddr T.fa25_3 rfl) ?_
      refine Wl.q rfl (Qy.load 0 T.one23 rfl rfl rfl) ?_
      refine Wl.q rfl (Qy.len T.sl23 rfl) ?_
      refine Wl.q rfl (Qy.lss rfl rfl) ?_
      refine Wl.q rfl (Qy.move rfl) ?_
      refine Wl.no 82 rfl (by first | assumption | omega) ?_
      refine Wl.pass rfl rfl rfl ?_
      refine Wl.pass rfl rfl rfl ?_
      refine Wl.q rfl (Qy.pick rfl rfl) ?_
      refine Wl.done ?_
      refine Ar.next ?_
      refine Wc.condF rfl ?_
      refine Wc.exit ?_
      refine Ar.passExit ?_
      refine Ar.passExit ?_
      refine Ar.here ?_
      refine Ar.outNormal ?_
      refine Ar.next ?_
      refine Wc.region rfl ?_
      refine Wl.q rfl (Qy.move rfl) ?_
      refine Wl.q rfl (Qy.sub rfl rfl (by omega)) ?_
      refine Wl.q rfl (Qy.assign rfl) ?_
      refine Wl.done ?_
      refine Ar.reH 1 (Row 4 (ON p a) []) rfl (by rw [hON]) (Ar.re 3 rfl (show _ = Value.slice (some ⟨b2, 0, none⟩) (ON p a).length S0.length by rw [hON]) ?_)
      refine Ar.again (a) ?_ ?_ rfl ⟨rfl, rfl, rfl, rfl, trivial⟩ ⟨rfl, rfl, trivial⟩
      · show a ≤ p.code.length
        omega
      · show a < a + 1
        omega
  · have hgF : F = f := ht rfl
    subst hgF
    have hON : OM p a F = ON p a := by rw [← hF]; exact OM_done hal
    rcases Nat.lt_or_ge j p.code.length with hjl | hjl
    · refine Wc.seq ?_
      refine Wc.seq ?_
      refine Wc.region rfl ?_
      refine Wl.q rfl (Qy.move rfl) ?_
      refine Wl.q rfl (Qy.fieldAddr T.fa25_2 rfl) ?_
      refine Wl.q rfl (Qy.load 0 T.one22 rfl rfl rfl) ?_
      refine Wl.q rfl (Qy.len T.sl22 rfl) ?_
      refine Wl.q rfl (Qy.lss rfl rfl) ?_
      refine Wl.q rfl (Qy.move rfl) ?_
      refine Wl.yes 36 rfl (by first | assumption | omega) ?_
      refine Wl.want rfl rfl ?_
      refine Wl.q rfl (Qy.move rfl) ?_
      refine Wl.want rfl rfl ?_
      refine Wl.q rfl (Qy.not rfl) ?_
      refine Wl.q rfl (Qy.pick rfl rfl) ?_
      refine Wl.done ?_
      refine Ar.next ?_
      refine Wc.condF rfl ?_
      refine Wc.exit ?_
      refine Ar.passExit ?_
      refine Ar.passExit ?_
      refine Ar.here ?_
      refine Ar.next ?_
      refine Wc.seq ?_
      refine Wc.region rfl ?_
      refine Wl.q rfl (Qy.assign rfl) ?_
      refine Wl.done ?_
      refine Ar.next ?_
      refine Wc.block ?_
      refine Wc.loop (ι := Nat) (fun b => ([(10, .int .i64 (b : Int)), (6, Go.Value.bool Bool.true), (3, Go.Value.slice (Option.some (Go.Addr.mk b2 0 Option.none)) (List.length (Go.Proofs.Ytfleehgbpgmcnaa.OM p a F)) (List.length S0)), (5, Go.Value.int Go.IntKind.i64 (Go.Sl.Instr.to (Option.getD (Go.Proofs.Ytfleehgbpgmcnaa.PV.code p)[Int.toNat (↑a : Int)]? Inhabited.default))), (4, Go.Value.int Go.IntKind.i64 (↑a : Int)), (2, Go.Value.slice Option.none 0 0), (1, Go.Value.pointer (Option.some (Go.Addr.mk b1 0 Option.none)))], [(1, Option.some b2, Go.Sl.Row (α := Bool) 4 (Go.Proofs.Ytfleehgbpgmcnaa.OM p a F) ([])), (0, Option.some b1, Go.Obj.cells #[Go.Value.int Go.IntKind.i64 (Go.Proofs.Ytfleehgbpgmcnaa.PV.ins p), Go.Value.int Go.IntKind.i64 (Go.Proofs.Ytfleehgbpgmcnaa.PV.regs p), Go.Value.slice ac (List.length (Go.Proofs.Ytfleehgbpgmcnaa.PV.code p)) cc, Go.Value.slice ao (List.length (Go.Proofs.Ytfleehgbpgmcnaa.PV.outs p)) co] 25)])) (fun b => b = 0) (fun b => b) (0) (rfl) ⟨rfl, rfl, rfl, rfl, rfl, rfl, rfl, trivial⟩ ⟨rfl, rfl, trivial⟩ (fun b => fun (hk : b = 0) => ?_)
      subst hk
      refine Wc.seq ?_
      refine Wc.seq ?_
      refine Wc.region rfl ?_
      refine Wl.q rfl (Qy.move rfl) ?_
      refine Wl.q rfl (Qy.fieldAddr T.fa25_3 rfl) ?_
      refine Wl.q rfl (Qy.load 0 T.one23 rfl rfl rfl) ?_
      refine Wl.q rfl (Qy.len T.sl23 rfl) ?_
      refine Wl.q rfl (Qy.lss rfl rfl) ?_
      refine Wl.q rfl (Qy.move rfl) ?_
      refine Wl.yes 82 rfl (by first | assumption | omega) ?_
      refine Wl.want rfl rfl ?_
      refine Wl.q rfl (Qy.move rfl) ?_
      refine Wl.want rfl rfl ?_
      refine Wl.q rfl (Qy.not rfl) ?_
      refine Wl.q rfl (Qy.pick rfl rfl) ?_
      refine Wl.done ?_
      refine Ar.next ?_
      refine Wc.condF rfl ?_
      refine Wc.exit ?_
      refine Ar.passExit ?_
      refine Ar.passExit ?_
      refine Ar.here ?_
      refine Ar.outNormal ?_
      refine Ar.next ?_
      refine Wc.region rfl ?_
      refine Wl.q rfl (Qy.move rfl) ?_
      refine Wl.q rfl (Qy.sub rfl rfl (by omega)) ?_
      refine Wl.q rfl (Qy.assign rfl) ?_
      refine Wl.done ?_
      refine Ar.reH 1 (Row 4 (ON p a) []) rfl (by rw [hON]) (Ar.re 3 rfl (show _ = Value.slice (some ⟨b2, 0, none⟩) (ON p a).length S0.length by rw [hON]) ?_)
      refine Ar.again (a) ?_ ?_ rfl ⟨rfl, rfl, rfl, rfl, trivial⟩ ⟨rfl, rfl, trivial⟩
      · show a ≤ p.code.length
        omega
      · show a < a + 1
        omega
    · refine Wc.seq ?_
      refine Wc.seq ?_
      refine Wc.region rfl ?_
      refine Wl.q rfl (Qy.move rfl) ?_
      refine Wl.q rfl (Qy.fieldAddr T.fa25_2 rfl) ?_
      refine Wl.q rfl (Qy.load 0 T.one22 rfl rfl rfl) ?_
      refine Wl.q rfl (Qy.len T.sl22 rfl) ?_
      refine Wl.q rfl (Qy.lss rfl rfl) ?_
      refine Wl.q rfl (Qy.move rfl) ?_
      refine Wl.no 36 rfl (by first | assumption | omega) ?_
      refine Wl.pass rfl rfl rfl ?_
      refine Wl.pass rfl rfl rfl ?_
      refine Wl.q rfl (Qy.pick rfl rfl) ?_
      refine Wl.done ?_
      refine Ar.next ?_
      refine Wc.condF rfl ?_
      refine Wc.exit ?_
      refine Ar.passExit ?_
      refine Ar.passExit ?_
      refine Ar.here ?_
      refine Ar.next ?_
      refine Wc.seq ?_
      refine Wc.region rfl ?_
      refine Wl.q rfl (Qy.assign rfl) ?_
      refine Wl.done ?_
      refine Ar.next ?_
      refine Wc.block ?_
      refine Wc.loop (ι := Nat) (fun b => ([(10, .int .i64 (b : Int)), (6, Go.Value.bool Bool.true), (3, Go.Value.slice (Option.some (Go.Addr.mk b2 0 Option.none)) (List.length (Go.Proofs.Ytfleehgbpgmcnaa.OM p a F)) (List.length S0)), (5, Go.Value.int Go.IntKind.i64 (Go.Sl.Instr.to (Option.getD (Go.Proofs.Ytfleehgbpgmcnaa.PV.code p)[Int.toNat (↑a : Int)]? Inhabited.default))), (4, Go.Value.int Go.IntKind.i64 (↑a : Int)), (2, Go.Value.slice Option.none 0 0), (1, Go.Value.pointer (Option.some (Go.Addr.mk b1 0 Option.none)))], [(1, Option.some b2, Go.Sl.Row (α := Bool) 4 (Go.Proofs.Ytfleehgbpgmcnaa.OM p a F) ([])), (0, Option.some b1, Go.Obj.cells #[Go.Value.int Go.IntKind.i64 (Go.Proofs.Ytfleehgbpgmcnaa.PV.ins p), Go.Value.int Go.IntKind.i64 (Go.Proofs.Ytfleehgbpgmcnaa.PV.regs p), Go.Value.slice ac (List.length (Go.Proofs.Ytfleehgbpgmcnaa.PV.code p)) cc, Go.Value.slice ao (List.length (Go.Proofs.Ytfleehgbpgmcnaa.PV.outs p)) co] 25)])) (fun b => b = 0) (fun b => b) (0) (rfl) ⟨rfl, rfl, rfl, rfl, rfl, rfl, rfl, trivial⟩ ⟨rfl, rfl, trivial⟩ (fun b => fun (hk : b = 0) => ?_)
      subst hk
      refine Wc.seq ?_
      refine Wc.seq ?_
      refine Wc.region rfl ?_
      refine Wl.q rfl (Qy.move rfl) ?_
      refine Wl.q rfl (Qy.fieldAddr T.fa25_3 rfl) ?_
      refine Wl.q rfl (Qy.load 0 T.one23 rfl rfl rfl) ?_
      refine Wl.q rfl (Qy.len T.sl23 rfl) ?_
      refine Wl.q rfl (Qy.lss rfl rfl) ?_
      refine Wl.q rfl (Qy.move rfl) ?_
      refine Wl.yes 82 rfl (by first | assumption | omega) ?_
      refine Wl.want rfl rfl ?_
      refine Wl.q rfl (Qy.move rfl) ?_
      refine Wl.want rfl rfl ?_
      refine Wl.q rfl (Qy.not rfl) ?_
      refine Wl.q rfl (Qy.pick rfl rfl) ?_
      refine Wl.done ?_
      refine Ar.next ?_
      refine Wc.condF rfl ?_
      refine Wc.exit ?_
      refine Ar.passExit ?_
      refine Ar.passExit ?_
      refine Ar.here ?_
      refine Ar.outNormal ?_
      refine Ar.next ?_
      refine Wc.region rfl ?_
      refine Wl.q rfl (Qy.move rfl) ?_
      refine Wl.q rfl (Qy.sub rfl rfl (by omega)) ?_
      refine Wl.q rfl (Qy.assign rfl) ?_
      refine Wl.done ?_
      refine Ar.reH 1 (Row 4 (ON p a) []) rfl (by rw [hON]) (Ar.re 3 rfl (show _ = Value.slice (some ⟨b2, 0, none⟩) (ON p a).length S0.length by rw [hON]) ?_)
      refine Ar.again (a) ?_ ?_ rfl ⟨rfl, rfl, rfl, rfl, trivial⟩ ⟨rfl, rfl, trivial⟩
      · show a ≤ p.code.length
        omega
      · show a < a + 1
        omega
end Go.Proofs.Ytfleehgbpgmcnaa
set_option maxRecDepth 100000
set_option linter.unusedVariables false
namespace Go.Proofs.Ytfleehgbpgmcnaa
open Go Go.Sl
set_option maxHeartbeats 4000000
attribute [local irreducible] neededP rightP
theorem c81 (G : Imm) (p : PV) (ac ao na : Option Addr) (cc co nc : Nat) (k : Nat) (r : Int) (hc : Arr G ac p.code) (hna : Arr G na (neededP p)) (hk : k ≤ p.code.length) (hl : p.code.length ≤ 16384) (hr : 0 ≤ r ∧ r ≤ 1000000) :
    Does Try.prog 81 [.agg #[.int .i64 p.ins, .int .i64 p.regs, .slice ac p.code.length cc, .slice ao p.outs.length co], .slice na (neededP p).length nc, .int .i64 (k : Int), .int .i64 r] G [] (fun v G' Ho => v = .int .i64 (heldR p k r) ∧ G' = G ∧ Ho = []) := by
  have hnl : (neededP p).length = p.code.length := needed_len9 p
  refine Does.enter Try.func81 rfl Try.ntmps81 rfl (fun w => ?_)
  refine Wc.seq ?_
  refine Wc.region rfl ?_
  refine Wl.box 0 rfl rfl rfl (fun b1 => ?_)
  refine Wl.q rfl (Qy.assign rfl) ?_
  refine Wl.done ?_
  refine Ar.next ?_
  refine Wc.seq ?_
  refine Wc.seq ?_
  refine Wc.region rfl ?_
  refine Wl.q rfl (Qy.move rfl) ?_
  refine Wl.q rfl (Qy.sub rfl rfl (by omega)) ?_
  refine Wl.q rfl (Qy.assign rfl) ?_
  refine Wl.done ?_
  refine Ar.next ?_
  refine Wc.block ?_
  refine Wc.loop (ι := Nat) (fun i => ([(9, .int .i64 ((i : Int) - 1)), (4, Go.Value.pointer (Option.some (Go.Addr.mk b1 0 Option.none))), (1, Go.Value.slice na (List.length (Go.Proofs.Ytfleehgbpgmcnaa.neededP p)) nc), (3, Go.Value.int Go.IntKind.i64 r)], [(0, Option.some b1, Go.Obj.cells #[Go.Value.int Go.IntKind.i64 (Go.Proofs.Ytfleehgbpgmcnaa.PV.ins p), Go.Value.int Go.IntKind.i64 (Go.Proofs.Ytfleehgbpgmcnaa.PV.regs p), Go.Value.slice ac (List.length (Go.Proofs.Ytfleehgbpgmcnaa.PV.code p)) cc, Go.Value.slice ao (List.length (Go.Proofs.Ytfleehgbpgmcnaa.PV.outs p)) co] 25)])) (fun i => i ≤ k ∧ heldR p k r = heldR p i r) (fun i => i) (k) (⟨Nat.le_refl _, rfl⟩) ⟨rfl, rfl, rfl, rfl, trivial⟩ ⟨rfl, trivial⟩ (fun i => fun (hk : i ≤ k ∧ heldR p k r = heldR p i r) => ?_)
  obtain ⟨hi, he⟩ := hk
  cases i with
  | zero =>
    refine Wc.seq ?_
    refine Wc.seq ?_
    refine Wc.region rfl ?_
    refine Wl.q rfl (Qy.move rfl) ?_
    refine Wl.q rfl (Qy.geq rfl rfl) ?_
    refine Wl.done ?_
    refine Ar.next ?_
    refine Wc.condN rfl (by first | assumption | omega) ?_
    refine Wc.exit ?_
    refine Ar.passExit ?_
    refine Ar.passExit ?_
    refine Ar.here ?_
    refine Ar.next ?_
    refine Wc.seq ?_
    refine Wc.seq ?_
    refine Wc.region rfl ?_
    refine Wl.q rfl (Qy.move rfl) ?_
    refine Wl.q rfl (Qy.fieldAddr T.fa25_0 rfl) ?_
    refine Wl.q rfl (Qy.load 0 T.one3 rfl rfl rfl) ?_
    refine Wl.q rfl (Qy.lss rfl rfl) ?_
    refine Wl.done ?_
    refine Ar.next ?_
    refine Wc.cond rfl (fun hc1 => ?_) (fun hc1 => ?_)
    refine Wc.seq ?_
    refine Wc.region rfl ?_
    refine Wl.q rfl (Qy.move rfl) ?_
    refine Wl.q rfl (Qy.sub rfl rfl (by omega)) ?_
    refine Wl.q rfl (Qy.assign rfl) ?_
    refine Wl.done ?_
    refine Ar.next ?_
    refine Wc.ret ?_
    refine Ar.passRet ?_
    rotate_left
    refine Wc.skip ?_
    refine Ar.next ?_
    refine Wc.seq ?_
    refine Wc.region rfl ?_
    refine Wl.q rfl (Qy.assign rfl) ?_
    refine Wl.done ?_
    refine Ar.next ?_
    refine Wc.ret ?_
    rotate_left
    · refine Ar.out1 (.inr rfl) (Ho := []) rfl (.tmp rfl) trivial ?_
      refine ⟨?_, rfl, rfl⟩
      rw [he]
      show _ = Value.int .i64 (if r < p.ins then -1 - r else -1000)
      rw [if_pos (by assumption)]
    · refine Ar.out1 (.inr rfl) (Ho := []) rfl (.tmp rfl) trivial ?_
      refine ⟨?_, rfl, rfl⟩
      rw [he]
      show _ = Value.int .i64 (if r < p.ins then -1 - r else -1000)
      rw [if_neg (by assumption)]
  | succ i =>
    refine Wc.re 9 rfl (show _ = Value.int .i64 (i : Int) by rw [show (((i + 1 : Nat) : Int) - 1) = (i : Int) by omega]) ?_
    refine Wc.seq ?_
    refine Wc.seq ?_
    refine Wc.region rfl ?_
    refine Wl.q rfl (Qy.move rfl) ?_
    refine Wl.q rfl (Qy.geq rfl rfl) ?_
    refine Wl.done ?_
    refine Ar.next ?_
    refine Wc.condP rfl (by first | assumption | omega) ?_
    refine Wc.skip ?_
    refine Ar.next ?_
    refine Wc.seq ?_
    refine Wc.block ?_
    refine Wc.seq ?_
    refine Wc.region rfl ?_
    refine Wl.q rfl (Qy.move rfl) ?_
    refine Wl.q rfl (Qy.move rfl) ?_
    refine Wl.q rfl (Qy.at (α := Bool) T.sl64 rfl rfl (by assumption) (by omega)) ?_
    refine Wl.q rfl (Qy.loadG T.one4 rfl (Arr.cell (by assumption) (by omega) 0 rfl rfl)) ?_
    refine Wl.q rfl (Qy.move rfl) ?_
    refine Wl.casesB 20 rfl (fun hg1 => ?_) (fun hg1 => ?_)
    refine Wl.want rfl rfl ?_
    refine Wl.q rfl (Qy.fieldAddr T.fa25_2 rfl) ?_
    refine Wl.want rfl rfl ?_
    refine Wl.q rfl (Qy.load 0 T.one22 rfl rfl rfl) ?_
    refine Wl.want rfl rfl ?_
    refine Wl.q rfl (Qy.move rfl) ?_
    refine Wl.want rfl rfl ?_
    refine Wl.q rfl (Qy.at (α := Sl.Instr) T.sl22 rfl rfl (by assumption) (by omega)) ?_
    refine Wl.want rfl rfl ?_
    refine Wl.q rfl (Qy.fieldAddr T.fa34_1 rfl) ?_
    refine Wl.want rfl rfl ?_
    refine Wl.q rfl (Qy.loadG T.one3 rfl (Arr.cell (by assumption) (by omega) 1 rfl rfl)) ?_
    refine Wl.want rfl rfl ?_
    refine Wl.q rfl (Qy.move rfl) ?_
    refine Wl.want rfl rfl ?_
    refine Wl.q rfl (Qy.eql rfl rfl) ?_
    refine Wl.q rfl (Qy.pick rfl rfl) ?_
    refine Wl.done ?_
    refine Ar.next ?_
    refine Wc.cond rfl (fun hc1 => ?_) (fun hc1 => ?_)
    refine Wc.seq ?_
    refine Wc.region rfl ?_
    refine Wl.q rfl (Qy.move rfl) ?_
    refine Wl.q rfl (Qy.assign rfl) ?_
    refine Wl.done ?_
    refine Ar.next ?_
    refine Wc.ret ?_
    refine Ar.outRet ?_
    refine Ar.passRet ?_
    refine Ar.passRet ?_
    refine Ar.outRet ?_
    refine Ar.passRet ?_
    rotate_left
    refine Wc.skip ?_
    refine Ar.outNormal ?_
    refine Ar.next ?_
    refine Wc.region rfl ?_
    refine Wl.q rfl (Qy.move rfl) ?_
    refine Wl.q rfl (Qy.sub rfl rfl (by omega)) ?_
    refine Wl.q rfl (Qy.assign rfl) ?_
    refine Wl.done ?_
    rotate_left
    refine Wl.pass rfl rfl rfl ?_
    refine Wl.pass rfl rfl rfl ?_
    refine Wl.pass rfl rfl rfl ?_
    refine Wl.pass rfl rfl rfl ?_
    refine Wl.pass rfl rfl rfl ?_
    refine Wl.pass rfl rfl rfl ?_
    refine Wl.pass rfl rfl rfl ?_
    refine Wl.pass rfl rfl rfl ?_
    refine Wl.q rfl (Qy.pick rfl rfl) ?_
    refine Wl.done ?_
    refine Ar.next ?_
    refine Wc.condF rfl ?_
    refine Wc.skip ?_
    refine Ar.outNormal ?_
    refine Ar.next ?_
    refine Wc.region rfl ?_
    refine Wl.q rfl (Qy.move rfl) ?_
    refine Wl.q rfl (Qy.sub rfl rfl (by omega)) ?_
    refine Wl.q rfl (Qy.assign rfl) ?_
    refine Wl.done ?_
    rotate_left
    · refine Ar.out1 (.inr rfl) (Ho := []) rfl (.tmp rfl) trivial ?_
      refine ⟨?_, rfl, rfl⟩
      rw [he]
      exact (congrArg (Value.int .i64) (if_pos ⟨by assumption, by assumption⟩)).symm
    · refine Ar.again (i) ?_ ?_ rfl ⟨rfl, rfl, rfl, rfl, trivial⟩ ⟨rfl, trivial⟩
      · refine ⟨by omega, he.trans (if_neg (fun x => ?_))⟩
        have := x.2
        contradiction
      · exact Nat.lt_succ_self i
    · refine Ar.again (i) ?_ ?_ rfl ⟨rfl, rfl, rfl, rfl, trivial⟩ ⟨rfl, trivial⟩
      · refine ⟨by omega, he.trans (if_neg (fun x => ?_))⟩
        have h9 : (neededP p)[((i : Nat) : Int).toNat]?.getD default = true := x.1
        simp_all
      · exact Nat.lt_succ_self i
def mk2 (l : List (Int × Int)) : List R2 := l.map fun x => ⟨x.1, x.2⟩
theorem mk2_len (l : List (Int × Int)) : (mk2 l).length = l.length := List.length_map _
theorem mk2_at {l : List (Int × Int)} {i : Nat} (h : i < l.length) : (mk2 l)[((i : Nat) : Int).toNat]?.getD default = ⟨(l[i]).1, (l[i]).2⟩ := by
  unfold mk2
  rw [Int.toNat_natCast, List.getElem?_map, List.getElem?_eq_getElem h]; rfl
theorem wh_found {l : List (Int × Int)} {w : Int} {i : Nat} (hi : i < l.length) (h : ∀ j : Nat, (hj : j < i) → (l[j]).1 ≠ w) (hw : (l[i]).1 = w) : wh l w = (l[i]).2 := by
  induction l generalizing i with
  | nil => exact absurd hi (Nat.not_lt_zero _)
  | cons x l ih =>
    obtain ⟨a, b⟩ := x
    show (if a = w then b else wh l w) = _
    cases i with
    | zero => exact if_pos hw
    | succ i =>
      rw [if_neg (show ¬ a = w from h 0 (by omega))]
      exact ih (by simpa using hi) (fun j hj => h (j + 1) (by omega)) hw
theorem wh_none {l : List (Int × Int)} {w : Int} (h : ∀ j : Nat, (hj : j < l.length) → (l[j]).1 ≠ w) : wh l w = -1 := by
  induction l with
  | nil => rfl
  | cons x l ih =>
    obtain ⟨a, b⟩ := x
    show (if a = w then b else wh l w) = _
    rw [if_neg (show ¬ a = w from h 0 (by simp))]
    exact ih (fun j hj => h (j + 1) (by simpa using hj))
theorem c80 (G : Imm) (a : Option Addr) (c : Nat) (l : List (Int × Int)) (w : Int) (ha : Arr G a (mk2 l)) (hl : l.length ≤ 1048576) :
    Does Try.prog 80 [.slice a (mk2 l).length c, .int .i64 w] G [] (fun v G' Ho => v = .int .i64 (wh l w) ∧ G' = G ∧ Ho = []) := by
  have hml := mk2_len l
  refine Does.enter Try.func80 rfl Try.ntmps80 rfl (fun w9 => ?_)
  refine Wc.seq ?_
  refine Wc.region rfl ?_
  refine Wl.q rfl (Qy.assign rfl) ?_
  refine Wl.done ?_
  refine Ar.next ?_
  refine Wc.seq ?_
  refine Wc.seq ?_
  refine Wc.region rfl ?_
  refine Wl.q rfl (Qy.assign rfl) ?_
  refine Wl.done ?_
  refine Ar.next ?_
  refine Wc.block ?_
  refine Wc.loop (ι := Nat) (fun i => ([(5, .int .i64 (i : Int)), (0, Go.Value.slice a (List.length (Go.Proofs.Ytfleehgbpgmcnaa.mk2 l)) c), (1, Go.Value.int Go.IntKind.i64 w)], [])) (fun i => i ≤ l.length ∧ ∀ j : Nat, j < i → (hj : j < l.length) → (l[j]).1 ≠ w) (fun i => l.length - i) (0) (⟨Nat.zero_le _, fun j hj => by omega⟩) ⟨rfl, rfl, rfl, trivial⟩ trivial (fun i => fun (hk : i ≤ l.length ∧ ∀ j : Nat, j < i → (hj : j < l.length) → (l[j]).1 ≠ w) => ?_)
  obtain ⟨hi, he⟩ := hk
  rcases Nat.lt_or_ge i l.length with hil | hil
  · have hat := mk2_at hil
    refine Wc.seq ?_
    refine Wc.seq ?_
    refine Wc.region rfl ?_
    refine Wl.q rfl (Qy.move rfl) ?_
    refine Wl.q rfl (Qy.move rfl) ?_
    refine Wl.q rfl (Qy.len T.sl120 rfl) ?_
    refine Wl.q rfl (Qy.lss rfl rfl) ?_
    refine Wl.done ?_
    refine Ar.next ?_
    refine Wc.condP rfl (by first | assumption | omega) ?_
    refine Wc.skip ?_
    refine Ar.next ?_
    refine Wc.seq ?_
    refine Wc.block ?_
    refine Wc.seq ?_
    refine Wc.region rfl ?_
    refine Wl.q rfl (Qy.move rfl) ?_
    refine Wl.q rfl (Qy.move rfl) ?_
    refine Wl.q rfl (Qy.at (α := R2) T.sl120 rfl rfl (by assumption) (by omega)) ?_
    refine Wl.q rfl (Qy.fieldAddr T.fa123_0 rfl) ?_
    refine Wl.q rfl (Qy.loadG T.one3 rfl (Arr.cell (by assumption) (by omega) 0 rfl rfl)) ?_
    refine Wl.q rfl (Qy.move rfl) ?_
    refine Wl.q rfl (Qy.eql rfl rfl) ?_
    refine Wl.done ?_
    refine Ar.next ?_
    refine Wc.cond rfl (fun hc1 => ?_) (fun hc1 => ?_)
    refine Wc.seq ?_
    refine Wc.region rfl ?_
    refine Wl.q rfl (Qy.move rfl) ?_
    refine Wl.q rfl (Qy.move rfl) ?_
    refine Wl.q rfl (Qy.at (α := R2) T.sl120 rfl rfl (by assumption) (by omega)) ?_
    refine Wl.q rfl (Qy.fieldAddr T.fa123_1 rfl) ?_
    refine Wl.q rfl (Qy.loadG T.one3 rfl (Arr.cell (by assumption) (by omega) 1 rfl rfl)) ?_
    refine Wl.q rfl (Qy.assign rfl) ?_
    refine Wl.done ?_
    refine Ar.next ?_
    refine Wc.ret ?_
    refine Ar.outRet ?_
    refine Ar.passRet ?_
    refine Ar.passRet ?_
    refine Ar.outRet ?_
    refine Ar.passRet ?_
    rotate_left
    refine Wc.skip ?_
    refine Ar.outNormal ?_
    refine Ar.next ?_
    refine Wc.region rfl ?_
    refine Wl.q rfl (Qy.move rfl) ?_
    refine Wl.q rfl (Qy.add rfl rfl (by omega)) ?_
    refine Wl.q rfl (Qy.assign rfl) ?_
    refine Wl.done ?_
    rotate_left
    · rw [hat] at hc1
      refine Ar.out1 (.inr rfl) (Ho := []) rfl (.tmp rfl) trivial ?_
      refine ⟨?_, rfl, rfl⟩
      rw [hat, wh_found hil (fun j hj => he j hj (by omega)) hc1]
    · rw [hat] at hc1
      refine Ar.again (i + 1) ?_ ?_ rfl ⟨rfl, rfl, rfl, trivial⟩ trivial
      · refine ⟨hil, fun j hj hjl => ?_⟩
        by_cases e : j = i
        · subst e; exact hc1
        · exact he j (by omega) hjl
      · show l.length - (i + 1) < l.length - i
        omega
  · refine Wc.seq ?_
    refine Wc.seq ?_
    refine Wc.region rfl ?_
    refine Wl.q rfl (Qy.move rfl) ?_
    refine Wl.q rfl (Qy.move rfl) ?_
    refine Wl.q rfl (Qy.len T.sl120 rfl) ?_
    refine Wl.q rfl (Qy.lss rfl rfl) ?_
    refine Wl.done ?_
    refine Ar.next ?_
    refine Wc.condN rfl (by first | assumption | omega) ?_
    refine Wc.exit ?_
    refine Ar.passExit ?_
    refine Ar.passExit ?_
    refine Ar.here ?_
    refine Ar.next ?_
    refine Wc.seq ?_
    refine Wc.region rfl ?_
    refine Wl.q rfl (Qy.assign rfl) ?_
    refine Wl.done ?_
    refine Ar.next ?_
    refine Wc.ret ?_
    refine Ar.out1 (.inr rfl) (Ho := []) rfl (.tmp rfl) trivial ?_
    exact ⟨by rw [wh_none (fun j hj => he j (by omega) hj)], rfl, rfl⟩
/-- what the reference asks of one instruction -/
theorem any_take {l : List Int} {f : Int → Bool} {k : Nat} (hk : k < l.length) (h : (l.take k).any f = false) (hf : f (l[((k : Nat) : Int).toNat]?.getD default) = false) : (l.take (k + 1)).any f = false := by
  rw [List.take_succ_eq_append_getElem hk, List.any_append, h]
  rw [Int.toNat_natCast, List.getElem?_eq_getElem hk] at hf
  show (false || ([l[k]].any f)) = false
  simpa using hf
theorem any_here {l : List Int} {f : Int → Bool} {k : Nat} (hk : k < l.length) (hf : f (l[((k : Nat) : Int).toNat]?.getD default) = true) : l.any f = true := by
  rw [Int.toNat_natCast, List.getElem?_eq_getElem hk] at hf
  rw [List.any_eq_true]
  exact ⟨_, List.getElem_mem hk, hf⟩
theorem c79 (G : Imm) (p : PV) (ac ao na : Option Addr) (cc co nc : Nat) (wv : Int) (hc : Arr G ac p.code) (ho : Arr G ao p.outs) (hna : Arr G na (neededP p)) (hR : rightP p = true) :
    Does Try.prog 79 [.agg #[.int .i64 p.ins, .int .i64 p.regs, .slice ac p.code.length cc, .slice ao p.outs.length co], .slice na (neededP p).length nc, .int .i64 wv] G [] (fun v G' Ho => v = .int .i64 (untilR p wv) ∧ G' = G ∧ Ho = []) := by
  obtain ⟨f1, f2, f3, f4, f5, f6, f7, f8⟩ := right_facts hR
  have hnl : (neededP p).length = p.code.length := needed_len9 p
  refine Does.enter Try.func79 rfl Try.ntmps79 rfl (fun w => ?_)
  refine Wc.seq ?_
  refine Wc.region rfl ?_
  refine Wl.box 0 rfl rfl rfl (fun b1 => ?_)
  refine Wl.q rfl (Qy.assign rfl) ?_
  refine Wl.done ?_
  refine Ar.next ?_
  refine Wc.seq ?_
  refine Wc.region rfl ?_
  refine Wl.q rfl (Qy.fieldAddr T.fa25_2 rfl) ?_
  refine Wl.q rfl (Qy.load 0 T.one22 rfl rfl rfl) ?_
  refine Wl.q rfl (Qy.len T.sl22 rfl) ?_
  refine Wl.q rfl (Qy.assign rfl) ?_
  refine Wl.done ?_
  refine Ar.next ?_
  refine Wc.seq ?_
  refine Wc.seq ?_
  refine Wc.region rfl ?_
  refine Wl.q rfl (Qy.assign rfl) ?_
  refine Wl.done ?_
  refine Ar.next ?_
  refine Wc.block ?_
  refine Wc.loop (ι := Nat) (fun a => ([(8, .int .i64 (a : Int)), (7, Go.Value.int Go.IntKind.i64 (↑(List.length (Go.Proofs.Ytfleehgbpgmcnaa.PV.code p)) : Int)), (3, Go.Value.pointer (Option.some (Go.Addr.mk b1 0 Option.none))), (1, Go.Value.slice na (List.length (Go.Proofs.Ytfleehgbpgmcnaa.neededP p)) nc), (2, Go.Value.int Go.IntKind.i64 wv)], [(0, Option.some b1, Go.Obj.cells #[Go.Value.int Go.IntKind.i64 (Go.Proofs.Ytfleehgbpgmcnaa.PV.ins p), Go.Value.int Go.IntKind.i64 (Go.Proofs.Ytfleehgbpgmcnaa.PV.regs p), Go.Value.slice ac (List.length (Go.Proofs.Ytfleehgbpgmcnaa.PV.code p)) cc, Go.Value.slice ao (List.length (Go.Proofs.Ytfleehgbpgmcnaa.PV.outs p)) co] 25)])) (fun a => a ≤ p.outs.length ∧ (p.outs.take a).any (fun r => decide (heldR p p.code.length r = wv)) = false) (fun a => p.outs.length - a) (0) (⟨Nat.zero_le _, by rw [List.take_zero]; rfl⟩) ⟨rfl, rfl, rfl, rfl, rfl, trivial⟩ ⟨rfl, trivial⟩ (fun a => fun (hk : a ≤ p.outs.length ∧ (p.outs.take a).any (fun r => decide (heldR p p.code.length r = wv)) = false) => ?_)
  obtain ⟨ha, hany⟩ := hk
  rcases Nat.lt_or_ge a p.outs.length with hal | hal
  · have hrr := out_may hR hal
    refine Wc.seq ?_
    refine Wc.seq ?_
    refine Wc.region rfl ?_
    refine Wl.q rfl (Qy.move rfl) ?_
    refine Wl.q rfl (Qy.fieldAddr T.fa25_3 rfl) ?_
    refine Wl.q rfl (Qy.load 0 T.one23 rfl rfl rfl) ?_
    refine Wl.q rfl (Qy.len T.sl23 rfl) ?_
    refine Wl.q rfl (Qy.lss rfl rfl) ?_
    refine Wl.done ?_
    refine Ar.next ?_
    refine Wc.condP rfl (by first | assumption | omega) ?_
    refine Wc.skip ?_
    refine Ar.next ?_
    refine Wc.seq ?_
    refine Wc.block ?_
    refine Wc.seq ?_
    refine Wc.draw [0] [] T.mixed rfl ?_
    refine Gm.q 0 [0] (by kernel_rfl) rfl rfl (Qy.loadAll 0 T.agg25 rfl rfl rfl) ?_
    refine Gm.q 1 [] (by kernel_rfl) rfl rfl (Qy.move rfl) ?_
    refine Gm.q 2 [] (by kernel_rfl) rfl rfl (Qy.move rfl) ?_
    refine Gm.q 3 [] (by kernel_rfl) rfl rfl (Qy.fieldAddr T.fa25_3 rfl) ?_
    refine Gm.q 4 [0] (by kernel_rfl) rfl rfl (Qy.load 0 T.one23 rfl rfl rfl) ?_
    refine Gm.q 5 [] (by kernel_rfl) rfl rfl (Qy.move rfl) ?_
    refine Gm.q 6 [] (by kernel_rfl) rfl rfl (Qy.at (α := Int) T.sl23 rfl rfl (by assumption) (by omega)) ?_
    refine Gm.q 7 [0] (by kernel_rfl) rfl rfl (Qy.loadG T.one3 rfl (Arr.cell (by assumption) (by omega) 0 rfl rfl)) ?_
    refine Gm.q 9 [] (by kernel_rfl) rfl rfl (Qy.move rfl) ?_
    refine Gm.one 8 ⟨rfl, trivial⟩ (by first | exact Imm.le_refl _ | assumption | (refine Imm.le_trans ?_ (by assumption); first | assumption | (refine Imm.le_trans ?_ (by assumption); assumption))) (by kernel_rfl) rfl ?_
    refine Wl.callB 1 rfl T.fn81 rfl (fun Gx hGx hgx => (c81 _ _ _ _ _ _ _ _ _ _ (by first | exact Arr.up (by assumption) hGx | exact Arr.nil _) (by first | exact Arr.up (by assumption) hGx | exact Arr.nil _) (by omega) (by omega) (by omega))) (fun v1 Gx1 G1 Ho1 hlx1 hp => ?_)
    obtain ⟨rfl, rfl, rfl⟩ := hp
    refine Wl.on0 ?_
    refine Gm.q 10 [] (by kernel_rfl) rfl rfl (Qy.eql rfl rfl) ?_
    refine Gm.doneA (by kernel_rfl) ⟨rfl, trivial⟩ (by first | exact Imm.le_refl _ | assumption | (refine Imm.le_trans ?_ (by assumption); first | assumption | (refine Imm.le_trans ?_ (by assumption); assumption))) ?_
    refine Ar.next ?_
    refine Wc.cond rfl (fun hc1 => ?_) (fun hc1 => ?_)
    refine Wc.seq ?_
    refine Wc.region rfl ?_
    refine Wl.q rfl (Qy.move rfl) ?_
    refine Wl.q rfl (Qy.assign rfl) ?_
    refine Wl.done ?_
    refine Ar.next ?_
    refine Wc.ret ?_
    refine Ar.outRet ?_
    refine Ar.passRet ?_
    refine Ar.passRet ?_
    refine Ar.outRet ?_
    refine Ar.passRet ?_
    rotate_left
    refine Wc.skip ?_
    refine Ar.outNormal ?_
    refine Ar.next ?_
    refine Wc.region rfl ?_
    refine Wl.q rfl (Qy.move rfl) ?_
    refine Wl.q rfl (Qy.add rfl rfl (by omega)) ?_
    refine Wl.q rfl (Qy.assign rfl) ?_
    refine Wl.done ?_
    rotate_left
    · have hou : outR p wv = true := any_here hal (decide_eq_true hc1)
      refine Ar.out1 (.inr rfl) (Ho := []) rfl (.tmp rfl) trivial ?_
      exact ⟨(congrArg (Value.int .i64) (if_pos hou)).symm, rfl, rfl⟩
    · refine Ar.again (a + 1) ?_ ?_ rfl ⟨rfl, rfl, rfl, rfl, rfl, trivial⟩ ⟨rfl, trivial⟩
      · exact ⟨hal, any_take hal hany (decide_eq_false hc1)⟩
      · show p.outs.length - (a + 1) < p.outs.length - a
        omega
  · rw [List.take_of_length_le hal] at hany
    have hou : ¬ outR p wv = true := by unfold outR; rw [hany]; decide
    have hun : untilR p wv = untilTo p wv p.code.length := if_neg hou
    refine Wc.seq ?_
    refine Wc.seq ?_
    refine Wc.region rfl ?_
    refine Wl.q rfl (Qy.move rfl) ?_
    refine Wl.q rfl (Qy.fieldAddr T.fa25_3 rfl) ?_
    refine Wl.q rfl (Qy.load 0 T.one23 rfl rfl rfl) ?_
    refine Wl.q rfl (Qy.len T.sl23 rfl) ?_
    refine Wl.q rfl (Qy.lss rfl rfl) ?_
    refine Wl.done ?_
    refine Ar.next ?_
    refine Wc.condN rfl (by first | assumption | omega) ?_
    refine Wc.exit ?_
    refine Ar.passExit ?_
    refine Ar.passExit ?_
    refine Ar.here ?_
    refine Ar.next ?_
    refine Wc.seq ?_
    refine Wc.seq ?_
    refine Wc.region rfl ?_
    refine Wl.q rfl (Qy.move rfl) ?_
    refine Wl.q rfl (Qy.sub rfl rfl (by omega)) ?_
    refine Wl.q rfl (Qy.assign rfl) ?_
    refine Wl.done ?_
    refine Ar.next ?_
    refine Wc.block ?_
    refine Wc.loop (ι := Nat) (fun i => ([(9, .int .i64 ((i : Int) - 1)), (3, Go.Value.pointer (Option.some (Go.Addr.mk b1 0 Option.none))), (1, Go.Value.slice na (List.length (Go.Proofs.Ytfleehgbpgmcnaa.neededP p)) nc), (2, Go.Value.int Go.IntKind.i64 wv)], [(0, Option.some b1, Go.Obj.cells #[Go.Value.int Go.IntKind.i64 (Go.Proofs.Ytfleehgbpgmcnaa.PV.ins p), Go.Value.int Go.IntKind.i64 (Go.Proofs.Ytfleehgbpgmcnaa.PV.regs p), Go.Value.slice ac (List.length (Go.Proofs.Ytfleehgbpgmcnaa.PV.code p)) cc, Go.Value.slice ao (List.length (Go.Proofs.Ytfleehgbpgmcnaa.PV.outs p)) co] 25)])) (fun i => i ≤ p.code.length ∧ untilTo p wv p.code.length = untilTo p wv i) (fun i => i) (p.code.length) (⟨Nat.le_refl _, rfl⟩) ⟨rfl, rfl, rfl, rfl, trivial⟩ ⟨rfl, trivial⟩ (fun i => fun (hk : i ≤ p.code.length ∧ untilTo p wv p.code.length = untilTo p wv i) => ?_)
    obtain ⟨hi, he⟩ := hk
    cases i with
    | zero =>
      refine Wc.seq ?_
      refine Wc.seq ?_
      refine Wc.region rfl ?_
      refine Wl.q rfl (Qy.move rfl) ?_
      refine Wl.q rfl (Qy.geq rfl rfl) ?_
      refine Wl.done ?_
      refine Ar.next ?_
      refine Wc.condN rfl (by first | assumption | omega) ?_
      refine Wc.exit ?_
      refine Ar.passExit ?_
      refine Ar.passExit ?_
      refine Ar.here ?_
      refine Ar.next ?_
      refine Wc.seq ?_
      refine Wc.region rfl ?_
      refine Wl.q rfl (Qy.assign rfl) ?_
      refine Wl.done ?_
      refine Ar.next ?_
      refine Wc.ret ?_
      refine Ar.out1 (.inr rfl) (Ho := []) rfl (.tmp rfl) trivial ?_
      exact ⟨by rw [hun, he]; rfl, rfl, rfl⟩
    | succ i =>
      refine Wc.re 9 rfl (show _ = Value.int .i64 (i : Int) by rw [show (((i + 1 : Nat) : Int) - 1) = (i : Int) by omega]) ?_
      have hm := code_may hR (show i < p.code.length by omega)
      unfold cAt at hm
      have hask : ∀ r ∈ asks (p.code[((i : Nat) : Int).toNat]?.getD default), 0 ≤ r ∧ r < p.regs := asks_in hm
      have hasks : (asks (p.code[((i : Nat) : Int).toNat]?.getD default)).length ≤ 2 := by unfold asks; split <;> (try split) <;> simp
      refine Wc.seq ?_
      refine Wc.seq ?_
      refine Wc.region rfl ?_
      refine Wl.q rfl (Qy.move rfl) ?_
      refine Wl.q rfl (Qy.geq rfl rfl) ?_
      refine Wl.done ?_
      refine Ar.next ?_
      refine Wc.condP rfl (by first | assumption | omega) ?_
      refine Wc.skip ?_
      refine Ar.next ?_
      refine Wc.seq ?_
      refine Wc.block ?_
      refine Wc.seq ?_
      refine Wc.region rfl ?_
      refine Wl.q rfl (Qy.fieldAddr T.fa25_2 rfl) ?_
      refine Wl.q rfl (Qy.load 0 T.one22 rfl rfl rfl) ?_
      refine Wl.q rfl (Qy.move rfl) ?_
      refine Wl.q rfl (Qy.at (α := Sl.Instr) T.sl22 rfl rfl (by assumption) (by omega)) ?_
      refine Wl.q rfl (Qy.loadsG T.agg34 rfl (Arr.elem (by assumption) (by omega)) rfl) ?_
      refine Wl.call 1 rfl T.fn72 rfl (c72 _ _) (tags_of trivial) (fun v1 G1 Ho1 hle1 hp => ?_)
      obtain ⟨ad1, cd1, junk1, rfl, hoa1, rfl, rfl⟩ := hp
      refine Wl.q rfl (Qy.assign rfl) ?_
      refine Wl.done ?_
      refine Ar.next ?_
      refine Wc.seq ?_
      refine Wc.region rfl ?_
      refine Wl.q rfl (Qy.assign rfl) ?_
      refine Wl.done ?_
      refine Ar.next ?_
      refine Wc.block ?_
      refine Wc.loop (ι := Nat) (fun b => ([(11, .int .i64 (b : Int)), (10, Go.Value.slice ad1 (List.length (Go.Proofs.Ytfleehgbpgmcnaa.asks (Option.getD (Go.Proofs.Ytfleehgbpgmcnaa.PV.code p)[Int.toNat (↑i : Int)]? Inhabited.default))) cd1), (9, Go.Value.int Go.IntKind.i64 (↑i : Int)), (3, Go.Value.pointer (Option.some (Go.Addr.mk b1 0 Option.none))), (1, Go.Value.slice na (List.length (Go.Proofs.Ytfleehgbpgmcnaa.neededP p)) nc), (2, Go.Value.int Go.IntKind.i64 wv)], [(2, Option.map (fun x => Go.Addr.block x) ad1, Go.Sl.Row (α := Int) 3 (Go.Proofs.Ytfleehgbpgmcnaa.asks (Option.getD (Go.Proofs.Ytfleehgbpgmcnaa.PV.code p)[Int.toNat (↑i : Int)]? Inhabited.default)) (junk1)), (0, Option.some b1, Go.Obj.cells #[Go.Value.int Go.IntKind.i64 (Go.Proofs.Ytfleehgbpgmcnaa.PV.ins p), Go.Value.int Go.IntKind.i64 (Go.Proofs.Ytfleehgbpgmcnaa.PV.regs p), Go.Value.slice ac (List.length (Go.Proofs.Ytfleehgbpgmcnaa.PV.code p)) cc, Go.Value.slice ao (List.length (Go.Proofs.Ytfleehgbpgmcnaa.PV.outs p)) co] 25)])) (fun b => b ≤ (asks (p.code[((i : Nat) : Int).toNat]?.getD default)).length ∧ ((asks (p.code[((i : Nat) : Int).toNat]?.getD default)).take b).any (fun r => decide (heldR p i r = wv)) = false) (fun b => (asks (p.code[((i : Nat) : Int).toNat]?.getD default)).length - b) (0) (⟨Nat.zero_le _, by rw [List.take_zero]; rfl⟩) ⟨rfl, rfl, rfl, rfl, rfl, rfl, trivial⟩ ⟨rfl, rfl, trivial⟩ (fun b => fun (hk : b ≤ (asks (p.code[((i : Nat) : Int).toNat]?.getD default)).length ∧ ((asks (p.code[((i : Nat) : Int).toNat]?.getD default)).take b).any (fun r => decide (heldR p i r = wv)) = false) => ?_)
      obtain ⟨hb, hany2⟩ := hk
      rcases Nat.lt_or_ge b (asks (p.code[((i : Nat) : Int).toNat]?.getD default)).length with hbl | hbl
      · have hrr : 0 ≤ (asks (p.code[((i : Nat) : Int).toNat]?.getD default))[((b : Nat) : Int).toNat]?.getD default ∧ (asks (p.code[((i : Nat) : Int).toNat]?.getD default))[((b : Nat) : Int).toNat]?.getD default < p.regs := hask _ (get_mem (by omega))
        refine Wc.seq ?_
        refine Wc.seq ?_
        refine Wc.region rfl ?_
        refine Wl.q rfl (Qy.move rfl) ?_
        refine Wl.q rfl (Qy.move rfl) ?_
        refine Wl.q rfl (Qy.len T.sl23 rfl) ?_
        refine Wl.q rfl (Qy.lss rfl rfl) ?_
        refine Wl.q rfl (Qy.move rfl) ?_
        refine Wl.yes 50 rfl (by first | assumption | omega) ?_
        refine Wl.want rfl rfl ?_
        refine Wl.q rfl (Qy.move rfl) ?_
        refine Wl.want rfl rfl ?_
        refine Wl.q rfl (Qy.move rfl) ?_
        refine Wl.want rfl rfl ?_
        refine Wl.q rfl (Qy.at (α := Bool) T.sl64 rfl rfl (by assumption) (by omega)) ?_
        refine Wl.want rfl rfl ?_
        refine Wl.q rfl (Qy.loadG T.one4 rfl (Arr.cell (by assumption) (by omega) 0 rfl rfl)) ?_
        refine Wl.q rfl (Qy.pick rfl rfl) ?_
        refine Wl.done ?_
        refine Ar.next ?_
        refine Wc.ite rfl (fun hc1 => ?_) (fun hc1 => ?_)
        refine Wc.skip ?_
        refine Ar.next ?_
        refine Wc.seq ?_
        refine Wc.block ?_
        refine Wc.seq ?_
        refine Wc.draw [0, 2] [] T.mixed rfl ?_
        refine Gm.q 0 [0] (by kernel_rfl) rfl rfl (Qy.loadAll 0 T.agg25 rfl rfl rfl) ?_
        refine Gm.q 1 [] (by kernel_rfl) rfl rfl (Qy.move rfl) ?_
        refine Gm.q 2 [] (by kernel_rfl) rfl rfl (Qy.move rfl) ?_
        refine Gm.q 3 [] (by kernel_rfl) rfl rfl (Qy.move rfl) ?_
        refine Gm.q 4 [] (by kernel_rfl) rfl rfl (Qy.move rfl) ?_
        refine Gm.q 5 [] (by kernel_rfl) rfl rfl (Qy.indexAddrO (α := Int) T.sl23 rfl rfl (by assumption) (by omega)) ?_
        refine Gm.q 6 [0, 2] (by kernel_rfl) rfl rfl (Qy.loadO 2 0 T.one3 rfl rfl (by assumption) (by omega) rfl rfl) ?_
        refine Gm.q 8 [] (by kernel_rfl) rfl rfl (Qy.move rfl) ?_
        refine Gm.one 7 ⟨rfl, rfl, trivial⟩ (by first | exact Imm.le_refl _ | assumption | (refine Imm.le_trans ?_ (by assumption); first | assumption | (refine Imm.le_trans ?_ (by assumption); assumption))) (by kernel_rfl) rfl ?_
        refine Wl.callB 3 rfl T.fn81 rfl (fun Gx hGx hgx => (c81 _ _ _ _ _ _ _ _ _ _ (by first | exact Arr.up (by assumption) hGx | exact Arr.nil _ | exact Arr.own hgx 2 rfl (by first | assumption | exact OwnA.made (by simp [maxLen]))) (by first | exact Arr.up (by assumption) hGx | exact Arr.nil _ | exact Arr.own hgx 2 rfl (by first | assumption | exact OwnA.made (by simp [maxLen]))) (by omega) (by omega) (by omega))) (fun v1 Gx1 G1 Ho1 hlx1 hp => ?_)
        obtain ⟨rfl, rfl, rfl⟩ := hp
        refine Wl.on0 ?_
        refine Gm.q 9 [] (by kernel_rfl) rfl rfl (Qy.eql rfl rfl) ?_
        refine Gm.doneA (by kernel_rfl) ⟨rfl, rfl, trivial⟩ (by first | exact Imm.le_refl _ | assumption | (refine Imm.le_trans ?_ (by assumption); first | assumption | (refine Imm.le_trans ?_ (by assumption); assumption))) ?_
        refine Ar.next ?_
        refine Wc.cond rfl (fun hc2 => ?_) (fun hc2 => ?_)
        refine Wc.seq ?_
        refine Wc.region rfl ?_
        refine Wl.q rfl (Qy.move rfl) ?_
        refine Wl.q rfl (Qy.assign rfl) ?_
        refine Wl.done ?_
        refine Ar.next ?_
        refine Wc.ret ?_
        refine Ar.outRet ?_
        refine Ar.passRet ?_
        refine Ar.passRet ?_
        refine Ar.outRet ?_
        refine Ar.outRet ?_
        refine Ar.passRet ?_
        refine Ar.passRet ?_
        refine Ar.outRet ?_
        refine Ar.passRet ?_
        rotate_left
        refine Wc.skip ?_
        refine Ar.outNormal ?_
        refine Ar.next ?_
        refine Wc.region rfl ?_
        refine Wl.q rfl (Qy.move rfl) ?_
        refine Wl.q rfl (Qy.add rfl rfl (by omega)) ?_
        refine Wl.q rfl (Qy.assign rfl) ?_
        refine Wl.done ?_
        rotate_left
        refine Wc.exit ?_
        refine Ar.passExit ?_
        refine Ar.passExit ?_
        refine Ar.here ?_
        refine Ar.outNormal ?_
        refine Ar.next ?_
        refine Wc.region rfl ?_
        refine Wl.q rfl (Qy.move rfl) ?_
        refine Wl.q rfl (Qy.sub rfl rfl (by omega)) ?_
        refine Wl.q rfl (Qy.assign rfl) ?_
        refine Wl.done ?_
        rotate_left
        · refine Ar.out1 (.inr rfl) (Ho := []) rfl (.tmp rfl) trivial ?_
          refine ⟨?_, rfl, rfl⟩
          rw [hun, he]
          exact (congrArg (Value.int .i64) (if_pos ⟨hc1, any_here hbl (decide_eq_true hc2)⟩)).symm
        · refine Ar.again (b + 1) ?_ ?_ rfl ⟨rfl, rfl, rfl, rfl, rfl, rfl, trivial⟩ ⟨rfl, rfl, trivial⟩
          · exact ⟨hbl, any_take hbl hany2 (decide_eq_false hc2)⟩
          · show (asks (p.code[((i : Nat) : Int).toNat]?.getD default)).length - (b + 1) < (asks (p.code[((i : Nat) : Int).toNat]?.getD default)).length - b
            omega
        · refine Ar.again (i) ?_ ?_ rfl ⟨rfl, rfl, rfl, rfl, trivial⟩ ⟨rfl, trivial⟩
          · refine ⟨by omega, he.trans (if_neg (fun x => ?_))⟩
            have h9 : (neededP p)[((i : Nat) : Int).toNat]?.getD default = true := x.1
            rw [h9] at hc1; cases hc1
          · exact Nat.lt_succ_self i
      · rw [List.take_of_length_le hbl] at hany2
        refine Wc.seq ?_
        refine Wc.seq ?_
        refine Wc.region rfl ?_
        refine Wl.q rfl (Qy.move rfl) ?_
        refine Wl.q rfl (Qy.move rfl) ?_
        refine Wl.q rfl (Qy.len T.sl23 rfl) ?_
        refine Wl.q rfl (Qy.lss rfl rfl) ?_
        refine Wl.q rfl (Qy.move rfl) ?_
        refine Wl.no 50 rfl (by first | assumption | omega) ?_
        refine Wl.pass rfl rfl rfl ?_
        refine Wl.pass rfl rfl rfl ?_
        refine Wl.pass rfl rfl rfl ?_
        refine Wl.pass rfl rfl rfl ?_
        refine Wl.q rfl (Qy.pick rfl rfl) ?_
        refine Wl.done ?_
        refine Ar.next ?_
        refine Wc.condF rfl ?_
        refine Wc.exit ?_
        refine Ar.passExit ?_
        refine Ar.passExit ?_
        refine Ar.here ?_
        refine Ar.outNormal ?_
        refine Ar.next ?_
        refine Wc.region rfl ?_
        refine Wl.q rfl (Qy.move rfl) ?_
        refine Wl.q rfl (Qy.sub rfl rfl (by omega)) ?_
        refine Wl.q rfl (Qy.assign rfl) ?_
        refine Wl.done ?_
        refine Ar.again (i) ?_ ?_ rfl ⟨rfl, rfl, rfl, rfl, trivial⟩ ⟨rfl, trivial⟩
        · refine ⟨by omega, he.trans (if_neg (fun x => ?_))⟩
          have h9 : (asks (p.code[((i : Nat) : Int).toNat]?.getD default)).any (fun r => decide (heldR p i r = wv)) = true := x.2
          rw [h9] at hany2; cases hany2
        · exact Nat.lt_succ_self i
end Go.Proofs.Ytfleehgbpgmcnaa
set_option maxRecDepth 100000
set_option linter.unusedVariables false
namespace Go.Proofs.Ytfleehgbpgmcnaa
open Go Go.Sl
set_option maxHeartbeats 4000000
attribute [local irreducible] neededP rightP untilR
theorem refIn_le (p : PV) (k : Nat) : ∀ r : Nat, 0 ≤ refIn p k r ∧ refIn p k r ≤ r
  | 0 => ⟨Int.le_refl _, Int.le_refl _⟩
  | r + 1 => by
    have := refIn_le p k r
    unfold refIn
    split <;> omega
theorem refJ_le (p : PV) (k : Nat) : ∀ r : Nat, 0 ≤ refJ p k r ∧ refJ p k r ≤ r
  | 0 => ⟨Int.le_refl _, Int.le_refl _⟩
  | r + 1 => by
    have := refJ_le p k r
    unfold refJ
    split <;> omega
theorem refN_le (p : PV) (k : Nat) : 0 ≤ refN p k ∧ refN p k ≤ 1 := by unfold refN; split <;> omega
theorem refIn_yes {p : PV} {k r : Nat} (h : (k : Int) ≤ untilR p (-1 - (r : Int))) : refIn p k (r + 1) = refIn p k r + 1 := if_pos h
theorem refIn_no {p : PV} {k r : Nat} (h : ¬ (k : Int) ≤ untilR p (-1 - (r : Int))) : refIn p k (r + 1) = refIn p k r := if_neg h
theorem refJ_yes {p : PV} {k j : Nat} (h1 : nAt p j = true) (h : (k : Int) ≤ untilR p (j : Int)) : refJ p k (j + 1) = refJ p k j + 1 := if_pos ⟨h1, h⟩
theorem refJ_no {p : PV} {k j : Nat} (h : ¬ (nAt p j = true ∧ (k : Int) ≤ untilR p (j : Int))) : refJ p k (j + 1) = refJ p k j := if_neg h
theorem c50 (G : Imm) (p : PV) (ac ao : Option Addr) (cc co : Nat) (hc : Arr G ac p.code) (ho : Arr G ao p.outs) (hR : rightP p = true) :
    Does Try.prog 50 [.agg #[.int .i64 p.ins, .int .i64 p.regs, .slice ac p.code.length cc, .slice ao p.outs.length co]] G [] (fun v G' Ho => v = .int .i64 (refAliveP p) ∧ G' = G ∧ Ho = []) := by
  obtain ⟨f1, f2, f3, f4, f5, f6, f7, f8⟩ := right_facts hR
  have hnl : (neededP p).length = p.code.length := needed_len9 p
  obtain ⟨I, hI⟩ : ∃ I : Nat, p.ins = (I : Int) := ⟨p.ins.toNat, by omega⟩
  have hIn : p.ins.toNat = I := by omega
  refine Does.enter Try.func50 rfl Try.ntmps50 rfl (fun w => ?_)
  refine Wc.seq ?_
  refine Wc.region rfl ?_
  refine Wl.box 0 rfl rfl rfl (fun b1 => ?_)
  refine Wl.q rfl (Qy.assign rfl) ?_
  refine Wl.done ?_
  refine Ar.next ?_
  refine Wc.seq ?_
  refine Wc.region rfl ?_
  refine Wl.q rfl (Qy.loadAll 0 T.agg25 rfl rfl rfl) ?_
  refine Wl.call 1 rfl T.fn51 rfl (c51 _ _ _ _ _ _ (by assumption) (by assumption) hR) (tags_of trivial) (fun v1 G1 Ho1 hle1 hp => ?_)
  obtain ⟨nb1, nc1, nj1, rfl, hon1, rfl, rfl⟩ := hp
  refine Wl.q rfl (Qy.assign rfl) ?_
  refine Wl.done ?_
  refine Ar.next ?_
  refine Wc.seq ?_
  refine Wc.region rfl ?_
  refine Wl.q rfl (Qy.assign rfl) ?_
  refine Wl.done ?_
  refine Ar.next ?_
  refine Wc.seq ?_
  refine Wc.seq ?_
  refine Wc.region rfl ?_
  refine Wl.q rfl (Qy.assign rfl) ?_
  refine Wl.done ?_
  refine Ar.next ?_
  refine Wc.block ?_
  refine Wc.loop (ι := Nat) (fun k => ([(5, .int .i64 (k : Int)), (4, .int .i64 (refMost p k)), (3, Go.Value.slice nb1 (List.length (Go.Proofs.Ytfleehgbpgmcnaa.neededP p)) nc1), (2, Go.Value.int Go.IntKind.i64 0), (1, Go.Value.pointer (Option.some (Go.Addr.mk b1 0 Option.none)))], [(1, Option.map (fun x => Go.Addr.block x) nb1, Go.Sl.Row (α := Bool) 4 (Go.Proofs.Ytfleehgbpgmcnaa.neededP p) (nj1)), (0, Option.some b1, Go.Obj.cells #[Go.Value.int Go.IntKind.i64 (Go.Proofs.Ytfleehgbpgmcnaa.PV.ins p), Go.Value.int Go.IntKind.i64 (Go.Proofs.Ytfleehgbpgmcnaa.PV.regs p), Go.Value.slice ac (List.length (Go.Proofs.Ytfleehgbpgmcnaa.PV.code p)) cc, Go.Value.slice ao (List.length (Go.Proofs.Ytfleehgbpgmcnaa.PV.outs p)) co] 25)])) (fun k => k ≤ p.code.length + 1) (fun k => p.code.length + 1 - k) (0) (Nat.zero_le _) ⟨rfl, rfl, rfl, rfl, rfl, trivial⟩ ⟨rfl, rfl, trivial⟩ (fun k => fun (hk : k ≤ p.code.length + 1) => ?_)
  by_cases hkn : k < p.code.length + 1
  · refine Wc.seq ?_
    refine Wc.seq ?_
    refine Wc.region rfl ?_
    refine Wl.q rfl (Qy.move rfl) ?_
    refine Wl.q rfl (Qy.fieldAddr T.fa25_2 rfl) ?_
    refine Wl.q rfl (Qy.load 0 T.one22 rfl rfl rfl) ?_
    refine Wl.q rfl (Qy.len T.sl22 rfl) ?_
    refine Wl.q rfl (Qy.leq rfl rfl) ?_
    refine Wl.done ?_
    refine Ar.next ?_
    refine Wc.condP rfl (by first | assumption | omega) ?_
    refine Wc.skip ?_
    refine Ar.next ?_
    refine Wc.seq ?_
    refine Wc.block ?_
    refine Wc.meet (ι := Unit) (fun _u => ([(5, Go.Value.int Go.IntKind.i64 (↑k : Int)), (4, Go.Value.int Go.IntKind.i64 (Go.Proofs.Ytfleehgbpgmcnaa.refMost p k)), (3, Go.Value.slice nb1 (List.length (Go.Proofs.Ytfleehgbpgmcnaa.neededP p)) nc1), (2, Go.Value.int Go.IntKind.i64 0), (1, Go.Value.pointer (Option.some (Go.Addr.mk b1 0 Option.none)))], [(1, Option.map (fun x => Go.Addr.block x) nb1, Go.Sl.Row (α := Bool) 4 (Go.Proofs.Ytfleehgbpgmcnaa.neededP p) (nj1)), (0, Option.some b1, Go.Obj.cells #[Go.Value.int Go.IntKind.i64 (Go.Proofs.Ytfleehgbpgmcnaa.PV.ins p), Go.Value.int Go.IntKind.i64 (Go.Proofs.Ytfleehgbpgmcnaa.PV.regs p), Go.Value.slice ac (List.length (Go.Proofs.Ytfleehgbpgmcnaa.PV.code p)) cc, Go.Value.slice ao (List.length (Go.Proofs.Ytfleehgbpgmcnaa.PV.outs p)) co] 25)])) (fun _u => ¬ (k < p.code.length ∧ ¬ nAt p k = true)) ?_ (fun _u => fun (hk : ¬ (k < p.code.length ∧ ¬ nAt p k = true)) => ?_)
    · by_cases hkl : k < p.code.length
      · by_cases hn : nAt p k = true
        · have h0 : (neededP p)[((k : Nat) : Int).toNat]?.getD default = true := hn
          refine Wc.seq ?_
          refine Wc.region rfl ?_
          refine Wl.q rfl (Qy.move rfl) ?_
          refine Wl.q rfl (Qy.fieldAddr T.fa25_2 rfl) ?_
          refine Wl.q rfl (Qy.load 0 T.one22 rfl rfl rfl) ?_
          refine Wl.q rfl (Qy.len T.sl22 rfl) ?_
          refine Wl.q rfl (Qy.lss rfl rfl) ?_
          refine Wl.q rfl (Qy.move rfl) ?_
          refine Wl.yes 23 rfl (by first | assumption | omega) ?_
          refine Wl.want rfl rfl ?_
          refine Wl.q rfl (Qy.move rfl) ?_
          refine Wl.want rfl rfl ?_
          refine Wl.q rfl (Qy.move rfl) ?_
          refine Wl.want rfl rfl ?_
          refine Wl.q rfl (Qy.indexAddrO (α := Bool) T.sl64 rfl rfl (by assumption) (by omega)) ?_
          refine Wl.want rfl rfl ?_
          refine Wl.q rfl (Qy.loadO 1 0 T.one4 rfl rfl (by assumption) (by omega) rfl rfl) ?_
          refine Wl.want rfl rfl ?_
          refine Wl.q rfl (Qy.not rfl) ?_
          refine Wl.q rfl (Qy.pick rfl rfl) ?_
          refine Wl.done ?_
          refine Ar.next ?_
          refine Wc.ite rfl (fun hc1 => ?_) (fun hc1 => ?_)
          refine Wc.exit ?_
          refine Ar.passExit ?_
          refine Ar.here ?_
          refine Ar.next ?_
          refine Wc.region rfl ?_
          refine Wl.q rfl (Qy.move rfl) ?_
          refine Wl.q rfl (Qy.add rfl rfl (by omega)) ?_
          refine Wl.q rfl (Qy.assign rfl) ?_
          refine Wl.done ?_
          rotate_left
          refine Wc.skip ?_
          rotate_left
          · exfalso; simp_all
          · refine Ar.meet (()) ?_ rfl ⟨rfl, rfl, rfl, rfl, rfl, trivial⟩ ⟨rfl, rfl, trivial⟩
            exact fun x => x.2 hn
        · have h0 : (neededP p)[((k : Nat) : Int).toNat]?.getD default = false := by simpa [nAt] using hn
          have e : refMost p (k + 1) = refMost p k := if_pos ⟨hkl, hn⟩
          refine Wc.seq ?_
          refine Wc.region rfl ?_
          refine Wl.q rfl (Qy.move rfl) ?_
          refine Wl.q rfl (Qy.fieldAddr T.fa25_2 rfl) ?_
          refine Wl.q rfl (Qy.load 0 T.one22 rfl rfl rfl) ?_
          refine Wl.q rfl (Qy.len T.sl22 rfl) ?_
          refine Wl.q rfl (Qy.lss rfl rfl) ?_
          refine Wl.q rfl (Qy.move rfl) ?_
          refine Wl.yes 23 rfl (by first | assumption | omega) ?_
          refine Wl.want rfl rfl ?_
          refine Wl.q rfl (Qy.move rfl) ?_
          refine Wl.want rfl rfl ?_
          refine Wl.q rfl (Qy.move rfl) ?_
          refine Wl.want rfl rfl ?_
          refine Wl.q rfl (Qy.indexAddrO (α := Bool) T.sl64 rfl rfl (by assumption) (by omega)) ?_
          refine Wl.want rfl rfl ?_
          refine Wl.q rfl (Qy.loadO 1 0 T.one4 rfl rfl (by assumption) (by omega) rfl rfl) ?_
          refine Wl.want rfl rfl ?_
          refine Wl.q rfl (Qy.not rfl) ?_
          refine Wl.q rfl (Qy.pick rfl rfl) ?_
          refine Wl.done ?_
          refine Ar.next ?_
          refine Wc.ite rfl (fun hc1 => ?_) (fun hc1 => ?_)
          refine Wc.exit ?_
          refine Ar.passExit ?_
          refine Ar.here ?_
          refine Ar.next ?_
          refine Wc.region rfl ?_
          refine Wl.q rfl (Qy.move rfl) ?_
          refine Wl.q rfl (Qy.add rfl rfl (by omega)) ?_
          refine Wl.q rfl (Qy.assign rfl) ?_
          refine Wl.done ?_
          rotate_left
          refine Wc.skip ?_
          rotate_left
          · rw [← e]
            refine Ar.again (k + 1) ?_ ?_ rfl ⟨rfl, rfl, rfl, rfl, rfl, trivial⟩ ⟨rfl, rfl, trivial⟩
            · show k + 1 ≤ p.code.length + 1
              omega
            · show p.code.length + 1 - (k + 1) < p.code.length + 1 - k
              omega
          · exfalso; simp_all
      · refine Wc.seq ?_
        refine Wc.region rfl ?_
        refine Wl.q rfl (Qy.move rfl) ?_
        refine Wl.q rfl (Qy.fieldAddr T.fa25_2 rfl) ?_
        refine Wl.q rfl (Qy.load 0 T.one22 rfl rfl rfl) ?_
        refine Wl.q rfl (Qy.len T.sl22 rfl) ?_
        refine Wl.q rfl (Qy.lss rfl rfl) ?_
        refine Wl.q rfl (Qy.move rfl) ?_
        refine Wl.no 23 rfl (by first | assumption | omega) ?_
        refine Wl.pass rfl rfl rfl ?_
        refine Wl.pass rfl rfl rfl ?_
        refine Wl.pass rfl rfl rfl ?_
        refine Wl.pass rfl rfl rfl ?_
        refine Wl.pass rfl rfl rfl ?_
        refine Wl.q rfl (Qy.pick rfl rfl) ?_
        refine Wl.done ?_
        refine Ar.next ?_
        refine Wc.condF rfl ?_
        refine Wc.skip ?_
        refine Ar.meet (()) ?_ rfl ⟨rfl, rfl, rfl, rfl, rfl, trivial⟩ ⟨rfl, rfl, trivial⟩
        exact fun x => hkl x.1
    · have e : refMost p (k + 1) = max (refMost p k) (refAl p k) := if_neg hk
      refine Wc.seq ?_
      refine Wc.region rfl ?_
      refine Wl.q rfl (Qy.assign rfl) ?_
      refine Wl.done ?_
      refine Ar.next ?_
      refine Wc.meet (ι := Int) (fun n0 => ([(6, .int .i64 n0), (4, .int .i64 (refMost p k)), (5, Go.Value.int Go.IntKind.i64 (↑k : Int)), (3, Go.Value.slice nb1 (List.length (Go.Proofs.Ytfleehgbpgmcnaa.neededP p)) nc1), (2, Go.Value.int Go.IntKind.i64 0), (1, Go.Value.pointer (Option.some (Go.Addr.mk b1 0 Option.none)))], [(1, Option.map (fun x => Go.Addr.block x) nb1, Go.Sl.Row (α := Bool) 4 (Go.Proofs.Ytfleehgbpgmcnaa.neededP p) (nj1)), (0, Option.some b1, Go.Obj.cells #[Go.Value.int Go.IntKind.i64 (Go.Proofs.Ytfleehgbpgmcnaa.PV.ins p), Go.Value.int Go.IntKind.i64 (Go.Proofs.Ytfleehgbpgmcnaa.PV.regs p), Go.Value.slice ac (List.length (Go.Proofs.Ytfleehgbpgmcnaa.PV.code p)) cc, Go.Value.slice ao (List.length (Go.Proofs.Ytfleehgbpgmcnaa.PV.outs p)) co] 25)])) (fun n0 => n0 = refN p k) ?_ (fun n0 => fun (hk : n0 = refN p k) => ?_)
      · refine Wc.seq ?_
        refine Wc.region rfl ?_
        refine Wl.q rfl (Qy.loadAll 0 T.agg25 rfl rfl rfl) ?_
        refine Wl.q rfl (Qy.move rfl) ?_
        refine Wl.callB 2 rfl T.fn79 rfl (fun Gx hGx hgx => (c79 _ _ _ _ _ _ _ _ _ (by first | exact Arr.up (by assumption) hGx | exact Arr.nil _ | exact Arr.own hgx 1 rfl (by first | assumption | exact OwnA.made (by simp [maxLen]))) (by first | exact Arr.up (by assumption) hGx | exact Arr.nil _ | exact Arr.own hgx 1 rfl (by first | assumption | exact OwnA.made (by simp [maxLen]))) (by first | exact Arr.up (by assumption) hGx | exact Arr.nil _ | exact Arr.own hgx 1 rfl (by first | assumption | exact OwnA.made (by simp [maxLen]))) hR)) (fun v1 Gx1 G1 Ho1 hlx1 hp => ?_)
        obtain ⟨rfl, rfl, rfl⟩ := hp
        refine Wl.q rfl (Qy.move rfl) ?_
        refine Wl.q rfl (Qy.geq rfl rfl) ?_
        refine Wl.done ?_
        refine Ar.next ?_
        refine Wc.cond rfl (fun hc1 => ?_) (fun hc1 => ?_)
        refine Wc.region rfl ?_
        refine Wl.q rfl (Qy.move rfl) ?_
        refine Wl.q rfl (Qy.add rfl rfl (by omega)) ?_
        refine Wl.q rfl (Qy.assign rfl) ?_
        refine Wl.done ?_
        rotate_left
        refine Wc.skip ?_
        rotate_left
        · refine Ar.meet (1) ?_ rfl ⟨rfl, rfl, rfl, rfl, rfl, rfl, trivial⟩ ⟨rfl, rfl, trivial⟩
          exact (if_pos (by assumption)).symm
        · refine Ar.meet (0) ?_ rfl ⟨rfl, rfl, rfl, rfl, rfl, rfl, trivial⟩ ⟨rfl, rfl, trivial⟩
          exact (if_neg (by assumption)).symm
      · have hn0 := hk
        have hnl0 := refN_le p k
        refine Wc.seq ?_
        refine Wc.seq ?_
        refine Wc.region rfl ?_
        refine Wl.q rfl (Qy.assign rfl) ?_
        refine Wl.done ?_
        refine Ar.next ?_
        refine Wc.block ?_
        refine Wc.re 6 rfl (show _ = Value.int .i64 (n0 + refIn p k 0) by rw [show refIn p k 0 = 0 from rfl, Int.add_zero]) ?_
        refine Wc.loop (ι := Nat) (fun r => ([(7, .int .i64 (r : Int)), (6, .int .i64 (n0 + refIn p k r)), (4, .int .i64 (refMost p k)), (5, Go.Value.int Go.IntKind.i64 (↑k : Int)), (3, Go.Value.slice nb1 (List.length (Go.Proofs.Ytfleehgbpgmcnaa.neededP p)) nc1), (2, Go.Value.int Go.IntKind.i64 0), (1, Go.Value.pointer (Option.some (Go.Addr.mk b1 0 Option.none)))], [(1, Option.map (fun x => Go.Addr.block x) nb1, Go.Sl.Row (α := Bool) 4 (Go.Proofs.Ytfleehgbpgmcnaa.neededP p) (nj1)), (0, Option.some b1, Go.Obj.cells #[Go.Value.int Go.IntKind.i64 (Go.Proofs.Ytfleehgbpgmcnaa.PV.ins p), Go.Value.int Go.IntKind.i64 (Go.Proofs.Ytfleehgbpgmcnaa.PV.regs p), Go.Value.slice ac (List.length (Go.Proofs.Ytfleehgbpgmcnaa.PV.code p)) cc, Go.Value.slice ao (List.length (Go.Proofs.Ytfleehgbpgmcnaa.PV.outs p)) co] 25)])) (fun r => r ≤ I) (fun r => I - r) (0) (Nat.zero_le _) ⟨rfl, rfl, rfl, rfl, rfl, rfl, rfl, trivial⟩ ⟨rfl, rfl, trivial⟩ (fun r => fun (hk : r ≤ I) => ?_)
        have hir := refIn_le p k r
        rcases Nat.lt_or_ge r I with hrI | hrI
        · refine Wc.seq ?_
          refine Wc.seq ?_
          refine Wc.region rfl ?_
          refine Wl.q rfl (Qy.move rfl) ?_
          refine Wl.q rfl (Qy.fieldAddr T.fa25_0 rfl) ?_
          refine Wl.q rfl (Qy.load 0 T.one3 rfl rfl rfl) ?_
          refine Wl.q rfl (Qy.lss rfl rfl) ?_
          refine Wl.done ?_
          refine Ar.next ?_
          refine Wc.condP rfl (by first | assumption | omega) ?_
          refine Wc.skip ?_
          refine Ar.next ?_
          refine Wc.seq ?_
          refine Wc.block ?_
          refine Wc.seq ?_
          refine Wc.region rfl ?_
          refine Wl.q rfl (Qy.loadAll 0 T.agg25 rfl rfl rfl) ?_
          refine Wl.q rfl (Qy.move rfl) ?_
          refine Wl.q rfl (Qy.move rfl) ?_
          refine Wl.q rfl (Qy.sub rfl rfl (by omega)) ?_
          refine Wl.callB 2 rfl T.fn79 rfl (fun Gx hGx hgx => (c79 _ _ _ _ _ _ _ _ _ (by first | exact Arr.up (by assumption) hGx | exact Arr.nil _ | exact Arr.own hgx 1 rfl (by first | assumption | exact OwnA.made (by simp [maxLen]))) (by first | exact Arr.up (by assumption) hGx | exact Arr.nil _ | exact Arr.own hgx 1 rfl (by first | assumption | exact OwnA.made (by simp [maxLen]))) (by first | exact Arr.up (by assumption) hGx | exact Arr.nil _ | exact Arr.own hgx 1 rfl (by first | assumption | exact OwnA.made (by simp [maxLen]))) hR)) (fun v1 Gx1 G1 Ho1 hlx1 hp => ?_)
          obtain ⟨rfl, rfl, rfl⟩ := hp
          refine Wl.q rfl (Qy.move rfl) ?_
          refine Wl.q rfl (Qy.geq rfl rfl) ?_
          refine Wl.done ?_
          refine Ar.next ?_
          refine Wc.cond rfl (fun hc1 => ?_) (fun hc1 => ?_)
          refine Wc.region rfl ?_
          refine Wl.q rfl (Qy.move rfl) ?_
          refine Wl.q rfl (Qy.add rfl rfl (by omega)) ?_
          refine Wl.q rfl (Qy.assign rfl) ?_
          refine Wl.done ?_
          refine Ar.outNormal ?_
          refine Ar.next ?_
          refine Wc.region rfl ?_
          refine Wl.q rfl (Qy.move rfl) ?_
          refine Wl.q rfl (Qy.add rfl rfl (by omega)) ?_
          refine Wl.q rfl (Qy.assign rfl) ?_
          refine Wl.done ?_
          rotate_left
          refine Wc.skip ?_
          refine Ar.outNormal ?_
          refine Ar.next ?_
          refine Wc.region rfl ?_
          refine Wl.q rfl (Qy.move rfl) ?_
          refine Wl.q rfl (Qy.add rfl rfl (by omega)) ?_
          refine Wl.q rfl (Qy.assign rfl) ?_
          refine Wl.done ?_
          rotate_left
          · have e2 := refIn_yes (p := p) (k := k) (r := r) (by assumption)
            refine Ar.re 6 rfl (show _ = Value.int .i64 (n0 + refIn p k (r + 1)) by rw [e2]; congr 1; omega) ?_
            refine Ar.again (r + 1) ?_ ?_ rfl ⟨rfl, rfl, rfl, rfl, rfl, rfl, rfl, trivial⟩ ⟨rfl, rfl, trivial⟩
            · exact hrI
            · show I - (r + 1) < I - r
              omega
          · have e2 := refIn_no (p := p) (k := k) (r := r) (by assumption)
            rw [← e2]
            refine Ar.again (r + 1) ?_ ?_ rfl ⟨rfl, rfl, rfl, rfl, rfl, rfl, rfl, trivial⟩ ⟨rfl, rfl, trivial⟩
            · exact hrI
            · show I - (r + 1) < I - r
              omega
        · have hrE : r = I := by omega
          subst hrE
          refine Wc.seq ?_
          refine Wc.seq ?_
          refine Wc.region rfl ?_
          refine Wl.q rfl (Qy.move rfl) ?_
          refine Wl.q rfl (Qy.fieldAddr T.fa25_0 rfl) ?_
          refine Wl.q rfl (Qy.load 0 T.one3 rfl rfl rfl) ?_
          refine Wl.q rfl (Qy.lss rfl rfl) ?_
          refine Wl.done ?_
          refine Ar.next ?_
          refine Wc.condN rfl (by first | assumption | omega) ?_
          refine Wc.exit ?_
          refine Ar.passExit ?_
          refine Ar.passExit ?_
          refine Ar.here ?_
          refine Ar.next ?_
          refine Wc.seq ?_
          refine Wc.seq ?_
          refine Wc.region rfl ?_
          refine Wl.q rfl (Qy.assign rfl) ?_
          refine Wl.done ?_
          refine Ar.next ?_
          refine Wc.block ?_
          refine Wc.re 6 rfl (show _ = Value.int .i64 (n0 + refIn p k r + refJ p k 0) by rw [show refJ p k 0 = 0 from rfl, Int.add_zero]) ?_
          refine Wc.loop (ι := Nat) (fun j => ([(8, .int .i64 (j : Int)), (6, .int .i64 (n0 + refIn p k r + refJ p k j)), (4, .int .i64 (refMost p k)), (5, Go.Value.int Go.IntKind.i64 (↑k : Int)), (3, Go.Value.slice nb1 (List.length (Go.Proofs.Ytfleehgbpgmcnaa.neededP p)) nc1), (2, Go.Value.int Go.IntKind.i64 0), (1, Go.Value.pointer (Option.some (Go.Addr.mk b1 0 Option.none)))], [(1, Option.map (fun x => Go.Addr.block x) nb1, Go.Sl.Row (α := Bool) 4 (Go.Proofs.Ytfleehgbpgmcnaa.neededP p) (nj1)), (0, Option.some b1, Go.Obj.cells #[Go.Value.int Go.IntKind.i64 (Go.Proofs.Ytfleehgbpgmcnaa.PV.ins p), Go.Value.int Go.IntKind.i64 (Go.Proofs.Ytfleehgbpgmcnaa.PV.regs p), Go.Value.slice ac (List.length (Go.Proofs.Ytfleehgbpgmcnaa.PV.code p)) cc, Go.Value.slice ao (List.length (Go.Proofs.Ytfleehgbpgmcnaa.PV.outs p)) co] 25)])) (fun j => j ≤ k) (fun j => k - j) (0) (Nat.zero_le _) ⟨rfl, rfl, rfl, rfl, rfl, rfl, rfl, trivial⟩ ⟨rfl, rfl, trivial⟩ (fun j => fun (hk : j ≤ k) => ?_)
          have hjr := refJ_le p k j
          rcases Nat.lt_or_ge j k with hjk | hjk
          · refine Wc.seq ?_
            refine Wc.seq ?_
            refine Wc.region rfl ?_
            refine Wl.q rfl (Qy.move rfl) ?_
            refine Wl.q rfl (Qy.move rfl) ?_
            refine Wl.q rfl (Qy.lss rfl rfl) ?_
            refine Wl.done ?_
            refine Ar.next ?_
            refine Wc.condP rfl (by first | assumption | omega) ?_
            refine Wc.skip ?_
            refine Ar.next ?_
            refine Wc.seq ?_
            refine Wc.block ?_
            refine Wc.seq ?_
            refine Wc.region rfl ?_
            refine Wl.q rfl (Qy.move rfl) ?_
            refine Wl.q rfl (Qy.move rfl) ?_
            refine Wl.q rfl (Qy.indexAddrO (α := Bool) T.sl64 rfl rfl (by assumption) (by omega)) ?_
            refine Wl.q rfl (Qy.loadO 1 0 T.one4 rfl rfl (by assumption) (by omega) rfl rfl) ?_
            refine Wl.q rfl (Qy.move rfl) ?_
            refine Wl.casesB 61 rfl (fun hg1 => ?_) (fun hg1 => ?_)
            refine Wl.want rfl rfl ?_
            refine Wl.q rfl (Qy.loadAll 0 T.agg25 rfl rfl rfl) ?_
            refine Wl.want rfl rfl ?_
            refine Wl.q rfl (Qy.move rfl) ?_
            refine Wl.want rfl rfl ?_
            refine Wl.q rfl (Qy.move rfl) ?_
            refine Wl.want rfl rfl ?_
            refine Wl.callB 2 rfl T.fn79 rfl (fun Gx hGx hgx => (c79 _ _ _ _ _ _ _ _ _ (by first | exact Arr.up (by assumption) hGx | exact Arr.nil _ | exact Arr.own hgx 1 rfl (by first | assumption | exact OwnA.made (by simp [maxLen]))) (by first | exact Arr.up (by assumption) hGx | exact Arr.nil _ | exact Arr.own hgx 1 rfl (by first | assumption | exact OwnA.made (by simp [maxLen]))) (by first | exact Arr.up (by assumption) hGx | exact Arr.nil _ | exact Arr.own hgx 1 rfl (by first | assumption | exact OwnA.made (by simp [maxLen]))) hR)) (fun v1 Gx1 G1 Ho1 hlx1 hp => ?_)
            obtain ⟨rfl, rfl, rfl⟩ := hp
            refine Wl.want rfl rfl ?_
            refine Wl.q rfl (Qy.move rfl) ?_
            refine Wl.want rfl rfl ?_
            refine Wl.q rfl (Qy.geq rfl rfl) ?_
            refine Wl.q rfl (Qy.pick rfl rfl) ?_
            refine Wl.done ?_
            refine Ar.next ?_
            refine Wc.cond rfl (fun hc1 => ?_) (fun hc1 => ?_)
            refine Wc.region rfl ?_
            refine Wl.q rfl (Qy.move rfl) ?_
            refine Wl.q rfl (Qy.add rfl rfl (by omega)) ?_
            refine Wl.q rfl (Qy.assign rfl) ?_
            refine Wl.done ?_
            refine Ar.outNormal ?_
            refine Ar.next ?_
            refine Wc.region rfl ?_
            refine Wl.q rfl (Qy.move rfl) ?_
            refine Wl.q rfl (Qy.add rfl rfl (by omega)) ?_
            refine Wl.q rfl (Qy.assign rfl) ?_
            refine Wl.done ?_
            rotate_left
            refine Wc.skip ?_
            refine Ar.outNormal ?_
            refine Ar.next ?_
            refine Wc.region rfl ?_
            refine Wl.q rfl (Qy.move rfl) ?_
            refine Wl.q rfl (Qy.add rfl rfl (by omega)) ?_
            refine Wl.q rfl (Qy.assign rfl) ?_
            refine Wl.done ?_
            rotate_left
            refine Wl.pass rfl rfl rfl ?_
            refine Wl.pass rfl rfl rfl ?_
            refine Wl.pass rfl rfl rfl ?_
            refine Wl.pass rfl rfl rfl ?_
            refine Wl.pass rfl rfl rfl ?_
            refine Wl.pass rfl rfl rfl ?_
            refine Wl.q rfl (Qy.pick rfl rfl) ?_
            refine Wl.done ?_
            refine Ar.next ?_
            refine Wc.condF rfl ?_
            refine Wc.skip ?_
            refine Ar.outNormal ?_
            refine Ar.next ?_
            refine Wc.region rfl ?_
            refine Wl.q rfl (Qy.move rfl) ?_
            refine Wl.q rfl (Qy.add rfl rfl (by omega)) ?_
            refine Wl.q rfl (Qy.assign rfl) ?_
            refine Wl.done ?_
            rotate_left
            · have e2 : refJ p k (j + 1) = refJ p k j + 1 := refJ_yes hg1 (by assumption)
              refine Ar.re 6 rfl (show _ = Value.int .i64 (n0 + refIn p k r + refJ p k (j + 1)) by rw [e2]; congr 1; omega) ?_
              refine Ar.again (j + 1) ?_ ?_ rfl ⟨rfl, rfl, rfl, rfl, rfl, rfl, rfl, trivial⟩ ⟨rfl, rfl, trivial⟩
              · exact hjk
              · show k - (j + 1) < k - j
                omega
            · have e2 : refJ p k (j + 1) = refJ p k j := refJ_no (fun x => by have := x.2; contradiction)
              rw [← e2]
              refine Ar.again (j + 1) ?_ ?_ rfl ⟨rfl, rfl, rfl, rfl, rfl, rfl, rfl, trivial⟩ ⟨rfl, rfl, trivial⟩
              · exact hjk
              · show k - (j + 1) < k - j
                omega
            · have e2 : refJ p k (j + 1) = refJ p k j := refJ_no (fun x => by have h9 : (neededP p)[((j : Nat) : Int).toNat]?.getD default = true := x.1; rw [h9] at hg1; cases hg1)
              rw [← e2]
              refine Ar.again (j + 1) ?_ ?_ rfl ⟨rfl, rfl, rfl, rfl, rfl, rfl, rfl, trivial⟩ ⟨rfl, rfl, trivial⟩
              · exact hjk
              · show k - (j + 1) < k - j
                omega
          · have hjE : j = k := by omega
            subst hjE
            have hsum : n0 + refIn p j r + refJ p j j = refAl p j := by rw [hn0]; unfold refAl; rw [hIn]
            rw [hsum]
            refine Wc.seq ?_
            refine Wc.seq ?_
            refine Wc.region rfl ?_
            refine Wl.q rfl (Qy.move rfl) ?_
            refine Wl.q rfl (Qy.move rfl) ?_
            refine Wl.q rfl (Qy.lss rfl rfl) ?_
            refine Wl.done ?_
            refine Ar.next ?_
            refine Wc.condN rfl (by first | assumption | omega) ?_
            refine Wc.exit ?_
            refine Ar.passExit ?_
            refine Ar.passExit ?_
            refine Ar.here ?_
            refine Ar.next ?_
            refine Wc.seq ?_
            refine Wc.region rfl ?_
            refine Wl.q rfl (Qy.move rfl) ?_
            refine Wl.q rfl (Qy.move rfl) ?_
            refine Wl.q rfl (Qy.gtr rfl rfl) ?_
            refine Wl.done ?_
            refine Ar.next ?_
            refine Wc.cond rfl (fun hc1 => ?_) (fun hc1 => ?_)
            refine Wc.region rfl ?_
            refine Wl.q rfl (Qy.move rfl) ?_
            refine Wl.q rfl (Qy.assign rfl) ?_
            refine Wl.done ?_
            refine Ar.outNormal ?_
            refine Ar.next ?_
            refine Wc.region rfl ?_
            refine Wl.q rfl (Qy.move rfl) ?_
            refine Wl.q rfl (Qy.add rfl rfl (by omega)) ?_
            refine Wl.q rfl (Qy.assign rfl) ?_
            refine Wl.done ?_
            rotate_left
            refine Wc.skip ?_
            refine Ar.outNormal ?_
            refine Ar.next ?_
            refine Wc.region rfl ?_
            refine Wl.q rfl (Qy.move rfl) ?_
            refine Wl.q rfl (Qy.add rfl rfl (by omega)) ?_
            refine Wl.q rfl (Qy.assign rfl) ?_
            refine Wl.done ?_
            rotate_left
            · have e9 : refMost p (j + 1) = refAl p j := by rw [e]; exact Int.max_eq_right (by omega)
              rw [← e9]
              refine Ar.again (j + 1) ?_ ?_ rfl ⟨rfl, rfl, rfl, rfl, rfl, trivial⟩ ⟨rfl, rfl, trivial⟩
              · show j + 1 ≤ p.code.length + 1
                omega
              · show p.code.length + 1 - (j + 1) < p.code.length + 1 - j
                omega
            · have e9 : refMost p (j + 1) = refMost p j := by rw [e]; exact Int.max_eq_left (by omega)
              rw [← e9]
              refine Ar.again (j + 1) ?_ ?_ rfl ⟨rfl, rfl, rfl, rfl, rfl, trivial⟩ ⟨rfl, rfl, trivial⟩
              · show j + 1 ≤ p.code.length + 1
                omega
              · show p.code.length + 1 - (j + 1) < p.code.length + 1 - j
                omega
  · have hkE : k = p.code.length + 1 := by omega
    subst hkE
    refine Wc.seq ?_
    refine Wc.seq ?_
    refine Wc.region rfl ?_
    refine Wl.q rfl (Qy.move rfl) ?_
    refine Wl.q rfl (Qy.fieldAddr T.fa25_2 rfl) ?_
    refine Wl.q rfl (Qy.load 0 T.one22 rfl rfl rfl) ?_
    refine Wl.q rfl (Qy.len T.sl22 rfl) ?_
    refine Wl.q rfl (Qy.leq rfl rfl) ?_
    refine Wl.done ?_
    refine Ar.next ?_
    refine Wc.condN rfl (by first | assumption | omega) ?_
    refine Wc.exit ?_
    refine Ar.passExit ?_
    refine Ar.passExit ?_
    refine Ar.here ?_
    refine Ar.next ?_
    refine Wc.seq ?_
    refine Wc.region rfl ?_
    refine Wl.q rfl (Qy.move rfl) ?_
    refine Wl.q rfl (Qy.assign rfl) ?_
    refine Wl.done ?_
    refine Ar.next ?_
    refine Wc.ret ?_
    refine Ar.out1 (.inr rfl) (Ho := []) rfl (.tmp rfl) trivial ?_
    exact ⟨rfl, rfl, rfl⟩
end Go.Proofs.Ytfleehgbpgmcnaa
