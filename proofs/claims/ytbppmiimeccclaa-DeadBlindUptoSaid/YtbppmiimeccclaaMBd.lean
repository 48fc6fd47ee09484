/- Parts of the proof (part 4): what the rows' text needs of the texts that lead to it. -/
import Derived.Test.YtbppmiimeccclaaMBc
set_option maxRecDepth 100000
set_option linter.unusedVariables false
namespace Go.Proofs.Ytbppmiimeccclaa
open Go Go.Sl
set_option maxHeartbeats 4000000
/-- handles that stand for numbers -/
def Bigs (G : Imm) (l : List IV) (zs : List Int) : Prop := l.length = zs.length ∧ ∀ i : Nat, i < l.length → Big G (l[i]?.getD default) (zs[i]?.getD 0)
theorem Bigs.up {G G' : Imm} {l : List IV} {zs : List Int} (h : Bigs G l zs) (hl : G.le G') : Bigs G' l zs := ⟨h.1, fun i hi => (h.2 i hi).up hl⟩
theorem Bigs.at {G : Imm} {l : List IV} {zs : List Int} (h : Bigs G l zs) {k : Int} (hk : 0 ≤ k ∧ k < l.length) : Big G (l[k.toNat]?.getD default) (zs[k.toNat]?.getD 0) := h.2 _ (by omega)
theorem Bigs.nil (G : Imm) : Bigs G [] [] := ⟨rfl, fun i hi => by simp at hi⟩
theorem Bigs.set {G : Imm} {l : List IV} {zs : List Int} (h : Bigs G l zs) (k : Nat) {x : IV} {z : Int} (hx : Big G x z) : Bigs G (l.set k x) (zs.set k z) := by
  refine ⟨by rw [List.length_set, List.length_set]; exact h.1, fun i hi => ?_⟩
  rw [List.length_set] at hi
  rw [List.getElem?_set, List.getElem?_set]
  have h1 := h.1
  by_cases hk : k = i
  · subst hk
    rw [if_pos rfl, if_pos rfl, if_pos hi, if_pos (by omega)]; exact hx
  · rw [if_neg hk, if_neg hk]; exact h.2 i hi
theorem Bigs.snoc {G : Imm} {l : List IV} {zs : List Int} (h : Bigs G l zs) {x : IV} {z : Int} (hx : Big G x z) : Bigs G (l ++ [x]) (zs ++ [z]) := by
  refine ⟨by rw [List.length_append, List.length_append, h.1]; rfl, fun i hi => ?_⟩
  rw [List.length_append, List.length_singleton] at hi
  have h1 := h.1
  rcases Nat.lt_or_ge i l.length with h2 | h2
  · rw [List.getElem?_append_left h2, List.getElem?_append_left (by omega)]; exact h.2 i h2
  · have e : i = l.length := by omega
    subst e
    rw [List.getElem?_append_right (Nat.le_refl _), Nat.sub_self, h1, List.getElem?_append_right (Nat.le_refl _), Nat.sub_self]; exact hx
theorem Bigs.zeros (G : Imm) (n : Nat) : Bigs G (List.replicate n (default : IV)) (List.replicate n 0) := by
  refine ⟨by rw [List.length_replicate, List.length_replicate], fun i hi => ?_⟩
  rw [List.length_replicate] at hi
  rw [List.getElem?_replicate, List.getElem?_replicate, if_pos hi, if_pos hi]
  exact Big.zero G
/-- none too large -/
def Below (m : Nat) (zs : List Int) : Prop := ∀ z ∈ zs, (z.natAbs : Int) < pb m
theorem Below.at {m : Nat} {zs : List Int} (h : Below m zs) (k : Nat) : ((zs[k]?.getD 0).natAbs : Int) < pb m := by
  rcases Nat.lt_or_ge k zs.length with h1 | h1
  · rw [List.getElem?_eq_getElem h1]; exact h _ (List.getElem_mem h1)
  · rw [List.getElem?_eq_none h1]; exact pb_pos m
theorem one_lt : ((1 : Int).natAbs : Int) < pb 1 := by unfold pb; decide
theorem p2_def (n : Nat) : p2 n = ((2 ^ n : Nat) : Int) := rfl
theorem sgZ_zero {z : Int} : sgZ z = 0 ↔ z = 0 := by
  unfold sgZ
  split
  · simp [*]
  · split <;> omega
theorem emod_small {x y : Int} (hy : y ≠ 0) : ((x % y).natAbs : Int) < y.natAbs := by
  have e1 := Int.emod_nonneg x hy
  rcases Int.lt_or_gt_of_ne hy with h | h
  · have e2 := Int.emod_lt_of_pos x (show 0 < -y by omega)
    rw [Int.emod_neg] at e2
    omega
  · have e2 := Int.emod_lt_of_pos x h
    omega
attribute [local irreducible] valB pb cmpZ lstWp p2
theorem c132 (G : Imm) (n : Nat) (hn : n ≤ 64) :
    Does Try.prog 132 [.int .i64 (n : Int)] G [] (fun v G' Ho => ∃ r : IV, v = .agg (Cells.enc r).toArray ∧ Big G' r (p2 n) ∧ Ho = []) := by
  refine Does.enter Try.func132 rfl Try.ntmps132 rfl (fun w => ?_)
  refine Wc.seq ?_
  refine Wc.region rfl ?_
  refine Wl.alloc 0 rfl T.zero61 (fun b1 => ?_)
  refine Wl.done ?_
  refine Ar.next ?_
  refine Wc.seq ?_
  refine Wc.region rfl ?_
  refine Wl.call 1 rfl T.fn51 rfl (c51 _ _ (by omega)) (tags_of trivial) (fun v1 G1 Ho1 hle1 hp => ?_)
  obtain ⟨ro1, rfl, hro1, rfl⟩ := hp
  refine Wl.q rfl (Qy.move rfl) ?_
  refine Wl.re 7 rfl (show _ = Value.int .i64 ((32 * (n / 32) + n % 32 : Nat) : Int) by rw [Nat.div_add_mod]) ?_
  refine Wl.call 20 rfl T.fn168 rfl (c168 _ ro1 1 (n / 32) (n % 32) hro1 (Nat.le_trans (Big.len hro1 one_lt) (by decide)) (Nat.mod_lt _ (by decide)) (by omega)) (tags_of trivial) (fun v9 G9 Ho9 hle9 hp => ?_)
  obtain ⟨r9, rfl, hr9, rfl⟩ := hp
  refine Wl.q rfl (Qy.move rfl) ?_
  refine Wl.q rfl (Qy.extract rfl rfl) ?_
  refine Wl.q rfl (Qy.extract rfl rfl) ?_
  refine Wl.alloc 1 rfl T.zero61 (fun b2 => ?_)
  refine Wl.storeAll 1 T.size61 rfl rfl rfl rfl rfl rfl ?_
  refine Wl.q rfl (Qy.assign rfl) ?_
  refine Wl.done ?_
  refine Ar.next ?_
  refine Wc.seq ?_
  refine Wc.region rfl ?_
  refine Wl.q rfl (Qy.loadAll 1 T.agg61 rfl rfl rfl) ?_
  refine Wl.storeAll 0 T.size61 rfl rfl rfl rfl rfl rfl ?_
  refine Wl.done ?_
  refine Ar.next ?_
  refine Wc.ret ?_
  refine Ar.out1 (.inr rfl) (Ho := Hp.only _ []) rfl (.agg 0 rfl rfl T.agg61) (Hp.sub_only _ _) ?_
  exact ⟨r9, rfl, Big.out hr9 (by rw [Nat.div_add_mod, Int.one_mul, p2_def]), rfl⟩
theorem c96 (G : Imm) (x y : IV) (zx zy : Int) (hx : Big G x zx) (hy : Big G y zy) (h1 : x.n ≤ 268435456) (h2 : y.n ≤ 268435456) (hy0 : zy ≠ 0) :
    Does Try.prog 96 [.agg (Cells.enc x).toArray, .agg (Cells.enc y).toArray] G [] (fun v G' Ho => ∃ q : IV, v = .tuple #[.agg (Cells.enc q).toArray, .bool (decide (zx % zy = 0))] ∧ Big G' q (zx / zy) ∧ Ho = []) := by
  have hlt : ((zx % zy).natAbs : Int) < pb y.n := by
    have e2 := emod_small (x := zx) hy0
    have e3 := Big.lt hy
    omega
  refine Does.enter Try.func96 rfl Try.ntmps96 rfl (fun w => ?_)
  refine Wc.seq ?_
  refine Wc.region rfl ?_
  refine Wl.box 0 rfl rfl rfl (fun b1 => ?_)
  refine Wl.box 1 rfl rfl rfl (fun b2 => ?_)
  refine Wl.alloc 2 rfl T.zero61 (fun b3 => ?_)
  refine Wl.q rfl (Qy.assign rfl) ?_
  refine Wl.done ?_
  refine Ar.next ?_
  refine Wc.seq ?_
  refine Wc.region rfl ?_
  refine Wl.q rfl (Qy.loadAll 0 T.agg61 rfl rfl rfl) ?_
  refine Wl.q rfl (Qy.loadAll 1 T.agg61 rfl rfl rfl) ?_
  refine Wl.call 3 rfl T.fn97 rfl (c97 _ _ _ _ _ hx hy h1 h2 hy0) (tags_of trivial) (fun v1 G1 Ho1 hle1 hp => ?_)
  obtain ⟨q1, r1, rfl, hq1, hr1, rfl⟩ := hp
  replace hx := hx.up hle1
  replace hy := hy.up hle1
  refine Wl.q rfl (Qy.move rfl) ?_
  refine Wl.q rfl (Qy.extract rfl rfl) ?_
  refine Wl.q rfl (Qy.extract rfl rfl) ?_
  refine Wl.q rfl (Qy.extract rfl rfl) ?_
  refine Wl.alloc 3 rfl T.zero61 (fun b4 => ?_)
  refine Wl.alloc 4 rfl T.zero61 (fun b5 => ?_)
  refine Wl.storeAll 3 T.size61 rfl rfl rfl rfl rfl rfl ?_
  refine Wl.storeAll 4 T.size61 rfl rfl rfl rfl rfl rfl ?_
  refine Wl.q rfl (Qy.assign rfl) ?_
  refine Wl.done ?_
  refine Ar.next ?_
  refine Wc.seq ?_
  refine Wc.draw [0, 1, 2, 3, 4] [(2, 4)] T.mixed rfl ?_
  refine Gm.q 0 [3] (by kernel_rfl) rfl rfl (Qy.loadAll 3 T.agg61 rfl rfl rfl) ?_
  refine Gm.q 1 [4] (by kernel_rfl) rfl rfl (Qy.loadAll 4 T.agg61 rfl rfl rfl) ?_
  refine Gm.one 2 ⟨rfl, rfl, rfl, rfl, rfl, trivial⟩ (by first | exact Imm.le_refl _ | assumption | (refine Imm.le_trans ?_ (by assumption); first | assumption | (refine Imm.le_trans ?_ (by assumption); assumption))) (by kernel_rfl) rfl ?_
  refine Wl.call0 rfl T.fn98 rfl (big_sign _ r1 (zx % zy) hr1 (Nat.le_trans (Big.len hr1 hlt) (Nat.le_trans h2 (by decide)))) ?_
  refine Wl.on0 ?_
  refine Gm.q 3 [] (by kernel_rfl) rfl rfl (Qy.eql rfl rfl) ?_
  refine Gm.one 4 ⟨rfl, rfl, rfl, rfl, rfl, trivial⟩ (by first | exact Imm.le_refl _ | assumption | (refine Imm.le_trans ?_ (by assumption); first | assumption | (refine Imm.le_trans ?_ (by assumption); assumption))) (by kernel_rfl) rfl ?_
  refine Wl.storeAll 2 T.size61 rfl rfl rfl rfl rfl rfl ?_
  refine Wl.on0 ?_
  refine Gm.q 5 [] (by kernel_rfl) rfl rfl (Qy.assign rfl) ?_
  refine Gm.doneA (by kernel_rfl) ⟨rfl, rfl, rfl, rfl, trivial⟩ (by first | exact Imm.le_refl _ | assumption | (refine Imm.le_trans ?_ (by assumption); first | assumption | (refine Imm.le_trans ?_ (by assumption); assumption))) ?_
  refine Ar.next ?_
  refine Wc.ret ?_
  refine Ar.out2 (.inr rfl) (Ho := Hp.only _ []) rfl (.agg 2 rfl rfl T.agg61) (.tmp rfl) (Hp.sub_only _ _) ?_
  all_goals exact ⟨q1, by rw [decide_eq_decide.2 sgZ_zero], hq1, rfl⟩
end Go.Proofs.Ytbppmiimeccclaa
set_option maxRecDepth 100000
set_option linter.unusedVariables false
namespace Go.Proofs.Ytbppmiimeccclaa
open Go Go.Sl
set_option maxHeartbeats 4000000
/-- one instruction on numbers -/
def doZ (i : Sl.Instr) (zs : List Int) : Option Int :=
  let a := zs[i.a.toNat]?.getD 0
  let b := zs[i.b.toNat]?.getD 0
  if i.op = 2 then some (-a)
  else if i.op = 3 then some (a + b)
  else if i.op = 4 then some (a - b)
  else if i.op = 5 ∨ i.op = 7 then some (a * cst i)
  else if i.op = 6 ∨ i.op = 8 then (if a % cst i = 0 then some (a / cst i) else none)
  else some a
/-- how a machine calculates with whole numbers -/
def waysV : Value := .agg #[.func (.func 92) #[] #[], .func (.func 93) #[] #[], .func (.func 94) #[] #[], .func (.func 95) #[] #[], .func (.func 96) #[] #[]]
theorem c132i (G : Imm) (c : Int) (h : 0 ≤ c ∧ c ≤ 64) :
    Does Try.prog 132 [.int .i64 c] G [] (fun v G' Ho => ∃ r : IV, v = .agg (Cells.enc r).toArray ∧ Big G' r (p2 c.toNat) ∧ Ho = []) := by
  obtain ⟨n, rfl⟩ := Int.eq_ofNat_of_zero_le h.1
  rw [Int.toNat_natCast]
  exact c132 G n (by omega)
/-- what 'do' answers -/
def DoPost (i : Sl.Instr) (zs : List Int) (H0 : Hp) (v : Value) (G' : Imm) (Ho : Hp) : Prop :=
  ∃ x : IV, v = .tuple #[.agg (Cells.enc x).toArray, .bool (decide (doZ i zs ≠ none))] ∧ (∀ z, doZ i zs = some z → Big G' x z) ∧ Ho = H0
theorem do_some {i : Sl.Instr} {zs : List Int} {H0 : Hp} {x : IV} {G' : Imm} {z : Int} (h : doZ i zs = some z) (hx : Big G' x z) : DoPost i zs H0 (.tuple #[.agg (Cells.enc x).toArray, .bool true]) G' H0 :=
  ⟨x, by rw [decide_eq_true (show doZ i zs ≠ none from fun e => by rw [e] at h; cases h)], fun z' h' => by rw [h] at h'; cases h'; exact hx, rfl⟩
theorem do_over {i : Sl.Instr} {zs : List Int} {H0 : Hp} {q : IV} {G' : Imm} {a y : Int} (h : doZ i zs = if a % y = 0 then some (a / y) else none) (hq : Big G' q (a / y)) : DoPost i zs H0 (.tuple #[.agg (Cells.enc q).toArray, .bool (decide (a % y = 0))]) G' H0 := by
  by_cases ha : a % y = 0
  · rw [if_pos ha] at h
    rw [decide_eq_true ha]
    exact do_some h hq
  · rw [if_neg ha] at h
    refine ⟨q, by rw [decide_eq_false ha, decide_eq_false (show ¬ doZ i zs ≠ none from fun e => e h)], (fun z hz => by rw [h] at hz; cases hz), rfl⟩
attribute [local irreducible] valB pb cmpZ lstWp p2 cst
theorem c91 (G : Imm) (i : Sl.Instr) (o : Option Addr) (d : Nat) (r : List IV) (j : List Value) (zs : List Int) (m : Nat) (hob : OwnA o d r j) (hg : Bigs G r zs) (hm : Below m zs) (hm2 : m ≤ 268435456)
    (hop : 1 ≤ i.op ∧ i.op ≤ 8) (ha : 0 ≤ i.a ∧ i.a < r.length) (hb : 0 ≤ i.b ∧ i.b < r.length)
    (hcst : i.op ≠ 1 → i.op ≠ 2 → i.op ≠ 3 → i.op ≠ 4 → cst i ≠ 0 ∧ ((cst i).natAbs : Int) < pb 3)
    (hc1 : i.op = 5 ∨ i.op = 6 → -9223372036854775808 ≤ i.c ∧ i.c ≤ 9223372036854775807) (hc2 : ¬ (i.op = 5 ∨ i.op = 6) → 0 ≤ i.c ∧ i.c ≤ 64) :
    Does Try.prog 91 [waysV, .slice o r.length d, .agg (Cells.enc i).toArray] G [(0, o.map (·.block), Row 61 r j)] (fun v G' Ho => DoPost i zs [(0, o.map (·.block), Row 61 r j)] v G' Ho) := by
  have hca := hob.le
  have haR := hg.at ha
  have hbR := hg.at hb
  have hA2 : (r[i.a.toNat]?.getD default).n ≤ 268435456 := Nat.le_trans (Big.len haR (hm.at _)) hm2
  have hB2 : (r[i.b.toNat]?.getD default).n ≤ 268435456 := Nat.le_trans (Big.len hbR (hm.at _)) hm2
  have hA5 := Nat.le_trans hA2 (show 268435456 ≤ 536870912 by decide)
  have hB5 := Nat.le_trans hB2 (show 268435456 ≤ 536870912 by decide)
  have hA9 := Nat.le_trans hA2 (show 268435456 ≤ 1073741824 by decide)
  refine Does.enter Try.func91 rfl Try.ntmps91 rfl (fun w => ?_)
  refine Wc.seq ?_
  refine Wc.region rfl ?_
  refine Wl.box 1 rfl rfl rfl (fun b1 => ?_)
  refine Wl.box 2 rfl rfl rfl (fun b2 => ?_)
  refine Wl.alloc 3 rfl T.zero61 (fun b3 => ?_)
  refine Wl.q rfl (Qy.assign rfl) ?_
  refine Wl.done ?_
  refine Ar.next ?_
  refine Wc.meet (ι := Nat × Nat) (fun (p, q) => ([(8, .pointer (some ⟨p, 0, none⟩)), (9, .pointer (some ⟨q, 0, none⟩)), (7, Go.Value.bool Bool.false), (6, Go.Value.pointer (Option.some (Go.Addr.mk b3 0 Option.none))), (5, Go.Value.pointer (Option.some (Go.Addr.mk b2 0 Option.none))), (3, Go.Value.pointer (Option.some (Go.Addr.mk b1 0 Option.none)))], [(60, some p, .cells (Cells.enc (r[i.a.toNat]?.getD default)).toArray 61), (61, some q, .cells (Cells.enc (r[i.b.toNat]?.getD default)).toArray 61), (3, Option.some b3, Go.Obj.cells #[Go.Value.bool Bool.false, Go.Value.slice Option.none 0 0] 61), (2, Option.some b2, Go.Obj.cells (List.toArray (Go.Sl.Cells.enc i)) 72), (1, Option.some b1, Go.Obj.cells #[Go.Value.func (Go.Fn.func 92) #[] #[], Go.Value.func (Go.Fn.func 93) #[] #[], Go.Value.func (Go.Fn.func 94) #[] #[], Go.Value.func (Go.Fn.func 95) #[] #[], Go.Value.func (Go.Fn.func 96) #[] #[]] 96), (0, Option.map (fun x => Go.Addr.block x) o, Go.Sl.Row (α := Go.Sl.IV) 61 (r) (j))])) (fun (p, q) => True) ?_ (fun ⟨p, q⟩ => fun (hk : True) => ?_)
  · refine Wc.draw [0, 1, 2, 3] [] T.mixed rfl ?_
    refine Gm.q 0 [] (by kernel_rfl) rfl rfl (Qy.move rfl) ?_
    refine Gm.q 1 [] (by kernel_rfl) rfl rfl (Qy.fieldAddr T.fa72_2 rfl) ?_
    refine Gm.q 2 [2] (by kernel_rfl) rfl rfl (Qy.load 2 T.one3 rfl rfl rfl) ?_
    refine Gm.q 3 [] (by kernel_rfl) rfl rfl (Qy.indexAddrO (α := IV) T.sl33 rfl rfl (by assumption) (by omega)) ?_
    refine Gm.q 4 [0] (by kernel_rfl) rfl rfl (Qy.loadsO 0 T.agg61 rfl rfl (by assumption) (by omega)) ?_
    refine Gm.q 5 [] (by kernel_rfl) rfl rfl (Qy.move rfl) ?_
    refine Gm.q 6 [] (by kernel_rfl) rfl rfl (Qy.fieldAddr T.fa72_3 rfl) ?_
    refine Gm.q 7 [2] (by kernel_rfl) rfl rfl (Qy.load 2 T.one3 rfl rfl rfl) ?_
    refine Gm.q 8 [] (by kernel_rfl) rfl rfl (Qy.indexAddrO (α := IV) T.sl33 rfl rfl (by assumption) (by omega)) ?_
    refine Gm.q 9 [0] (by kernel_rfl) rfl rfl (Qy.loadsO 0 T.agg61 rfl rfl (by assumption) (by omega)) ?_
    refine Gm.two 10 11 ⟨rfl, rfl, rfl, rfl, trivial⟩ (by first | exact Imm.le_refl _ | assumption | (refine Imm.le_trans ?_ (by assumption); first | assumption | (refine Imm.le_trans ?_ (by assumption); assumption))) (by kernel_rfl) rfl rfl ?_ ?_
    refine Wl.alloc 4 rfl T.zero61 (fun b4 => ?_)
    refine Wl.on0 ?_
    refine Gm.one 11 ⟨rfl, rfl, rfl, rfl, trivial⟩ (by first | exact Imm.le_refl _ | assumption | (refine Imm.le_trans ?_ (by assumption); first | assumption | (refine Imm.le_trans ?_ (by assumption); assumption))) (by kernel_rfl) rfl ?_
    refine Wl.alloc 5 rfl T.zero61 (fun b5 => ?_)
    refine Wl.on0 ?_
    refine Gm.one 12 ⟨rfl, rfl, rfl, rfl, trivial⟩ (by first | exact Imm.le_refl _ | assumption | (refine Imm.le_trans ?_ (by assumption); first | assumption | (refine Imm.le_trans ?_ (by assumption); assumption))) (by kernel_rfl) rfl ?_
    refine Wl.storeAll 4 T.size61 rfl rfl rfl rfl rfl rfl ?_
    refine Wl.on0 ?_
    refine Gm.one 13 ⟨rfl, rfl, rfl, rfl, trivial⟩ (by first | exact Imm.le_refl _ | assumption | (refine Imm.le_trans ?_ (by assumption); first | assumption | (refine Imm.le_trans ?_ (by assumption); assumption))) (by kernel_rfl) rfl ?_
    refine Wl.storeAll 5 T.size61 rfl rfl rfl rfl rfl rfl ?_
    refine Wl.on0 ?_
    refine Gm.doneA (by kernel_rfl) ⟨rfl, rfl, rfl, rfl, trivial⟩ (by first | exact Imm.le_refl _ | assumption | (refine Imm.le_trans ?_ (by assumption); first | assumption | (refine Imm.le_trans ?_ (by assumption); assumption))) ?_
    rotate_left
    refine Wl.alloc 4 rfl T.zero61 (fun b4 => ?_)
    refine Wl.on0 ?_
    refine Gm.one 10 ⟨rfl, rfl, rfl, rfl, trivial⟩ (by first | exact Imm.le_refl _ | assumption | (refine Imm.le_trans ?_ (by assumption); first | assumption | (refine Imm.le_trans ?_ (by assumption); assumption))) (by kernel_rfl) rfl ?_
    refine Wl.alloc 5 rfl T.zero61 (fun b5 => ?_)
    refine Wl.on0 ?_
    refine Gm.one 12 ⟨rfl, rfl, rfl, rfl, trivial⟩ (by first | exact Imm.le_refl _ | assumption | (refine Imm.le_trans ?_ (by assumption); first | assumption | (refine Imm.le_trans ?_ (by assumption); assumption))) (by kernel_rfl) rfl ?_
    refine Wl.storeAll 5 T.size61 rfl rfl rfl rfl rfl rfl ?_
    refine Wl.on0 ?_
    refine Gm.one 13 ⟨rfl, rfl, rfl, rfl, trivial⟩ (by first | exact Imm.le_refl _ | assumption | (refine Imm.le_trans ?_ (by assumption); first | assumption | (refine Imm.le_trans ?_ (by assumption); assumption))) (by kernel_rfl) rfl ?_
    refine Wl.storeAll 4 T.size61 rfl rfl rfl rfl rfl rfl ?_
    refine Wl.on0 ?_
    refine Gm.doneA (by kernel_rfl) ⟨rfl, rfl, rfl, rfl, trivial⟩ (by first | exact Imm.le_refl _ | assumption | (refine Imm.le_trans ?_ (by assumption); first | assumption | (refine Imm.le_trans ?_ (by assumption); assumption))) ?_
    rotate_left
    all_goals first | (refine Ar.retag 4 60 rfl rfl (Ar.retag 5 61 rfl rfl (Ar.meet (b4, b5) trivial rfl ?_ ?_)) <;> (repeat (first | exact trivial | refine ⟨rfl, ?_⟩)); done) | (refine Ar.retag 5 60 rfl rfl (Ar.retag 4 61 rfl rfl (Ar.meet (b5, b4) trivial rfl ?_ ?_)) <;> (repeat (first | exact trivial | refine ⟨rfl, ?_⟩)); done)
  by_cases h2 : i.op = 2
  · refine Wc.seq ?_
    refine Wc.seq ?_
    refine Wc.region rfl ?_
    refine Wl.q rfl (Qy.fieldAddr T.fa72_0 rfl) ?_
    refine Wl.q rfl (Qy.load 2 T.one3 rfl rfl rfl) ?_
    refine Wl.done ?_
    refine Ar.next ?_
    refine Wc.block ?_
    refine Wc.seq ?_
    refine Wc.region rfl ?_
    refine Wl.q rfl (Qy.eql rfl rfl) ?_
    refine Wl.q rfl (Qy.assign rfl) ?_
    refine Wl.done ?_
    refine Ar.next ?_
    refine Wc.condP rfl (by first | assumption | omega) ?_
    refine Wc.seq ?_
    refine Wc.region rfl ?_
    refine Wl.q rfl (Qy.fieldAddr T.fa96_0 rfl) ?_
    refine Wl.q rfl (Qy.load 1 T.one92 rfl rfl rfl) ?_
    refine Wl.q rfl (Qy.loadAll 60 T.agg61 rfl rfl rfl) ?_
    refine Wl.callV (fst := []) (cap := []) 62 rfl T.fn92 rfl rfl (c92 _ _ _ haR hA9) (tags_of trivial) (fun v1 G1 Ho1 hle1 hp => ?_)
    obtain ⟨rs, rfl, hrs, rfl, rfl⟩ := hp
    refine Wl.storeAll 3 T.size61 rfl rfl rfl rfl rfl rfl ?_
    refine Wl.q rfl (Qy.assign rfl) ?_
    refine Wl.done ?_
    refine Ar.next ?_
    refine Wc.ret ?_
    refine Ar.outRet ?_
    refine Ar.passRet ?_
    refine Ar.out2 (.inr rfl) (Ho := Hp.only _ [0]) rfl (.agg 3 rfl rfl T.agg61) (.tmp rfl) (Hp.sub_only _ _) ?_
    exact do_some (by unfold doZ; exact if_pos h2) hrs
  by_cases h3 : i.op = 3
  · refine Wc.seq ?_
    refine Wc.seq ?_
    refine Wc.region rfl ?_
    refine Wl.q rfl (Qy.fieldAddr T.fa72_0 rfl) ?_
    refine Wl.q rfl (Qy.load 2 T.one3 rfl rfl rfl) ?_
    refine Wl.done ?_
    refine Ar.next ?_
    refine Wc.block ?_
    refine Wc.seq ?_
    refine Wc.region rfl ?_
    refine Wl.q rfl (Qy.eql rfl rfl) ?_
    refine Wl.q rfl (Qy.assign rfl) ?_
    refine Wl.done ?_
    refine Ar.next ?_
    refine Wc.condN rfl (by first | assumption | omega) ?_
    refine Wc.seq ?_
    refine Wc.region rfl ?_
    refine Wl.q rfl (Qy.eql rfl rfl) ?_
    refine Wl.q rfl (Qy.assign rfl) ?_
    refine Wl.done ?_
    refine Ar.next ?_
    refine Wc.condP rfl (by first | assumption | omega) ?_
    refine Wc.seq ?_
    refine Wc.region rfl ?_
    refine Wl.q rfl (Qy.fieldAddr T.fa96_1 rfl) ?_
    refine Wl.q rfl (Qy.load 1 T.one93 rfl rfl rfl) ?_
    refine Wl.q rfl (Qy.loadAll 60 T.agg61 rfl rfl rfl) ?_
    refine Wl.q rfl (Qy.loadAll 61 T.agg61 rfl rfl rfl) ?_
    refine Wl.callV (fst := []) (cap := []) 62 rfl T.fn93 rfl rfl (c93 _ _ _ _ _ haR hbR hA5 hB5) (tags_of trivial) (fun v1 G1 Ho1 hle1 hp => ?_)
    obtain ⟨rs, rfl, hrs, rfl⟩ := hp
    replace hg := hg.up hle1
    replace haR := haR.up hle1
    replace hbR := hbR.up hle1
    refine Wl.storeAll 3 T.size61 rfl rfl rfl rfl rfl rfl ?_
    refine Wl.q rfl (Qy.assign rfl) ?_
    refine Wl.done ?_
    refine Ar.next ?_
    refine Wc.ret ?_
    refine Ar.outRet ?_
    refine Ar.passRet ?_
    refine Ar.out2 (.inr rfl) (Ho := Hp.only _ [0]) rfl (.agg 3 rfl rfl T.agg61) (.tmp rfl) (Hp.sub_only _ _) ?_
    exact do_some (by unfold doZ; simp only [h3, if_true]; rfl) hrs
  by_cases h4 : i.op = 4
  · refine Wc.seq ?_
    refine Wc.seq ?_
    refine Wc.region rfl ?_
    refine Wl.q rfl (Qy.fieldAddr T.fa72_0 rfl) ?_
    refine Wl.q rfl (Qy.load 2 T.one3 rfl rfl rfl) ?_
    refine Wl.done ?_
    refine Ar.next ?_
    refine Wc.block ?_
    refine Wc.seq ?_
    refine Wc.region rfl ?_
    refine Wl.q rfl (Qy.eql rfl rfl) ?_
    refine Wl.q rfl (Qy.assign rfl) ?_
    refine Wl.done ?_
    refine Ar.next ?_
    refine Wc.condN rfl (by first | assumption | omega) ?_
    refine Wc.seq ?_
    refine Wc.region rfl ?_
    refine Wl.q rfl (Qy.eql rfl rfl) ?_
    refine Wl.q rfl (Qy.assign rfl) ?_
    refine Wl.done ?_
    refine Ar.next ?_
    refine Wc.condN rfl (by first | assumption | omega) ?_
    refine Wc.seq ?_
    refine Wc.region rfl ?_
    refine Wl.q rfl (Qy.eql rfl rfl) ?_
    refine Wl.q rfl (Qy.assign rfl) ?_
    refine Wl.done ?_
    refine Ar.next ?_
    refine Wc.condP rfl (by first | assumption | omega) ?_
    refine Wc.seq ?_
    refine Wc.region rfl ?_
    refine Wl.q rfl (Qy.fieldAddr T.fa96_2 rfl) ?_
    refine Wl.q rfl (Qy.load 1 T.one93 rfl rfl rfl) ?_
    refine Wl.q rfl (Qy.loadAll 60 T.agg61 rfl rfl rfl) ?_
    refine Wl.q rfl (Qy.loadAll 61 T.agg61 rfl rfl rfl) ?_
    refine Wl.callV (fst := []) (cap := []) 62 rfl T.fn94 rfl rfl (c94 _ _ _ _ _ haR hbR hA5 hB5) (tags_of trivial) (fun v1 G1 Ho1 hle1 hp => ?_)
    obtain ⟨rs, rfl, hrs, rfl⟩ := hp
    replace hg := hg.up hle1
    replace haR := haR.up hle1
    replace hbR := hbR.up hle1
    refine Wl.storeAll 3 T.size61 rfl rfl rfl rfl rfl rfl ?_
    refine Wl.q rfl (Qy.assign rfl) ?_
    refine Wl.done ?_
    refine Ar.next ?_
    refine Wc.ret ?_
    refine Ar.outRet ?_
    refine Ar.passRet ?_
    refine Ar.out2 (.inr rfl) (Ho := Hp.only _ [0]) rfl (.agg 3 rfl rfl T.agg61) (.tmp rfl) (Hp.sub_only _ _) ?_
    exact do_some (by unfold doZ; simp only [h4, if_true]; rfl) hrs
  by_cases h1 : i.op = 1
  · refine Wc.seq ?_
    refine Wc.seq ?_
    refine Wc.region rfl ?_
    refine Wl.q rfl (Qy.fieldAddr T.fa72_0 rfl) ?_
    refine Wl.q rfl (Qy.load 2 T.one3 rfl rfl rfl) ?_
    refine Wl.done ?_
    refine Ar.next ?_
    refine Wc.block ?_
    refine Wc.seq ?_
    refine Wc.region rfl ?_
    refine Wl.q rfl (Qy.eql rfl rfl) ?_
    refine Wl.q rfl (Qy.assign rfl) ?_
    refine Wl.done ?_
    refine Ar.next ?_
    refine Wc.condN rfl (by first | assumption | omega) ?_
    refine Wc.seq ?_
    refine Wc.region rfl ?_
    refine Wl.q rfl (Qy.eql rfl rfl) ?_
    refine Wl.q rfl (Qy.assign rfl) ?_
    refine Wl.done ?_
    refine Ar.next ?_
    refine Wc.condN rfl (by first | assumption | omega) ?_
    refine Wc.seq ?_
    refine Wc.region rfl ?_
    refine Wl.q rfl (Qy.eql rfl rfl) ?_
    refine Wl.q rfl (Qy.assign rfl) ?_
    refine Wl.done ?_
    refine Ar.next ?_
    refine Wc.condN rfl (by first | assumption | omega) ?_
    refine Wc.seq ?_
    refine Wc.region rfl ?_
    refine Wl.q rfl (Qy.eql rfl rfl) ?_
    refine Wl.q rfl (Qy.assign rfl) ?_
    refine Wl.done ?_
    refine Ar.next ?_
    refine Wc.condN rfl (by first | assumption | omega) ?_
    refine Wc.seq ?_
    refine Wc.region rfl ?_
    refine Wl.q rfl (Qy.eql rfl rfl) ?_
    refine Wl.q rfl (Qy.assign rfl) ?_
    refine Wl.done ?_
    refine Ar.next ?_
    refine Wc.condN rfl (by first | assumption | omega) ?_
    refine Wc.seq ?_
    refine Wc.region rfl ?_
    refine Wl.q rfl (Qy.eql rfl rfl) ?_
    refine Wl.q rfl (Qy.assign rfl) ?_
    refine Wl.done ?_
    refine Ar.next ?_
    refine Wc.condN rfl (by first | assumption | omega) ?_
    refine Wc.seq ?_
    refine Wc.region rfl ?_
    refine Wl.q rfl (Qy.eql rfl rfl) ?_
    refine Wl.q rfl (Qy.assign rfl) ?_
    refine Wl.done ?_
    refine Ar.next ?_
    refine Wc.condN rfl (by first | assumption | omega) ?_
    refine Wc.skip ?_
    refine Ar.outNormal ?_
    refine Ar.next ?_
    refine Wc.seq ?_
    refine Wc.region rfl ?_
    refine Wl.q rfl (Qy.loadAll 60 T.agg61 rfl rfl rfl) ?_
    refine Wl.storeAll 3 T.size61 rfl rfl rfl rfl rfl rfl ?_
    refine Wl.q rfl (Qy.assign rfl) ?_
    refine Wl.done ?_
    refine Ar.next ?_
    refine Wc.ret ?_
    refine Ar.out2 (.inr rfl) (Ho := Hp.only _ [0]) rfl (.agg 3 rfl rfl T.agg61) (.tmp rfl) (Hp.sub_only _ _) ?_
    exact do_some (by unfold doZ; simp only [h1]; rfl) haR
  obtain ⟨hk0, hk3⟩ := hcst h1 h2 h3 h4
  by_cases h5 : i.op = 5
  · have hc9 := hc1 (.inl h5)
    have e5 : cst i = i.c := cst_c (.inl h5)
    rw [e5] at hk3
    refine Wc.seq ?_
    refine Wc.seq ?_
    refine Wc.region rfl ?_
    refine Wl.q rfl (Qy.fieldAddr T.fa72_0 rfl) ?_
    refine Wl.q rfl (Qy.load 2 T.one3 rfl rfl rfl) ?_
    refine Wl.done ?_
    refine Ar.next ?_
    refine Wc.block ?_
    refine Wc.seq ?_
    refine Wc.region rfl ?_
    refine Wl.q rfl (Qy.eql rfl rfl) ?_
    refine Wl.q rfl (Qy.assign rfl) ?_
    refine Wl.done ?_
    refine Ar.next ?_
    refine Wc.condN rfl (by first | assumption | omega) ?_
    refine Wc.seq ?_
    refine Wc.region rfl ?_
    refine Wl.q rfl (Qy.eql rfl rfl) ?_
    refine Wl.q rfl (Qy.assign rfl) ?_
    refine Wl.done ?_
    refine Ar.next ?_
    refine Wc.condN rfl (by first | assumption | omega) ?_
    refine Wc.seq ?_
    refine Wc.region rfl ?_
    refine Wl.q rfl (Qy.eql rfl rfl) ?_
    refine Wl.q rfl (Qy.assign rfl) ?_
    refine Wl.done ?_
    refine Ar.next ?_
    refine Wc.condN rfl (by first | assumption | omega) ?_
    refine Wc.seq ?_
    refine Wc.region rfl ?_
    refine Wl.q rfl (Qy.eql rfl rfl) ?_
    refine Wl.q rfl (Qy.assign rfl) ?_
    refine Wl.done ?_
    refine Ar.next ?_
    refine Wc.condP rfl (by first | assumption | omega) ?_
    refine Wc.seq ?_
    refine Wc.draw [0, 1, 2, 3, 61, 60] [(3, 7), (60, 6), (61, 6), (3, 6), (2, 6), (1, 6), (0, 6)] T.mixed rfl ?_
    refine Gm.q 0 [] (by kernel_rfl) rfl rfl (Qy.fieldAddr T.fa96_3 rfl) ?_
    refine Gm.q 1 [1] (by kernel_rfl) rfl rfl (Qy.load 1 T.one93 rfl rfl rfl) ?_
    refine Gm.q 2 [60] (by kernel_rfl) rfl rfl (Qy.loadAll 60 T.agg61 rfl rfl rfl) ?_
    refine Gm.q 3 [] (by kernel_rfl) rfl rfl (Qy.fieldAddr T.fa72_4 rfl) ?_
    refine Gm.one 4 ⟨rfl, rfl, rfl, rfl, rfl, rfl, trivial⟩ (by first | exact Imm.le_refl _ | assumption | (refine Imm.le_trans ?_ (by assumption); first | assumption | (refine Imm.le_trans ?_ (by assumption); assumption))) (by kernel_rfl) rfl ?_
    refine Wl.q rfl (Qy.load 2 T.one3 rfl rfl rfl) ?_
    refine Wl.on0 ?_
    refine Gm.one 5 ⟨rfl, rfl, rfl, rfl, rfl, rfl, trivial⟩ (by first | exact Imm.le_refl _ | assumption | (refine Imm.le_trans ?_ (by assumption); first | assumption | (refine Imm.le_trans ?_ (by assumption); assumption))) (by kernel_rfl) rfl ?_
    refine Wl.call 62 rfl T.fn51 rfl (c51 _ i.c hc9) (tags_of trivial) (fun v1 G1 Ho1 hle1 hp => ?_)
    obtain ⟨rk, rfl, hrk, rfl⟩ := hp
    replace hg := hg.up hle1
    replace haR := haR.up hle1
    replace hbR := hbR.up hle1
    refine Wl.on0 ?_
    refine Gm.one 6 ⟨rfl, rfl, rfl, rfl, rfl, rfl, trivial⟩ (by first | exact Imm.le_refl _ | assumption | (refine Imm.le_trans ?_ (by assumption); first | assumption | (refine Imm.le_trans ?_ (by assumption); assumption))) (by kernel_rfl) rfl ?_
    refine Wl.callV (fst := []) (cap := []) 62 rfl T.fn95 rfl rfl (c95 _ _ _ _ _ haR hrk hA5 (Nat.le_trans (Big.len hrk hk3) (by decide))) (tags_of trivial) (fun v2 G2 Ho2 hle2 hp => ?_)
    obtain ⟨rs, rfl, hrs, rfl⟩ := hp
    replace hrk := hrk.up hle2
    replace hg := hg.up hle2
    replace haR := haR.up hle2
    replace hbR := hbR.up hle2
    refine Wl.on0 ?_
    refine Gm.one 7 trivial (by first | exact Imm.le_refl _ | assumption | (refine Imm.le_trans ?_ (by assumption); first | assumption | (refine Imm.le_trans ?_ (by assumption); assumption))) (by kernel_rfl) rfl ?_
    refine Wl.storeAll 3 T.size61 rfl rfl rfl rfl rfl rfl ?_
    refine Wl.on0 ?_
    refine Gm.q 8 [] (by kernel_rfl) rfl rfl (Qy.assign rfl) ?_
    refine Gm.doneA (by kernel_rfl) trivial (by first | exact Imm.le_refl _ | assumption | (refine Imm.le_trans ?_ (by assumption); first | assumption | (refine Imm.le_trans ?_ (by assumption); assumption))) ?_
    refine Ar.next ?_
    refine Wc.ret ?_
    refine Ar.outRet ?_
    refine Ar.passRet ?_
    refine Ar.out2 (.inr rfl) (Ho := Hp.only _ [0]) rfl (.agg 3 rfl rfl T.agg61) (.tmp rfl) (Hp.sub_only _ _) ?_
    all_goals exact do_some (by unfold doZ; simp only [h5, if_true, true_or]; rfl) (Big.out hrs (by rw [e5]))
  by_cases h6 : i.op = 6
  · have hc9 := hc1 (.inr h6)
    have e5 : cst i = i.c := cst_c (.inr h6)
    rw [e5] at hk3 hk0
    refine Wc.seq ?_
    refine Wc.seq ?_
    refine Wc.region rfl ?_
    refine Wl.q rfl (Qy.fieldAddr T.fa72_0 rfl) ?_
    refine Wl.q rfl (Qy.load 2 T.one3 rfl rfl rfl) ?_
    refine Wl.done ?_
    refine Ar.next ?_
    refine Wc.block ?_
    refine Wc.seq ?_
    refine Wc.region rfl ?_
    refine Wl.q rfl (Qy.eql rfl rfl) ?_
    refine Wl.q rfl (Qy.assign rfl) ?_
    refine Wl.done ?_
    refine Ar.next ?_
    refine Wc.condN rfl (by first | assumption | omega) ?_
    refine Wc.seq ?_
    refine Wc.region rfl ?_
    refine Wl.q rfl (Qy.eql rfl rfl) ?_
    refine Wl.q rfl (Qy.assign rfl) ?_
    refine Wl.done ?_
    refine Ar.next ?_
    refine Wc.condN rfl (by first | assumption | omega) ?_
    refine Wc.seq ?_
    refine Wc.region rfl ?_
    refine Wl.q rfl (Qy.eql rfl rfl) ?_
    refine Wl.q rfl (Qy.assign rfl) ?_
    refine Wl.done ?_
    refine Ar.next ?_
    refine Wc.condN rfl (by first | assumption | omega) ?_
    refine Wc.seq ?_
    refine Wc.region rfl ?_
    refine Wl.q rfl (Qy.eql rfl rfl) ?_
    refine Wl.q rfl (Qy.assign rfl) ?_
    refine Wl.done ?_
    refine Ar.next ?_
    refine Wc.condN rfl (by first | assumption | omega) ?_
    refine Wc.seq ?_
    refine Wc.region rfl ?_
    refine Wl.q rfl (Qy.eql rfl rfl) ?_
    refine Wl.q rfl (Qy.assign rfl) ?_
    refine Wl.done ?_
    refine Ar.next ?_
    refine Wc.condN rfl (by first | assumption | omega) ?_
    refine Wc.seq ?_
    refine Wc.region rfl ?_
    refine Wl.q rfl (Qy.eql rfl rfl) ?_
    refine Wl.q rfl (Qy.assign rfl) ?_
    refine Wl.done ?_
    refine Ar.next ?_
    refine Wc.condP rfl (by first | assumption | omega) ?_
    refine Wc.seq ?_
    refine Wc.draw [0, 1, 2, 3, 61, 60] [(3, 9), (60, 6), (61, 6), (3, 6), (2, 6), (1, 6), (0, 6)] T.mixed rfl ?_
    refine Gm.q 0 [] (by kernel_rfl) rfl rfl (Qy.fieldAddr T.fa96_4 rfl) ?_
    refine Gm.q 1 [1] (by kernel_rfl) rfl rfl (Qy.load 1 T.one94 rfl rfl rfl) ?_
    refine Gm.q 2 [60] (by kernel_rfl) rfl rfl (Qy.loadAll 60 T.agg61 rfl rfl rfl) ?_
    refine Gm.q 3 [] (by kernel_rfl) rfl rfl (Qy.fieldAddr T.fa72_4 rfl) ?_
    refine Gm.one 4 ⟨rfl, rfl, rfl, rfl, rfl, rfl, trivial⟩ (by first | exact Imm.le_refl _ | assumption | (refine Imm.le_trans ?_ (by assumption); first | assumption | (refine Imm.le_trans ?_ (by assumption); assumption))) (by kernel_rfl) rfl ?_
    refine Wl.q rfl (Qy.load 2 T.one3 rfl rfl rfl) ?_
    refine Wl.on0 ?_
    refine Gm.one 5 ⟨rfl, rfl, rfl, rfl, rfl, rfl, trivial⟩ (by first | exact Imm.le_refl _ | assumption | (refine Imm.le_trans ?_ (by assumption); first | assumption | (refine Imm.le_trans ?_ (by assumption); assumption))) (by kernel_rfl) rfl ?_
    refine Wl.call 62 rfl T.fn51 rfl (c51 _ i.c hc9) (tags_of trivial) (fun v1 G1 Ho1 hle1 hp => ?_)
    obtain ⟨rk, rfl, hrk, rfl⟩ := hp
    replace hg := hg.up hle1
    replace haR := haR.up hle1
    replace hbR := hbR.up hle1
    refine Wl.on0 ?_
    refine Gm.one 6 ⟨rfl, rfl, rfl, rfl, rfl, rfl, trivial⟩ (by first | exact Imm.le_refl _ | assumption | (refine Imm.le_trans ?_ (by assumption); first | assumption | (refine Imm.le_trans ?_ (by assumption); assumption))) (by kernel_rfl) rfl ?_
    refine Wl.callV (fst := []) (cap := []) 62 rfl T.fn96 rfl rfl (c96 _ _ _ _ _ haR hrk hA2 (Nat.le_trans (Big.len hrk hk3) (by decide)) hk0) (tags_of trivial) (fun v2 G2 Ho2 hle2 hp => ?_)
    obtain ⟨rs, rfl, hrs, rfl⟩ := hp
    replace hrk := hrk.up hle2
    replace hg := hg.up hle2
    replace haR := haR.up hle2
    replace hbR := hbR.up hle2
    refine Wl.on0 ?_
    refine Gm.q 7 [] (by kernel_rfl) rfl rfl (Qy.extract rfl rfl) ?_
    refine Gm.q 8 [] (by kernel_rfl) rfl rfl (Qy.extract rfl rfl) ?_
    refine Gm.one 9 trivial (by first | exact Imm.le_refl _ | assumption | (refine Imm.le_trans ?_ (by assumption); first | assumption | (refine Imm.le_trans ?_ (by assumption); assumption))) (by kernel_rfl) rfl ?_
    refine Wl.storeAll 3 T.size61 rfl rfl rfl rfl rfl rfl ?_
    refine Wl.on0 ?_
    refine Gm.q 10 [] (by kernel_rfl) rfl rfl (Qy.assign rfl) ?_
    refine Gm.doneA (by kernel_rfl) trivial (by first | exact Imm.le_refl _ | assumption | (refine Imm.le_trans ?_ (by assumption); first | assumption | (refine Imm.le_trans ?_ (by assumption); assumption))) ?_
    refine Ar.next ?_
    refine Wc.ret ?_
    refine Ar.outRet ?_
    refine Ar.passRet ?_
    refine Ar.out2 (.inr rfl) (Ho := Hp.only _ [0]) rfl (.agg 3 rfl rfl T.agg61) (.tmp rfl) (Hp.sub_only _ _) ?_
    all_goals exact do_over (by unfold doZ; simp only [h6, if_true, true_or]; rw [e5]; rfl) hrs
  have hc64 := hc2 (fun h => h.elim h5 h6)
  have e5 : cst i = p2 i.c.toNat := cst_p (fun h => h.elim h5 h6)
  rw [e5] at hk3 hk0
  by_cases h7 : i.op = 7
  · refine Wc.seq ?_
    refine Wc.seq ?_
    refine Wc.region rfl ?_
    refine Wl.q rfl (Qy.fieldAddr T.fa72_0 rfl) ?_
    refine Wl.q rfl (Qy.load 2 T.one3 rfl rfl rfl) ?_
    refine Wl.done ?_
    refine Ar.next ?_
    refine Wc.block ?_
    refine Wc.seq ?_
    refine Wc.region rfl ?_
    refine Wl.q rfl (Qy.eql rfl rfl) ?_
    refine Wl.q rfl (Qy.assign rfl) ?_
    refine Wl.done ?_
    refine Ar.next ?_
    refine Wc.condN rfl (by first | assumption | omega) ?_
    refine Wc.seq ?_
    refine Wc.region rfl ?_
    refine Wl.q rfl (Qy.eql rfl rfl) ?_
    refine Wl.q rfl (Qy.assign rfl) ?_
    refine Wl.done ?_
    refine Ar.next ?_
    refine Wc.condN rfl (by first | assumption | omega) ?_
    refine Wc.seq ?_
    refine Wc.region rfl ?_
    refine Wl.q rfl (Qy.eql rfl rfl) ?_
    refine Wl.q rfl (Qy.assign rfl) ?_
    refine Wl.done ?_
    refine Ar.next ?_
    refine Wc.condN rfl (by first | assumption | omega) ?_
    refine Wc.seq ?_
    refine Wc.region rfl ?_
    refine Wl.q rfl (Qy.eql rfl rfl) ?_
    refine Wl.q rfl (Qy.assign rfl) ?_
    refine Wl.done ?_
    refine Ar.next ?_
    refine Wc.condN rfl (by first | assumption | omega) ?_
    refine Wc.seq ?_
    refine Wc.region rfl ?_
    refine Wl.q rfl (Qy.eql rfl rfl) ?_
    refine Wl.q rfl (Qy.assign rfl) ?_
    refine Wl.done ?_
    refine Ar.next ?_
    refine Wc.condP rfl (by first | assumption | omega) ?_
    refine Wc.seq ?_
    refine Wc.draw [0, 1, 2, 3, 61, 60] [(3, 7), (60, 6), (61, 6), (3, 6), (2, 6), (1, 6), (0, 6)] T.mixed rfl ?_
    refine Gm.q 0 [] (by kernel_rfl) rfl rfl (Qy.fieldAddr T.fa96_3 rfl) ?_
    refine Gm.q 1 [1] (by kernel_rfl) rfl rfl (Qy.load 1 T.one93 rfl rfl rfl) ?_
    refine Gm.q 2 [60] (by kernel_rfl) rfl rfl (Qy.loadAll 60 T.agg61 rfl rfl rfl) ?_
    refine Gm.q 3 [] (by kernel_rfl) rfl rfl (Qy.fieldAddr T.fa72_4 rfl) ?_
    refine Gm.one 4 ⟨rfl, rfl, rfl, rfl, rfl, rfl, trivial⟩ (by first | exact Imm.le_refl _ | assumption | (refine Imm.le_trans ?_ (by assumption); first | assumption | (refine Imm.le_trans ?_ (by assumption); assumption))) (by kernel_rfl) rfl ?_
    refine Wl.q rfl (Qy.load 2 T.one3 rfl rfl rfl) ?_
    refine Wl.on0 ?_
    refine Gm.one 5 ⟨rfl, rfl, rfl, rfl, rfl, rfl, trivial⟩ (by first | exact Imm.le_refl _ | assumption | (refine Imm.le_trans ?_ (by assumption); first | assumption | (refine Imm.le_trans ?_ (by assumption); assumption))) (by kernel_rfl) rfl ?_
    refine Wl.call 62 rfl T.fn132 rfl (c132i _ i.c hc64) (tags_of trivial) (fun v1 G1 Ho1 hle1 hp => ?_)
    obtain ⟨rk, rfl, hrk, rfl⟩ := hp
    replace hg := hg.up hle1
    replace haR := haR.up hle1
    replace hbR := hbR.up hle1
    refine Wl.on0 ?_
    refine Gm.one 6 ⟨rfl, rfl, rfl, rfl, rfl, rfl, trivial⟩ (by first | exact Imm.le_refl _ | assumption | (refine Imm.le_trans ?_ (by assumption); first | assumption | (refine Imm.le_trans ?_ (by assumption); assumption))) (by kernel_rfl) rfl ?_
    refine Wl.callV (fst := []) (cap := []) 62 rfl T.fn95 rfl rfl (c95 _ _ _ _ _ haR hrk hA5 (Nat.le_trans (Big.len hrk hk3) (by decide))) (tags_of trivial) (fun v2 G2 Ho2 hle2 hp => ?_)
    obtain ⟨rs, rfl, hrs, rfl⟩ := hp
    replace hrk := hrk.up hle2
    replace hg := hg.up hle2
    replace haR := haR.up hle2
    replace hbR := hbR.up hle2
    refine Wl.on0 ?_
    refine Gm.one 7 trivial (by first | exact Imm.le_refl _ | assumption | (refine Imm.le_trans ?_ (by assumption); first | assumption | (refine Imm.le_trans ?_ (by assumption); assumption))) (by kernel_rfl) rfl ?_
    refine Wl.storeAll 3 T.size61 rfl rfl rfl rfl rfl rfl ?_
    refine Wl.on0 ?_
    refine Gm.q 8 [] (by kernel_rfl) rfl rfl (Qy.assign rfl) ?_
    refine Gm.doneA (by kernel_rfl) trivial (by first | exact Imm.le_refl _ | assumption | (refine Imm.le_trans ?_ (by assumption); first | assumption | (refine Imm.le_trans ?_ (by assumption); assumption))) ?_
    refine Ar.next ?_
    refine Wc.ret ?_
    refine Ar.outRet ?_
    refine Ar.passRet ?_
    refine Ar.out2 (.inr rfl) (Ho := Hp.only _ [0]) rfl (.agg 3 rfl rfl T.agg61) (.tmp rfl) (Hp.sub_only _ _) ?_
    all_goals exact do_some (by unfold doZ; simp only [h7, if_true, or_true]; rfl) (Big.out hrs (by rw [e5]))
  · have h8 : i.op = 8 := by omega
    refine Wc.seq ?_
    refine Wc.seq ?_
    refine Wc.region rfl ?_
    refine Wl.q rfl (Qy.fieldAddr T.fa72_0 rfl) ?_
    refine Wl.q rfl (Qy.load 2 T.one3 rfl rfl rfl) ?_
    refine Wl.done ?_
    refine Ar.next ?_
    refine Wc.block ?_
    refine Wc.seq ?_
    refine Wc.region rfl ?_
    refine Wl.q rfl (Qy.eql rfl rfl) ?_
    refine Wl.q rfl (Qy.assign rfl) ?_
    refine Wl.done ?_
    refine Ar.next ?_
    refine Wc.condN rfl (by first | assumption | omega) ?_
    refine Wc.seq ?_
    refine Wc.region rfl ?_
    refine Wl.q rfl (Qy.eql rfl rfl) ?_
    refine Wl.q rfl (Qy.assign rfl) ?_
    refine Wl.done ?_
    refine Ar.next ?_
    refine Wc.condN rfl (by first | assumption | omega) ?_
    refine Wc.seq ?_
    refine Wc.region rfl ?_
    refine Wl.q rfl (Qy.eql rfl rfl) ?_
    refine Wl.q rfl (Qy.assign rfl) ?_
    refine Wl.done ?_
    refine Ar.next ?_
    refine Wc.condN rfl (by first | assumption | omega) ?_
    refine Wc.seq ?_
    refine Wc.region rfl ?_
    refine Wl.q rfl (Qy.eql rfl rfl) ?_
    refine Wl.q rfl (Qy.assign rfl) ?_
    refine Wl.done ?_
    refine Ar.next ?_
    refine Wc.condN rfl (by first | assumption | omega) ?_
    refine Wc.seq ?_
    refine Wc.region rfl ?_
    refine Wl.q rfl (Qy.eql rfl rfl) ?_
    refine Wl.q rfl (Qy.assign rfl) ?_
    refine Wl.done ?_
    refine Ar.next ?_
    refine Wc.condN rfl (by first | assumption | omega) ?_
    refine Wc.seq ?_
    refine Wc.region rfl ?_
    refine Wl.q rfl (Qy.eql rfl rfl) ?_
    refine Wl.q rfl (Qy.assign rfl) ?_
    refine Wl.done ?_
    refine Ar.next ?_
    refine Wc.condN rfl (by first | assumption | omega) ?_
    refine Wc.seq ?_
    refine Wc.region rfl ?_
    refine Wl.q rfl (Qy.eql rfl rfl) ?_
    refine Wl.q rfl (Qy.assign rfl) ?_
    refine Wl.done ?_
    refine Ar.next ?_
    refine Wc.condP rfl (by first | assumption | omega) ?_
    refine Wc.seq ?_
    refine Wc.draw [0, 1, 2, 3, 61, 60] [(3, 9), (60, 6), (61, 6), (3, 6), (2, 6), (1, 6), (0, 6)] T.mixed rfl ?_
    refine Gm.q 0 [] (by kernel_rfl) rfl rfl (Qy.fieldAddr T.fa96_4 rfl) ?_
    refine Gm.q 1 [1] (by kernel_rfl) rfl rfl (Qy.load 1 T.one94 rfl rfl rfl) ?_
    refine Gm.q 2 [60] (by kernel_rfl) rfl rfl (Qy.loadAll 60 T.agg61 rfl rfl rfl) ?_
    refine Gm.q 3 [] (by kernel_rfl) rfl rfl (Qy.fieldAddr T.fa72_4 rfl) ?_
    refine Gm.one 4 ⟨rfl, rfl, rfl, rfl, rfl, rfl, trivial⟩ (by first | exact Imm.le_refl _ | assumption | (refine Imm.le_trans ?_ (by assumption); first | assumption | (refine Imm.le_trans ?_ (by assumption); assumption))) (by kernel_rfl) rfl ?_
    refine Wl.q rfl (Qy.load 2 T.one3 rfl rfl rfl) ?_
    refine Wl.on0 ?_
    refine Gm.one 5 ⟨rfl, rfl, rfl, rfl, rfl, rfl, trivial⟩ (by first | exact Imm.le_refl _ | assumption | (refine Imm.le_trans ?_ (by assumption); first | assumption | (refine Imm.le_trans ?_ (by assumption); assumption))) (by kernel_rfl) rfl ?_
    refine Wl.call 62 rfl T.fn132 rfl (c132i _ i.c hc64) (tags_of trivial) (fun v1 G1 Ho1 hle1 hp => ?_)
    obtain ⟨rk, rfl, hrk, rfl⟩ := hp
    replace hg := hg.up hle1
    replace haR := haR.up hle1
    replace hbR := hbR.up hle1
    refine Wl.on0 ?_
    refine Gm.one 6 ⟨rfl, rfl, rfl, rfl, rfl, rfl, trivial⟩ (by first | exact Imm.le_refl _ | assumption | (refine Imm.le_trans ?_ (by assumption); first | assumption | (refine Imm.le_trans ?_ (by assumption); assumption))) (by kernel_rfl) rfl ?_
    refine Wl.callV (fst := []) (cap := []) 62 rfl T.fn96 rfl rfl (c96 _ _ _ _ _ haR hrk hA2 (Nat.le_trans (Big.len hrk hk3) (by decide)) hk0) (tags_of trivial) (fun v2 G2 Ho2 hle2 hp => ?_)
    obtain ⟨rs, rfl, hrs, rfl⟩ := hp
    replace hrk := hrk.up hle2
    replace hg := hg.up hle2
    replace haR := haR.up hle2
    replace hbR := hbR.up hle2
    refine Wl.on0 ?_
    refine Gm.q 7 [] (by kernel_rfl) rfl rfl (Qy.extract rfl rfl) ?_
    refine Gm.q 8 [] (by kernel_rfl) rfl rfl (Qy.extract rfl rfl) ?_
    refine Gm.one 9 trivial (by first | exact Imm.le_refl _ | assumption | (refine Imm.le_trans ?_ (by assumption); first | assumption | (refine Imm.le_trans ?_ (by assumption); assumption))) (by kernel_rfl) rfl ?_
    refine Wl.storeAll 3 T.size61 rfl rfl rfl rfl rfl rfl ?_
    refine Wl.on0 ?_
    refine Gm.q 10 [] (by kernel_rfl) rfl rfl (Qy.assign rfl) ?_
    refine Gm.doneA (by kernel_rfl) trivial (by first | exact Imm.le_refl _ | assumption | (refine Imm.le_trans ?_ (by assumption); first | assumption | (refine Imm.le_trans ?_ (by assumption); assumption))) ?_
    refine Ar.next ?_
    refine Wc.ret ?_
    refine Ar.outRet ?_
    refine Ar.passRet ?_
    refine Ar.out2 (.inr rfl) (Ho := Hp.only _ [0]) rfl (.agg 3 rfl rfl T.agg61) (.tmp rfl) (Hp.sub_only _ _) ?_
    all_goals exact do_over (by unfold doZ; simp only [h8, if_true, or_true]; rw [e5]; rfl) hrs
end Go.Proofs.Ytbppmiimeccclaa
namespace Go.Proofs.Ytbppmiimeccclaa
open Go Go.Sl
set_option maxRecDepth 100000
instance : DecidableEq PV := fun a b => by
  cases a; cases b; simp only [PV.mk.injEq]; infer_instance
theorem take_eq_step {α : Type} [Inhabited α] {l m : List α} {k : Nat} (hl : k < l.length) (hm : k < m.length) (h : l.take k = m.take k)
    (he : l[((k : Nat) : Int).toNat]?.getD default = m[((k : Nat) : Int).toNat]?.getD default) : l.take (k + 1) = m.take (k + 1) := by
  rw [Int.toNat_natCast, List.getElem?_eq_getElem hl, List.getElem?_eq_getElem hm] at he
  rw [List.take_add_one, List.take_add_one, h, List.getElem?_eq_getElem hl, List.getElem?_eq_getElem hm]
  simp only [Option.getD_some] at he
  rw [he]
theorem c39 (G : Imm) (p q : PV) (ac ao bc bo : Option Addr) (cc co dc do_ : Nat) (hc : Arr G ac p.code) (ho : Arr G ao p.outs) (hc' : Arr G bc q.code) (ho' : Arr G bo q.outs) (h1 : p.code.length ≤ 1099511627776) (h2 : p.outs.length ≤ 1099511627776) :
    Does Try.prog 39 [.agg #[.int .i64 p.ins, .int .i64 p.regs, .slice ac p.code.length cc, .slice ao p.outs.length co], .agg #[.int .i64 q.ins, .int .i64 q.regs, .slice bc q.code.length dc, .slice bo q.outs.length do_]] G []
      (fun v G' Ho => v = .bool (decide (p = q)) ∧ G' = G ∧ Ho = []) := by
  refine Does.enter Try.func39 rfl Try.ntmps39 rfl (fun w => ?_)
  refine Wc.seq ?_
  refine Wc.region rfl ?_
  refine Wl.box 0 rfl rfl rfl (fun b1 => ?_)
  refine Wl.box 1 rfl rfl rfl (fun b2 => ?_)
  refine Wl.q rfl (Qy.assign rfl) ?_
  refine Wl.done ?_
  refine Ar.next ?_
  refine Wc.seq ?_
  refine Wc.seq ?_
  refine Wc.region rfl ?_
  refine Wl.q rfl (Qy.fieldAddr T.fa25_0 rfl) ?_
  refine Wl.q rfl (Qy.load 0 T.one3 rfl rfl rfl) ?_
  refine Wl.q rfl (Qy.fieldAddr T.fa25_0 rfl) ?_
  refine Wl.q rfl (Qy.load 1 T.one3 rfl rfl rfl) ?_
  refine Wl.q rfl (Qy.neq rfl rfl) ?_
  refine Wl.q rfl (Qy.move rfl) ?_
  apply Wl.joinOr 6 12 18 rfl
  intro hg1
  refine Wl.want rfl rfl ?_
  refine Wl.q rfl (Qy.fieldAddr T.fa25_1 rfl) ?_
  refine Wl.want rfl rfl ?_
  refine Wl.q rfl (Qy.load 0 T.one3 rfl rfl rfl) ?_
  refine Wl.want rfl rfl ?_
  refine Wl.q rfl (Qy.fieldAddr T.fa25_1 rfl) ?_
  refine Wl.want rfl rfl ?_
  refine Wl.q rfl (Qy.load 1 T.one3 rfl rfl rfl) ?_
  refine Wl.want rfl rfl ?_
  refine Wl.q rfl (Qy.neq rfl rfl) ?_
  refine Wl.q rfl (Qy.pick rfl rfl) ?_
  exact Wl.back 6 0 rfl rfl rfl rfl rfl
  intro hg1
  refine Wl.pass rfl rfl rfl ?_
  refine Wl.pass rfl rfl rfl ?_
  refine Wl.pass rfl rfl rfl ?_
  refine Wl.pass rfl rfl rfl ?_
  refine Wl.pass rfl rfl rfl ?_
  refine Wl.q rfl (Qy.pick rfl rfl) ?_
  exact Wl.back 6 0 rfl rfl rfl rfl rfl
  refine Wl.q rfl (Qy.move rfl) ?_
  apply Wl.joinOr 8 19 27 rfl
  intro hg1
  refine Wl.want rfl rfl ?_
  refine Wl.q rfl (Qy.fieldAddr T.fa25_2 rfl) ?_
  refine Wl.want rfl rfl ?_
  refine Wl.q rfl (Qy.load 0 T.one22 rfl rfl rfl) ?_
  refine Wl.want rfl rfl ?_
  refine Wl.q rfl (Qy.len T.sl22 rfl) ?_
  refine Wl.want rfl rfl ?_
  refine Wl.q rfl (Qy.fieldAddr T.fa25_2 rfl) ?_
  refine Wl.want rfl rfl ?_
  refine Wl.q rfl (Qy.load 1 T.one22 rfl rfl rfl) ?_
  refine Wl.want rfl rfl ?_
  refine Wl.q rfl (Qy.len T.sl22 rfl) ?_
  refine Wl.want rfl rfl ?_
  refine Wl.q rfl (Qy.neq rfl rfl) ?_
  refine Wl.q rfl (Qy.pick rfl rfl) ?_
  exact Wl.back 8 0 rfl rfl rfl rfl rfl
  intro hg1
  refine Wl.pass rfl rfl rfl ?_
  refine Wl.pass rfl rfl rfl ?_
  refine Wl.pass rfl rfl rfl ?_
  refine Wl.pass rfl rfl rfl ?_
  refine Wl.pass rfl rfl rfl ?_
  refine Wl.pass rfl rfl rfl ?_
  refine Wl.pass rfl rfl rfl ?_
  refine Wl.q rfl (Qy.pick rfl rfl) ?_
  exact Wl.back 8 0 rfl rfl rfl rfl rfl
  refine Wl.q rfl (Qy.move rfl) ?_
  apply Wl.joinOr 8 28 36 rfl
  intro hg1
  refine Wl.want rfl rfl ?_
  refine Wl.q rfl (Qy.fieldAddr T.fa25_3 rfl) ?_
  refine Wl.want rfl rfl ?_
  refine Wl.q rfl (Qy.load 0 T.one23 rfl rfl rfl) ?_
  refine Wl.want rfl rfl ?_
  refine Wl.q rfl (Qy.len T.sl23 rfl) ?_
  refine Wl.want rfl rfl ?_
  refine Wl.q rfl (Qy.fieldAddr T.fa25_3 rfl) ?_
  refine Wl.want rfl rfl ?_
  refine Wl.q rfl (Qy.load 1 T.one23 rfl rfl rfl) ?_
  refine Wl.want rfl rfl ?_
  refine Wl.q rfl (Qy.len T.sl23 rfl) ?_
  refine Wl.want rfl rfl ?_
  refine Wl.q rfl (Qy.neq rfl rfl) ?_
  refine Wl.q rfl (Qy.pick rfl rfl) ?_
  exact Wl.back 8 0 rfl rfl rfl rfl rfl
  intro hg1
  refine Wl.pass rfl rfl rfl ?_
  refine Wl.pass rfl rfl rfl ?_
  refine Wl.pass rfl rfl rfl ?_
  refine Wl.pass rfl rfl rfl ?_
  refine Wl.pass rfl rfl rfl ?_
  refine Wl.pass rfl rfl rfl ?_
  refine Wl.pass rfl rfl rfl ?_
  refine Wl.q rfl (Qy.pick rfl rfl) ?_
  exact Wl.back 8 0 rfl rfl rfl rfl rfl
  refine Wl.done ?_
  refine Ar.next ?_
  refine Wc.cond rfl (fun hc1 => ?_) (fun hc1 => ?_)
  refine Wc.seq ?_
  refine Wc.region rfl ?_
  refine Wl.q rfl (Qy.assign rfl) ?_
  refine Wl.done ?_
  refine Ar.next ?_
  refine Wc.ret ?_
  refine Ar.passRet ?_
  refine Ar.out1 (.inr rfl) (Ho := Hp.only _ []) rfl (.tmp rfl) (Hp.sub_only _ _) ?_
  rotate_left
  refine Wc.skip ?_
  refine Ar.next ?_
  refine Wc.seq ?_
  refine Wc.seq ?_
  refine Wc.region rfl ?_
  refine Wl.q rfl (Qy.assign rfl) ?_
  refine Wl.done ?_
  refine Ar.next ?_
  refine Wc.block ?_
  rotate_left
  · refine ⟨?_, rfl, rfl⟩
    have : p ≠ q := by rintro rfl; omega
    simp [this]
  · simp only [not_or, ne_eq, Decidable.not_not] at hc1
    obtain ⟨⟨⟨e1, e2⟩, e3⟩, e4⟩ := hc1
    refine Wc.loop (ι := Nat) (fun k => ([(5, .int .i64 (k : Int)), (3, Go.Value.pointer (Option.some (Go.Addr.mk b2 0 Option.none))), (2, Go.Value.pointer (Option.some (Go.Addr.mk b1 0 Option.none)))], [(1, Option.some b2, Go.Obj.cells #[Go.Value.int Go.IntKind.i64 (Go.Proofs.Ytbppmiimeccclaa.PV.ins q), Go.Value.int Go.IntKind.i64 (Go.Proofs.Ytbppmiimeccclaa.PV.regs q), Go.Value.slice bc (List.length (Go.Proofs.Ytbppmiimeccclaa.PV.code q)) dc, Go.Value.slice bo (List.length (Go.Proofs.Ytbppmiimeccclaa.PV.outs q)) do_] 25), (0, Option.some b1, Go.Obj.cells #[Go.Value.int Go.IntKind.i64 (Go.Proofs.Ytbppmiimeccclaa.PV.ins p), Go.Value.int Go.IntKind.i64 (Go.Proofs.Ytbppmiimeccclaa.PV.regs p), Go.Value.slice ac (List.length (Go.Proofs.Ytbppmiimeccclaa.PV.code p)) cc, Go.Value.slice ao (List.length (Go.Proofs.Ytbppmiimeccclaa.PV.outs p)) co] 25)])) (fun k => k ≤ p.code.length ∧ p.code.take k = q.code.take k) (fun k => p.code.length - k) (0) (⟨Nat.zero_le _, rfl⟩) ⟨rfl, rfl, rfl, trivial⟩ ⟨rfl, rfl, trivial⟩ (fun k => fun (hk : k ≤ p.code.length ∧ p.code.take k = q.code.take k) => ?_)
    obtain ⟨hk1, hk2⟩ := hk
    refine Wc.seq ?_
    refine Wc.seq ?_
    refine Wc.region rfl ?_
    refine Wl.q rfl (Qy.move rfl) ?_
    refine Wl.q rfl (Qy.fieldAddr T.fa25_2 rfl) ?_
    refine Wl.q rfl (Qy.load 0 T.one22 rfl rfl rfl) ?_
    refine Wl.q rfl (Qy.len T.sl22 rfl) ?_
    refine Wl.q rfl (Qy.lss rfl rfl) ?_
    refine Wl.done ?_
    refine Ar.next ?_
    refine Wc.cond rfl (fun hc1 => ?_) (fun hc1 => ?_)
    refine Wc.skip ?_
    refine Ar.next ?_
    refine Wc.seq ?_
    refine Wc.block ?_
    refine Wc.seq ?_
    refine Wc.draw [0, 1] [] T.mixed rfl ?_
    refine Gm.q 0 [] (by kernel_rfl) rfl rfl (Qy.fieldAddr T.fa25_2 rfl) ?_
    refine Gm.q 1 [0] (by kernel_rfl) rfl rfl (Qy.load 0 T.one22 rfl rfl rfl) ?_
    refine Gm.q 2 [] (by kernel_rfl) rfl rfl (Qy.move rfl) ?_
    refine Gm.q 3 [] (by kernel_rfl) rfl rfl (Qy.at (α := Instr) T.sl22 rfl rfl (by assumption) (by omega)) ?_
    refine Gm.q 4 [] (by kernel_rfl) rfl rfl (Qy.loadsG T.agg72 rfl (Arr.elem (by assumption) (by omega)) rfl) ?_
    refine Gm.q 5 [] (by kernel_rfl) rfl rfl (Qy.fieldAddr T.fa25_2 rfl) ?_
    refine Gm.q 6 [1] (by kernel_rfl) rfl rfl (Qy.load 1 T.one22 rfl rfl rfl) ?_
    refine Gm.q 7 [] (by kernel_rfl) rfl rfl (Qy.move rfl) ?_
    refine Gm.q 8 [] (by kernel_rfl) rfl rfl (Qy.at (α := Instr) T.sl22 rfl rfl (by assumption) (by omega)) ?_
    refine Gm.q 9 [] (by kernel_rfl) rfl rfl (Qy.loadsG T.agg72 rfl (Arr.elem (by assumption) (by omega)) rfl) ?_
    refine Gm.q 10 [] (by kernel_rfl) rfl rfl (Qy.neqInstr T.ai72 rfl rfl) ?_
    refine Gm.doneA (by kernel_rfl) ⟨rfl, rfl, trivial⟩ (by first | exact Imm.le_refl _ | assumption | (refine Imm.le_trans ?_ (by assumption); first | assumption | (refine Imm.le_trans ?_ (by assumption); assumption))) ?_
    refine Ar.next ?_
    refine Wc.cond rfl (fun hc2 => ?_) (fun hc2 => ?_)
    refine Wc.seq ?_
    refine Wc.region rfl ?_
    refine Wl.q rfl (Qy.assign rfl) ?_
    refine Wl.done ?_
    refine Ar.next ?_
    refine Wc.ret ?_
    refine Ar.outRet ?_
    refine Ar.passRet ?_
    refine Ar.passRet ?_
    refine Ar.outRet ?_
    refine Ar.passRet ?_
    refine Ar.out1 (.inr rfl) (Ho := Hp.only _ []) rfl (.tmp rfl) (Hp.sub_only _ _) ?_
    rotate_left
    refine Wc.skip ?_
    refine Ar.outNormal ?_
    refine Ar.next ?_
    refine Wc.region rfl ?_
    refine Wl.q rfl (Qy.move rfl) ?_
    refine Wl.q rfl (Qy.add rfl rfl (by omega)) ?_
    refine Wl.q rfl (Qy.assign rfl) ?_
    refine Wl.done ?_
    rotate_left
    refine Wc.exit ?_
    refine Ar.passExit ?_
    refine Ar.passExit ?_
    refine Ar.here ?_
    refine Ar.next ?_
    refine Wc.seq ?_
    refine Wc.seq ?_
    refine Wc.region rfl ?_
    refine Wl.q rfl (Qy.assign rfl) ?_
    refine Wl.done ?_
    refine Ar.next ?_
    refine Wc.block ?_
    rotate_left
    · refine ⟨?_, rfl, rfl⟩
      have : p ≠ q := by rintro rfl; exact hc2 rfl
      simp [this]
    · refine Ar.again (k + 1) ?_ ?_ rfl ⟨rfl, rfl, rfl, trivial⟩ ⟨rfl, rfl, trivial⟩
      · exact ⟨by omega, take_eq_step (by omega) (by omega) hk2 (Decidable.not_not.1 hc2)⟩
      · omega
    · have hcode : p.code = q.code := by
        have : k = p.code.length := by omega
        subst this
        rw [List.take_length, List.take_of_length_le (by omega)] at hk2
        exact hk2
      clear hk1 hk2 hc1
      refine Wc.loop (ι := Nat) (fun k => ([(6, .int .i64 (k : Int)), (3, Go.Value.pointer (Option.some (Go.Addr.mk b2 0 Option.none))), (2, Go.Value.pointer (Option.some (Go.Addr.mk b1 0 Option.none)))], [(1, Option.some b2, Go.Obj.cells #[Go.Value.int Go.IntKind.i64 (Go.Proofs.Ytbppmiimeccclaa.PV.ins q), Go.Value.int Go.IntKind.i64 (Go.Proofs.Ytbppmiimeccclaa.PV.regs q), Go.Value.slice bc (List.length (Go.Proofs.Ytbppmiimeccclaa.PV.code q)) dc, Go.Value.slice bo (List.length (Go.Proofs.Ytbppmiimeccclaa.PV.outs q)) do_] 25), (0, Option.some b1, Go.Obj.cells #[Go.Value.int Go.IntKind.i64 (Go.Proofs.Ytbppmiimeccclaa.PV.ins p), Go.Value.int Go.IntKind.i64 (Go.Proofs.Ytbppmiimeccclaa.PV.regs p), Go.Value.slice ac (List.length (Go.Proofs.Ytbppmiimeccclaa.PV.code p)) cc, Go.Value.slice ao (List.length (Go.Proofs.Ytbppmiimeccclaa.PV.outs p)) co] 25)])) (fun k => k ≤ p.outs.length ∧ p.outs.take k = q.outs.take k) (fun k => p.outs.length - k) (0) (⟨Nat.zero_le _, rfl⟩) ⟨rfl, rfl, rfl, trivial⟩ ⟨rfl, rfl, trivial⟩ (fun k => fun (hk : k ≤ p.outs.length ∧ p.outs.take k = q.outs.take k) => ?_)
      obtain ⟨hk1, hk2⟩ := hk
      refine Wc.seq ?_
      refine Wc.seq ?_
      refine Wc.region rfl ?_
      refine Wl.q rfl (Qy.move rfl) ?_
      refine Wl.q rfl (Qy.fieldAddr T.fa25_3 rfl) ?_
      refine Wl.q rfl (Qy.load 0 T.one23 rfl rfl rfl) ?_
      refine Wl.q rfl (Qy.len T.sl23 rfl) ?_
      refine Wl.q rfl (Qy.lss rfl rfl) ?_
      refine Wl.done ?_
      refine Ar.next ?_
      refine Wc.cond rfl (fun hc1 => ?_) (fun hc1 => ?_)
      refine Wc.skip ?_
      refine Ar.next ?_
      refine Wc.seq ?_
      refine Wc.block ?_
      refine Wc.seq ?_
      refine Wc.draw [0, 1] [] T.mixed rfl ?_
      refine Gm.q 0 [] (by kernel_rfl) rfl rfl (Qy.fieldAddr T.fa25_3 rfl) ?_
      refine Gm.q 1 [0] (by kernel_rfl) rfl rfl (Qy.load 0 T.one23 rfl rfl rfl) ?_
      refine Gm.q 2 [] (by kernel_rfl) rfl rfl (Qy.move rfl) ?_
      refine Gm.q 3 [] (by kernel_rfl) rfl rfl (Qy.at (α := Int) T.sl23 rfl rfl (by assumption) (by omega)) ?_
      refine Gm.q 4 [0] (by kernel_rfl) rfl rfl (Qy.loadG T.one3 rfl (Arr.cell (by assumption) (by omega) 0 rfl rfl)) ?_
      refine Gm.q 5 [] (by kernel_rfl) rfl rfl (Qy.fieldAddr T.fa25_3 rfl) ?_
      refine Gm.q 6 [1] (by kernel_rfl) rfl rfl (Qy.load 1 T.one23 rfl rfl rfl) ?_
      refine Gm.q 7 [] (by kernel_rfl) rfl rfl (Qy.move rfl) ?_
      refine Gm.q 8 [] (by kernel_rfl) rfl rfl (Qy.at (α := Int) T.sl23 rfl rfl (by assumption) (by omega)) ?_
      refine Gm.q 9 [0] (by kernel_rfl) rfl rfl (Qy.loadG T.one3 rfl (Arr.cell (by assumption) (by omega) 0 rfl rfl)) ?_
      refine Gm.q 10 [] (by kernel_rfl) rfl rfl (Qy.neq rfl rfl) ?_
      refine Gm.doneA (by kernel_rfl) ⟨rfl, rfl, trivial⟩ (by first | exact Imm.le_refl _ | assumption | (refine Imm.le_trans ?_ (by assumption); first | assumption | (refine Imm.le_trans ?_ (by assumption); assumption))) ?_
      refine Ar.next ?_
      refine Wc.cond rfl (fun hc2 => ?_) (fun hc2 => ?_)
      refine Wc.seq ?_
      refine Wc.region rfl ?_
      refine Wl.q rfl (Qy.assign rfl) ?_
      refine Wl.done ?_
      refine Ar.next ?_
      refine Wc.ret ?_
      refine Ar.outRet ?_
      refine Ar.passRet ?_
      refine Ar.passRet ?_
      refine Ar.outRet ?_
      refine Ar.passRet ?_
      refine Ar.out1 (.inr rfl) (Ho := Hp.only _ []) rfl (.tmp rfl) (Hp.sub_only _ _) ?_
      rotate_left
      refine Wc.skip ?_
      refine Ar.outNormal ?_
      refine Ar.next ?_
      refine Wc.region rfl ?_
      refine Wl.q rfl (Qy.move rfl) ?_
      refine Wl.q rfl (Qy.add rfl rfl (by omega)) ?_
      refine Wl.q rfl (Qy.assign rfl) ?_
      refine Wl.done ?_
      rotate_left
      refine Wc.exit ?_
      refine Ar.passExit ?_
      refine Ar.passExit ?_
      refine Ar.here ?_
      refine Ar.next ?_
      refine Wc.seq ?_
      refine Wc.region rfl ?_
      refine Wl.q rfl (Qy.assign rfl) ?_
      refine Wl.done ?_
      refine Ar.next ?_
      refine Wc.ret ?_
      refine Ar.out1 (.inr rfl) (Ho := Hp.only _ []) rfl (.tmp rfl) (Hp.sub_only _ _) ?_
      rotate_left
      · refine ⟨?_, rfl, rfl⟩
        have : p ≠ q := by rintro rfl; exact hc2 rfl
        simp [this]
      · refine Ar.again (k + 1) ?_ ?_ rfl ⟨rfl, rfl, rfl, trivial⟩ ⟨rfl, rfl, trivial⟩
        · exact ⟨by omega, take_eq_step (by omega) (by omega) hk2 (Decidable.not_not.1 hc2)⟩
        · omega
      · refine ⟨?_, rfl, rfl⟩
        have houts : p.outs = q.outs := by
          have : k = p.outs.length := by omega
          subst this
          rw [List.take_length, List.take_of_length_le (by omega)] at hk2
          exact hk2
        have : p = q := by cases p; cases q; simp_all
        simp [this]
/-- the table: what registers hold, what is known, who was first, the next value -/
structure Tab where
  held : List Int
  known : List (K4 × Int)
  first : List (K4 × Int)
  next : Int
end Go.Proofs.Ytbppmiimeccclaa
namespace Go.Proofs.Ytbppmiimeccclaa
open Go Go.Sl
set_option maxRecDepth 100000
set_option maxHeartbeats 2000000
theorem right_facts {p : PV} (h : rightP p = true) : 1 ≤ p.ins ∧ p.ins ≤ p.regs ∧ p.regs ≤ 128 ∧ p.code.length ≤ 16384 ∧ 1 ≤ p.outs.length ∧ p.outs.length ≤ 128 ∧ (∀ r ∈ p.outs, 0 ≤ r ∧ r < p.regs) ∧ (∀ i ∈ p.code, mayOk i p.regs = true) := by
  unfold rightP checkP at h
  by_cases hh : headOk p = false
  · rw [if_pos hh] at h; cases h
  · rw [if_neg hh] at h
    have hb : badAt p = none := by
      cases hb : badAt p with
      | none => rfl
      | some k => rw [hb] at h; cases h
    have hh' : headOk p = true := by simpa using hh
    unfold headOk at hh'
    rw [Bool.and_eq_true, decide_eq_true_eq, List.all_eq_true] at hh'
    unfold badAt at hb
    rw [List.findIdx?_eq_none_iff] at hb
    obtain ⟨⟨g1, g2, g3, g4, g5, g6⟩, g7⟩ := hh'
    refine ⟨g1, g2, g3, g4, g5, g6, fun r hr => ?_, fun i hi => ?_⟩
    · have := g7 r hr; rw [decide_eq_true_eq] at this; exact this
    · simpa using hb i hi
section
variable {t : Tab} {out : List Sl.Instr} {n : Int} {i : Sl.Instr}
end
end Go.Proofs.Ytbppmiimeccclaa
namespace Go.Proofs.Ytbppmiimeccclaa
open Go Go.Sl
set_option maxRecDepth 100000
set_option maxHeartbeats 2000000
def Yes : Prop := True
instance : Decidable Yes := .isTrue trivial
theorem yes : Yes := trivial
end Go.Proofs.Ytbppmiimeccclaa
namespace Go.Proofs.Ytbppmiimeccclaa
open Go Go.Sl
set_option linter.unusedVariables false
theorem get_mem {l : List Int} {r : Int} (h : 0 ≤ r ∧ r < l.length) : l[r.toNat]?.getD default ∈ l := by
  have hlt : r.toNat < l.length := by omega
  rw [List.getElem?_eq_getElem hlt]; exact List.getElem_mem hlt
end Go.Proofs.Ytbppmiimeccclaa
set_option linter.unusedVariables false
namespace Go.Proofs.Ytbppmiimeccclaa
open Go Go.Sl
def AllDiv (y : Int) (xs : List Int) : Prop := ∀ i : Nat, i < xs.length → xs[i]?.getD 0 % y = 0
instance (y : Int) (xs : List Int) : Decidable (AllDiv y xs) := by unfold AllDiv; infer_instance
theorem p2_64_lt : ∀ c : Nat, c ≤ 64 → ((p2 c).natAbs : Int) < pw 5 := fun c hc => by
  have h1 := p2_le hc
  have h2 := p2_pos c
  have h3 : p2 64 < pw 5 := by unfold p2 pw; decide
  omega
theorem may_facts {i : Sl.Instr} {regs : Int} (h : mayOk i regs = true) : (1 ≤ i.op ∧ i.op ≤ 8) ∧ (0 ≤ i.to ∧ i.to < regs) ∧ (0 ≤ i.a ∧ i.a < regs) ∧ (i.op = 3 ∨ i.op = 4 → 0 ≤ i.b ∧ i.b < regs) ∧ constOk i.op i.c = true ∧
    (i.op ≠ 1 → i.op ≠ 2 → i.op ≠ 3 → i.op ≠ 4 → cst i ≠ 0 ∧ ((cst i).natAbs : Int) < pw 5) ∧ (i.op = 5 ∨ i.op = 6 → -9223372036854775808 ≤ i.c ∧ i.c ≤ 9223372036854775807) ∧ (¬ (i.op = 5 ∨ i.op = 6) → 0 ≤ i.c ∧ i.c ≤ 64) := by
  unfold mayOk at h
  rw [Bool.and_eq_true, Bool.and_eq_true, decide_eq_true_eq, List.all_eq_true] at h
  obtain ⟨⟨⟨g1, g2, g3, g4, g5⟩, g6⟩, g7⟩ := h
  have hA : ∀ r ∈ asks i, 0 ≤ r ∧ r < regs := fun r hr => by have := g7 r hr; rwa [decide_eq_true_eq] at this
  have ha : i.a ∈ asks i := by
    unfold asks
    split
    · exact List.mem_cons_self
    · rw [if_pos ⟨g1, g2⟩]; exact List.mem_cons_self
  have hc := g6
  unfold constOk at g6
  have k1 : i.op = 5 ∨ i.op = 6 → i.c ≠ 0 ∧ -512 ≤ i.c ∧ i.c ≤ 512 := fun h => by rw [if_pos h, decide_eq_true_eq] at g6; exact g6
  have k2 : ¬ (i.op = 5 ∨ i.op = 6) → (i.op = 7 ∨ i.op = 8 → 1 ≤ i.c ∧ i.c ≤ 64) ∧ (¬ (i.op = 7 ∨ i.op = 8) → i.c = 0) := fun h => by
    rw [if_neg h] at g6
    refine ⟨fun h2 => ?_, fun h2 => ?_⟩
    · rw [if_pos h2, decide_eq_true_eq] at g6; exact g6
    · rw [if_neg h2, decide_eq_true_eq] at g6; exact g6
  refine ⟨⟨g1, g2⟩, ⟨g3, g4⟩, hA _ ha, fun h34 => hA _ (by unfold asks; rw [if_pos h34]; exact List.mem_cons_of_mem _ List.mem_cons_self), hc, fun n1 n2 n3 n4 => ?_, fun h56 => by have := k1 h56; omega, fun h56 => ?_⟩
  · by_cases h56 : i.op = 5 ∨ i.op = 6
    · rw [cst_c h56]
      have := k1 h56
      have h3 : (65536 : Int) < pw 5 := by unfold pw; decide
      exact ⟨this.1, by omega⟩
    · rw [cst_p h56]
      have h2 := (k2 h56).1 (by omega)
      have := p2_pos i.c.toNat
      exact ⟨by omega, p2_64_lt _ (by omega)⟩
  · by_cases h78 : i.op = 7 ∨ i.op = 8
    · have := (k2 h56).1 h78; omega
    · have := (k2 h56).2 h78; omega
end Go.Proofs.Ytbppmiimeccclaa
set_option maxRecDepth 100000
set_option linter.unusedVariables false
namespace Go.Proofs.Ytbppmiimeccclaa
open Go Go.Sl
set_option maxHeartbeats 4000000
theorem pw5_pb3 : pw 5 ≤ pb 3 := by unfold pw pb; decide
theorem mul_lt_pb {m k : Nat} {x y : Int} (hx : (x.natAbs : Int) < pb m) (hy : (y.natAbs : Int) < pb k) : ((x * y).natAbs : Int) < pb (m + k) := by
  rw [Int.natAbs_mul, Int.natCast_mul, pb_add]
  have h1 := Int.mul_le_mul_of_nonneg_left (Int.le_of_lt hy) (show (0 : Int) ≤ x.natAbs by omega)
  have h2 := Int.mul_lt_mul_of_pos_right hx (pb_pos k)
  omega
theorem doZ_small {i : Sl.Instr} {zs : List Int} {m : Nat} {z : Int} (hm : Below m zs) (hk : i.op = 5 ∨ i.op = 7 → ((cst i).natAbs : Int) < pb 3) (h : doZ i zs = some z) : (z.natAbs : Int) < pb (m + 3) := by
  have ha := hm.at i.a.toNat
  have hb := hm.at i.b.toNat
  have hp := pb_pos m
  have h4 : 4294967296 * pb m ≤ pb (m + 3) := by rw [← pb_succ]; exact pb_le (by omega)
  unfold doZ at h
  simp only at h
  split at h
  · cases h; omega
  · split at h
    · cases h; omega
    · split at h
      · cases h; omega
      · split at h
        · rename_i h57
          cases h
          exact mul_lt_pb ha (hk h57)
        · split at h
          · split at h
            · cases h
              have h1 : (zs[i.a.toNat]?.getD 0 / cst i).natAbs ≤ (zs[i.a.toNat]?.getD 0).natAbs := Int.natAbs_ediv_le_natAbs _ _
              omega
            · cases h
          · cases h
            omega
/-- the registers' numbers after k instructions -/
def stepsZ (p : PV) (zs : List Int) : Nat → Option (List Int)
  | 0 => some zs
  | k + 1 => (stepsZ p zs k).bind fun rs => (doZ (p.code[((k : Nat) : Int).toNat]?.getD default) rs).map fun x => rs.set (p.code[((k : Nat) : Int).toNat]?.getD default).to.toNat x
theorem stepsZ_succ {p : PV} {zs rs : List Int} {k : Nat} {y : Int} (h : stepsZ p zs k = some rs) (hd : doZ (p.code[((k : Nat) : Int).toNat]?.getD default) rs = some y) :
    stepsZ p zs (k + 1) = some (rs.set (p.code[((k : Nat) : Int).toNat]?.getD default).to.toNat y) := by
  unfold stepsZ; rw [h]; simp only [Option.bind_some, hd, Option.map_some]
theorem stepsZ_none {p : PV} {zs : List Int} {k : Nat} (h : stepsZ p zs k = none) (j : Nat) : stepsZ p zs (k + j) = none := by
  induction j with
  | zero => exact h
  | succ j ih => rw [← Nat.add_assoc]; unfold stepsZ; rw [ih]; rfl
theorem stepsZ_stop {p : PV} {zs rs : List Int} {k : Nat} (h : stepsZ p zs k = some rs) (hd : doZ (p.code[((k : Nat) : Int).toNat]?.getD default) rs = none) (hk : k < p.code.length) : stepsZ p zs p.code.length = none := by
  have h1 : stepsZ p zs (k + 1) = none := by unfold stepsZ; rw [h]; simp only [Option.bind_some, hd, Option.map_none]
  have h2 := stepsZ_none h1 (p.code.length - (k + 1))
  rw [show k + 1 + (p.code.length - (k + 1)) = p.code.length by omega] at h2
  exact h2
theorem below_set {m : Nat} {zs : List Int} {z : Int} (h : Below m zs) (hz : (z.natAbs : Int) < pb m) (k : Nat) : Below m (zs.set k z) := fun x hx => by
  rcases List.mem_or_eq_of_mem_set hx with h1 | h1
  · exact h x h1
  · rw [h1]; exact hz
theorem Below.mono {m k : Nat} {zs : List Int} (h : Below m zs) (hk : m ≤ k) : Below k zs := fun z hz => Int.lt_of_lt_of_le (h z hz) (pb_le hk)
attribute [local irreducible] valB pb cmpZ lstWp p2 cst doZ
theorem c50 (G : Imm) (k : Int) (x : IV) : Does Try.prog 50 [.int .i64 k, .agg (Cells.enc x).toArray] G [] (fun v G' Ho => v = .bool true ∧ G' = G ∧ Ho = []) := by
  refine Does.enter Try.func50 rfl Try.ntmps50 rfl (fun w => ?_)
  refine Wc.seq ?_
  refine Wc.region rfl ?_
  refine Wl.box 0 rfl rfl rfl (fun b1 => ?_)
  refine Wl.q rfl (Qy.assign rfl) ?_
  refine Wl.done ?_
  refine Ar.next ?_
  refine Wc.seq ?_
  refine Wc.region rfl ?_
  refine Wl.q rfl (Qy.assign rfl) ?_
  refine Wl.done ?_
  refine Ar.next ?_
  refine Wc.ret ?_
  refine Ar.out1 (.inr rfl) (Ho := Hp.only _ []) rfl (.tmp rfl) (Hp.sub_only _ _) ?_
  exact ⟨rfl, rfl, rfl⟩
/-- the run of a program: its registers behind it, or that it fails -/
def RunPost (p : PV) (zs : List Int) (o : Option Addr) (d : Nat) (r : List IV) (j : List Value) (v : Value) (G' : Imm) (Ho : Hp) : Prop :=
  ∃ (r' : List IV) (k : Int), v = .int .i64 k ∧ Ho = [(0, o.map (·.block), Row 61 r' j)] ∧ r'.length = r.length ∧ OwnA o d r' j ∧
    ((∃ zs', stepsZ p zs p.code.length = some zs' ∧ k = -1 ∧ Bigs G' r' zs') ∨ (stepsZ p zs p.code.length = none ∧ 0 ≤ k))
theorem c48 (G : Imm) (p : PV) (ac ao : Option Addr) (cc co : Nat) (o : Option Addr) (d : Nat) (r : List IV) (j : List Value) (zs : List Int) (m : Nat) (hc : Arr G ac p.code) (hob : OwnA o d r j) (hg : Bigs G r zs) (hm : Below m zs)
    (hmm : m + 3 * p.code.length ≤ 268435456) (hlen : p.code.length ≤ 16384) (hr : (r.length : Int) = p.regs) (hrr : r.length ≤ 128) (hmay : ∀ i ∈ p.code, mayOk i p.regs = true) :
    Does Try.prog 48 [waysV, .agg #[.int .i64 p.ins, .int .i64 p.regs, .slice ac p.code.length cc, .slice ao p.outs.length co], .slice o r.length d, .func (.func 50) #[] #[]] G [(0, o.map (·.block), Row 61 r j)] (RunPost p zs o d r j) := by
  refine Does.enter Try.func48 rfl Try.ntmps48 rfl (fun w => ?_)
  refine Wc.seq ?_
  refine Wc.region rfl ?_
  refine Wl.box 1 rfl rfl rfl (fun b1 => ?_)
  refine Wl.box 2 rfl rfl rfl (fun b2 => ?_)
  refine Wl.q rfl (Qy.assign rfl) ?_
  refine Wl.done ?_
  refine Ar.next ?_
  refine Wc.scope ?_
  refine Wc.seq ?_
  refine Wc.label ?_
  refine Ar.next ?_
  refine Wc.seq ?_
  refine Wc.seq ?_
  refine Wc.region rfl ?_
  refine Wl.q rfl (Qy.fieldAddr T.fa25_2 rfl) ?_
  refine Wl.q rfl (Qy.load 2 T.one22 rfl rfl rfl) ?_
  refine Wl.q rfl (Qy.len T.sl22 rfl) ?_
  refine Wl.q rfl (Qy.move rfl) ?_
  refine Wl.done ?_
  refine Ar.next ?_
  refine Wc.block ?_
  refine Wc.loopG (ι := Nat × Imm × List IV × List Int) (fun (i, Gx, r2, rs) => ([(16, .int .i64 (i : Int)), (2, .slice o r2.length d), (15, Go.Value.int Go.IntKind.i64 (↑(List.length (Go.Proofs.Ytbppmiimeccclaa.PV.code p)) : Int)), (14, Go.Value.slice ac (List.length (Go.Proofs.Ytbppmiimeccclaa.PV.code p)) cc), (4, Go.Value.pointer (Option.some (Go.Addr.mk b1 0 Option.none))), (3, Go.Value.func (Go.Fn.func 50) #[] #[])], [(0, o.map (·.block), Row 61 r2 j), (2, Option.some b2, Go.Obj.cells #[Go.Value.int Go.IntKind.i64 (Go.Proofs.Ytbppmiimeccclaa.PV.ins p), Go.Value.int Go.IntKind.i64 (Go.Proofs.Ytbppmiimeccclaa.PV.regs p), Go.Value.slice ac (List.length (Go.Proofs.Ytbppmiimeccclaa.PV.code p)) cc, Go.Value.slice ao (List.length (Go.Proofs.Ytbppmiimeccclaa.PV.outs p)) co] 25), (1, Option.some b1, Go.Obj.cells #[Go.Value.func (Go.Fn.func 92) #[] #[], Go.Value.func (Go.Fn.func 93) #[] #[], Go.Value.func (Go.Fn.func 94) #[] #[], Go.Value.func (Go.Fn.func 95) #[] #[], Go.Value.func (Go.Fn.func 96) #[] #[]] 96)])) (fun (i, Gx, r2, rs) => Gx) (fun (i, Gx, r2, rs) => i ≤ p.code.length ∧ G.le Gx ∧ r2.length = r.length ∧ OwnA o d r2 j ∧ Bigs Gx r2 rs ∧ Below (m + 3 * i) rs ∧ stepsZ p zs i = some rs) (fun (i, Gx, r2, rs) => p.code.length - i) ((0, G, r, zs)) (⟨Nat.zero_le _, Imm.le_refl _, rfl, hob, hg, hm, rfl⟩) rfl ⟨rfl, rfl, rfl, rfl, rfl, rfl, trivial⟩ ⟨rfl, rfl, rfl, trivial⟩ (fun ⟨i, Gx, r2, rs⟩ => fun (hk : i ≤ p.code.length ∧ G.le Gx ∧ r2.length = r.length ∧ OwnA o d r2 j ∧ Bigs Gx r2 rs ∧ Below (m + 3 * i) rs ∧ stepsZ p zs i = some rs) => ?_)
  obtain ⟨hi0, hgx, hr2, ho2, hg2, hb2, hrun⟩ := hk
  replace hc := hc.up hgx
  rcases Nat.lt_or_ge i p.code.length with hic | hic
  · have hmem : (p.code[((i : Nat) : Int).toNat]?.getD default) ∈ p.code := by
      rw [Int.toNat_natCast, List.getElem?_eq_getElem hic]; exact List.getElem_mem hic
    have hmi := hmay _ hmem
    obtain ⟨m1, m2, m3, m4, m5, m6, m7, m8⟩ := may_facts hmi
    have hbz : (p.code[((i : Nat) : Int).toNat]?.getD default).op = 3 ∨ (p.code[((i : Nat) : Int).toNat]?.getD default).op = 4 ∨ (p.code[((i : Nat) : Int).toNat]?.getD default).b = 0 := by
      unfold mayOk at hmi
      rw [Bool.and_eq_true, Bool.and_eq_true, decide_eq_true_eq] at hmi
      exact hmi.1.1.2.2.2.2
    have mb : 0 ≤ (p.code[((i : Nat) : Int).toNat]?.getD default).b ∧ (p.code[((i : Nat) : Int).toNat]?.getD default).b < r2.length := by
      rcases hbz with h | h | h
      · have := m4 (.inl h); omega
      · have := m4 (.inr h); omega
      · omega
    have mt : 0 ≤ (p.code[((i : Nat) : Int).toNat]?.getD default).to ∧ (p.code[((i : Nat) : Int).toNat]?.getD default).to < r2.length := by omega
    have hk3 : (p.code[((i : Nat) : Int).toNat]?.getD default).op ≠ 1 → (p.code[((i : Nat) : Int).toNat]?.getD default).op ≠ 2 → (p.code[((i : Nat) : Int).toNat]?.getD default).op ≠ 3 → (p.code[((i : Nat) : Int).toNat]?.getD default).op ≠ 4 → cst (p.code[((i : Nat) : Int).toNat]?.getD default) ≠ 0 ∧ ((cst (p.code[((i : Nat) : Int).toNat]?.getD default)).natAbs : Int) < pb 3 := fun a b c d => ⟨(m6 a b c d).1, Int.lt_of_lt_of_le (m6 a b c d).2 pw5_pb3⟩
    refine Wc.seq ?_
    refine Wc.region rfl ?_
    refine Wl.q rfl (Qy.lss rfl rfl) ?_
    refine Wl.done ?_
    refine Ar.next ?_
    refine Wc.seq ?_
    refine Wc.condP rfl (by first | assumption | omega) ?_
    refine Wc.skip ?_
    refine Ar.next ?_
    refine Wc.seq ?_
    refine Wc.block ?_
    refine Wc.seq ?_
    refine Wc.region rfl ?_
    refine Wl.q rfl (Qy.move rfl) ?_
    refine Wl.q rfl (Qy.at (α := Sl.Instr) T.sl22 rfl rfl (by assumption) (by omega)) ?_
    refine Wl.q rfl (Qy.loadsG T.agg72 rfl (Arr.elem (by assumption) (by omega)) rfl) ?_
    refine Wl.alloc 3 rfl T.zero72 (fun b3 => ?_)
    refine Wl.q rfl (Qy.assign rfl) ?_
    refine Wl.storeAll 3 T.size72 rfl rfl rfl rfl rfl rfl ?_
    refine Wl.done ?_
    refine Ar.next ?_
    refine Wc.seq ?_
    refine Wc.region rfl ?_
    refine Wl.q rfl (Qy.loadAll 1 T.agg96 rfl rfl rfl) ?_
    refine Wl.q rfl (Qy.move rfl) ?_
    refine Wl.q rfl (Qy.loadAll 3 T.agg72 rfl rfl rfl) ?_
    refine Wl.call 0 rfl T.fn91 rfl (c91 _ (p.code[((i : Nat) : Int).toNat]?.getD default) o d r2 j rs (m + 3 * i) ho2 hg2 hb2 (by omega) m1 (by omega) mb hk3 m7 m8) (tags_of ⟨rfl, trivial⟩) (fun v1 G1 Ho1 hle1 hp => ?_)
    obtain ⟨x, rfl, hx, rfl⟩ := hp
    replace hc := hc.up hle1
    replace hg2 := hg2.up hle1
    by_cases hd : doZ (p.code[((i : Nat) : Int).toNat]?.getD default) rs = none
    · have hd2 : ¬ doZ (p.code[((i : Nat) : Int).toNat]?.getD default) rs ≠ none := fun h => h hd
      refine Wl.q rfl (Qy.move rfl) ?_
      refine Wl.q rfl (Qy.extract rfl rfl) ?_
      refine Wl.q rfl (Qy.extract rfl rfl) ?_
      refine Wl.alloc 4 rfl T.zero61 (fun b4 => ?_)
      refine Wl.storeAll 4 T.size61 rfl rfl rfl rfl rfl rfl ?_
      refine Wl.q rfl (Qy.assign rfl) ?_
      refine Wl.done ?_
      refine Ar.next ?_
      refine Wc.seq ?_
      refine Wc.seq ?_
      refine Wc.region rfl ?_
      refine Wl.q rfl (Qy.move rfl) ?_
      refine Wl.q rfl (Qy.notD rfl) ?_
      refine Wl.done ?_
      refine Ar.next ?_
      refine Wc.condP rfl (by first | assumption | omega) ?_
      refine Wc.seq ?_
      refine Wc.region rfl ?_
      refine Wl.q rfl (Qy.move rfl) ?_
      refine Wl.q rfl (Qy.assign rfl) ?_
      refine Wl.done ?_
      refine Ar.next ?_
      refine Wc.ret ?_
      refine Ar.passRet ?_
      refine Ar.outRet ?_
      refine Ar.passRet ?_
      refine Ar.passRet ?_
      refine Ar.outRet ?_
      refine Ar.passRet ?_
      refine Ar.scopeR ?_
      refine Ar.out1 (.inr rfl) (Ho := Hp.only _ [0]) rfl (.tmp rfl) (Hp.sub_only _ _) ?_
      exact ⟨r2, (i : Int), rfl, rfl, hr2, ho2, .inr ⟨stepsZ_stop hrun hd hic, by omega⟩⟩
    · obtain ⟨z, hz⟩ := Option.ne_none_iff_exists'.1 hd
      have hxz := hx z hz
      have hok : doZ (p.code[((i : Nat) : Int).toNat]?.getD default) rs ≠ none := hd
      refine Wl.q rfl (Qy.move rfl) ?_
      refine Wl.q rfl (Qy.extract rfl rfl) ?_
      refine Wl.q rfl (Qy.extract rfl rfl) ?_
      refine Wl.alloc 4 rfl T.zero61 (fun b4 => ?_)
      refine Wl.storeAll 4 T.size61 rfl rfl rfl rfl rfl rfl ?_
      refine Wl.q rfl (Qy.assign rfl) ?_
      refine Wl.done ?_
      refine Ar.next ?_
      refine Wc.seq ?_
      refine Wc.seq ?_
      refine Wc.region rfl ?_
      refine Wl.q rfl (Qy.move rfl) ?_
      refine Wl.q rfl (Qy.notD rfl) ?_
      refine Wl.done ?_
      refine Ar.next ?_
      refine Wc.cond rfl (fun hc1 => ?_) (fun hc1 => ?_)
      refine Wc.seq ?_
      refine Wc.region rfl ?_
      refine Wl.q rfl (Qy.move rfl) ?_
      refine Wl.q rfl (Qy.assign rfl) ?_
      refine Wl.done ?_
      refine Ar.next ?_
      refine Wc.ret ?_
      refine Ar.passRet ?_
      refine Ar.outRet ?_
      refine Ar.passRet ?_
      refine Ar.passRet ?_
      refine Ar.outRet ?_
      refine Ar.passRet ?_
      refine Ar.scopeR ?_
      refine Ar.out1 (.inr rfl) (Ho := Hp.only _ [0]) rfl (.tmp rfl) (Hp.sub_only _ _) ?_
      rotate_left
      refine Wc.skip ?_
      refine Ar.next ?_
      refine Wc.seq ?_
      refine Wc.region rfl ?_
      refine Wl.q rfl (Qy.move rfl) ?_
      refine Wl.q rfl (Qy.fieldAddr T.fa72_1 rfl) ?_
      refine Wl.q rfl (Qy.load 3 T.one3 rfl rfl rfl) ?_
      refine Wl.q rfl (Qy.loadAll 4 T.agg61 rfl rfl rfl) ?_
      refine Wl.q rfl (Qy.indexAddrO (α := IV) T.sl33 rfl rfl (by assumption) (by omega)) ?_
      rotate_left
      · exact absurd hok hc1
      refine Wl.setO (z := x) 0 T.size61 rfl rfl rfl (by assumption) (by omega) rfl (fun ho9 => ?_)
      refine Wl.done ?_
      refine Ar.next ?_
      refine Wc.seq ?_
      refine Wc.region rfl ?_
      refine Wl.q rfl (Qy.move rfl) ?_
      refine Wl.q rfl (Qy.move rfl) ?_
      refine Wl.q rfl (Qy.loadAll 4 T.agg61 rfl rfl rfl) ?_
      refine Wl.callV (fst := []) (cap := []) 5 rfl T.fn50 rfl rfl (c50 _ _ _) (tags_of trivial) (fun v2 G2 Ho2 hle2 hp => ?_)
      obtain ⟨rfl, rfl, rfl⟩ := hp
      refine Wl.q rfl (Qy.not rfl) ?_
      refine Wl.done ?_
      refine Ar.next ?_
      refine Wc.condF rfl ?_
      refine Wc.skip ?_
      refine Ar.outNormal ?_
      refine Ar.next ?_
      refine Wc.region rfl ?_
      refine Wl.q rfl (Qy.add rfl rfl (by omega)) ?_
      refine Wl.q rfl (Qy.move rfl) ?_
      refine Wl.done ?_
      refine Ar.re 2 rfl (show _ = Value.slice o (r2.set (p.code[((i : Nat) : Int).toNat]?.getD default).to.toNat x).length d by rw [List.length_set]) ?_
      refine Ar.again ((i + 1, _, r2.set (p.code[((i : Nat) : Int).toNat]?.getD default).to.toNat x, rs.set (p.code[((i : Nat) : Int).toNat]?.getD default).to.toNat z)) ?_ ?_ rfl ⟨rfl, rfl, rfl, rfl, rfl, rfl, trivial⟩ ⟨rfl, rfl, rfl, trivial⟩
      · refine ⟨by omega, Imm.le_trans hgx hle1, by rw [List.length_set]; exact hr2, ho9, hg2.set _ hxz, ?_, stepsZ_succ hrun hz⟩
        have hs := doZ_small hb2 (fun h => (hk3 (by omega) (by omega) (by omega) (by omega)).2) hz
        rw [show m + 3 * (i + 1) = m + 3 * i + 3 by omega]
        exact below_set (hb2.mono (by omega)) hs _
      · show p.code.length - (i + 1) < p.code.length - i
        omega
  · have hii : i = p.code.length := by omega
    subst hii
    refine Wc.seq ?_
    refine Wc.region rfl ?_
    refine Wl.q rfl (Qy.lss rfl rfl) ?_
    refine Wl.done ?_
    refine Ar.next ?_
    refine Wc.seq ?_
    refine Wc.condN rfl (by first | assumption | omega) ?_
    refine Wc.exit ?_
    refine Ar.passExit ?_
    refine Ar.passExit ?_
    refine Ar.here ?_
    refine Ar.next ?_
    refine Wc.seq ?_
    refine Wc.region rfl ?_
    refine Wl.q rfl (Qy.assign rfl) ?_
    refine Wl.done ?_
    refine Ar.next ?_
    refine Wc.ret ?_
    refine Ar.scopeR ?_
    refine Ar.out1 (.inr rfl) (Ho := Hp.only _ [0]) rfl (.tmp rfl) (Hp.sub_only _ _) ?_
    exact ⟨r2, -1, rfl, rfl, hr2, ho2, .inl ⟨rs, hrun, rfl, hg2⟩⟩
end Go.Proofs.Ytbppmiimeccclaa
set_option maxRecDepth 100000
set_option linter.unusedVariables false
namespace Go.Proofs.Ytbppmiimeccclaa
open Go Go.Sl
set_option maxHeartbeats 4000000
theorem c40R (G : Imm) (p : PV) (ac ao : Option Addr) (cc co : Nat) (hc : Arr G ac p.code) (ho : Arr G ao p.outs) (h1 : p.code.length ≤ 1099511627776) (h2 : p.outs.length ≤ 1099511627776) (hR : rightP p = true) :
    Does Try.prog 40 [.agg #[.int .i64 p.ins, .int .i64 p.regs, .slice ac p.code.length cc, .slice ao p.outs.length co]] G [] (fun v G' Ho => v = .tuple #[.int .i64 (checkP p).1, .int .i64 0] ∧ G' = G ∧ Ho = []) := by
  have hf : (checkP p).2 = false := by unfold rightP at hR; simpa using hR
  have h := c40 G p ac ao cc co hc ho h1 h2
  rw [hf] at h
  exact h
theorem cmpZ_zero {x y : Int} (h : cmpZ x y = 0) : x = y := by
  unfold cmpZ at h
  split at h
  · omega
  · split at h <;> omega
theorem take_next {za zb : List Int} {i : Nat} (h : za.take i = zb.take i) (h1 : i < za.length) (h2 : i < zb.length) (he : za[i]?.getD 0 = zb[i]?.getD 0) : za.take (i + 1) = zb.take (i + 1) := by
  rw [List.getElem?_eq_getElem h1, List.getElem?_eq_getElem h2] at he
  rw [List.take_add_one, List.take_add_one, h, List.getElem?_eq_getElem h1, List.getElem?_eq_getElem h2]
  have e : za[i] = zb[i] := he
  rw [e]
/-- the registers at first -/
def regs0Z (p : PV) (zs : List Int) : List Int := zs ++ List.replicate (p.regs.toNat - zs.length) 0
def outsZ (p : PV) (rs : List Int) : List Int := p.outs.map fun r => rs[r.toNat]?.getD 0
/-- the run on numbers -/
def ansZ (p : PV) (zs : List Int) : Option (List Int) := (stepsZ p (regs0Z p zs) p.code.length).map (outsZ p)
theorem bigs_append {G : Imm} {l m : List IV} {zs ys : List Int} (h : Bigs G l zs) (h2 : Bigs G m ys) : Bigs G (l ++ m) (zs ++ ys) := by
  have e1 := h.1
  have e2 := h2.1
  refine ⟨by rw [List.length_append, List.length_append]; omega, fun i hi => ?_⟩
  rw [List.length_append] at hi
  rcases Nat.lt_or_ge i l.length with h3 | h3
  · rw [List.getElem?_append_left h3, List.getElem?_append_left (by omega)]; exact h.2 i h3
  · rw [List.getElem?_append_right h3, List.getElem?_append_right (by omega), ← e1]; exact h2.2 _ (by omega)
theorem below_append {m : Nat} {zs ys : List Int} (h : Below m zs) (h2 : Below m ys) : Below m (zs ++ ys) := fun z hz => by
  rcases List.mem_append.1 hz with h1 | h1
  · exact h z h1
  · exact h2 z h1
theorem below_zeros (m n : Nat) : Below m (List.replicate n 0) := fun z hz => by rw [List.eq_of_mem_replicate hz]; exact pb_pos m
attribute [local irreducible] valB pb cmpZ lstWp p2 cst doZ checkP
theorem c47 (G : Imm) (p : PV) (ac ao : Option Addr) (cc co : Nat) (hc : Arr G ac p.code) (ho : Arr G ao p.outs) (h1 : p.code.length ≤ 1099511627776) (h2 : p.outs.length ≤ 1099511627776) (hR : rightP p = true) (n : Int) (hn : n = p.ins) :
    Does Try.prog 47 [.agg #[.int .i64 p.ins, .int .i64 p.regs, .slice ac p.code.length cc, .slice ao p.outs.length co], .int .i64 n] G [] (fun v G' Ho => v = .int .i64 0 ∧ G' = G ∧ Ho = []) := by
  refine Does.enter Try.func47 rfl Try.ntmps47 rfl (fun w => ?_)
  refine Wc.seq ?_
  refine Wc.region rfl ?_
  refine Wl.box 0 rfl rfl rfl (fun b1 => ?_)
  refine Wl.q rfl (Qy.assign rfl) ?_
  refine Wl.done ?_
  refine Ar.next ?_
  refine Wc.seq ?_
  refine Wc.region rfl ?_
  refine Wl.q rfl (Qy.loadAll 0 T.agg25 rfl rfl rfl) ?_
  refine Wl.call0 rfl T.fn40 rfl (c40R _ p _ _ _ _ hc ho h1 h2 hR) ?_
  refine Wl.q rfl (Qy.move rfl) ?_
  refine Wl.q rfl (Qy.extract rfl rfl) ?_
  refine Wl.q rfl (Qy.extract rfl rfl) ?_
  refine Wl.q rfl (Qy.assign rfl) ?_
  refine Wl.q rfl (Qy.assign rfl) ?_
  refine Wl.done ?_
  refine Ar.next ?_
  refine Wc.seq ?_
  refine Wc.block ?_
  refine Wc.seq ?_
  refine Wc.region rfl ?_
  refine Wl.q rfl (Qy.move rfl) ?_
  refine Wl.q rfl (Qy.neq rfl rfl) ?_
  refine Wl.q rfl (Qy.assign rfl) ?_
  refine Wl.done ?_
  refine Ar.next ?_
  refine Wc.condN rfl (by first | assumption | omega) ?_
  refine Wc.seq ?_
  refine Wc.region rfl ?_
  refine Wl.q rfl (Qy.move rfl) ?_
  refine Wl.q rfl (Qy.fieldAddr T.fa25_0 rfl) ?_
  refine Wl.q rfl (Qy.load 0 T.one3 rfl rfl rfl) ?_
  refine Wl.q rfl (Qy.neq rfl rfl) ?_
  refine Wl.q rfl (Qy.assign rfl) ?_
  refine Wl.done ?_
  refine Ar.next ?_
  refine Wc.condN rfl (by first | assumption | omega) ?_
  refine Wc.skip ?_
  refine Ar.outNormal ?_
  refine Ar.next ?_
  refine Wc.seq ?_
  refine Wc.region rfl ?_
  refine Wl.q rfl (Qy.assign rfl) ?_
  refine Wl.done ?_
  refine Ar.next ?_
  refine Wc.ret ?_
  refine Ar.out1 (.inr rfl) (Ho := Hp.only _ []) rfl (.tmp rfl) (Hp.sub_only _ _) ?_
  exact ⟨rfl, rfl, rfl⟩
theorem c49 (G : Imm) : Does Try.prog 49 [] G [] (fun v G' Ho => v = waysV ∧ G' = G ∧ Ho = []) := by
  refine Does.enter Try.func49 rfl Try.ntmps49 rfl (fun w => ?_)
  refine Wc.seq ?_
  refine Wc.region rfl ?_
  refine Wl.alloc 0 rfl T.zero96 (fun b1 => ?_)
  refine Wl.done ?_
  refine Ar.next ?_
  refine Wc.seq ?_
  refine Wc.region rfl ?_
  refine Wl.q rfl (Qy.build (cs := [_, _, _, _, _]) T.st96 rfl rfl rfl) ?_
  refine Wl.storeAll 0 T.size96 rfl rfl rfl rfl rfl rfl ?_
  refine Wl.done ?_
  refine Ar.next ?_
  refine Wc.ret ?_
  refine Ar.out1 (.inr rfl) (Ho := Hp.only _ []) rfl (.agg 0 rfl rfl T.agg96) (Hp.sub_only _ _) ?_
  exact ⟨rfl, rfl, rfl⟩
/-- what Run answers -/
def RunsPost (p : PV) (zs : List Int) (v : Value) (G' : Imm) (Ho : Hp) : Prop :=
  Ho = [] ∧ ((∃ os b r c', ansZ p zs = some os ∧ v = .tuple #[.slice b (List.length r) c', .int .i64 0, .int .i64 0] ∧ Arr G' b r ∧ Bigs G' r os ∧ List.length r = p.outs.length) ∨ (ansZ p zs = none ∧ ∃ k, v = .tuple #[.slice none 0 0, .int .i64 k, .int .i64 20]))
theorem c14 (G : Imm) (p : PV) (ac ao ai : Option Addr) (cc co ci : Nat) (li : List IV) (zs : List Int) (m : Nat) (hc : Arr G ac p.code) (ho : Arr G ao p.outs) (hi : Arr G ai li) (hb : Bigs G li zs) (hm : Below m zs) (hmm : m ≤ 1048576) (hR : rightP p = true) (hn : (li.length : Int) = p.ins) :
    Does Try.prog 14 [.agg #[.int .i64 p.ins, .int .i64 p.regs, .slice ac p.code.length cc, .slice ao p.outs.length co], .slice ai li.length ci] G [] (RunsPost p zs) := by
  obtain ⟨f1, f2, f3, f4, f5, f6, f7, f8⟩ := right_facts hR
  have h1 : p.code.length ≤ 1099511627776 := by omega
  have h2 : p.outs.length ≤ 1099511627776 := by omega
  obtain ⟨R, hRg⟩ : ∃ R, R = p.regs.toNat := ⟨_, rfl⟩
  have hb1 := hb.1
  obtain ⟨r0, hr0⟩ : ∃ r0, r0 = li ++ List.replicate (R - li.length) (default : IV) := ⟨_, rfl⟩
  have lr0 : r0.length = R := by rw [hr0, List.length_append, List.length_replicate]; omega
  have hg0 : Bigs G r0 (regs0Z p zs) := by
    unfold regs0Z
    rw [hr0, ← hb1, ← hRg]; exact bigs_append hb (Bigs.zeros G _)
  have hm0 : Below m (regs0Z p zs) := below_append hm (below_zeros m _)
  refine Does.enter Try.func14 rfl Try.ntmps14 rfl (fun w => ?_)
  refine Wc.nilRow 0 (Row 61 ([] : List IV) []) ?_
  refine Wc.seq ?_
  refine Wc.region rfl ?_
  refine Wl.box 1 rfl rfl rfl (fun b1 => ?_)
  refine Wl.q rfl (Qy.assign rfl) ?_
  refine Wl.q rfl (Qy.assign rfl) ?_
  refine Wl.q rfl (Qy.assign rfl) ?_
  refine Wl.done ?_
  refine Ar.next ?_
  refine Wc.seq ?_
  refine Wc.seq ?_
  refine Wc.region rfl ?_
  refine Wl.q rfl (Qy.loadAll 1 T.agg25 rfl rfl rfl) ?_
  refine Wl.q rfl (Qy.move rfl) ?_
  refine Wl.q rfl (Qy.len T.sl33 rfl) ?_
  refine Wl.call0 rfl T.fn47 rfl (c47 _ p _ _ _ _ (by assumption) (by assumption) h1 h2 hR _ hn) ?_
  refine Wl.q rfl (Qy.assign rfl) ?_
  refine Wl.done ?_
  refine Ar.next ?_
  refine Wc.seq ?_
  refine Wc.region rfl ?_
  refine Wl.q rfl (Qy.move rfl) ?_
  refine Wl.q rfl (Qy.neq rfl rfl) ?_
  refine Wl.done ?_
  refine Ar.next ?_
  refine Wc.condN rfl (by first | assumption | omega) ?_
  refine Wc.skip ?_
  refine Ar.next ?_
  refine Wc.seq ?_
  refine Wc.region rfl ?_
  refine Wl.q rfl (Qy.fieldAddr T.fa25_1 rfl) ?_
  refine Wl.q rfl (Qy.load 1 T.one3 rfl rfl rfl) ?_
  refine Wl.make (α := IV) 2 rfl T.sl33 T.el61 rfl rfl (by omega) (by omega) (fun b2 => ?_)
  refine Wl.q rfl (Qy.assign rfl) ?_
  refine Wl.done ?_
  refine Ar.next ?_
  refine Wc.seq ?_
  refine Wc.region rfl ?_
  refine Wl.q rfl (Qy.move rfl) ?_
  refine Wl.q rfl (Qy.move rfl) ?_
  refine Wl.copyRow (α := IV) 2 rfl T.sl33 rfl rfl rfl (Src.arr (by assumption)) (by first | omega | (simp only [List.length_append, List.length_cons, List.length_nil, List.length_replicate]; omega)) ?_
  refine Wl.done ?_
  refine Ar.next ?_
  refine Wc.seq ?_
  refine Wc.seq ?_
  refine Wc.draw [0, 1, 2] [(2, 3), (1, 3), (0, 3)] T.mixed rfl ?_
  refine Gm.q 1 [1] (by kernel_rfl) rfl rfl (Qy.loadAll 1 T.agg25 rfl rfl rfl) ?_
  refine Gm.q 2 [] (by kernel_rfl) rfl rfl (Qy.move rfl) ?_
  refine Gm.one 0 ⟨rfl, rfl, rfl, trivial⟩ (by first | exact Imm.le_refl _ | assumption | (refine Imm.le_trans ?_ (by assumption); first | assumption | (refine Imm.le_trans ?_ (by assumption); assumption))) (by kernel_rfl) rfl ?_
  refine Wl.call0 rfl T.fn49 rfl (c49 _) ?_
  refine Wl.on0 ?_
  refine Gm.one 3 ⟨rfl, rfl, rfl, trivial⟩ (by first | exact Imm.le_refl _ | assumption | (refine Imm.le_trans ?_ (by assumption); first | assumption | (refine Imm.le_trans ?_ (by assumption); assumption))) (by kernel_rfl) rfl ?_
  refine Wl.reH 2 (Row 61 r0 []) rfl (by rw [hr0, List.drop_replicate, ← hRg]) ?_
  refine Wl.re 28 rfl (show _ = Value.slice (some ⟨b2, 0, none⟩) r0.length R by rw [List.length_replicate, lr0, ← hRg]) ?_
  refine Wl.re 8 rfl (show _ = Value.slice (some ⟨b2, 0, none⟩) r0.length R by rw [List.length_replicate, lr0, ← hRg]) ?_
  refine Wl.call 2 rfl T.fn48 rfl (c48 _ p ac ao cc co (some ⟨b2, 0, none⟩) R r0 [] (regs0Z p zs) m hc (.inr ⟨b2, rfl, by rw [lr0]; rfl, by omega, by simp only [maxLen]; omega⟩) hg0 hm0 (by omega) f4 (by omega) (by omega) f8) (tags_of ⟨rfl, trivial⟩) (fun v9 G9 Ho9 hle9 hp => ?_)
  obtain ⟨r9, k9, rfl, rfl, hr9, ho9, hcase⟩ := hp
  replace ho := ho.up hle9
  rcases hcase with ⟨rs, hrs, rfl, hg9⟩ | ⟨hno, hk9⟩
  · have hrs1 := hg9.1
    refine Wl.on0 ?_
    refine Gm.q 4 [] (by kernel_rfl) rfl rfl (Qy.assign rfl) ?_
    refine Gm.doneA (by kernel_rfl) trivial (by first | exact Imm.le_refl _ | assumption | (refine Imm.le_trans ?_ (by assumption); first | assumption | (refine Imm.le_trans ?_ (by assumption); assumption))) ?_
    refine Ar.next ?_
    refine Wc.seq ?_
    refine Wc.region rfl ?_
    refine Wl.q rfl (Qy.move rfl) ?_
    refine Wl.q rfl (Qy.geq rfl rfl) ?_
    refine Wl.done ?_
    refine Ar.next ?_
    refine Wc.condN rfl (by first | assumption | omega) ?_
    refine Wc.skip ?_
    refine Ar.next ?_
    refine Wc.seq ?_
    refine Wc.region rfl ?_
    refine Wl.q rfl (Qy.assign rfl) ?_
    refine Wl.done ?_
    refine Ar.next ?_
    refine Wc.seq ?_
    refine Wc.seq ?_
    refine Wc.region rfl ?_
    refine Wl.q rfl (Qy.fieldAddr T.fa25_3 rfl) ?_
    refine Wl.q rfl (Qy.load 1 T.one23 rfl rfl rfl) ?_
    refine Wl.q rfl (Qy.len T.sl23 rfl) ?_
    refine Wl.q rfl (Qy.move rfl) ?_
    refine Wl.done ?_
    refine Ar.next ?_
    refine Wc.block ?_
    have lr9 : r9.length = R := by omega
    refine Wc.re 8 rfl (show _ = Value.slice (some ⟨b2, 0, none⟩) r9.length R by rw [lr9, lr0]) ?_
    refine Wc.loop (ι := Nat × List IV × (Option Addr × Nat × List Value)) (fun (i, q, (o, d, j)) => ([(36, .int .i64 (i : Int)), (10, .slice o q.length d), (8, Go.Value.slice (Option.some (Go.Addr.mk b2 0 Option.none)) (List.length r9) R), (35, Go.Value.int Go.IntKind.i64 (↑(List.length (Go.Proofs.Ytbppmiimeccclaa.PV.outs p)) : Int)), (34, Go.Value.slice ao (List.length (Go.Proofs.Ytbppmiimeccclaa.PV.outs p)) co), (6, Go.Value.int Go.IntKind.i64 0), (5, Go.Value.int Go.IntKind.i64 0), (4, Go.Value.slice Option.none 0 0)], [(0, o.map (·.block), Row 61 q j), (2, some b2, Row 61 r9 []), (1, Option.some b1, Go.Obj.cells #[Go.Value.int Go.IntKind.i64 (Go.Proofs.Ytbppmiimeccclaa.PV.ins p), Go.Value.int Go.IntKind.i64 (Go.Proofs.Ytbppmiimeccclaa.PV.regs p), Go.Value.slice ac (List.length (Go.Proofs.Ytbppmiimeccclaa.PV.code p)) cc, Go.Value.slice ao (List.length (Go.Proofs.Ytbppmiimeccclaa.PV.outs p)) co] 25)])) (fun (i, q, (o, d, j)) => i ≤ p.outs.length ∧ q.length = i ∧ Bigs G9 q ((outsZ p rs).take i) ∧ OwnA o d q j) (fun (i, q, (o, d, j)) => p.outs.length - i) ((0, [], (none, 0, []))) (⟨Nat.zero_le _, rfl, by rw [List.take_zero]; exact Bigs.nil _, OwnA.nil⟩) ⟨rfl, rfl, rfl, rfl, rfl, rfl, rfl, rfl, trivial⟩ ⟨rfl, rfl, rfl, trivial⟩ (fun ⟨i, q, (o, d, j)⟩ => fun (hk : i ≤ p.outs.length ∧ q.length = i ∧ Bigs G9 q ((outsZ p rs).take i) ∧ OwnA o d q j) => ?_)
    obtain ⟨hi0, hqi, hbq, hoq⟩ := hk
    rcases Nat.lt_or_ge i p.outs.length with hio | hio
    · have hmem : p.outs[((i : Nat) : Int).toNat]?.getD default ∈ p.outs := by
        rw [Int.toNat_natCast, List.getElem?_eq_getElem hio]; exact List.getElem_mem hio
      have hrg := f7 _ hmem
      refine Wc.seq ?_
      refine Wc.region rfl ?_
      refine Wl.q rfl (Qy.lss rfl rfl) ?_
      refine Wl.done ?_
      refine Ar.next ?_
      refine Wc.seq ?_
      refine Wc.condP rfl (by first | assumption | omega) ?_
      refine Wc.skip ?_
      refine Ar.next ?_
      refine Wc.seq ?_
      refine Wc.block ?_
      refine Wc.seq ?_
      refine Wc.region rfl ?_
      refine Wl.q rfl (Qy.at (α := Int) T.sl23 rfl rfl (by assumption) (by omega)) ?_
      refine Wl.q rfl (Qy.loadG T.one3 rfl (Arr.cell (by assumption) (by omega) 0 rfl rfl)) ?_
      refine Wl.q rfl (Qy.assign rfl) ?_
      refine Wl.done ?_
      refine Ar.next ?_
      refine Wc.region rfl ?_
      refine Wl.q rfl (Qy.move rfl) ?_
      refine Wl.q rfl (Qy.move rfl) ?_
      refine Wl.q rfl (Qy.move rfl) ?_
      refine Wl.q rfl (Qy.indexAddrO (α := IV) T.sl33 rfl rfl (by assumption) (by omega)) ?_
      refine Wl.q rfl (Qy.loadsO 2 T.agg61 rfl rfl (by assumption) (by omega)) ?_
      refine Wl.lit (α := IV) 3 [(Option.getD r9[Int.toNat (Option.getD (Go.Proofs.Ytbppmiimeccclaa.PV.outs p)[Int.toNat (↑i : Int)]? Inhabited.default)]? Inhabited.default)] rfl T.sl33 T.el61 rfl rfl rfl rfl rfl (fun b3 => ?_)
      refine Wl.append (α := IV) 0 rfl T.sl33 T.el61 rfl rfl rfl (by first | assumption | exact OwnA.nil | exact OwnA.made (by simp)) (Src.row 3 rfl) (by first | omega | (simp only [List.length_append, List.length_cons, List.length_nil, maxLen]; omega)) (by first | omega | (simp only [List.length_append, List.length_cons, List.length_nil, maxLen]; omega)) (fun a1 c1 junk1 ho1 => ?_)
      refine Wl.q rfl (Qy.assign rfl) ?_
      refine Wl.done ?_
      refine Ar.outNormal ?_
      refine Ar.next ?_
      refine Wc.region rfl ?_
      refine Wl.q rfl (Qy.add rfl rfl (by omega)) ?_
      refine Wl.q rfl (Qy.move rfl) ?_
      refine Wl.done ?_
      refine Ar.again ((i + 1, q ++ [r9[(p.outs[((i : Nat) : Int).toNat]?.getD default).toNat]?.getD default], (a1, c1, junk1))) ?_ ?_ rfl ⟨rfl, rfl, rfl, rfl, rfl, rfl, rfl, rfl, trivial⟩ ⟨rfl, rfl, rfl, trivial⟩
      · refine ⟨by omega, by rw [List.length_append, hqi]; rfl, ?_, ho1⟩
        have e : (outsZ p rs).take (i + 1) = (outsZ p rs).take i ++ [rs[(p.outs[((i : Nat) : Int).toNat]?.getD default).toNat]?.getD 0] := by
          rw [List.take_add_one]
          congr 1
          unfold outsZ
          rw [List.getElem?_map, Int.toNat_natCast, List.getElem?_eq_getElem hio]; rfl
        rw [e]
        exact Bigs.snoc hbq (hg9.at (by omega))
      · show p.outs.length - (i + 1) < p.outs.length - i
        omega
    · have hii : i = p.outs.length := by omega
      subst hii
      refine Wc.seq ?_
      refine Wc.region rfl ?_
      refine Wl.q rfl (Qy.lss rfl rfl) ?_
      refine Wl.done ?_
      refine Ar.next ?_
      refine Wc.seq ?_
      refine Wc.condN rfl (by first | assumption | omega) ?_
      refine Wc.exit ?_
      refine Ar.passExit ?_
      refine Ar.passExit ?_
      refine Ar.here ?_
      refine Ar.next ?_
      refine Wc.seq ?_
      refine Wc.region rfl ?_
      refine Wl.q rfl (Qy.move rfl) ?_
      refine Wl.q rfl (Qy.assign rfl) ?_
      refine Wl.q rfl (Qy.assign rfl) ?_
      refine Wl.q rfl (Qy.assign rfl) ?_
      refine Wl.done ?_
      refine Ar.next ?_
      refine Wc.ret ?_
      refine Ar.freezeRow 0 rfl hoq (fun G8 hle8 hA => ?_)
      refine Ar.out3 (.inr rfl) (Ho := []) rfl (.tmp rfl) (.tmp rfl) (.tmp rfl) trivial ?_
      have hol : (outsZ p rs).length = p.outs.length := by unfold outsZ; rw [List.length_map]
      rw [List.take_of_length_le (by omega)] at hbq
      exact ⟨rfl, .inl ⟨outsZ p rs, o, q, d, by unfold ansZ; rw [hrs]; rfl, rfl, hA, hbq.up hle8, hqi⟩⟩
  · refine Wl.on0 ?_
    refine Gm.q 4 [] (by kernel_rfl) rfl rfl (Qy.assign rfl) ?_
    refine Gm.doneA (by kernel_rfl) trivial (by first | exact Imm.le_refl _ | assumption | (refine Imm.le_trans ?_ (by assumption); first | assumption | (refine Imm.le_trans ?_ (by assumption); assumption))) ?_
    refine Ar.next ?_
    refine Wc.seq ?_
    refine Wc.region rfl ?_
    refine Wl.q rfl (Qy.move rfl) ?_
    refine Wl.q rfl (Qy.geq rfl rfl) ?_
    refine Wl.done ?_
    refine Ar.next ?_
    refine Wc.condP rfl (by first | assumption | omega) ?_
    refine Wc.seq ?_
    refine Wc.region rfl ?_
    refine Wl.q rfl (Qy.move rfl) ?_
    refine Wl.q rfl (Qy.assign rfl) ?_
    refine Wl.q rfl (Qy.assign rfl) ?_
    refine Wl.q rfl (Qy.assign rfl) ?_
    refine Wl.done ?_
    refine Ar.next ?_
    refine Wc.ret ?_
    refine Ar.passRet ?_
    refine Ar.out3 (.inr rfl) (Ho := []) rfl (.tmp rfl) (.tmp rfl) (.tmp rfl) trivial ?_
    exact ⟨rfl, .inr ⟨by unfold ansZ; rw [hno]; rfl, k9, rfl⟩⟩
end Go.Proofs.Ytbppmiimeccclaa
set_option maxRecDepth 100000
set_option linter.unusedVariables false
namespace Go.Proofs.Ytbppmiimeccclaa
open Go Go.Sl
set_option maxHeartbeats 4000000
attribute [local irreducible] valB pb cmpZ lstWp p2 cst doZ checkP
theorem c22 (G : Imm) (a : Option Addr) (c : Nat) (l : List Int) (ha : Arr G a l) (h1 : l.length ≤ 1048576) (hl : ∀ x ∈ l, -9223372036854775808 ≤ x ∧ x ≤ 9223372036854775807) :
    Does Try.prog 22 [.slice a l.length c] G [] (fun v G' Ho => ∃ (b : Option Addr) (r : List IV) (c' : Nat), v = .slice b r.length c' ∧ Arr G' b r ∧ Bigs G' r l ∧ r.length ≤ c' ∧ Ho = []) := by
  refine Does.enter Try.func22 rfl Try.ntmps22 rfl (fun w => ?_)
  refine Wc.nilRow 9 (Row 61 ([] : List IV) []) ?_
  refine Wc.seq ?_
  refine Wc.region rfl ?_
  refine Wl.q rfl (Qy.assign rfl) ?_
  refine Wl.done ?_
  refine Ar.next ?_
  refine Wc.seq ?_
  refine Wc.region rfl ?_
  refine Wl.q rfl (Qy.assign rfl) ?_
  refine Wl.done ?_
  refine Ar.next ?_
  refine Wc.seq ?_
  refine Wc.seq ?_
  refine Wc.region rfl ?_
  refine Wl.q rfl (Qy.move rfl) ?_
  refine Wl.q rfl (Qy.len T.sl26 rfl) ?_
  refine Wl.q rfl (Qy.move rfl) ?_
  refine Wl.done ?_
  refine Ar.next ?_
  refine Wc.block ?_
  refine Wc.loopG (ι := Nat × Imm × List IV × (Option Addr × Nat × List Value)) (fun (i, Gx, r, (o, d, j)) => ([(8, .int .i64 (i : Int)), (3, .slice o r.length d), (7, Go.Value.int Go.IntKind.i64 (↑(List.length l) : Int)), (6, Go.Value.slice a (List.length l) c), (2, Go.Value.slice Option.none 0 0)], [(9, o.map (·.block), Row 61 r j)])) (fun (i, Gx, r, (o, d, j)) => Gx) (fun (i, Gx, r, (o, d, j)) => i ≤ l.length ∧ G.le Gx ∧ r.length = i ∧ Bigs Gx r (l.take i) ∧ OwnA o d r j) (fun (i, Gx, r, (o, d, j)) => l.length - i) ((0, G, [], (none, 0, []))) (⟨Nat.zero_le _, Imm.le_refl _, rfl, by rw [List.take_zero]; exact Bigs.nil _, OwnA.nil⟩) rfl ⟨rfl, rfl, rfl, rfl, rfl, trivial⟩ ⟨rfl, trivial⟩ (fun ⟨i, Gx, r, (o, d, j)⟩ => fun (hk : i ≤ l.length ∧ G.le Gx ∧ r.length = i ∧ Bigs Gx r (l.take i) ∧ OwnA o d r j) => ?_)
  obtain ⟨hi, hgx, hri, hbs, hob⟩ := hk
  replace ha := ha.up hgx
  rcases Nat.lt_or_ge i l.length with hil | hil
  · have hi9 : -9223372036854775808 ≤ l[((i : Nat) : Int).toNat]?.getD default ∧ l[((i : Nat) : Int).toNat]?.getD default ≤ 9223372036854775807 := by
      rw [Int.toNat_natCast, List.getElem?_eq_getElem hil]; exact hl _ (List.getElem_mem hil)
    refine Wc.seq ?_
    refine Wc.region rfl ?_
    refine Wl.q rfl (Qy.lss rfl rfl) ?_
    refine Wl.done ?_
    refine Ar.next ?_
    refine Wc.seq ?_
    refine Wc.condP rfl (by first | assumption | omega) ?_
    refine Wc.skip ?_
    refine Ar.next ?_
    refine Wc.seq ?_
    refine Wc.block ?_
    refine Wc.seq ?_
    refine Wc.region rfl ?_
    refine Wl.q rfl (Qy.at (α := Int) T.sl26 rfl rfl (by assumption) (by omega)) ?_
    refine Wl.q rfl (Qy.loadG T.one2 rfl (Arr.cell (by assumption) (by omega) 0 rfl rfl)) ?_
    refine Wl.q rfl (Qy.assign rfl) ?_
    refine Wl.done ?_
    refine Ar.next ?_
    refine Wc.region rfl ?_
    refine Wl.q rfl (Qy.move rfl) ?_
    refine Wl.q rfl (Qy.move rfl) ?_
    refine Wl.call 10 rfl T.fn51 rfl (c51 _ _ hi9) (tags_of trivial) (fun v1 G1 Ho1 hle1 hp => ?_)
    obtain ⟨ro1, rfl, hro1, rfl⟩ := hp
    replace hbs := hbs.up hle1
    replace ha := ha.up hle1
    refine Wl.lit (α := IV) 10 [(ro1)] rfl T.sl33 T.el61 rfl rfl rfl rfl rfl (fun b1 => ?_)
    refine Wl.append (α := IV) 9 rfl T.sl33 T.el61 rfl rfl rfl (by first | assumption | exact OwnA.nil | exact OwnA.made (by simp)) (Src.row 10 rfl) (by first | omega | (simp only [List.length_append, List.length_cons, List.length_nil, maxLen]; omega)) (by first | omega | (simp only [List.length_append, List.length_cons, List.length_nil, maxLen]; omega)) (fun a1 c1 junk1 ho1 => ?_)
    refine Wl.q rfl (Qy.assign rfl) ?_
    refine Wl.done ?_
    refine Ar.outNormal ?_
    refine Ar.next ?_
    refine Wc.region rfl ?_
    refine Wl.q rfl (Qy.add rfl rfl (by omega)) ?_
    refine Wl.q rfl (Qy.move rfl) ?_
    refine Wl.done ?_
    refine Ar.again ((i + 1, G1, r ++ [ro1], (a1, c1, junk1))) ?_ ?_ rfl ⟨rfl, rfl, rfl, rfl, rfl, trivial⟩ ⟨rfl, trivial⟩
    · refine ⟨by omega, Imm.le_trans hgx hle1, by rw [List.length_append, hri]; rfl, ?_, ho1⟩
      have e : l.take (i + 1) = l.take i ++ [l[((i : Nat) : Int).toNat]?.getD default] := by
        rw [List.take_add_one, Int.toNat_natCast, List.getElem?_eq_getElem hil]; rfl
      rw [e]
      exact Bigs.snoc hbs hro1
    · show l.length - (i + 1) < l.length - i
      omega
  · have hii : i = l.length := by omega
    subst hii
    refine Wc.seq ?_
    refine Wc.region rfl ?_
    refine Wl.q rfl (Qy.lss rfl rfl) ?_
    refine Wl.done ?_
    refine Ar.next ?_
    refine Wc.seq ?_
    refine Wc.condN rfl (by first | assumption | omega) ?_
    refine Wc.exit ?_
    refine Ar.passExit ?_
    refine Ar.passExit ?_
    refine Ar.here ?_
    refine Ar.next ?_
    refine Wc.seq ?_
    refine Wc.region rfl ?_
    refine Wl.q rfl (Qy.move rfl) ?_
    refine Wl.q rfl (Qy.assign rfl) ?_
    refine Wl.done ?_
    refine Ar.next ?_
    refine Wc.ret ?_
    refine Ar.freezeRow 9 rfl hob (fun G9 hle9 hA => ?_)
    refine Ar.out1 (.inr rfl) (Ho := []) rfl (.tmp rfl) trivial ?_
    refine ⟨o, r, d, rfl, hA, ?_, hob.le, rfl⟩
    rw [List.take_length] at hbs
    exact hbs.up hle9
theorem c21 (G : Imm) (a : Option Addr) (c : Nat) (xs : List Int) (hx : Arr G a xs) (hl : xs.length ≤ 1099511627776) :
    Does Try.prog 21 [.slice a xs.length c] G [] (fun v G' Ho => ∃ b d j, v = .slice b xs.length d ∧ OwnA b d xs j ∧ Ho = [(0, b.map (·.block), Row 2 xs j)] ∧ G' = G) := by
  refine Does.enter Try.func21 rfl Try.ntmps21 rfl (fun w => ?_)
  refine Wc.seq ?_
  refine Wc.region rfl ?_
  refine Wl.q rfl (Qy.assign rfl) ?_
  refine Wl.done ?_
  refine Ar.next ?_
  refine Wc.seq ?_
  refine Wc.seq ?_
  refine Wc.region rfl ?_
  refine Wl.q rfl (Qy.move rfl) ?_
  refine Wl.q rfl (Qy.eqlSliceNil T.sl26 rfl rfl) ?_
  refine Wl.done ?_
  refine Ar.next ?_
  refine Wc.cond rfl (fun hc1 => ?_) (fun hc1 => ?_)
  refine Wc.seq ?_
  refine Wc.region rfl ?_
  refine Wl.q rfl (Qy.assign rfl) ?_
  refine Wl.done ?_
  refine Ar.next ?_
  refine Wc.ret ?_
  refine Ar.passRet ?_
  rotate_left
  refine Wc.skip ?_
  refine Ar.next ?_
  refine Wc.seq ?_
  refine Wc.region rfl ?_
  refine Wl.lit0 0 rfl T.sl26 (fun b1 => ?_)
  refine Wl.q rfl (Qy.move rfl) ?_
  rotate_left
  · subst hc1
    have hn : xs = [] := by
      rcases hx.2 with h | ⟨b, o, h, _⟩
      · exact List.eq_nil_of_length_eq_zero h
      · cases h
    subst hn
    refine Ar.nilRow 0 (Row 2 ([] : List Int) []) ?_
    refine Ar.out1 (.inr rfl) (Ho := Hp.only _ [0]) rfl (.tmp rfl) (Hp.sub_only _ _) ?_
    exact ⟨none, 0, [], rfl, OwnA.nil, rfl, rfl⟩
  · refine Wl.reH 0 (Row 2 ([] : List Int) []) rfl rfl ?_
    refine Wl.append (α := Int) 0 rfl T.sl26 T.el2 rfl rfl rfl (OwnA.made (by simp)) (Src.arr (by assumption)) (by simp only [List.length_nil]; omega) (by simp only [List.length_nil, maxLen]; omega) (fun a1 c1 junk1 ho1 => ?_)
    refine Wl.q rfl (Qy.assign rfl) ?_
    refine Wl.done ?_
    refine Ar.next ?_
    refine Wc.ret ?_
    refine Ar.out1 (.inr rfl) (Ho := Hp.only _ [0]) rfl (.tmp rfl) (Hp.sub_only _ _) ?_
    exact ⟨_, _, _, rfl, ho1, rfl, rfl⟩
theorem c61 (G : Imm) (x y : IV) (zx zy : Int) (hx9 : Big G x zx) (hy9 : Big G y zy) (hx5 : x.n ≤ 1073741824) (hy5 : y.n ≤ 1073741824) :
    Does Try.prog 61 [.agg (Cells.enc x).toArray, .agg (Cells.enc y).toArray] G [] (fun v G' Ho => v = .bool (decide (zx = zy)) ∧ G' = G ∧ Ho = []) := by
  refine Does.enter Try.func61 rfl Try.ntmps61 rfl (fun w => ?_)
  refine Wc.seq ?_
  refine Wc.region rfl ?_
  refine Wl.box 0 rfl rfl rfl (fun b1 => ?_)
  refine Wl.box 1 rfl rfl rfl (fun b2 => ?_)
  refine Wl.q rfl (Qy.assign rfl) ?_
  refine Wl.done ?_
  refine Ar.next ?_
  refine Wc.seq ?_
  refine Wc.region rfl ?_
  refine Wl.q rfl (Qy.loadAll 0 T.agg61 rfl rfl rfl) ?_
  refine Wl.q rfl (Qy.loadAll 1 T.agg61 rfl rfl rfl) ?_
  refine Wl.call0 rfl T.fn62 rfl (c62 _ _ _ _ _ hx9 hy9 hx5 hy5) ?_
  refine Wl.q rfl (Qy.eql rfl rfl) ?_
  refine Wl.q rfl (Qy.assign rfl) ?_
  refine Wl.done ?_
  refine Ar.next ?_
  refine Wc.ret ?_
  refine Ar.out1 (.inr rfl) (Ho := Hp.only _ []) rfl (.tmp rfl) (Hp.sub_only _ _) ?_
  exact ⟨by rw [decide_eq_decide.2 (show cmpZ zx zy = 0 ↔ zx = zy from ⟨cmpZ_zero, cmpZ_eq⟩)], rfl, rfl⟩
theorem c60 (G : Imm) (a b : Option Addr) (ca cb : Nat) (la lb : List IV) (za zb : List Int) (ha : Arr G a la) (hb : Arr G b lb) (hA : Bigs G la za) (hB : Bigs G lb zb) (h1 : la.length ≤ 1048576) (h2 : lb.length ≤ 1048576) (m : Nat) (hm : m ≤ 268435456) (ba : Below m za) (bb : Below m zb) :
    Does Try.prog 60 [.slice a la.length ca, .slice b lb.length cb, .func (.func 61) #[] #[]] G [] (fun v G' Ho => v = .bool (decide (za = zb)) ∧ G' = G ∧ Ho = []) := by
  have e1 := hA.1
  have e2 := hB.1
  refine Does.enter Try.func60 rfl Try.ntmps60 rfl (fun w => ?_)
  by_cases hn : la.length = lb.length
  · refine Wc.seq ?_
    refine Wc.region rfl ?_
    refine Wl.q rfl (Qy.assign rfl) ?_
    refine Wl.done ?_
    refine Ar.next ?_
    refine Wc.seq ?_
    refine Wc.seq ?_
    refine Wc.region rfl ?_
    refine Wl.q rfl (Qy.move rfl) ?_
    refine Wl.q rfl (Qy.len T.sl33 rfl) ?_
    refine Wl.q rfl (Qy.move rfl) ?_
    refine Wl.q rfl (Qy.len T.sl33 rfl) ?_
    refine Wl.q rfl (Qy.neq rfl rfl) ?_
    refine Wl.done ?_
    refine Ar.next ?_
    refine Wc.condN rfl (by first | assumption | omega) ?_
    refine Wc.skip ?_
    refine Ar.next ?_
    refine Wc.seq ?_
    refine Wc.seq ?_
    refine Wc.region rfl ?_
    refine Wl.q rfl (Qy.move rfl) ?_
    refine Wl.q rfl (Qy.len T.sl33 rfl) ?_
    refine Wl.q rfl (Qy.move rfl) ?_
    refine Wl.done ?_
    refine Ar.next ?_
    refine Wc.block ?_
    refine Wc.loop (ι := Nat) (fun i => ([(17, .int .i64 (i : Int)), (16, Go.Value.int Go.IntKind.i64 (↑(List.length la) : Int)), (15, Go.Value.slice a (List.length la) ca), (1, Go.Value.slice b (List.length lb) cb), (2, Go.Value.func (Go.Fn.func 61) #[] #[])], [])) (fun i => i ≤ la.length ∧ za.take i = zb.take i) (fun i => la.length - i) (0) (⟨Nat.zero_le _, rfl⟩) ⟨rfl, rfl, rfl, rfl, rfl, trivial⟩ trivial (fun i => fun (hk : i ≤ la.length ∧ za.take i = zb.take i) => ?_)
    obtain ⟨hi, hz⟩ := hk
    rcases Nat.lt_or_ge i la.length with hia | hia
    · have hx9 := hA.at (k := (i : Int)) (by omega)
      have hy9 := hB.at (k := (i : Int)) (by omega)
      have hx5 := Nat.le_trans (Big.len hx9 (ba.at _)) (Nat.le_trans hm (show 268435456 ≤ 1073741824 by decide))
      have hy5 := Nat.le_trans (Big.len hy9 (bb.at _)) (Nat.le_trans hm (show 268435456 ≤ 1073741824 by decide))
      refine Wc.seq ?_
      refine Wc.region rfl ?_
      refine Wl.q rfl (Qy.lss rfl rfl) ?_
      refine Wl.done ?_
      refine Ar.next ?_
      refine Wc.seq ?_
      refine Wc.condP rfl (by first | assumption | omega) ?_
      refine Wc.skip ?_
      refine Ar.next ?_
      refine Wc.seq ?_
      refine Wc.block ?_
      refine Wc.seq ?_
      refine Wc.region rfl ?_
      refine Wl.q rfl (Qy.move rfl) ?_
      refine Wl.q rfl (Qy.at (α := IV) T.sl33 rfl rfl (by assumption) (by omega)) ?_
      refine Wl.q rfl (Qy.loadsG T.agg61 rfl (Arr.elem (by assumption) (by omega)) rfl) ?_
      refine Wl.alloc 0 rfl T.zero61 (fun b1 => ?_)
      refine Wl.q rfl (Qy.assign rfl) ?_
      refine Wl.storeAll 0 T.size61 rfl rfl rfl rfl rfl rfl ?_
      refine Wl.done ?_
      refine Ar.next ?_
      refine Wc.seq ?_
      refine Wc.region rfl ?_
      refine Wl.q rfl (Qy.move rfl) ?_
      refine Wl.q rfl (Qy.move rfl) ?_
      refine Wl.q rfl (Qy.at (α := IV) T.sl33 rfl rfl (by assumption) (by omega)) ?_
      refine Wl.q rfl (Qy.loadsG T.agg61 rfl (Arr.elem (by assumption) (by omega)) rfl) ?_
      refine Wl.alloc 1 rfl T.zero61 (fun b2 => ?_)
      refine Wl.storeAll 1 T.size61 rfl rfl rfl rfl rfl rfl ?_
      refine Wl.done ?_
      refine Ar.next ?_
      refine Wc.seq ?_
      refine Wc.region rfl ?_
      refine Wl.q rfl (Qy.move rfl) ?_
      refine Wl.q rfl (Qy.loadAll 0 T.agg61 rfl rfl rfl) ?_
      refine Wl.q rfl (Qy.loadAll 1 T.agg61 rfl rfl rfl) ?_
      refine Wl.callV (fst := []) (cap := []) 2 rfl T.fn61 rfl rfl (c61 _ _ _ _ _ hx9 hy9 hx5 hy5) (tags_of trivial) (fun v1 G1 Ho1 hle1 hp => ?_)
      obtain ⟨rfl, rfl, rfl⟩ := hp
      refine Wl.q rfl (Qy.notD rfl) ?_
      refine Wl.done ?_
      refine Ar.next ?_
      refine Wc.cond rfl (fun hc1 => ?_) (fun hc1 => ?_)
      refine Wc.seq ?_
      refine Wc.region rfl ?_
      refine Wl.q rfl (Qy.assign rfl) ?_
      refine Wl.done ?_
      refine Ar.next ?_
      refine Wc.ret ?_
      refine Ar.outRet ?_
      refine Ar.passRet ?_
      refine Ar.passRet ?_
      refine Ar.outRet ?_
      refine Ar.passRet ?_
      refine Ar.out1 (.inr rfl) (Ho := Hp.only _ []) rfl (.tmp rfl) (Hp.sub_only _ _) ?_
      rotate_left
      refine Wc.skip ?_
      refine Ar.outNormal ?_
      refine Ar.next ?_
      refine Wc.region rfl ?_
      refine Wl.q rfl (Qy.add rfl rfl (by omega)) ?_
      refine Wl.q rfl (Qy.move rfl) ?_
      refine Wl.done ?_
      rotate_left
      · exact ⟨by rw [decide_eq_false (fun h => hc1 (by rw [h]))], rfl, rfl⟩
      · refine Ar.again (i + 1) ?_ ?_ rfl ⟨rfl, rfl, rfl, rfl, rfl, trivial⟩ trivial
        · exact ⟨by omega, take_next hz (by omega) (by omega) (Decidable.not_not.1 hc1)⟩
        · omega
    · have hii : i = la.length := by omega
      subst hii
      rw [List.take_of_length_le (by omega), List.take_of_length_le (by omega)] at hz
      refine Wc.seq ?_
      refine Wc.region rfl ?_
      refine Wl.q rfl (Qy.lss rfl rfl) ?_
      refine Wl.done ?_
      refine Ar.next ?_
      refine Wc.seq ?_
      refine Wc.condN rfl (by first | assumption | omega) ?_
      refine Wc.exit ?_
      refine Ar.passExit ?_
      refine Ar.passExit ?_
      refine Ar.here ?_
      refine Ar.next ?_
      refine Wc.seq ?_
      refine Wc.region rfl ?_
      refine Wl.q rfl (Qy.assign rfl) ?_
      refine Wl.done ?_
      refine Ar.next ?_
      refine Wc.ret ?_
      refine Ar.out1 (.inr rfl) (Ho := Hp.only _ []) rfl (.tmp rfl) (Hp.sub_only _ _) ?_
      exact ⟨by rw [decide_eq_true hz], rfl, rfl⟩
  · have hne : za ≠ zb := fun h => hn (by rw [e1, e2, h])
    refine Wc.seq ?_
    refine Wc.region rfl ?_
    refine Wl.q rfl (Qy.assign rfl) ?_
    refine Wl.done ?_
    refine Ar.next ?_
    refine Wc.seq ?_
    refine Wc.seq ?_
    refine Wc.region rfl ?_
    refine Wl.q rfl (Qy.move rfl) ?_
    refine Wl.q rfl (Qy.len T.sl33 rfl) ?_
    refine Wl.q rfl (Qy.move rfl) ?_
    refine Wl.q rfl (Qy.len T.sl33 rfl) ?_
    refine Wl.q rfl (Qy.neq rfl rfl) ?_
    refine Wl.done ?_
    refine Ar.next ?_
    refine Wc.condP rfl (by first | assumption | omega) ?_
    refine Wc.seq ?_
    refine Wc.region rfl ?_
    refine Wl.q rfl (Qy.assign rfl) ?_
    refine Wl.done ?_
    refine Ar.next ?_
    refine Wc.ret ?_
    refine Ar.passRet ?_
    refine Ar.out1 (.inr rfl) (Ho := Hp.only _ []) rfl (.tmp rfl) (Hp.sub_only _ _) ?_
    exact ⟨by rw [decide_eq_false hne], rfl, rfl⟩
theorem c23 (G : Imm) (a b : Option Addr) (ca cb : Nat) (la lb : List IV) (za zb : List Int) (ha : Arr G a la) (hb : Arr G b lb) (hA : Bigs G la za) (hB : Bigs G lb zb) (h1 : la.length ≤ 1048576) (h2 : lb.length ≤ 1048576) (m : Nat) (hm : m ≤ 268435456) (ba : Below m za) (bb : Below m zb) :
    Does Try.prog 23 [.slice a la.length ca, .slice b lb.length cb] G [] (fun v G' Ho => v = .bool (decide (za = zb)) ∧ G' = G ∧ Ho = []) := by
  refine Does.enter Try.func23 rfl Try.ntmps23 rfl (fun w => ?_)
  refine Wc.seq ?_
  refine Wc.region rfl ?_
  refine Wl.q rfl (Qy.assign rfl) ?_
  refine Wl.done ?_
  refine Ar.next ?_
  refine Wc.seq ?_
  refine Wc.region rfl ?_
  refine Wl.q rfl (Qy.move rfl) ?_
  refine Wl.q rfl (Qy.move rfl) ?_
  refine Wl.call0 rfl T.fn60 rfl (c60 G _ _ _ _ _ _ za zb ha hb hA hB h1 h2 m hm ba bb) ?_
  refine Wl.q rfl (Qy.assign rfl) ?_
  refine Wl.done ?_
  refine Ar.next ?_
  refine Wc.ret ?_
  refine Ar.out1 (.inr rfl) (Ho := Hp.only _ []) rfl (.tmp rfl) (Hp.sub_only _ _) ?_
  exact ⟨rfl, rfl, rfl⟩
end Go.Proofs.Ytbppmiimeccclaa
namespace Go.Proofs.Ytbppmiimeccclaa
open Go Go.Sl
set_option maxRecDepth 100000
set_option maxHeartbeats 2000000
theorem cell_one {G : Imm} {b : Nat} {cs : List Value} {T : TypeId} {fz : Nat × Nat} (h : G b = some (.cells cs.toArray T fz)) (k : Nat) {v : Value} (hv : cs[k]? = some v) : G.cell b k = some v := by
  simp only [Imm.cell, h]; simpa using hv
theorem row_all {G : Imm} {b : Nat} {cs : List Value} {T : TypeId} {fz : Nat × Nat} (h : G b = some (.cells cs.toArray T fz)) : G.row b 0 cs := by
  intro i v hi; simp only [Imm.cell, h, Nat.zero_add]; simpa using hi
theorem c106 (G : Imm) (a : Option Addr) (n c : Nat) : Does Try.prog 106 [.slice a n c] G [] (fun v G' Ho => ∃ b, v = .func (.func 141) #[] #[.pointer (some ⟨b, 0, none⟩)] ∧ Ho = [] ∧ G' b = some (.cells [.slice a n c].toArray 22)) := by
  refine Does.enter Try.func106 rfl Try.ntmps106 rfl (fun w => ?_)
  refine Wc.seq ?_
  refine Wc.region rfl ?_
  refine Wl.box 0 rfl rfl rfl (fun b1 => ?_)
  refine Wl.q rfl (Qy.assign rfl) ?_
  refine Wl.done ?_
  refine Ar.next ?_
  refine Wc.seq ?_
  refine Wc.region rfl ?_
  refine Wl.q rfl (Qy.makeFunc rfl rfl) ?_
  refine Wl.q rfl (Qy.assign rfl) ?_
  refine Wl.done ?_
  refine Ar.next ?_
  refine Wc.ret ?_
  refine Ar.freeze 0 rfl (fun G' hle hb => ?_)
  refine Ar.out1 (.inr rfl) (Ho := []) rfl (.tmp rfl) trivial ?_
  exact ⟨_, rfl, rfl, hb⟩
/-- a list's elements from behind, with their places -/
def backL (xs : List Sl.Instr) : List (Int × Sl.Instr) := (List.range xs.length).map fun j => (((xs.length - 1 - j : Nat) : Int), xs[xs.length - 1 - j]?.getD default)
def encB (x : Int × Sl.Instr) : List Value := [.int .i64 x.1, .agg (Cells.enc x.2).toArray]
theorem backL_len (xs : List Sl.Instr) : (backL xs).length = xs.length := by simp [backL]
theorem backL_get (xs : List Sl.Instr) {j : Nat} (h : j < xs.length) : (backL xs)[j]? = some (((xs.length - 1 - j : Nat) : Int), xs[xs.length - 1 - j]?.getD default) := by simp [backL, h]
theorem c141 (G : Imm) (a : Option Addr) (c : Nat) (xs : List Sl.Instr) (b : Nat) (hx : Arr G a xs) (hl : xs.length ≤ 1099511627776) (hb : G b = some (.cells [.slice a xs.length c].toArray 22)) :
    IterDoes Try.prog 141 [.pointer (some ⟨b, 0, none⟩)] G encB (backL xs) := by
  intro ι J inv stop ly i0 hi0 hY
  have hcell : G.cell b 0 = some (.slice a xs.length c) := cell_one hb 0 rfl
  refine Does.enter Try.func141 rfl Try.ntmps141 rfl (fun w => ?_)
  refine Wc.lift 1000 ?_
  refine Wc.seq ?_
  refine Wc.region rfl ?_
  refine Wl.q rfl (Qy.loadG T.one22 rfl (by assumption)) ?_
  refine Wl.q rfl (Qy.len T.sl22 rfl) ?_
  refine Wl.q rfl (Qy.sub rfl rfl (by omega)) ?_
  refine Wl.q rfl (Qy.assign rfl) ?_
  refine Wl.done ?_
  refine Ar.next ?_
  refine Wc.block ?_
  refine Wc.loopT (ι := Int × ι) 1000 (fun (m, s) => ([(3, .int .i64 m), (0, Go.Value.func (Go.Fn.yield ly) #[] #[]), (1, Go.Value.pointer (Option.some (Go.Addr.mk b 0 Option.none)))], [])) (fun (m, s) => J s) (fun (m, s) => -1 ≤ m ∧ m < (xs.length : Int) ∧ inv ((xs.length : Int) - 1 - m).toNat s) (fun (m, s) => (m + 1).toNat) (((xs.length : Int) - 1, i0)) (⟨by omega, by omega, by rw [show ((xs.length : Int) - 1 - ((xs.length : Int) - 1)).toNat = 0 by omega]; exact hi0⟩) ⟨rfl, rfl, rfl, trivial⟩ trivial (by repeat (first | exact Hp.tl_self _ _ | refine Hp.tl_cons rfl ?_)) (fun ⟨m, s⟩ => fun (hk : -1 ≤ m ∧ m < (xs.length : Int) ∧ inv ((xs.length : Int) - 1 - m).toNat s) => ?_)
  obtain ⟨hm1, hm2, hinv⟩ := hk
  refine Wc.seq ?_
  refine Wc.seq ?_
  refine Wc.region rfl ?_
  refine Wl.q rfl (Qy.move rfl) ?_
  refine Wl.q rfl (Qy.geq rfl rfl) ?_
  refine Wl.done ?_
  refine Ar.next ?_
  refine Wc.cond rfl (fun hc1 => ?_) (fun hc1 => ?_)
  refine Wc.skip ?_
  refine Ar.next ?_
  refine Wc.seq ?_
  refine Wc.block ?_
  refine Wc.seq ?_
  refine Wc.region rfl ?_
  refine Wl.q rfl (Qy.move rfl) ?_
  refine Wl.q rfl (Qy.move rfl) ?_
  refine Wl.q rfl (Qy.loadG T.one22 rfl (by assumption)) ?_
  refine Wl.q rfl (Qy.move rfl) ?_
  refine Wl.q rfl (Qy.at (α := Instr) T.sl22 rfl rfl (by assumption) (by omega)) ?_
  refine Wl.q rfl (Qy.loadsG T.agg72 rfl (Arr.elem (by assumption) (by omega)) rfl) ?_
  rotate_left
  refine Wc.exit ?_
  refine Ar.passExit ?_
  refine Ar.passExit ?_
  refine Ar.here ?_
  rotate_left
  · have hbx : (backL xs)[((xs.length : Int) - 1 - m).toNat]? = some (m, xs[m.toNat]?.getD default) := by
      rw [backL_get xs (by omega)]
      have e1 : xs.length - 1 - ((xs.length : Int) - 1 - m).toNat = m.toNat := by omega
      rw [e1]
      have e2 : ((m.toNat : Nat) : Int) = m := by omega
      rw [e2]
    refine Wl.yieldT (A := []) 1000 rfl rfl rfl trivial (by repeat (first | exact Hp.tl_self _ _ | refine Hp.tl_cons rfl ?_)) rfl (hY ((xs.length : Int) - 1 - m).toNat _ s hbx hinv) (fun vy Gy Hy hly hp => ?_)
    obtain ⟨rfl, s', rfl, hp⟩ := hp
    rcases hp with ⟨rfl, hinv'⟩ | ⟨rfl, hst⟩
    · refine Wl.q rfl (Qy.not rfl) ?_
      refine Wl.done ?_
      refine Ar.next ?_
      refine Wc.condF rfl ?_
      refine Wc.skip ?_
      refine Ar.outNormal ?_
      refine Ar.next ?_
      refine Wc.region rfl ?_
      refine Wl.q rfl (Qy.move rfl) ?_
      refine Wl.q rfl (Qy.sub rfl rfl (by omega)) ?_
      refine Wl.q rfl (Qy.assign rfl) ?_
      refine Wl.done ?_
      refine Ar.againT ((m - 1, s')) ?_ ?_ ⟨rfl, rfl, rfl, trivial⟩ trivial (by repeat (first | exact Hp.tl_self _ _ | refine Hp.tl_cons rfl ?_))
      · refine ⟨by omega, by omega, ?_⟩
        rw [show ((xs.length : Int) - 1 - (m - 1)).toNat = ((xs.length : Int) - 1 - m).toNat + 1 by omega]
        exact hinv'
      · show (m - 1 + 1).toNat < (m + 1).toNat
        omega
    · refine Wl.q rfl (Qy.not rfl) ?_
      refine Wl.done ?_
      refine Ar.next ?_
      refine Wc.condT rfl ?_
      refine Wc.ret ?_
      refine Ar.outRet ?_
      refine Ar.passRet ?_
      refine Ar.passRet ?_
      refine Ar.outRet ?_
      refine Ar.outT (k := 1000) (.inr rfl) rfl (by repeat (first | exact Hp.tl_self _ _ | refine Hp.tl_cons rfl ?_)) ⟨rfl, s', rfl, .inr hst⟩
  · have hm : m = -1 := by omega
    subst hm
    refine Ar.outT (k := 1000) (.inl rfl) rfl (by repeat (first | exact Hp.tl_self _ _ | refine Hp.tl_cons rfl ?_)) ⟨rfl, s, rfl, .inl ?_⟩
    rw [backL_len]
    rw [show ((xs.length : Int) - 1 - -1).toNat = xs.length by omega] at hinv
    exact hinv
/-- the iterator over a program's instructions from behind -/
theorem c58 (G : Imm) (p : PV) (ac ao : Option Addr) (cc co : Nat) :
    Does Try.prog 58 [.agg #[.int .i64 p.ins, .int .i64 p.regs, .slice ac p.code.length cc, .slice ao p.outs.length co]] G [] (fun v G' Ho =>
      ∃ b, v = .func (.func 104) #[] #[.pointer (some ⟨b, 0, none⟩)] ∧ Ho = [] ∧ G' b = some (.cells [.int .i64 p.ins, .int .i64 p.regs, .slice ac p.code.length cc, .slice ao p.outs.length co].toArray 25)) := by
  refine Does.enter Try.func58 rfl Try.ntmps58 rfl (fun w => ?_)
  refine Wc.seq ?_
  refine Wc.region rfl ?_
  refine Wl.box 0 rfl rfl rfl (fun b1 => ?_)
  refine Wl.q rfl (Qy.assign rfl) ?_
  refine Wl.done ?_
  refine Ar.next ?_
  refine Wc.seq ?_
  refine Wc.region rfl ?_
  refine Wl.q rfl (Qy.makeFunc rfl rfl) ?_
  refine Wl.q rfl (Qy.assign rfl) ?_
  refine Wl.done ?_
  refine Ar.next ?_
  refine Wc.ret ?_
  refine Ar.freeze 0 rfl (fun G' hle hb => ?_)
  refine Ar.out1 (.inr rfl) (Ho := []) rfl (.tmp rfl) trivial ?_
  exact ⟨_, rfl, rfl, hb⟩
theorem c104R (G : Imm) (p : PV) (ac ao : Option Addr) (cc co : Nat) (b : Nat) (hc : Arr G ac p.code) (ho : Arr G ao p.outs) (h1 : p.code.length ≤ 1099511627776) (h2 : p.outs.length ≤ 1099511627776)
    (hb : G b = some (.cells [.int .i64 p.ins, .int .i64 p.regs, .slice ac p.code.length cc, .slice ao p.outs.length co].toArray 25)) (hR : rightP p = true) :
    IterDoes Try.prog 104 [.pointer (some ⟨b, 0, none⟩)] G encB (backL p.code) := by
  intro ι J inv stop ly i0 hi0 hY
  have hrow := row_all hb
  have hcode := cell_one hb 2 rfl
  refine Does.enterM Try.func104 rfl Try.ntmps104 rfl (fun w => ?_)
  refine Wc.lift 1000 ?_
  refine Wc.seq ?_
  refine Wc.region rfl ?_
  refine Wl.box 0 rfl rfl rfl (fun b1 => ?_)
  refine Wl.done ?_
  refine Ar.next ?_
  refine Wc.seq ?_
  refine Wc.seq ?_
  refine Wc.region rfl ?_
  refine Wl.q rfl (Qy.loadsG T.agg25 rfl (by assumption) rfl) ?_
  refine Wl.call0 rfl T.fn105 rfl (c105 _ _ _ _ _ _ (by assumption) (by assumption) (by omega) (by omega)) ?_
  refine Wl.q rfl (Qy.notD rfl) ?_
  refine Wl.done ?_
  refine Ar.next ?_
  refine Wc.cond rfl (fun hc1 => ?_) (fun hc1 => ?_)
  refine Wc.ret ?_
  refine Ar.passRet ?_
  refine Ar.outOf (.inr rfl) ?_
  rotate_left
  refine Wc.skip ?_
  refine Ar.next ?_
  refine Wc.seq ?_
  refine Wc.region rfl ?_
  refine Wl.q rfl (Qy.fieldAddr T.fa25_2 rfl) ?_
  refine Wl.q rfl (Qy.loadG T.one22 rfl (by assumption)) ?_
  refine Wl.call 1 rfl T.fn106 rfl (c106 _ _ _ _) (tags_of trivial) (fun v1 G1 Ho1 hle1 hp => ?_)
  obtain ⟨bk1, rfl, rfl, hbk1⟩ := hp
  replace hc := hc.up hle1
  replace ho := ho.up hle1
  refine Wl.done ?_
  refine Ar.next ?_
  refine Wc.block ?_
  rotate_left
  · exact absurd hR hc1
  refine Wc.rangeFunc (ι := ι) 900 901 (fun s => [(0, Option.some b1, Go.Obj.cells #[Go.Value.func (Go.Fn.yield ly) #[] #[]] 158)] ++ Hp.shift 1000 (J s)) (fun k s => inv k s) (fun c s => c = Code.ret ∧ stop s) (i0) rfl T.fn141 (fun _ => rfl) rfl (c141 _ ac cc p.code bk1 hc h1 hbk1) (hi0) (Hp.got_app ⟨rfl, trivial⟩ (by repeat (first | exact Hp.tl_self _ _ | refine Hp.tl_cons rfl ?_))) ⟨rfl, fun _ => Hp.none_app rfl rfl⟩ (fun k x s l dd q w0 hx hi => ?_) (fun s dd hi => ?_) (fun s dd c hi => ?_)
  · refine Wc.seq ?_
    refine Wc.region rfl ?_
    refine Wl.q rfl (Qy.assign rfl) ?_
    refine Wl.done ?_
    refine Ar.next ?_
    refine Wc.region rfl ?_
    refine Wl.alloc 902 rfl T.zero72 (fun b2 => ?_)
    refine Wl.storeAll 902 T.size72 rfl rfl rfl rfl rfl rfl ?_
    refine Wl.done ?_
    refine Ar.begin 900 rfl ?_
    refine Wc.block ?_
    refine Wc.seq ?_
    refine Wc.region rfl ?_
    refine Wl.q rfl (Qy.load 0 T.one158 rfl rfl rfl) ?_
    refine Wl.q rfl (Qy.move rfl) ?_
    refine Wl.q rfl (Qy.loadAll 902 T.agg72 rfl rfl rfl) ?_
    refine Wl.yieldT (A := [(900, Option.some l, Go.Sl.lrec q Go.LoopState.busy Option.none), (902, Option.some b2, Go.Obj.cells (List.toArray (Go.Sl.Cells.enc (Prod.snd x))) 72), (901, Option.some dd, Go.Obj.deferred (Option.some [])), (0, Option.some b1, Go.Obj.cells #[Go.Value.func (Go.Fn.yield ly) #[] #[]] 158)]) 1000 rfl rfl rfl ⟨rfl, rfl, rfl, rfl, trivial⟩ (by repeat (first | exact Hp.tl_self _ _ | refine Hp.tl_cons rfl ?_)) rfl ((hY k x s hx hi).up hle1) (fun vy Gy Hy hly hp => ?_)
    obtain ⟨rfl, s', rfl, hp⟩ := hp
    rcases hp with ⟨rfl, hinv'⟩ | ⟨rfl, hst⟩
    · refine Wl.q rfl (Qy.not rfl) ?_
      refine Wl.done ?_
      refine Ar.next ?_
      refine Wc.condF rfl ?_
      refine Wc.skip ?_
      refine Ar.outNormal ?_
      refine Ar.roundEnd none (.inl ⟨rfl, rfl⟩) 900 rfl ⟨rfl, (s', none), rfl, .inl ⟨rfl, rfl, ?_⟩⟩ (Hp.got_cons rfl (Hp.got_cons rfl (Hp.got_app ⟨rfl, trivial⟩ (by repeat (first | exact Hp.tl_self _ _ | refine Hp.tl_cons rfl ?_)))))
      exact hinv'
    · refine Wl.q rfl (Qy.not rfl) ?_
      refine Wl.done ?_
      refine Ar.next ?_
      refine Wc.condT rfl ?_
      refine Wc.ret ?_
      refine Ar.outRet ?_
      refine Ar.roundEnd (some (.ret)) (.inr (.inl ⟨rfl, rfl⟩)) 900 rfl ⟨rfl, (s', some (.ret)), rfl, .inr ⟨rfl, _, rfl, ?_⟩⟩ (Hp.got_cons rfl (Hp.got_cons rfl (Hp.got_app ⟨rfl, trivial⟩ (by repeat (first | exact Hp.tl_self _ _ | refine Hp.tl_cons rfl ?_)))))
      exact ⟨rfl, hst⟩
  · refine Ar.outNormal ?_
    refine Ar.collect (.inl rfl) 901 rfl ?_
    refine Ar.outOf (.inr rfl) ?_
    refine Ar.base ?_
    refine Ar.outT (k := 1000) (.inr rfl) rfl (by repeat (first | exact Hp.tl_self _ _ | refine Hp.tl_cons rfl ?_)) ⟨rfl, s, rfl, .inl hi⟩
  · obtain ⟨rfl, hst⟩ := hi
    refine Wc.ret ?_
    refine Ar.outRet ?_
    refine Ar.collect (.inr rfl) 901 rfl ?_
    refine Ar.outOf (.inr rfl) ?_
    refine Ar.base ?_
    refine Ar.outT (k := 1000) (.inr rfl) rfl (by repeat (first | exact Hp.tl_self _ _ | refine Hp.tl_cons rfl ?_)) ⟨rfl, s, rfl, .inr hst⟩
end Go.Proofs.Ytbppmiimeccclaa
namespace Go.Proofs.Ytbppmiimeccclaa
open Go Go.Sl
set_option maxRecDepth 100000
set_option maxHeartbeats 2000000
/-- some registers are asked -/
def setAll (l : List Bool) (rs : List Int) : List Bool := rs.foldl (fun l r => l.set r.toNat true) l
theorem setAll_len (l : List Bool) (rs : List Int) : (setAll l rs).length = l.length := by
  unfold setAll
  induction rs generalizing l with
  | nil => rfl
  | cons r rs ih => simp only [List.foldl_cons]; rw [ih, List.length_set]
theorem setAll_step (l : List Bool) (rs : List Int) {k : Nat} (h : k < rs.length) : setAll l (rs.take (k + 1)) = (setAll l (rs.take k)).set (rs[((k : Nat) : Int).toNat]?.getD default).toNat true := by
  unfold setAll
  rw [List.take_add_one, List.foldl_append, Int.toNat_natCast, List.getElem?_eq_getElem h]
  rfl
/-- one instruction from behind: whether it is needed, what is asked ahead of it -/
def needStep (s : List Bool × List Bool) (k : Int) (i : Sl.Instr) : List Bool × List Bool :=
  if s.1[i.to.toNat]?.getD default = true then (setAll (s.1.set i.to.toNat false) (asks i), s.2.set k.toNat true) else s
def needTo (p : PV) : Nat → List Bool × List Bool
  | 0 => (setAll (List.replicate p.regs.toNat false) p.outs, List.replicate p.code.length false)
  | j + 1 => needStep (needTo p j) ((p.code.length - 1 - j : Nat) : Int) (p.code[p.code.length - 1 - j]?.getD default)
def neededP (p : PV) : List Bool := (needTo p p.code.length).2
theorem needTo_len (p : PV) (j : Nat) : (needTo p j).1.length = p.regs.toNat ∧ (needTo p j).2.length = p.code.length := by
  induction j with
  | zero => simp [needTo, setAll_len]
  | succ j ih =>
    simp only [needTo, needStep]
    split
    · simp [setAll_len, ih]
    · exact ih
theorem asks_in {i : Sl.Instr} {regs : Int} (h : mayOk i regs = true) : ∀ r ∈ asks i, 0 ≤ r ∧ r < regs := by
  unfold mayOk at h
  simp only [Bool.and_eq_true, List.all_eq_true, decide_eq_true_eq] at h
  exact h.2
theorem c100 (G : Imm) (p : PV) (ac ao : Option Addr) (cc co : Nat) (hc : Arr G ac p.code) (ho : Arr G ao p.outs) (h1 : p.code.length ≤ 1099511627776) (h2 : p.outs.length ≤ 1099511627776) (hR : rightP p = true) :
    Does Try.prog 100 [.agg #[.int .i64 p.ins, .int .i64 p.regs, .slice ac p.code.length cc, .slice ao p.outs.length co]] G [] (fun v G' Ho => ∃ b c j, v = .slice b (neededP p).length c ∧ OwnA b c (neededP p) j ∧ Ho = [(0, b.map (·.block), Row 4 (neededP p) j)] ∧ G' = G) := by
  obtain ⟨r1, r2, r3, r4, r5, r6, r7, r8⟩ := right_facts hR
  refine Does.enterM Try.func100 rfl Try.ntmps100 rfl (fun w => ?_)
  refine Wc.seq ?_
  refine Wc.region rfl ?_
  refine Wl.box 0 rfl rfl rfl (fun b1 => ?_)
  refine Wl.q rfl (Qy.assign rfl) ?_
  refine Wl.done ?_
  refine Ar.next ?_
  refine Wc.scope ?_
  refine Wc.seq ?_
  refine Wc.region rfl ?_
  refine Wl.q rfl (Qy.fieldAddr T.fa25_1 rfl) ?_
  refine Wl.q rfl (Qy.load 0 T.one3 rfl rfl rfl) ?_
  refine Wl.make (α := Bool) 1 rfl T.sl41 T.el4 rfl rfl (by omega) (by omega) (fun b2 => ?_)
  refine Wl.alloc 2 rfl T.zero41 (fun b3 => ?_)
  refine Wl.store 2 T.one41 rfl rfl rfl rfl rfl ?_
  refine Wl.done ?_
  refine Ar.next ?_
  refine Wc.seq ?_
  refine Wc.seq ?_
  refine Wc.region rfl ?_
  refine Wl.q rfl (Qy.fieldAddr T.fa25_3 rfl) ?_
  refine Wl.q rfl (Qy.load 0 T.one23 rfl rfl rfl) ?_
  refine Wl.q rfl (Qy.len T.sl23 rfl) ?_
  refine Wl.q rfl (Qy.move rfl) ?_
  refine Wl.done ?_
  refine Ar.next ?_
  refine Wc.block ?_
  generalize hR0 : List.replicate p.regs.toNat (default : Bool) = R0 at *
  have hR0l : (R0.length : Int) = p.regs := by rw [← hR0, List.length_replicate]; omega
  refine Wc.loop (ι := Nat × List Bool) (fun (k, xs) => ([(17, .int .i64 (k : Int)), (16, Go.Value.int Go.IntKind.i64 (↑(List.length (Go.Proofs.Ytbppmiimeccclaa.PV.outs p)) : Int)), (15, Go.Value.slice ao (List.length (Go.Proofs.Ytbppmiimeccclaa.PV.outs p)) co), (3, Go.Value.pointer (Option.some (Go.Addr.mk b3 0 Option.none))), (2, Go.Value.slice Option.none 0 0), (1, Go.Value.pointer (Option.some (Go.Addr.mk b1 0 Option.none)))], [(2, some b3, .cells #[.slice (some ⟨b2, 0, none⟩) xs.length R0.length] 41), (1, some b2, Row 4 xs []), (0, Option.some b1, Go.Obj.cells #[Go.Value.int Go.IntKind.i64 (Go.Proofs.Ytbppmiimeccclaa.PV.ins p), Go.Value.int Go.IntKind.i64 (Go.Proofs.Ytbppmiimeccclaa.PV.regs p), Go.Value.slice ac (List.length (Go.Proofs.Ytbppmiimeccclaa.PV.code p)) cc, Go.Value.slice ao (List.length (Go.Proofs.Ytbppmiimeccclaa.PV.outs p)) co] 25)])) (fun (k, xs) => k ≤ p.outs.length ∧ xs = setAll R0 (p.outs.take k) ∧ OwnA (some ⟨b2, 0, none⟩) R0.length xs []) (fun (k, xs) => p.outs.length - k) ((0, R0)) (⟨Nat.zero_le _, rfl, OwnA.made (by simp only [maxLen]; omega)⟩) ⟨rfl, rfl, rfl, rfl, rfl, rfl, trivial⟩ ⟨rfl, rfl, rfl, trivial⟩ (fun ⟨k, xs⟩ => fun (hk : k ≤ p.outs.length ∧ xs = setAll R0 (p.outs.take k) ∧ OwnA (some ⟨b2, 0, none⟩) R0.length xs []) => ?_)
  obtain ⟨hk1, hxs, hox⟩ := hk
  have hxl : (xs.length : Int) = p.regs := by rw [hxs, setAll_len]; exact hR0l
  rcases Nat.lt_or_ge k p.outs.length with hlt | hge
  · have hr : 0 ≤ p.outs[((k : Nat) : Int).toNat]?.getD default ∧ p.outs[((k : Nat) : Int).toNat]?.getD default < xs.length := by
      rw [hxl]; refine r7 _ ?_
      rw [Int.toNat_natCast, List.getElem?_eq_getElem hlt]; simp
    refine Wc.seq ?_
    refine Wc.region rfl ?_
    refine Wl.q rfl (Qy.lss rfl rfl) ?_
    refine Wl.done ?_
    refine Ar.next ?_
    refine Wc.seq ?_
    refine Wc.condP rfl (by first | assumption | omega) ?_
    refine Wc.skip ?_
    refine Ar.next ?_
    refine Wc.seq ?_
    refine Wc.block ?_
    refine Wc.seq ?_
    refine Wc.region rfl ?_
    refine Wl.q rfl (Qy.at (α := Int) T.sl23 rfl rfl (by assumption) (by omega)) ?_
    refine Wl.q rfl (Qy.loadG T.one3 rfl (Arr.cell (by assumption) (by omega) 0 rfl rfl)) ?_
    refine Wl.q rfl (Qy.assign rfl) ?_
    refine Wl.done ?_
    refine Ar.next ?_
    refine Wc.region rfl ?_
    refine Wl.q rfl (Qy.load 2 T.one41 rfl rfl rfl) ?_
    refine Wl.q rfl (Qy.move rfl) ?_
    refine Wl.q rfl (Qy.indexAddrO (α := Bool) T.sl41 rfl rfl (by assumption) (by omega)) ?_
    refine Wl.setO (z := _) 1 T.size4 rfl rfl rfl (by assumption) (by omega) rfl (fun ho1 => ?_)
    refine Wl.done ?_
    refine Ar.outNormal ?_
    refine Ar.next ?_
    refine Wc.region rfl ?_
    refine Wl.q rfl (Qy.add rfl rfl (by omega)) ?_
    refine Wl.q rfl (Qy.move rfl) ?_
    refine Wl.done ?_
    refine Ar.reH 2 (.cells #[.slice (some ⟨b2, 0, none⟩) (xs.set (p.outs[((k : Nat) : Int).toNat]?.getD default).toNat true).length R0.length] 41) rfl (by rw [List.length_set]) ?_
    refine Ar.again ((k + 1, _)) ?_ ?_ rfl ⟨rfl, rfl, rfl, rfl, rfl, rfl, trivial⟩ ⟨rfl, rfl, rfl, trivial⟩
    · exact ⟨by omega, by rw [setAll_step _ _ hlt, hxs], ho1⟩
    · show p.outs.length - (k + 1) < p.outs.length - k
      omega
  · have hk : k = p.outs.length := by omega
    subst hk
    rw [List.take_length] at hxs
    clear hk1 hge
    refine Wc.seq ?_
    refine Wc.region rfl ?_
    refine Wl.q rfl (Qy.lss rfl rfl) ?_
    refine Wl.done ?_
    refine Ar.next ?_
    refine Wc.seq ?_
    refine Wc.condN rfl (by first | assumption | omega) ?_
    refine Wc.exit ?_
    refine Ar.passExit ?_
    refine Ar.passExit ?_
    refine Ar.here ?_
    refine Ar.next ?_
    refine Wc.seq ?_
    refine Wc.region rfl ?_
    refine Wl.q rfl (Qy.fieldAddr T.fa25_2 rfl) ?_
    refine Wl.q rfl (Qy.load 0 T.one22 rfl rfl rfl) ?_
    refine Wl.q rfl (Qy.len T.sl22 rfl) ?_
    refine Wl.make (α := Bool) 3 rfl T.sl41 T.el4 rfl rfl (by omega) (by omega) (fun b4 => ?_)
    refine Wl.alloc 4 rfl T.zero41 (fun b5 => ?_)
    refine Wl.store 4 T.one41 rfl rfl rfl rfl rfl ?_
    refine Wl.done ?_
    refine Ar.next ?_
    refine Wc.seq ?_
    refine Wc.label ?_
    refine Ar.next ?_
    refine Wc.seq ?_
    refine Wc.seq ?_
    refine Wc.region rfl ?_
    refine Wl.q rfl (Qy.loadAll 0 T.agg25 rfl rfl rfl) ?_
    refine Wl.call 5 rfl T.fn58 rfl (c58 _ _ _ _ _ _) (tags_of trivial) (fun v1 G1 Ho1 hle1 hp => ?_)
    obtain ⟨bb1, rfl, rfl, hbb1⟩ := hp
    replace hc := hc.up hle1
    replace ho := ho.up hle1
    refine Wl.done ?_
    refine Ar.next ?_
    refine Wc.block ?_
    generalize hS0 : List.replicate ((p.code.length : Int)).toNat (default : Bool) = S0 at *
    have hS0l : S0.length = p.code.length := by rw [← hS0, List.length_replicate]; omega
    refine Wc.rangeFunc (ι := List Bool × List Bool) 900 901 (fun (A, O) => [(4, some b5, .cells #[.slice (some ⟨b4, 0, none⟩) O.length S0.length] 41), (3, some b4, Row 4 O []), (2, some b3, .cells #[.slice (some ⟨b2, 0, none⟩) A.length R0.length] 41), (1, some b2, Row 4 A []), (0, Option.some b1, Go.Obj.cells #[Go.Value.int Go.IntKind.i64 (Go.Proofs.Ytbppmiimeccclaa.PV.ins p), Go.Value.int Go.IntKind.i64 (Go.Proofs.Ytbppmiimeccclaa.PV.regs p), Go.Value.slice ac (List.length (Go.Proofs.Ytbppmiimeccclaa.PV.code p)) cc, Go.Value.slice ao (List.length (Go.Proofs.Ytbppmiimeccclaa.PV.outs p)) co] 25)]) (fun k (A, O) => (A, O) = needTo p k ∧ OwnA (some ⟨b2, 0, none⟩) R0.length A [] ∧ OwnA (some ⟨b4, 0, none⟩) S0.length O []) (fun c (A, O) => False) ((xs, S0)) rfl T.fn104 (fun _ => rfl) rfl (c104R _ p _ _ _ _ _ hc ho (by omega) (by omega) hbb1 hR) (⟨by rw [hxs, ← hR0, ← hS0]; rfl, hox, OwnA.made (by simp only [maxLen]; omega)⟩) (Hp.got ⟨rfl, rfl, rfl, rfl, rfl, trivial⟩) ⟨rfl, fun _ => rfl⟩ (fun k x ⟨A, O⟩ l dd q w0 hx hi => ?_) (fun ⟨A, O⟩ dd hi => ?_) (fun ⟨A, O⟩ dd c hi => ?_)
    · obtain ⟨hn, hoA, hoO⟩ := hi
      have hkl : k < p.code.length := by have := (List.getElem?_eq_some_iff.1 hx).1; rw [backL_len] at this; exact this
      have hxe : x = (((p.code.length - 1 - k : Nat) : Int), p.code[p.code.length - 1 - k]?.getD default) := by rw [backL_get _ hkl] at hx; exact (Option.some.inj hx).symm
      have hx1 : x.1 = ((p.code.length - 1 - k : Nat) : Int) := by rw [hxe]
      have hx2 : x.2 = p.code[p.code.length - 1 - k]?.getD default := by rw [hxe]
      clear hxe
      have hm : mayOk x.2 p.regs = true := by
        rw [hx2]; refine r8 _ ?_
        rw [List.getElem?_eq_getElem (by omega), Option.getD_some]; exact List.getElem_mem _
      have hAl : (A.length : Int) = p.regs := by have := (needTo_len p k).1; rw [← hn] at this; show (A.length : Int) = _; rw [show A.length = p.regs.toNat from this]; omega
      have hOl : O.length = p.code.length := by have := (needTo_len p k).2; rw [← hn] at this; exact this
      have hto : 0 ≤ x.2.to ∧ x.2.to < A.length := by rw [hAl]; rw [mayOk_iff] at hm; exact ⟨hm.1.2.2.1, hm.1.2.2.2.1⟩
      have hx1b : 0 ≤ x.1 ∧ x.1 < O.length := by rw [hx1, hOl]; omega
      have hask : ∀ r ∈ asks x.2, 0 ≤ r ∧ r < A.length := by rw [hAl]; exact asks_in hm
      have hst : needTo p (k + 1) = needStep (A, O) x.1 x.2 := by rw [hx1, hx2, hn]; rfl
      have hasks : (asks x.2).length ≤ 2 := by unfold asks; split <;> (try split) <;> simp
      refine Wc.seq ?_
      refine Wc.region rfl ?_
      refine Wl.q rfl (Qy.assign rfl) ?_
      refine Wl.done ?_
      refine Ar.next ?_
      refine Wc.region rfl ?_
      refine Wl.alloc 902 rfl T.zero72 (fun b6 => ?_)
      refine Wl.storeAll 902 T.size72 rfl rfl rfl rfl rfl rfl ?_
      refine Wl.done ?_
      refine Ar.begin 900 rfl ?_
      refine Wc.block ?_
      refine Wc.seq ?_
      refine Wc.seq ?_
      refine Wc.region rfl ?_
      refine Wl.q rfl (Qy.load 2 T.one41 rfl rfl rfl) ?_
      refine Wl.q rfl (Qy.fieldAddr T.fa72_1 rfl) ?_
      refine Wl.q rfl (Qy.load 902 T.one3 rfl rfl rfl) ?_
      refine Wl.q rfl (Qy.indexAddrO (α := Bool) T.sl41 rfl rfl (by assumption) (by omega)) ?_
      refine Wl.q rfl (Qy.loadO 1 0 T.one4 rfl rfl (by assumption) (by omega) rfl rfl) ?_
      refine Wl.q rfl (Qy.not rfl) ?_
      refine Wl.done ?_
      refine Ar.next ?_
      refine Wc.ite rfl (fun hc1 => ?_) (fun hc1 => ?_)
      refine Wc.exit ?_
      refine Ar.passExit ?_
      refine Ar.here ?_
      rotate_left
      refine Wc.skip ?_
      refine Ar.next ?_
      refine Wc.seq ?_
      refine Wc.region rfl ?_
      refine Wl.q rfl (Qy.load 4 T.one41 rfl rfl rfl) ?_
      refine Wl.q rfl (Qy.move rfl) ?_
      refine Wl.q rfl (Qy.indexAddrO (α := Bool) T.sl41 rfl rfl (by assumption) (by omega)) ?_
      refine Wl.setO (z := _) 3 T.size4 rfl rfl rfl (by assumption) (by omega) rfl (fun ho1 => ?_)
      refine Wl.done ?_
      refine Ar.next ?_
      refine Wc.seq ?_
      refine Wc.region rfl ?_
      refine Wl.q rfl (Qy.load 2 T.one41 rfl rfl rfl) ?_
      refine Wl.q rfl (Qy.fieldAddr T.fa72_1 rfl) ?_
      refine Wl.q rfl (Qy.load 902 T.one3 rfl rfl rfl) ?_
      refine Wl.q rfl (Qy.indexAddrO (α := Bool) T.sl41 rfl rfl (by assumption) (by omega)) ?_
      refine Wl.setO (z := _) 1 T.size4 rfl rfl rfl (by assumption) (by omega) rfl (fun ho2 => ?_)
      refine Wl.done ?_
      refine Ar.next ?_
      refine Wc.seq ?_
      refine Wc.region rfl ?_
      refine Wl.q rfl (Qy.loadAll 902 T.agg72 rfl rfl rfl) ?_
      refine Wl.call 903 rfl T.fn59 rfl (c59 _ _) (tags_of trivial) (fun v2 G2 Ho2 hle2 hp => ?_)
      obtain ⟨ad2, cd2, junk2, rfl, hoa2, rfl, rfl⟩ := hp
      refine Wl.q rfl (Qy.len T.sl23 rfl) ?_
      refine Wl.q rfl (Qy.move rfl) ?_
      refine Wl.done ?_
      refine Ar.next ?_
      refine Wc.block ?_
      rotate_left
      · refine Ar.roundEnd none (.inl ⟨rfl, rfl⟩) 900 rfl ⟨rfl, ((A, O), none), rfl, .inl ⟨rfl, rfl, ?_⟩⟩ (Hp.got ⟨rfl, rfl, rfl, rfl, rfl, rfl, rfl, trivial⟩)
        refine ⟨?_, hoA, hoO⟩
        rw [hst]; unfold needStep
        rw [if_neg (by simpa using hc1)]
      refine Wc.reH 2 (.cells #[.slice (some ⟨b2, 0, none⟩) (A.set x.2.to.toNat false).length R0.length] 41) rfl (by rw [List.length_set]) (Wc.reH 4 (.cells #[.slice (some ⟨b4, 0, none⟩) (O.set x.1.toNat true).length S0.length] 41) rfl (by rw [List.length_set]) ?_)
      refine Wc.loop (ι := Nat × List Bool) (fun (m, B) => ([(49, .int .i64 (m : Int)), (48, Go.Value.int Go.IntKind.i64 (↑(List.length (Go.Proofs.Ytbppmiimeccclaa.asks (Prod.snd x))) : Int)), (47, Go.Value.slice ad2 (List.length (Go.Proofs.Ytbppmiimeccclaa.asks (Prod.snd x))) cd2), (3, Go.Value.pointer (Option.some (Go.Addr.mk b3 0 Option.none)))], [(2, some b3, .cells #[.slice (some ⟨b2, 0, none⟩) B.length R0.length] 41), (1, some b2, Row 4 B []), (4, Option.some b5, Go.Obj.cells #[Go.Value.slice (Option.some (Go.Addr.mk b4 0 Option.none)) (List.length (List.set O (Int.toNat (Prod.fst x)) Bool.true)) (List.length S0)] 41), (904, Option.map (fun x => Go.Addr.block x) ad2, Go.Sl.Row (α := Int) 3 (Go.Proofs.Ytbppmiimeccclaa.asks (Prod.snd x)) (junk2)), (3, Option.map (fun x => Go.Addr.block x) (Option.some (Go.Addr.mk b4 0 Option.none)), Go.Sl.Row (α := Bool) 4 (List.set O (Int.toNat (Prod.fst x)) Bool.true) ([])), (900, Option.some l, Go.Sl.lrec q Go.LoopState.busy Option.none), (902, Option.some b6, Go.Obj.cells (List.toArray (Go.Sl.Cells.enc (Prod.snd x))) 72), (901, Option.some dd, Go.Obj.deferred (Option.some [])), (0, Option.some b1, Go.Obj.cells #[Go.Value.int Go.IntKind.i64 (Go.Proofs.Ytbppmiimeccclaa.PV.ins p), Go.Value.int Go.IntKind.i64 (Go.Proofs.Ytbppmiimeccclaa.PV.regs p), Go.Value.slice ac (List.length (Go.Proofs.Ytbppmiimeccclaa.PV.code p)) cc, Go.Value.slice ao (List.length (Go.Proofs.Ytbppmiimeccclaa.PV.outs p)) co] 25)])) (fun (m, B) => m ≤ (asks x.2).length ∧ B = setAll (A.set x.2.to.toNat false) ((asks x.2).take m) ∧ OwnA (some ⟨b2, 0, none⟩) R0.length B []) (fun (m, B) => (asks x.2).length - m) ((0, A.set x.2.to.toNat false)) (⟨Nat.zero_le _, rfl, ho2⟩) ⟨rfl, rfl, rfl, rfl, trivial⟩ ⟨rfl, rfl, rfl, rfl, rfl, rfl, rfl, rfl, rfl, trivial⟩ (fun ⟨m, B⟩ => fun (hk : m ≤ (asks x.2).length ∧ B = setAll (A.set x.2.to.toNat false) ((asks x.2).take m) ∧ OwnA (some ⟨b2, 0, none⟩) R0.length B []) => ?_)
      obtain ⟨hm1, hB, hoB⟩ := hk
      have hBl : B.length = A.length := by rw [hB, setAll_len, List.length_set]
      rcases Nat.lt_or_ge m (asks x.2).length with hlt | hge
      · have hr : 0 ≤ (asks x.2)[((m : Nat) : Int).toNat]?.getD default ∧ (asks x.2)[((m : Nat) : Int).toNat]?.getD default < B.length := by
          rw [hBl]; refine hask _ ?_
          rw [Int.toNat_natCast, List.getElem?_eq_getElem hlt]; simp
        refine Wc.seq ?_
        refine Wc.region rfl ?_
        refine Wl.q rfl (Qy.lss rfl rfl) ?_
        refine Wl.done ?_
        refine Ar.next ?_
        refine Wc.seq ?_
        refine Wc.condP rfl (by first | assumption | omega) ?_
        refine Wc.skip ?_
        refine Ar.next ?_
        refine Wc.seq ?_
        refine Wc.block ?_
        refine Wc.seq ?_
        refine Wc.region rfl ?_
        refine Wl.q rfl (Qy.indexAddrO (α := Int) T.sl23 rfl rfl (by assumption) (by omega)) ?_
        refine Wl.q rfl (Qy.loadO 904 0 T.one3 rfl rfl (by assumption) (by omega) rfl rfl) ?_
        refine Wl.q rfl (Qy.assign rfl) ?_
        refine Wl.done ?_
        refine Ar.next ?_
        refine Wc.region rfl ?_
        refine Wl.q rfl (Qy.load 2 T.one41 rfl rfl rfl) ?_
        refine Wl.q rfl (Qy.move rfl) ?_
        refine Wl.q rfl (Qy.indexAddrO (α := Bool) T.sl41 rfl rfl (by assumption) (by omega)) ?_
        refine Wl.setO (z := _) 1 T.size4 rfl rfl rfl (by assumption) (by omega) rfl (fun ho3 => ?_)
        refine Wl.done ?_
        refine Ar.outNormal ?_
        refine Ar.next ?_
        refine Wc.region rfl ?_
        refine Wl.q rfl (Qy.add rfl rfl (by omega)) ?_
        refine Wl.q rfl (Qy.move rfl) ?_
        refine Wl.done ?_
        refine Ar.reH 2 (.cells #[.slice (some ⟨b2, 0, none⟩) (B.set ((asks x.2)[((m : Nat) : Int).toNat]?.getD default).toNat true).length R0.length] 41) rfl (by rw [List.length_set]) ?_
        refine Ar.again ((m + 1, _)) ?_ ?_ rfl ⟨rfl, rfl, rfl, rfl, trivial⟩ ⟨rfl, rfl, rfl, rfl, rfl, rfl, rfl, rfl, rfl, trivial⟩
        · exact ⟨by omega, by rw [setAll_step _ _ hlt, hB], ho3⟩
        · show (asks x.2).length - (m + 1) < (asks x.2).length - m
          omega
      · have hm : m = (asks x.2).length := by omega
        subst hm
        rw [List.take_length] at hB
        refine Wc.seq ?_
        refine Wc.region rfl ?_
        refine Wl.q rfl (Qy.lss rfl rfl) ?_
        refine Wl.done ?_
        refine Ar.next ?_
        refine Wc.seq ?_
        refine Wc.condN rfl (by first | assumption | omega) ?_
        refine Wc.exit ?_
        refine Ar.passExit ?_
        refine Ar.passExit ?_
        refine Ar.here ?_
        refine Ar.outNormal ?_
        refine Ar.roundEnd none (.inl ⟨rfl, rfl⟩) 900 rfl ⟨rfl, ((B, O.set x.1.toNat true), none), rfl, .inl ⟨rfl, rfl, ?_⟩⟩ (Hp.got ⟨rfl, rfl, rfl, rfl, rfl, rfl, rfl, trivial⟩)
        refine ⟨?_, hoB, ho1⟩
        rw [hst]; unfold needStep
        rw [if_pos (by simpa using hc1), hB]
    · obtain ⟨hn, hoA, hoO⟩ := hi
      rw [backL_len] at hn
      have hO : O = neededP p := congrArg Prod.snd hn
      subst hO
      refine Ar.outNormal ?_
      refine Ar.next ?_
      refine Wc.seq ?_
      refine Wc.region rfl ?_
      refine Wl.q rfl (Qy.load 4 T.one41 rfl rfl rfl) ?_
      refine Wl.q rfl (Qy.assign rfl) ?_
      refine Wl.done ?_
      refine Ar.next ?_
      refine Wc.ret ?_
      refine Ar.scopeR ?_
      refine Ar.collect (.inr rfl) 901 rfl ?_
      refine Ar.outOf (.inr rfl) ?_
      refine Ar.base (Ar.pick [3] (by decide) (Ar.out1 (.inr rfl) rfl (.tmp rfl) (Hp.sub_self 0 _) ?_))
      exact ⟨_, _, _, rfl, hoO, rfl, rfl⟩
    · exact hi.elim
end Go.Proofs.Ytbppmiimeccclaa
namespace Go.Proofs.Ytbppmiimeccclaa
open Go Go.Sl
set_option maxRecDepth 100000
set_option maxHeartbeats 2000000
theorem c101 (G : Imm) (i : Sl.Instr) : Does Try.prog 101 [.agg (Cells.enc i).toArray] G [] (fun v G' Ho => v = .bool (decide (i.op = 1 ∧ i.to = i.a)) ∧ G' = G ∧ Ho = []) := by
  refine Does.enter Try.func101 rfl Try.ntmps101 rfl (fun w => ?_)
  refine Wc.seq ?_
  refine Wc.region rfl ?_
  refine Wl.box 0 rfl rfl rfl (fun b1 => ?_)
  refine Wl.q rfl (Qy.assign rfl) ?_
  refine Wl.done ?_
  refine Ar.next ?_
  refine Wc.seq ?_
  refine Wc.region rfl ?_
  refine Wl.q rfl (Qy.fieldAddr T.fa72_0 rfl) ?_
  refine Wl.q rfl (Qy.load 0 T.one3 rfl rfl rfl) ?_
  refine Wl.q rfl (Qy.eql rfl rfl) ?_
  refine Wl.q rfl (Qy.move rfl) ?_
  apply Wl.joinAnd 6 6 12 rfl
  intro hg1
  refine Wl.want rfl rfl ?_
  refine Wl.q rfl (Qy.fieldAddr T.fa72_1 rfl) ?_
  refine Wl.want rfl rfl ?_
  refine Wl.q rfl (Qy.load 0 T.one3 rfl rfl rfl) ?_
  refine Wl.want rfl rfl ?_
  refine Wl.q rfl (Qy.fieldAddr T.fa72_2 rfl) ?_
  refine Wl.want rfl rfl ?_
  refine Wl.q rfl (Qy.load 0 T.one3 rfl rfl rfl) ?_
  refine Wl.want rfl rfl ?_
  refine Wl.q rfl (Qy.eql rfl rfl) ?_
  refine Wl.q rfl (Qy.pick rfl rfl) ?_
  exact Wl.back 6 0 rfl rfl rfl rfl rfl
  intro hg1
  refine Wl.pass rfl rfl rfl ?_
  refine Wl.pass rfl rfl rfl ?_
  refine Wl.pass rfl rfl rfl ?_
  refine Wl.pass rfl rfl rfl ?_
  refine Wl.pass rfl rfl rfl ?_
  refine Wl.q rfl (Qy.pick rfl rfl) ?_
  exact Wl.back 6 0 rfl rfl rfl rfl rfl
  refine Wl.q rfl (Qy.assign rfl) ?_
  refine Wl.done ?_
  refine Ar.next ?_
  refine Wc.ret ?_
  refine Ar.out1 (.inr rfl) (Ho := Hp.only _ []) rfl (.tmp rfl) (Hp.sub_only _ _) ?_
  exact ⟨rfl, rfl, rfl⟩
theorem c102 (G : Imm) (a : Option Addr) (c : Nat) (xs : List Int) (hx : Arr G a xs) (hl : xs.length ≤ 1099511627776) :
    Does Try.prog 102 [.slice a xs.length c] G [] (fun v G' Ho => ∃ b d j, v = .slice b xs.length d ∧ OwnA b d xs j ∧ Ho = [(0, b.map (·.block), Row 3 xs j)] ∧ G' = G) := by
  refine Does.enter Try.func102 rfl Try.ntmps102 rfl (fun w => ?_)
  refine Wc.seq ?_
  refine Wc.region rfl ?_
  refine Wl.q rfl (Qy.assign rfl) ?_
  refine Wl.done ?_
  refine Ar.next ?_
  refine Wc.seq ?_
  refine Wc.seq ?_
  refine Wc.region rfl ?_
  refine Wl.q rfl (Qy.move rfl) ?_
  refine Wl.q rfl (Qy.eqlSliceNil T.sl23 rfl rfl) ?_
  refine Wl.done ?_
  refine Ar.next ?_
  refine Wc.cond rfl (fun hc1 => ?_) (fun hc1 => ?_)
  refine Wc.seq ?_
  refine Wc.region rfl ?_
  refine Wl.q rfl (Qy.assign rfl) ?_
  refine Wl.done ?_
  refine Ar.next ?_
  refine Wc.ret ?_
  refine Ar.passRet ?_
  rotate_left
  refine Wc.skip ?_
  refine Ar.next ?_
  refine Wc.seq ?_
  refine Wc.region rfl ?_
  refine Wl.lit0 0 rfl T.sl23 (fun b1 => ?_)
  refine Wl.q rfl (Qy.move rfl) ?_
  rotate_left
  · subst hc1
    have hn : xs = [] := by
      rcases hx.2 with h | ⟨b, o, h, _⟩
      · exact List.eq_nil_of_length_eq_zero h
      · cases h
    subst hn
    refine Ar.nilRow 0 (Row 3 ([] : List Int) []) ?_
    refine Ar.out1 (.inr rfl) (Ho := Hp.only _ [0]) rfl (.tmp rfl) (Hp.sub_only _ _) ?_
    exact ⟨none, 0, [], rfl, OwnA.nil, rfl, rfl⟩
  · refine Wl.reH 0 (Row 3 ([] : List Int) []) rfl rfl ?_
    refine Wl.append (α := Int) 0 rfl T.sl23 T.el3 rfl rfl rfl (OwnA.made (by simp)) (Src.arr (by assumption)) (by simp only [List.length_nil]; omega) (by simp only [List.length_nil, maxLen]; omega) (fun a1 c1 junk1 ho1 => ?_)
    refine Wl.q rfl (Qy.assign rfl) ?_
    refine Wl.done ?_
    refine Ar.next ?_
    refine Wc.ret ?_
    refine Ar.out1 (.inr rfl) (Ho := Hp.only _ [0]) rfl (.tmp rfl) (Hp.sub_only _ _) ?_
    exact ⟨_, _, _, rfl, ho1, rfl, rfl⟩
/-- what is left: what is needed and does something -/
def keepTo (p : PV) : Nat → List Sl.Instr
  | 0 => []
  | k + 1 => if (neededP p)[((k : Nat) : Int).toNat]?.getD default = true ∧ ¬ ((p.code[((k : Nat) : Int).toNat]?.getD default).op = 1 ∧ (p.code[((k : Nat) : Int).toNat]?.getD default).to = (p.code[((k : Nat) : Int).toNat]?.getD default).a)
      then keepTo p k ++ [p.code[((k : Nat) : Int).toNat]?.getD default] else keepTo p k
theorem keepTo_len (p : PV) (k : Nat) : (keepTo p k).length ≤ k := by
  induction k with
  | zero => simp [keepTo]
  | succ k ih =>
    simp only [keepTo]
    split
    · rw [List.length_append]; simp only [List.length_cons, List.length_nil]; omega
    · omega
def deadP (p : PV) : PV := ⟨p.ins, p.regs, keepTo p p.code.length, p.outs⟩
theorem c53R (G : Imm) (p : PV) (ac ao : Option Addr) (cc co : Nat) (hc : Arr G ac p.code) (ho : Arr G ao p.outs) (h1 : p.code.length ≤ 1099511627776) (h2 : p.outs.length ≤ 1099511627776) (hR : rightP p = true) :
    Does Try.prog 53 [.agg #[.int .i64 p.ins, .int .i64 p.regs, .slice ac p.code.length cc, .slice ao p.outs.length co]] G [] (fun v G' Ho =>
      ∃ bc bo dc do_ j1 j2, v = .tuple #[.agg #[.int .i64 p.ins, .int .i64 p.regs, .slice bc (deadP p).code.length dc, .slice bo p.outs.length do_], .int .i64 0] ∧
        OwnA bc dc (deadP p).code j1 ∧ OwnA bo do_ p.outs j2 ∧ Ho = [(0, bc.map (·.block), Row 72 (deadP p).code j1), (1, bo.map (·.block), Row 3 p.outs j2)] ∧ G' = G) := by
  obtain ⟨r1, r2, r3, r4, r5, r6, r7, r8⟩ := right_facts hR
  have hcheck : (checkP p).2 = false := by simpa [rightP] using hR
  refine Does.enter Try.func53 rfl Try.ntmps53 rfl (fun w => ?_)
  refine Wc.nilRow 0 (Row 72 ([] : List Sl.Instr) []) ?_
  refine Wc.seq ?_
  refine Wc.region rfl ?_
  refine Wl.box 1 rfl rfl rfl (fun b1 => ?_)
  refine Wl.alloc 2 rfl T.zero25 (fun b2 => ?_)
  refine Wl.q rfl (Qy.assign rfl) ?_
  refine Wl.done ?_
  refine Ar.next ?_
  refine Wc.seq ?_
  refine Wc.region rfl ?_
  refine Wl.q rfl (Qy.loadAll 1 T.agg25 rfl rfl rfl) ?_
  refine Wl.call0 rfl T.fn40 rfl (c40 _ _ _ _ _ _ (by assumption) (by assumption) (by omega) (by omega)) ?_
  refine Wl.q rfl (Qy.move rfl) ?_
  refine Wl.q rfl (Qy.extract rfl rfl) ?_
  refine Wl.q rfl (Qy.extract rfl rfl) ?_
  refine Wl.q rfl (Qy.assign rfl) ?_
  refine Wl.q rfl (Qy.assign rfl) ?_
  refine Wl.done ?_
  refine Ar.next ?_
  refine Wc.seq ?_
  refine Wc.seq ?_
  refine Wc.region rfl ?_
  refine Wl.q rfl (Qy.move rfl) ?_
  refine Wl.q rfl (Qy.neq rfl rfl) ?_
  refine Wl.done ?_
  refine Ar.next ?_
  refine Wc.cond rfl (fun hc1 => ?_) (fun hc1 => ?_)
  refine Wc.seq ?_
  refine Wc.region rfl ?_
  refine Wl.q rfl (Qy.build (cs := [_, _, _, _]) T.st25 rfl rfl rfl) ?_
  refine Wl.q rfl (Qy.move rfl) ?_
  refine Wl.storeAll 2 T.size25 rfl rfl rfl rfl rfl rfl ?_
  refine Wl.q rfl (Qy.assign rfl) ?_
  refine Wl.done ?_
  refine Ar.next ?_
  refine Wc.ret ?_
  refine Ar.passRet ?_
  rotate_left
  refine Wc.skip ?_
  refine Ar.next ?_
  refine Wc.seq ?_
  refine Wc.region rfl ?_
  refine Wl.q rfl (Qy.assign rfl) ?_
  refine Wl.done ?_
  refine Ar.next ?_
  refine Wc.seq ?_
  refine Wc.seq ?_
  refine Wc.region rfl ?_
  refine Wl.q rfl (Qy.loadAll 1 T.agg25 rfl rfl rfl) ?_
  refine Wl.call 3 rfl T.fn100 rfl (c100 _ _ _ _ _ _ (by assumption) (by assumption) (by omega) (by omega) (by assumption)) (tags_of trivial) (fun v1 G1 Ho1 hle1 hp => ?_)
  obtain ⟨nb1, nc1, nj1, rfl, hnb1, rfl, rfl⟩ := hp
  refine Wl.q rfl (Qy.len T.sl41 rfl) ?_
  refine Wl.q rfl (Qy.move rfl) ?_
  refine Wl.done ?_
  refine Ar.next ?_
  refine Wc.block ?_
  rotate_left
  · rw [hcheck] at hc1; exact absurd rfl hc1
  have hnl : (neededP p).length = p.code.length := (needTo_len p _).2
  refine Wc.loop (ι := Nat × List Sl.Instr × (Option Addr × Nat × List Value)) (fun (k, xs, (b, d, j)) => ([(21, .int .i64 (k : Int)), (6, .slice b xs.length d), (20, Go.Value.int Go.IntKind.i64 (↑(List.length (Go.Proofs.Ytbppmiimeccclaa.neededP p)) : Int)), (19, Go.Value.slice nb1 (List.length (Go.Proofs.Ytbppmiimeccclaa.neededP p)) nc1), (3, Go.Value.int Go.IntKind.i64 0), (2, Go.Value.pointer (Option.some (Go.Addr.mk b2 0 Option.none))), (1, Go.Value.pointer (Option.some (Go.Addr.mk b1 0 Option.none)))], [(0, b.map (·.block), Row 72 xs j), (3, Option.map (fun x => Go.Addr.block x) nb1, Go.Sl.Row (α := Bool) 4 (Go.Proofs.Ytbppmiimeccclaa.neededP p) (nj1)), (2, Option.some b2, Go.Obj.cells #[Go.Value.int Go.IntKind.i64 0, Go.Value.int Go.IntKind.i64 0, Go.Value.slice Option.none 0 0, Go.Value.slice Option.none 0 0] 25), (1, Option.some b1, Go.Obj.cells #[Go.Value.int Go.IntKind.i64 (Go.Proofs.Ytbppmiimeccclaa.PV.ins p), Go.Value.int Go.IntKind.i64 (Go.Proofs.Ytbppmiimeccclaa.PV.regs p), Go.Value.slice ac (List.length (Go.Proofs.Ytbppmiimeccclaa.PV.code p)) cc, Go.Value.slice ao (List.length (Go.Proofs.Ytbppmiimeccclaa.PV.outs p)) co] 25)])) (fun (k, xs, (b, d, j)) => k ≤ p.code.length ∧ xs = keepTo p k ∧ OwnA b d xs j) (fun (k, xs, (b, d, j)) => p.code.length - k) ((0, [], (none, 0, []))) (⟨Nat.zero_le _, rfl, OwnA.nil⟩) ⟨rfl, rfl, rfl, rfl, rfl, rfl, rfl, trivial⟩ ⟨rfl, rfl, rfl, rfl, trivial⟩ (fun ⟨k, xs, (b, d, j)⟩ => fun (hk : k ≤ p.code.length ∧ xs = keepTo p k ∧ OwnA b d xs j) => ?_)
  obtain ⟨hk1, hxs, hob⟩ := hk
  have hxl : xs.length ≤ k := by rw [hxs]; exact keepTo_len p k
  rcases Nat.lt_or_ge k p.code.length with hlt | hge
  · have hst : keepTo p (k + 1) = if (neededP p)[((k : Nat) : Int).toNat]?.getD default = true ∧ ¬ ((p.code[((k : Nat) : Int).toNat]?.getD default).op = 1 ∧ (p.code[((k : Nat) : Int).toNat]?.getD default).to = (p.code[((k : Nat) : Int).toNat]?.getD default).a)
      then keepTo p k ++ [p.code[((k : Nat) : Int).toNat]?.getD default] else keepTo p k := rfl
    refine Wc.seq ?_
    refine Wc.region rfl ?_
    refine Wl.q rfl (Qy.lss rfl rfl) ?_
    refine Wl.done ?_
    refine Ar.next ?_
    refine Wc.seq ?_
    refine Wc.condP rfl (by first | assumption | omega) ?_
    refine Wc.skip ?_
    refine Ar.next ?_
    refine Wc.seq ?_
    refine Wc.block ?_
    refine Wc.seq ?_
    refine Wc.region rfl ?_
    refine Wl.q rfl (Qy.move rfl) ?_
    refine Wl.q rfl (Qy.indexAddrO (α := Bool) T.sl41 rfl rfl (by assumption) (by omega)) ?_
    refine Wl.q rfl (Qy.loadO 3 0 T.one4 rfl rfl (by assumption) (by omega) rfl rfl) ?_
    refine Wl.q rfl (Qy.assign rfl) ?_
    refine Wl.q rfl (Qy.assign rfl) ?_
    refine Wl.done ?_
    refine Ar.next ?_
    refine Wc.seq ?_
    refine Wc.region rfl ?_
    refine Wl.q rfl (Qy.move rfl) ?_
    refine Wl.q rfl (Qy.move rfl) ?_
    refine Wl.casesB 27 rfl (fun hg1 => ?_) (fun hg1 => ?_)
    refine Wl.want rfl rfl ?_
    refine Wl.q rfl (Qy.fieldAddr T.fa25_2 rfl) ?_
    refine Wl.want rfl rfl ?_
    refine Wl.q rfl (Qy.load 1 T.one22 rfl rfl rfl) ?_
    refine Wl.want rfl rfl ?_
    refine Wl.q rfl (Qy.move rfl) ?_
    refine Wl.want rfl rfl ?_
    refine Wl.q rfl (Qy.at (α := Instr) T.sl22 rfl rfl (by assumption) (by omega)) ?_
    refine Wl.want rfl rfl ?_
    refine Wl.q rfl (Qy.loadsG T.agg72 rfl (Arr.elem (by assumption) (by omega)) rfl) ?_
    refine Wl.want rfl rfl ?_
    refine Wl.call0 rfl T.fn101 rfl (c101 _ _) ?_
    refine Wl.want rfl rfl ?_
    refine Wl.q rfl (Qy.notD rfl) ?_
    refine Wl.q rfl (Qy.pick rfl rfl) ?_
    refine Wl.done ?_
    refine Ar.next ?_
    refine Wc.cond rfl (fun hc2 => ?_) (fun hc2 => ?_)
    refine Wc.region rfl ?_
    refine Wl.q rfl (Qy.move rfl) ?_
    refine Wl.q rfl (Qy.fieldAddr T.fa25_2 rfl) ?_
    refine Wl.q rfl (Qy.load 1 T.one22 rfl rfl rfl) ?_
    refine Wl.q rfl (Qy.move rfl) ?_
    refine Wl.q rfl (Qy.at (α := Instr) T.sl22 rfl rfl (by assumption) (by omega)) ?_
    refine Wl.q rfl (Qy.loadsG T.agg72 rfl (Arr.elem (by assumption) (by omega)) rfl) ?_
    refine Wl.lit (α := Instr) 4 [(Option.getD (Go.Proofs.Ytbppmiimeccclaa.PV.code p)[Int.toNat (↑k : Int)]? Inhabited.default)] rfl T.sl22 T.el72 rfl rfl rfl rfl rfl (fun b3 => ?_)
    refine Wl.append (α := Instr) 0 rfl T.sl22 T.el72 rfl rfl rfl (by first | assumption | exact OwnA.nil | exact OwnA.made (by simp)) (Src.row 4 rfl) (by first | omega | (simp only [List.length_append, List.length_cons, List.length_nil, maxLen]; omega)) (by first | omega | (simp only [List.length_append, List.length_cons, List.length_nil, maxLen]; omega)) (fun a1 c1 junk1 ho1 => ?_)
    refine Wl.q rfl (Qy.assign rfl) ?_
    refine Wl.done ?_
    refine Ar.outNormal ?_
    refine Ar.next ?_
    refine Wc.region rfl ?_
    refine Wl.q rfl (Qy.add rfl rfl (by omega)) ?_
    refine Wl.q rfl (Qy.move rfl) ?_
    refine Wl.done ?_
    rotate_left
    refine Wc.skip ?_
    refine Ar.outNormal ?_
    refine Ar.next ?_
    refine Wc.region rfl ?_
    refine Wl.q rfl (Qy.add rfl rfl (by omega)) ?_
    refine Wl.q rfl (Qy.move rfl) ?_
    refine Wl.done ?_
    rotate_left
    refine Wl.pass rfl rfl rfl ?_
    refine Wl.pass rfl rfl rfl ?_
    refine Wl.pass rfl rfl rfl ?_
    refine Wl.pass rfl rfl rfl ?_
    refine Wl.pass rfl rfl rfl ?_
    refine Wl.pass rfl rfl rfl ?_
    refine Wl.pass rfl rfl rfl ?_
    refine Wl.q rfl (Qy.pick rfl rfl) ?_
    refine Wl.done ?_
    refine Ar.next ?_
    refine Wc.condF rfl ?_
    refine Wc.skip ?_
    refine Ar.outNormal ?_
    refine Ar.next ?_
    refine Wc.region rfl ?_
    refine Wl.q rfl (Qy.add rfl rfl (by omega)) ?_
    refine Wl.q rfl (Qy.move rfl) ?_
    refine Wl.done ?_
    rotate_left
    · refine Ar.again ((k + 1, _, (a1, c1, junk1))) ?_ ?_ rfl ⟨rfl, rfl, rfl, rfl, rfl, rfl, rfl, trivial⟩ ⟨rfl, rfl, rfl, rfl, trivial⟩
      · exact ⟨by omega, by rw [hst, if_pos ⟨hg1, hc2⟩, hxs], ho1⟩
      · show p.code.length - (k + 1) < p.code.length - k
        omega
    · refine Ar.again ((k + 1, xs, (b, d, j))) ?_ ?_ rfl ⟨rfl, rfl, rfl, rfl, rfl, rfl, rfl, trivial⟩ ⟨rfl, rfl, rfl, rfl, trivial⟩
      · exact ⟨by omega, by rw [hst, if_neg (fun h => hc2 h.2), hxs], hob⟩
      · show p.code.length - (k + 1) < p.code.length - k
        omega
    · refine Ar.again ((k + 1, xs, (b, d, j))) ?_ ?_ rfl ⟨rfl, rfl, rfl, rfl, rfl, rfl, rfl, trivial⟩ ⟨rfl, rfl, rfl, rfl, trivial⟩
      · exact ⟨by omega, by rw [hst, if_neg (fun h => by rw [hg1] at h; cases h.1), hxs], hob⟩
      · show p.code.length - (k + 1) < p.code.length - k
        omega
  · have hk : k = p.code.length := by omega
    subst hk
    have hxs' : xs = (deadP p).code := hxs
    rw [hxs'] at hob ⊢
    refine Wc.seq ?_
    refine Wc.region rfl ?_
    refine Wl.q rfl (Qy.lss rfl rfl) ?_
    refine Wl.done ?_
    refine Ar.next ?_
    refine Wc.seq ?_
    refine Wc.condN rfl (by first | assumption | omega) ?_
    refine Wc.exit ?_
    refine Ar.passExit ?_
    refine Ar.passExit ?_
    refine Ar.here ?_
    refine Ar.next ?_
    refine Wc.seq ?_
    refine Wc.draw [1, 2, 3, 0] [(2, 9)] T.mixed rfl ?_
    refine Gm.q 0 [] (by kernel_rfl) rfl rfl (Qy.fieldAddr T.fa25_0 rfl) ?_
    refine Gm.q 1 [1] (by kernel_rfl) rfl rfl (Qy.load 1 T.one3 rfl rfl rfl) ?_
    refine Gm.q 2 [] (by kernel_rfl) rfl rfl (Qy.fieldAddr T.fa25_1 rfl) ?_
    refine Gm.q 3 [1] (by kernel_rfl) rfl rfl (Qy.load 1 T.one3 rfl rfl rfl) ?_
    refine Gm.q 4 [] (by kernel_rfl) rfl rfl (Qy.move rfl) ?_
    refine Gm.q 5 [] (by kernel_rfl) rfl rfl (Qy.fieldAddr T.fa25_3 rfl) ?_
    refine Gm.q 6 [1] (by kernel_rfl) rfl rfl (Qy.load 1 T.one23 rfl rfl rfl) ?_
    refine Gm.one 7 ⟨rfl, rfl, rfl, rfl, trivial⟩ (by first | exact Imm.le_refl _ | assumption | (refine Imm.le_trans ?_ (by assumption); first | assumption | (refine Imm.le_trans ?_ (by assumption); assumption))) (by kernel_rfl) rfl ?_
    refine Wl.call 4 rfl T.fn102 rfl (c102 _ _ _ _ (by assumption) (by omega)) (tags_of trivial) (fun v2 G2 Ho2 hle2 hp => ?_)
    obtain ⟨lb2, ld2, lj2, rfl, hlb2, rfl, rfl⟩ := hp
    refine Wl.on0 ?_
    refine Gm.q 8 [] (by kernel_rfl) rfl rfl (Qy.build (cs := [_, _, _, _]) T.st25 rfl rfl rfl) ?_
    refine Gm.one 9 ⟨rfl, rfl, rfl, rfl, trivial⟩ (by first | exact Imm.le_refl _ | assumption | (refine Imm.le_trans ?_ (by assumption); first | assumption | (refine Imm.le_trans ?_ (by assumption); assumption))) (by kernel_rfl) rfl ?_
    refine Wl.storeAll 2 T.size25 rfl rfl rfl rfl rfl rfl ?_
    refine Wl.on0 ?_
    refine Gm.q 10 [] (by kernel_rfl) rfl rfl (Qy.assign rfl) ?_
    refine Gm.doneA (by kernel_rfl) ⟨rfl, rfl, rfl, trivial⟩ (by first | exact Imm.le_refl _ | assumption | (refine Imm.le_trans ?_ (by assumption); first | assumption | (refine Imm.le_trans ?_ (by assumption); assumption))) ?_
    refine Ar.next ?_
    refine Wc.ret ?_
    refine Ar.pick [0, 4, 2] (by decide) (Ar.out2 (.inr rfl) (Ho := Hp.only _ [0, 1]) rfl (.agg 2 rfl rfl T.agg25) (.tmp rfl) (Hp.sub_only _ _) ?_)
    exact ⟨_, _, _, _, _, _, rfl, hob, hlb2, rfl, rfl⟩
theorem c53W (G : Imm) (p : PV) (ac ao : Option Addr) (cc co : Nat) (hc : Arr G ac p.code) (ho : Arr G ao p.outs) (h1 : p.code.length ≤ 1099511627776) (h2 : p.outs.length ≤ 1099511627776) (hR : ¬ rightP p = true) :
    Does Try.prog 53 [.agg #[.int .i64 p.ins, .int .i64 p.regs, .slice ac p.code.length cc, .slice ao p.outs.length co]] G [] (fun v G' Ho =>
      v = .tuple #[.agg #[.int .i64 0, .int .i64 0, .slice none 0 0, .slice none 0 0], .int .i64 80] ∧
        Ho = [(0, none, Row 72 ([] : List Sl.Instr) []), (1, none, Row 3 ([] : List Int) [])] ∧ G' = G) := by
  have hcheck : (checkP p).2 = true := by simpa [rightP] using hR
  refine Does.enter Try.func53 rfl Try.ntmps53 rfl (fun w => ?_)
  refine Wc.nilRow 5 (Row 72 ([] : List Sl.Instr) []) (Wc.nilRow 6 (Row 3 ([] : List Int) []) ?_)
  refine Wc.seq ?_
  refine Wc.region rfl ?_
  refine Wl.box 7 rfl rfl rfl (fun b1 => ?_)
  refine Wl.alloc 8 rfl T.zero25 (fun b2 => ?_)
  refine Wl.q rfl (Qy.assign rfl) ?_
  refine Wl.done ?_
  refine Ar.next ?_
  refine Wc.seq ?_
  refine Wc.region rfl ?_
  refine Wl.q rfl (Qy.loadAll 7 T.agg25 rfl rfl rfl) ?_
  refine Wl.call0 rfl T.fn40 rfl (c40 _ _ _ _ _ _ (by assumption) (by assumption) (by omega) (by omega)) ?_
  refine Wl.q rfl (Qy.move rfl) ?_
  refine Wl.q rfl (Qy.extract rfl rfl) ?_
  refine Wl.q rfl (Qy.extract rfl rfl) ?_
  refine Wl.q rfl (Qy.assign rfl) ?_
  refine Wl.q rfl (Qy.assign rfl) ?_
  refine Wl.done ?_
  refine Ar.next ?_
  refine Wc.seq ?_
  refine Wc.seq ?_
  refine Wc.region rfl ?_
  refine Wl.q rfl (Qy.move rfl) ?_
  refine Wl.q rfl (Qy.neq rfl rfl) ?_
  refine Wl.done ?_
  refine Ar.next ?_
  refine Wc.cond rfl (fun hc1 => ?_) (fun hc1 => ?_)
  refine Wc.seq ?_
  refine Wc.region rfl ?_
  refine Wl.q rfl (Qy.build (cs := [_, _, _, _]) T.st25 rfl rfl rfl) ?_
  refine Wl.q rfl (Qy.move rfl) ?_
  refine Wl.storeAll 8 T.size25 rfl rfl rfl rfl rfl rfl ?_
  refine Wl.q rfl (Qy.assign rfl) ?_
  refine Wl.done ?_
  refine Ar.next ?_
  refine Wc.ret ?_
  refine Ar.passRet ?_
  rotate_left
  refine Wc.skip ?_
  refine Ar.next ?_
  refine Wc.seq ?_
  refine Wc.region rfl ?_
  refine Wl.q rfl (Qy.assign rfl) ?_
  refine Wl.done ?_
  refine Ar.next ?_
  refine Wc.seq ?_
  refine Wc.seq ?_
  refine Wc.region rfl ?_
  refine Wl.q rfl (Qy.loadAll 7 T.agg25 rfl rfl rfl) ?_
  rotate_left
  · refine Ar.pick [5, 6, 8] (by decide) (Ar.out2 (.inr rfl) (Ho := Hp.only _ [0, 1]) rfl (.agg 2 rfl rfl T.agg25) (.tmp rfl) (Hp.sub_only _ _) ?_)
    rw [hcheck]; exact ⟨rfl, rfl, rfl⟩
  · rw [hcheck] at hc1; exact absurd (by decide) hc1
/-- what the pass makes of any program -/
def deadE (p : PV) : PV := if rightP p then deadP p else ⟨0, 0, [], []⟩
def errP (p : PV) : Int := if rightP p then 0 else 80
theorem c53 (G : Imm) (p : PV) (ac ao : Option Addr) (cc co : Nat) (hc : Arr G ac p.code) (ho : Arr G ao p.outs) (h1 : p.code.length ≤ 1099511627776) (h2 : p.outs.length ≤ 1099511627776) :
    Does Try.prog 53 [.agg #[.int .i64 p.ins, .int .i64 p.regs, .slice ac p.code.length cc, .slice ao p.outs.length co]] G [] (fun v G' Ho =>
      ∃ q e bc bo dc do_ j1 j2, v = .tuple #[.agg #[.int .i64 q.ins, .int .i64 q.regs, .slice bc q.code.length dc, .slice bo q.outs.length do_], .int .i64 e] ∧ (q = deadE p ∧ e = errP p) ∧
        OwnA bc dc q.code j1 ∧ OwnA bo do_ q.outs j2 ∧ Ho = [(0, bc.map (·.block), Row 72 q.code j1), (1, bo.map (·.block), Row 3 q.outs j2)] ∧ G' = G) := by
  by_cases hR : rightP p = true
  · refine (c53R G p ac ao cc co hc ho h1 h2 hR).mono fun v G' Ho _ ⟨bc, bo, dc, do_, j1, j2, q1, q2, q3, q4, q5⟩ => ?_
    exact ⟨deadP p, 0, bc, bo, dc, do_, j1, j2, q1, ⟨(if_pos hR).symm, (if_pos hR).symm⟩, q2, q3, q4, q5⟩
  · refine (c53W G p ac ao cc co hc ho h1 h2 hR).mono fun v G' Ho _ ⟨q1, q2, q3⟩ => ?_
    exact ⟨⟨0, 0, [], []⟩, 80, none, none, 0, 0, [], [], q1, ⟨(if_neg hR).symm, (if_neg hR).symm⟩, OwnA.nil, OwnA.nil, q2, q3⟩
end Go.Proofs.Ytbppmiimeccclaa
namespace Go.Proofs.Ytbppmiimeccclaa
open Go Go.Sl
set_option maxRecDepth 100000
set_option maxHeartbeats 2000000
theorem c103 (G : Imm) (p : PV) (ac ao : Option Addr) (cc co : Nat) :
    Does Try.prog 103 [.agg #[.int .i64 p.ins, .int .i64 p.regs, .slice ac p.code.length cc, .slice ao p.outs.length co]] G [] (fun v G' Ho =>
      ∃ b, v = .func (.func 140) #[] #[.pointer (some ⟨b, 0, none⟩)] ∧ Ho = [] ∧ G' b = some (.cells [.int .i64 p.ins, .int .i64 p.regs, .slice ac p.code.length cc, .slice ao p.outs.length co].toArray 25)) := by
  refine Does.enter Try.func103 rfl Try.ntmps103 rfl (fun w => ?_)
  refine Wc.seq ?_
  refine Wc.region rfl ?_
  refine Wl.box 0 rfl rfl rfl (fun b1 => ?_)
  refine Wl.q rfl (Qy.assign rfl) ?_
  refine Wl.done ?_
  refine Ar.next ?_
  refine Wc.seq ?_
  refine Wc.region rfl ?_
  refine Wl.q rfl (Qy.makeFunc rfl rfl) ?_
  refine Wl.q rfl (Qy.assign rfl) ?_
  refine Wl.done ?_
  refine Ar.next ?_
  refine Wc.ret ?_
  refine Ar.freeze 0 rfl (fun G' hle hb => ?_)
  refine Ar.out1 (.inr rfl) (Ho := []) rfl (.tmp rfl) trivial ?_
  exact ⟨_, rfl, rfl, hb⟩
def doesNothing (i : Sl.Instr) : Prop := i.op = 1 ∧ i.to = i.a
instance (i : Sl.Instr) : Decidable (doesNothing i) := inferInstanceAs (Decidable (_ ∧ _))
def idleAt (p : PV) (k : Nat) : Option Int := if (neededP p)[((k : Nat) : Int).toNat]?.getD default = true ∧ ¬ doesNothing (p.code[((k : Nat) : Int).toNat]?.getD default) then none else some (k : Int)
def idleTo (p : PV) (k : Nat) : List Int := (List.range k).filterMap (idleAt p)
def idleP (p : PV) : List Int := if rightP p then idleTo p p.code.length else []
def enc1 (k : Int) : List Value := [.int .i64 k]
theorem idleTo_step (p : PV) (k : Nat) : idleTo p (k + 1) = idleTo p k ++ (idleAt p k).toList := by
  unfold idleTo
  rw [List.range_succ, List.filterMap_append]
  cases h : idleAt p k <;> simp [h]
theorem idleTo_get (p : PV) {k n : Nat} (hk : k < n) {y : Int} (h : idleAt p k = some y) : (idleTo p n)[(idleTo p k).length]? = some y := by
  induction n with
  | zero => omega
  | succ n ih =>
    rw [idleTo_step]
    rcases Nat.lt_or_ge k n with h1 | h1
    · have := ih h1
      rw [List.getElem?_append_left (List.getElem?_eq_some_iff.1 this).1]; exact this
    · have : k = n := by omega
      subst this
      rw [List.getElem?_append_right (Nat.le_refl _), h]; simp
theorem c140R (G : Imm) (p : PV) (ac ao : Option Addr) (cc co : Nat) (b : Nat) (hc : Arr G ac p.code) (ho : Arr G ao p.outs) (h1 : p.code.length ≤ 1099511627776) (h2 : p.outs.length ≤ 1099511627776)
    (hb : G b = some (.cells [.int .i64 p.ins, .int .i64 p.regs, .slice ac p.code.length cc, .slice ao p.outs.length co].toArray 25)) (hR : rightP p = true) :
    IterDoes Try.prog 140 [.pointer (some ⟨b, 0, none⟩)] G enc1 (idleP p) := by
  intro ι J inv stop ly i0 hi0 hY
  obtain ⟨r1, r2, r3, r4, r5, r6, r7, r8⟩ := right_facts hR
  have hcheck : (checkP p).2 = false := by simpa [rightP] using hR
  have hrow := row_all hb
  have hcode := cell_one hb 2 rfl
  have hid : idleP p = idleTo p p.code.length := if_pos hR
  rw [hid] at hY
  have hnl : (neededP p).length = p.code.length := (needTo_len p _).2
  refine Does.enter Try.func140 rfl Try.ntmps140 rfl (fun w => ?_)
  refine Wc.lift 1000 ?_
  refine Wc.seq ?_
  refine Wc.region rfl ?_
  refine Wl.q rfl (Qy.loadsG T.agg25 rfl (by assumption) rfl) ?_
  refine Wl.call0 rfl T.fn40 rfl (c40 _ _ _ _ _ _ (by assumption) (by assumption) (by omega) (by omega)) ?_
  refine Wl.q rfl (Qy.move rfl) ?_
  refine Wl.q rfl (Qy.extract rfl rfl) ?_
  refine Wl.q rfl (Qy.extract rfl rfl) ?_
  refine Wl.q rfl (Qy.assign rfl) ?_
  refine Wl.q rfl (Qy.assign rfl) ?_
  refine Wl.done ?_
  refine Ar.next ?_
  refine Wc.seq ?_
  refine Wc.seq ?_
  refine Wc.region rfl ?_
  refine Wl.q rfl (Qy.move rfl) ?_
  refine Wl.q rfl (Qy.neq rfl rfl) ?_
  refine Wl.done ?_
  refine Ar.next ?_
  refine Wc.cond rfl (fun hc1 => ?_) (fun hc1 => ?_)
  refine Wc.ret ?_
  refine Ar.passRet ?_
  rotate_left
  refine Wc.skip ?_
  refine Ar.next ?_
  refine Wc.seq ?_
  refine Wc.region rfl ?_
  refine Wl.q rfl (Qy.loadsG T.agg25 rfl (by assumption) rfl) ?_
  refine Wl.call 0 rfl T.fn100 rfl (c100 _ _ _ _ _ _ (by assumption) (by assumption) (by omega) (by omega) (by assumption)) (tags_of trivial) (fun v1 G1 Ho1 hle1 hp => ?_)
  obtain ⟨nb1, nc1, nj1, rfl, hnb1, rfl, rfl⟩ := hp
  refine Wl.q rfl (Qy.len T.sl41 rfl) ?_
  refine Wl.q rfl (Qy.move rfl) ?_
  refine Wl.done ?_
  refine Ar.next ?_
  refine Wc.block ?_
  rotate_left
  · rw [hcheck] at hc1; exact absurd rfl hc1
  refine Wc.loopT (ι := Nat × ι) 1000 (fun (k, s) => ([(17, .int .i64 (k : Int)), (16, Go.Value.int Go.IntKind.i64 (↑(List.length (Go.Proofs.Ytbppmiimeccclaa.neededP p)) : Int)), (15, Go.Value.slice nb1 (List.length (Go.Proofs.Ytbppmiimeccclaa.neededP p)) nc1), (0, Go.Value.func (Go.Fn.yield ly) #[] #[]), (1, Go.Value.pointer (Option.some (Go.Addr.mk b 0 Option.none)))], [(0, Option.map (fun x => Go.Addr.block x) nb1, Go.Sl.Row (α := Bool) 4 (Go.Proofs.Ytbppmiimeccclaa.neededP p) (nj1))])) (fun (k, s) => J s) (fun (k, s) => k ≤ p.code.length ∧ inv (idleTo p k).length s) (fun (k, s) => p.code.length - k) ((0, i0)) (⟨Nat.zero_le _, hi0⟩) ⟨rfl, rfl, rfl, rfl, rfl, trivial⟩ ⟨rfl, trivial⟩ (by repeat (first | exact Hp.tl_self _ _ | refine Hp.tl_cons rfl ?_)) (fun ⟨k, s⟩ => fun (hk : k ≤ p.code.length ∧ inv (idleTo p k).length s) => ?_)
  obtain ⟨hk1, hinv⟩ := hk
  rcases Nat.lt_or_ge k p.code.length with hlt | hge
  · by_cases hd : (p.code[((k : Nat) : Int).toNat]?.getD default).op = 1 ∧ (p.code[((k : Nat) : Int).toNat]?.getD default).to = (p.code[((k : Nat) : Int).toNat]?.getD default).a
    · have hat : idleAt p k = some (k : Int) := if_neg (fun h => h.2 hd)
      refine Wc.seq ?_
      refine Wc.region rfl ?_
      refine Wl.q rfl (Qy.lss rfl rfl) ?_
      refine Wl.done ?_
      refine Ar.next ?_
      refine Wc.seq ?_
      refine Wc.condP rfl (by first | assumption | omega) ?_
      refine Wc.skip ?_
      refine Ar.next ?_
      refine Wc.seq ?_
      refine Wc.block ?_
      refine Wc.seq ?_
      refine Wc.region rfl ?_
      refine Wl.q rfl (Qy.move rfl) ?_
      refine Wl.q rfl (Qy.indexAddrO (α := Bool) T.sl41 rfl rfl (by assumption) (by omega)) ?_
      refine Wl.q rfl (Qy.loadO 0 0 T.one4 rfl rfl (by assumption) (by omega) rfl rfl) ?_
      refine Wl.q rfl (Qy.assign rfl) ?_
      refine Wl.q rfl (Qy.assign rfl) ?_
      refine Wl.done ?_
      refine Ar.next ?_
      refine Wc.seq ?_
      refine Wc.region rfl ?_
      refine Wl.q rfl (Qy.move rfl) ?_
      refine Wl.q rfl (Qy.not rfl) ?_
      refine Wl.q rfl (Qy.move rfl) ?_
      refine Wl.casesB 24 rfl (fun hg1 => ?_) (fun hg1 => ?_)
      refine Wl.pass rfl rfl rfl ?_
      refine Wl.pass rfl rfl rfl ?_
      refine Wl.pass rfl rfl rfl ?_
      refine Wl.pass rfl rfl rfl ?_
      refine Wl.pass rfl rfl rfl ?_
      refine Wl.pass rfl rfl rfl ?_
      refine Wl.q rfl (Qy.pick rfl rfl) ?_
      refine Wl.q rfl (Qy.move rfl) ?_
      refine Wl.want rfl rfl ?_
      refine Wl.q rfl (Qy.move rfl) ?_
      refine Wl.want rfl rfl ?_
      refine Wl.q rfl (Qy.move rfl) ?_
      refine Wl.want rfl rfl ?_
      rotate_left
      refine Wl.want rfl rfl ?_
      refine Wl.q rfl (Qy.fieldAddr T.fa25_2 rfl) ?_
      refine Wl.want rfl rfl ?_
      refine Wl.q rfl (Qy.loadG T.one22 rfl (by assumption)) ?_
      refine Wl.want rfl rfl ?_
      refine Wl.q rfl (Qy.move rfl) ?_
      refine Wl.want rfl rfl ?_
      refine Wl.q rfl (Qy.at (α := Instr) T.sl22 rfl rfl (by assumption) (by omega)) ?_
      refine Wl.want rfl rfl ?_
      refine Wl.q rfl (Qy.loadsG T.agg72 rfl (Arr.elem (by assumption) (by omega)) rfl) ?_
      refine Wl.want rfl rfl ?_
      refine Wl.call0 rfl T.fn101 rfl (c101 _ _) ?_
      refine Wl.q rfl (Qy.pick rfl rfl) ?_
      refine Wl.q rfl (Qy.move rfl) ?_
      refine Wl.yes 32 rfl (by first | assumption | omega) ?_
      refine Wl.want rfl rfl ?_
      refine Wl.q rfl (Qy.move rfl) ?_
      refine Wl.want rfl rfl ?_
      refine Wl.q rfl (Qy.move rfl) ?_
      refine Wl.want rfl rfl ?_
      rotate_left
      all_goals
        refine Wl.yieldT (A := [(0, Option.map (fun x => Go.Addr.block x) nb1, Go.Sl.Row (α := Bool) 4 (Go.Proofs.Ytbppmiimeccclaa.neededP p) (nj1))]) 1000 rfl rfl rfl ⟨rfl, trivial⟩ (by repeat (first | exact Hp.tl_self _ _ | refine Hp.tl_cons rfl ?_)) rfl (hY (idleTo p k).length _ s (idleTo_get p hlt hat) hinv) (fun vy Gy Hy hly hp => ?_)
        obtain ⟨rfl, s', rfl, hp⟩ := hp
        rcases hp with ⟨rfl, hinv'⟩ | ⟨rfl, hst⟩
        · refine Wl.want rfl rfl ?_
          refine Wl.q rfl (Qy.not rfl) ?_
          refine Wl.q rfl (Qy.pick rfl rfl) ?_
          refine Wl.done ?_
          refine Ar.next ?_
          refine Wc.condF rfl ?_
          refine Wc.skip ?_
          refine Ar.outNormal ?_
          refine Ar.next ?_
          refine Wc.region rfl ?_
          refine Wl.q rfl (Qy.add rfl rfl (by omega)) ?_
          refine Wl.q rfl (Qy.move rfl) ?_
          refine Wl.done ?_
          refine Ar.againT ((k + 1, s')) ?_ ?_ ⟨rfl, rfl, rfl, rfl, rfl, trivial⟩ ⟨rfl, trivial⟩ (by repeat (first | exact Hp.tl_self _ _ | refine Hp.tl_cons rfl ?_))
          · exact ⟨by omega, by rw [idleTo_step, hat]; simpa using hinv'⟩
          · show p.code.length - (k + 1) < p.code.length - k
            omega
        · refine Wl.want rfl rfl ?_
          refine Wl.q rfl (Qy.not rfl) ?_
          refine Wl.q rfl (Qy.pick rfl rfl) ?_
          refine Wl.done ?_
          refine Ar.next ?_
          refine Wc.condT rfl ?_
          refine Wc.ret ?_
          refine Ar.outRet ?_
          refine Ar.passRet ?_
          refine Ar.passRet ?_
          refine Ar.outRet ?_
          refine Ar.outT (k := 1000) (.inr rfl) rfl (by repeat (first | exact Hp.tl_self _ _ | refine Hp.tl_cons rfl ?_)) ⟨rfl, s', rfl, .inr hst⟩
    · refine Wc.seq ?_
      refine Wc.region rfl ?_
      refine Wl.q rfl (Qy.lss rfl rfl) ?_
      refine Wl.done ?_
      refine Ar.next ?_
      refine Wc.seq ?_
      refine Wc.condP rfl (by first | assumption | omega) ?_
      refine Wc.skip ?_
      refine Ar.next ?_
      refine Wc.seq ?_
      refine Wc.block ?_
      refine Wc.seq ?_
      refine Wc.region rfl ?_
      refine Wl.q rfl (Qy.move rfl) ?_
      refine Wl.q rfl (Qy.indexAddrO (α := Bool) T.sl41 rfl rfl (by assumption) (by omega)) ?_
      refine Wl.q rfl (Qy.loadO 0 0 T.one4 rfl rfl (by assumption) (by omega) rfl rfl) ?_
      refine Wl.q rfl (Qy.assign rfl) ?_
      refine Wl.q rfl (Qy.assign rfl) ?_
      refine Wl.done ?_
      refine Ar.next ?_
      refine Wc.seq ?_
      refine Wc.region rfl ?_
      refine Wl.q rfl (Qy.move rfl) ?_
      refine Wl.q rfl (Qy.not rfl) ?_
      refine Wl.q rfl (Qy.move rfl) ?_
      refine Wl.casesB 24 rfl (fun hg1 => ?_) (fun hg1 => ?_)
      refine Wl.pass rfl rfl rfl ?_
      refine Wl.pass rfl rfl rfl ?_
      refine Wl.pass rfl rfl rfl ?_
      refine Wl.pass rfl rfl rfl ?_
      refine Wl.pass rfl rfl rfl ?_
      refine Wl.pass rfl rfl rfl ?_
      refine Wl.q rfl (Qy.pick rfl rfl) ?_
      refine Wl.q rfl (Qy.move rfl) ?_
      refine Wl.want rfl rfl ?_
      refine Wl.q rfl (Qy.move rfl) ?_
      refine Wl.want rfl rfl ?_
      refine Wl.q rfl (Qy.move rfl) ?_
      refine Wl.want rfl rfl ?_
      rotate_left
      refine Wl.want rfl rfl ?_
      refine Wl.q rfl (Qy.fieldAddr T.fa25_2 rfl) ?_
      refine Wl.want rfl rfl ?_
      refine Wl.q rfl (Qy.loadG T.one22 rfl (by assumption)) ?_
      refine Wl.want rfl rfl ?_
      refine Wl.q rfl (Qy.move rfl) ?_
      refine Wl.want rfl rfl ?_
      refine Wl.q rfl (Qy.at (α := Instr) T.sl22 rfl rfl (by assumption) (by omega)) ?_
      refine Wl.want rfl rfl ?_
      refine Wl.q rfl (Qy.loadsG T.agg72 rfl (Arr.elem (by assumption) (by omega)) rfl) ?_
      refine Wl.want rfl rfl ?_
      refine Wl.call0 rfl T.fn101 rfl (c101 _ _) ?_
      refine Wl.q rfl (Qy.pick rfl rfl) ?_
      refine Wl.q rfl (Qy.move rfl) ?_
      refine Wl.no 32 rfl (by first | assumption | omega) ?_
      refine Wl.pass rfl rfl rfl ?_
      refine Wl.pass rfl rfl rfl ?_
      refine Wl.pass rfl rfl rfl ?_
      refine Wl.pass rfl rfl rfl ?_
      refine Wl.q rfl (Qy.pick rfl rfl) ?_
      refine Wl.done ?_
      refine Ar.next ?_
      refine Wc.condF rfl ?_
      refine Wc.skip ?_
      refine Ar.outNormal ?_
      refine Ar.next ?_
      refine Wc.region rfl ?_
      refine Wl.q rfl (Qy.add rfl rfl (by omega)) ?_
      refine Wl.q rfl (Qy.move rfl) ?_
      refine Wl.done ?_
      rotate_left
      · have hat : idleAt p k = some (k : Int) := if_neg (fun h => by rw [h.1] at hg1; cases hg1)
        refine Wl.yieldT (A := [(0, Option.map (fun x => Go.Addr.block x) nb1, Go.Sl.Row (α := Bool) 4 (Go.Proofs.Ytbppmiimeccclaa.neededP p) (nj1))]) 1000 rfl rfl rfl ⟨rfl, trivial⟩ (by repeat (first | exact Hp.tl_self _ _ | refine Hp.tl_cons rfl ?_)) rfl (hY (idleTo p k).length _ s (idleTo_get p hlt hat) hinv) (fun vy Gy Hy hly hp => ?_)
        obtain ⟨rfl, s', rfl, hp⟩ := hp
        rcases hp with ⟨rfl, hinv'⟩ | ⟨rfl, hst⟩
        · refine Wl.want rfl rfl ?_
          refine Wl.q rfl (Qy.not rfl) ?_
          refine Wl.q rfl (Qy.pick rfl rfl) ?_
          refine Wl.done ?_
          refine Ar.next ?_
          refine Wc.condF rfl ?_
          refine Wc.skip ?_
          refine Ar.outNormal ?_
          refine Ar.next ?_
          refine Wc.region rfl ?_
          refine Wl.q rfl (Qy.add rfl rfl (by omega)) ?_
          refine Wl.q rfl (Qy.move rfl) ?_
          refine Wl.done ?_
          refine Ar.againT ((k + 1, s')) ?_ ?_ ⟨rfl, rfl, rfl, rfl, rfl, trivial⟩ ⟨rfl, trivial⟩ (by repeat (first | exact Hp.tl_self _ _ | refine Hp.tl_cons rfl ?_))
          · exact ⟨by omega, by rw [idleTo_step, hat]; simpa using hinv'⟩
          · show p.code.length - (k + 1) < p.code.length - k
            omega
        · refine Wl.want rfl rfl ?_
          refine Wl.q rfl (Qy.not rfl) ?_
          refine Wl.q rfl (Qy.pick rfl rfl) ?_
          refine Wl.done ?_
          refine Ar.next ?_
          refine Wc.condT rfl ?_
          refine Wc.ret ?_
          refine Ar.outRet ?_
          refine Ar.passRet ?_
          refine Ar.passRet ?_
          refine Ar.outRet ?_
          refine Ar.outT (k := 1000) (.inr rfl) rfl (by repeat (first | exact Hp.tl_self _ _ | refine Hp.tl_cons rfl ?_)) ⟨rfl, s', rfl, .inr hst⟩
      · have hat : idleAt p k = none := if_pos ⟨by simpa using hg1, hd⟩
        refine Ar.againT ((k + 1, s)) ?_ ?_ ⟨rfl, rfl, rfl, rfl, rfl, trivial⟩ ⟨rfl, trivial⟩ (by repeat (first | exact Hp.tl_self _ _ | refine Hp.tl_cons rfl ?_))
        · exact ⟨by omega, by rw [idleTo_step, hat]; simpa using hinv⟩
        · show p.code.length - (k + 1) < p.code.length - k
          omega
  · have hk : k = p.code.length := by omega
    subst hk
    rw [← hid] at hinv
    refine Wc.seq ?_
    refine Wc.region rfl ?_
    refine Wl.q rfl (Qy.lss rfl rfl) ?_
    refine Wl.done ?_
    refine Ar.next ?_
    refine Wc.seq ?_
    refine Wc.condN rfl (by first | assumption | omega) ?_
    refine Wc.exit ?_
    refine Ar.passExit ?_
    refine Ar.passExit ?_
    refine Ar.here ?_
    refine Ar.outT (k := 1000) (.inl rfl) rfl (by repeat (first | exact Hp.tl_self _ _ | refine Hp.tl_cons rfl ?_)) ⟨rfl, s, rfl, .inl hinv⟩
theorem c140W (G : Imm) (p : PV) (ac ao : Option Addr) (cc co : Nat) (b : Nat) (hc : Arr G ac p.code) (ho : Arr G ao p.outs) (h1 : p.code.length ≤ 1099511627776) (h2 : p.outs.length ≤ 1099511627776)
    (hb : G b = some (.cells [.int .i64 p.ins, .int .i64 p.regs, .slice ac p.code.length cc, .slice ao p.outs.length co].toArray 25)) (hR : ¬ rightP p = true) :
    IterDoes Try.prog 140 [.pointer (some ⟨b, 0, none⟩)] G enc1 (idleP p) := by
  intro ι J inv stop ly i0 hi0 hY
  have hcheck : (checkP p).2 = true := by simpa [rightP] using hR
  have hrow := row_all hb
  have hid : idleP p = [] := if_neg hR
  refine Does.enter Try.func140 rfl Try.ntmps140 rfl (fun w => ?_)
  refine Wc.lift 1000 ?_
  refine Wc.seq ?_
  refine Wc.region rfl ?_
  refine Wl.q rfl (Qy.loadsG T.agg25 rfl (by assumption) rfl) ?_
  refine Wl.call0 rfl T.fn40 rfl (c40 _ _ _ _ _ _ (by assumption) (by assumption) (by omega) (by omega)) ?_
  refine Wl.q rfl (Qy.move rfl) ?_
  refine Wl.q rfl (Qy.extract rfl rfl) ?_
  refine Wl.q rfl (Qy.extract rfl rfl) ?_
  refine Wl.q rfl (Qy.assign rfl) ?_
  refine Wl.q rfl (Qy.assign rfl) ?_
  refine Wl.done ?_
  refine Ar.next ?_
  refine Wc.seq ?_
  refine Wc.seq ?_
  refine Wc.region rfl ?_
  refine Wl.q rfl (Qy.move rfl) ?_
  refine Wl.q rfl (Qy.neq rfl rfl) ?_
  refine Wl.done ?_
  refine Ar.next ?_
  refine Wc.cond rfl (fun hc1 => ?_) (fun hc1 => ?_)
  refine Wc.ret ?_
  refine Ar.passRet ?_
  rotate_left
  refine Wc.skip ?_
  refine Ar.next ?_
  refine Wc.seq ?_
  refine Wc.region rfl ?_
  refine Wl.q rfl (Qy.loadsG T.agg25 rfl (by assumption) rfl) ?_
  rotate_left
  · refine Ar.outT (k := 1000) (.inr rfl) rfl (by repeat (first | exact Hp.tl_self _ _ | refine Hp.tl_cons rfl ?_)) ⟨rfl, i0, rfl, .inl (by rw [hid]; exact hi0)⟩
  · rw [hcheck] at hc1; exact absurd (by decide) hc1
theorem c140 (G : Imm) (p : PV) (ac ao : Option Addr) (cc co : Nat) (b : Nat) (hc : Arr G ac p.code) (ho : Arr G ao p.outs) (h1 : p.code.length ≤ 1099511627776) (h2 : p.outs.length ≤ 1099511627776)
    (hb : G b = some (.cells [.int .i64 p.ins, .int .i64 p.regs, .slice ac p.code.length cc, .slice ao p.outs.length co].toArray 25)) : IterDoes Try.prog 140 [.pointer (some ⟨b, 0, none⟩)] G enc1 (idleP p) := by
  by_cases hR : rightP p = true
  · exact c140R G p ac ao cc co b hc ho h1 h2 hb hR
  · exact c140W G p ac ao cc co b hc ho h1 h2 hb hR
theorem idle_len (p : PV) : (idleP p).length ≤ p.code.length := by
  unfold idleP
  split
  · unfold idleTo
    exact Nat.le_trans (List.length_filterMap_le _ _) (by simp)
  · simp
theorem c57 (G : Imm) (p : PV) (ac ao : Option Addr) (cc co : Nat) (hc : Arr G ac p.code) (ho : Arr G ao p.outs) (h1 : p.code.length ≤ 1048576) (h2 : p.outs.length ≤ 1048576) :
    Does Try.prog 57 [.agg #[.int .i64 p.ins, .int .i64 p.regs, .slice ac p.code.length cc, .slice ao p.outs.length co]] G [] (fun v G' Ho => ∃ b d j, v = .slice b (idleP p).length d ∧ (idleP p = [] → b = none) ∧ OwnA b d (idleP p) j ∧ Ho = [(0, b.map (·.block), Row 3 (idleP p) j)] ∧ G' = G) := by
  have hil := idle_len p
  refine Does.enterM Try.func57 rfl Try.ntmps57 rfl (fun w => ?_)
  refine Wc.nilRow 0 (Row 3 ([] : List Int) []) ?_
  refine Wc.seq ?_
  refine Wc.region rfl ?_
  refine Wl.box 1 rfl rfl rfl (fun b1 => ?_)
  refine Wl.q rfl (Qy.assign rfl) ?_
  refine Wl.done ?_
  refine Ar.next ?_
  refine Wc.seq ?_
  refine Wc.region rfl ?_
  refine Wl.alloc 2 rfl T.zero23 (fun b2 => ?_)
  refine Wl.done ?_
  refine Ar.next ?_
  refine Wc.seq ?_
  refine Wc.region rfl ?_
  refine Wl.q rfl (Qy.loadAll 1 T.agg25 rfl rfl rfl) ?_
  refine Wl.call 3 rfl T.fn103 rfl (c103 _ _ _ _ _ _) (tags_of trivial) (fun v1 G1 Ho1 hle1 hp => ?_)
  obtain ⟨bi1, rfl, rfl, hbi1⟩ := hp
  replace hc := hc.up hle1
  replace ho := ho.up hle1
  refine Wl.q rfl (Qy.assign rfl) ?_
  refine Wl.done ?_
  refine Ar.next ?_
  refine Wc.seq ?_
  refine Wc.seq ?_
  refine Wc.region rfl ?_
  refine Wl.q rfl (Qy.move rfl) ?_
  refine Wl.q rfl (Qy.eqlFuncNil (by kernel_rfl) rfl rfl) ?_
  refine Wl.done ?_
  refine Ar.next ?_
  refine Wc.condF rfl ?_
  refine Wc.skip ?_
  refine Ar.next ?_
  refine Wc.seq ?_
  refine Wc.seq ?_
  refine Wc.region rfl ?_
  refine Wl.q rfl (Qy.move rfl) ?_
  refine Wl.done ?_
  refine Ar.next ?_
  refine Wc.block ?_
  refine Wc.rangeFunc (ι := List Int × (Option Addr × Nat × List Value)) 900 901 (fun (xs, (b, d, j)) => [(2, some b2, .cells #[.slice b xs.length d] 23), (0, b.map (·.block), Row 3 xs j), (1, Option.some b1, Go.Obj.cells #[Go.Value.int Go.IntKind.i64 (Go.Proofs.Ytbppmiimeccclaa.PV.ins p), Go.Value.int Go.IntKind.i64 (Go.Proofs.Ytbppmiimeccclaa.PV.regs p), Go.Value.slice ac (List.length (Go.Proofs.Ytbppmiimeccclaa.PV.code p)) cc, Go.Value.slice ao (List.length (Go.Proofs.Ytbppmiimeccclaa.PV.outs p)) co] 25)]) (fun k (xs, (b, d, j)) => xs = (idleP p).take k ∧ OwnA b d xs j ∧ (xs = [] → b = none)) (fun c (xs, (b, d, j)) => False) (([], (none, 0, []))) rfl T.fn140 (fun _ => rfl) rfl (c140 _ p _ _ _ _ _ hc ho (by omega) (by omega) hbi1) (⟨rfl, OwnA.nil, fun _ => rfl⟩) (Hp.got ⟨rfl, rfl, rfl, trivial⟩) ⟨rfl, fun _ => rfl⟩ (fun k x ⟨xs, (b, d, j)⟩ l dd q w0 hx hi => ?_) (fun ⟨xs, (b, d, j)⟩ dd hi => ?_) (fun ⟨xs, (b, d, j)⟩ dd c hi => ?_)
  · obtain ⟨hxs, hob, hnil⟩ := hi
    have hxl : xs.length ≤ 1048576 := by rw [hxs, List.length_take]; omega
    refine Wc.region rfl ?_
    refine Wl.q rfl (Qy.assign rfl) ?_
    refine Wl.done ?_
    refine Ar.begin 900 rfl ?_
    refine Wc.block ?_
    refine Wc.region rfl ?_
    refine Wl.q rfl (Qy.load 2 T.one23 rfl rfl rfl) ?_
    refine Wl.q rfl (Qy.move rfl) ?_
    refine Wl.lit (α := Int) 902 [(x)] rfl T.sl23 T.el3 rfl rfl rfl rfl rfl (fun b3 => ?_)
    refine Wl.append (α := Int) 0 rfl T.sl23 T.el3 rfl rfl rfl (by first | assumption | exact OwnA.nil | exact OwnA.made (by simp)) (Src.row 902 rfl) (by first | omega | (simp only [List.length_append, List.length_cons, List.length_nil, maxLen]; omega)) (by first | omega | (simp only [List.length_append, List.length_cons, List.length_nil, maxLen]; omega)) (fun a1 c1 junk1 ho1 => ?_)
    refine Wl.store 2 T.one23 rfl rfl rfl rfl rfl ?_
    refine Wl.done ?_
    refine Ar.outNormal ?_
    refine Ar.roundEnd none (.inl ⟨rfl, rfl⟩) 900 rfl ⟨rfl, ((xs ++ [x], (a1, c1, junk1)), none), rfl, .inl ⟨rfl, rfl, ?_⟩⟩ (Hp.got ⟨rfl, rfl, rfl, rfl, rfl, trivial⟩)
    refine ⟨?_, ho1, fun h => by simp at h⟩
    rw [List.take_add_one, hx, hxs]; rfl
  · obtain ⟨hxs, hob, hnil⟩ := hi
    rw [List.take_length] at hxs
    subst hxs
    refine Ar.outNormal ?_
    refine Ar.next ?_
    refine Wc.seq ?_
    refine Wc.region rfl ?_
    refine Wl.q rfl (Qy.load 2 T.one23 rfl rfl rfl) ?_
    refine Wl.q rfl (Qy.assign rfl) ?_
    refine Wl.done ?_
    refine Ar.next ?_
    refine Wc.ret ?_
    refine Ar.collect (.inr rfl) 901 rfl ?_
    refine Ar.outOf (.inr rfl) ?_
    refine Ar.base (Ar.pick [0] (by decide) (Ar.out1 (.inr rfl) rfl (.tmp rfl) (Hp.sub_self 0 _) ?_))
    exact ⟨_, _, _, rfl, hnil, hob, rfl, rfl⟩
  · exact hi.elim
end Go.Proofs.Ytbppmiimeccclaa
namespace Go.Proofs.Ytbppmiimeccclaa
open Go Go.Sl
set_option maxRecDepth 100000
set_option maxHeartbeats 2000000
theorem c56 (G : Imm) (xs ys : List Int) (a b : Option Addr) (c d : Nat) (hx : Arr G a xs) (hy : Arr G b ys) (h1 : xs.length ≤ 1099511627776) (h2 : ys.length ≤ 1099511627776) :
    Does Try.prog 56 [.slice a xs.length c, .slice b ys.length d] G [] (fun v G' Ho => v = .bool (decide (xs = ys)) ∧ G' = G ∧ Ho = []) := by
  refine Does.enter Try.func56 rfl Try.ntmps56 rfl (fun w => ?_)
  refine Wc.seq ?_
  refine Wc.region rfl ?_
  refine Wl.q rfl (Qy.assign rfl) ?_
  refine Wl.done ?_
  refine Ar.next ?_
  refine Wc.seq ?_
  refine Wc.seq ?_
  refine Wc.region rfl ?_
  refine Wl.q rfl (Qy.move rfl) ?_
  refine Wl.q rfl (Qy.len T.sl23 rfl) ?_
  refine Wl.q rfl (Qy.move rfl) ?_
  refine Wl.q rfl (Qy.len T.sl23 rfl) ?_
  refine Wl.q rfl (Qy.neq rfl rfl) ?_
  refine Wl.done ?_
  refine Ar.next ?_
  refine Wc.cond rfl (fun hc1 => ?_) (fun hc1 => ?_)
  refine Wc.seq ?_
  refine Wc.region rfl ?_
  refine Wl.q rfl (Qy.assign rfl) ?_
  refine Wl.done ?_
  refine Ar.next ?_
  refine Wc.ret ?_
  refine Ar.passRet ?_
  refine Ar.out1 (.inr rfl) (Ho := Hp.only _ []) rfl (.tmp rfl) (Hp.sub_only _ _) ?_
  rotate_left
  refine Wc.skip ?_
  refine Ar.next ?_
  refine Wc.seq ?_
  refine Wc.seq ?_
  refine Wc.region rfl ?_
  refine Wl.q rfl (Qy.move rfl) ?_
  refine Wl.q rfl (Qy.len T.sl23 rfl) ?_
  refine Wl.q rfl (Qy.move rfl) ?_
  refine Wl.done ?_
  refine Ar.next ?_
  refine Wc.block ?_
  rotate_left
  · have : xs ≠ ys := by rintro rfl; exact hc1 rfl
    exact ⟨by simp [this], rfl, rfl⟩
  have hl : xs.length = ys.length := by omega
  clear hc1
  refine Wc.loop (ι := Nat) (fun k => ([(13, .int .i64 (k : Int)), (12, Go.Value.int Go.IntKind.i64 (↑(List.length xs) : Int)), (0, Go.Value.slice a (List.length xs) c), (1, Go.Value.slice b (List.length ys) d)], [])) (fun k => k ≤ xs.length ∧ xs.take k = ys.take k) (fun k => xs.length - k) (0) (⟨Nat.zero_le _, rfl⟩) ⟨rfl, rfl, rfl, rfl, trivial⟩ trivial (fun k => fun (hk : k ≤ xs.length ∧ xs.take k = ys.take k) => ?_)
  obtain ⟨hk1, hk2⟩ := hk
  refine Wc.seq ?_
  refine Wc.region rfl ?_
  refine Wl.q rfl (Qy.lss rfl rfl) ?_
  refine Wl.done ?_
  refine Ar.next ?_
  refine Wc.seq ?_
  refine Wc.cond rfl (fun hc1 => ?_) (fun hc1 => ?_)
  refine Wc.skip ?_
  refine Ar.next ?_
  refine Wc.seq ?_
  refine Wc.block ?_
  refine Wc.seq ?_
  refine Wc.region rfl ?_
  refine Wl.q rfl (Qy.move rfl) ?_
  refine Wl.q rfl (Qy.assign rfl) ?_
  refine Wl.done ?_
  refine Ar.next ?_
  refine Wc.seq ?_
  refine Wc.draw [] [] T.mixed rfl ?_
  refine Gm.q 0 [] (by kernel_rfl) rfl rfl (Qy.move rfl) ?_
  refine Gm.q 1 [] (by kernel_rfl) rfl rfl (Qy.move rfl) ?_
  refine Gm.q 2 [] (by kernel_rfl) rfl rfl (Qy.at (α := Int) T.sl23 rfl rfl (by assumption) (by omega)) ?_
  refine Gm.q 3 [] (by kernel_rfl) rfl rfl (Qy.loadG T.one3 rfl (Arr.cell (by assumption) (by omega) 0 rfl rfl)) ?_
  refine Gm.q 4 [] (by kernel_rfl) rfl rfl (Qy.move rfl) ?_
  refine Gm.q 5 [] (by kernel_rfl) rfl rfl (Qy.move rfl) ?_
  refine Gm.q 6 [] (by kernel_rfl) rfl rfl (Qy.at (α := Int) T.sl23 rfl rfl (by assumption) (by omega)) ?_
  refine Gm.q 7 [] (by kernel_rfl) rfl rfl (Qy.loadG T.one3 rfl (Arr.cell (by assumption) (by omega) 0 rfl rfl)) ?_
  refine Gm.q 8 [] (by kernel_rfl) rfl rfl (Qy.neq rfl rfl) ?_
  refine Gm.doneA (by kernel_rfl) trivial (by first | exact Imm.le_refl _ | assumption | (refine Imm.le_trans ?_ (by assumption); first | assumption | (refine Imm.le_trans ?_ (by assumption); assumption))) ?_
  refine Ar.next ?_
  refine Wc.cond rfl (fun hc2 => ?_) (fun hc2 => ?_)
  refine Wc.seq ?_
  refine Wc.region rfl ?_
  refine Wl.q rfl (Qy.assign rfl) ?_
  refine Wl.done ?_
  refine Ar.next ?_
  refine Wc.ret ?_
  refine Ar.outRet ?_
  refine Ar.passRet ?_
  refine Ar.passRet ?_
  refine Ar.outRet ?_
  refine Ar.passRet ?_
  refine Ar.out1 (.inr rfl) (Ho := Hp.only _ []) rfl (.tmp rfl) (Hp.sub_only _ _) ?_
  rotate_left
  refine Wc.skip ?_
  refine Ar.outNormal ?_
  refine Ar.next ?_
  refine Wc.region rfl ?_
  refine Wl.q rfl (Qy.add rfl rfl (by omega)) ?_
  refine Wl.q rfl (Qy.move rfl) ?_
  refine Wl.done ?_
  rotate_left
  refine Wc.exit ?_
  refine Ar.passExit ?_
  refine Ar.passExit ?_
  refine Ar.here ?_
  refine Ar.next ?_
  refine Wc.seq ?_
  refine Wc.region rfl ?_
  refine Wl.q rfl (Qy.assign rfl) ?_
  refine Wl.done ?_
  refine Ar.next ?_
  refine Wc.ret ?_
  refine Ar.out1 (.inr rfl) (Ho := Hp.only _ []) rfl (.tmp rfl) (Hp.sub_only _ _) ?_
  rotate_left
  · have : xs ≠ ys := by rintro rfl; exact hc2 rfl
    exact ⟨by simp [this], rfl, rfl⟩
  · refine Ar.again (k + 1) ?_ ?_ rfl ⟨rfl, rfl, rfl, rfl, trivial⟩ trivial
    · exact ⟨by omega, take_eq_step (by omega) (by omega) hk2 (Decidable.not_not.1 hc2)⟩
    · omega
  · have hk : k = xs.length := by omega
    subst hk
    rw [List.take_length, hl, List.take_length] at hk2
    exact ⟨by simp [hk2], rfl, rfl⟩
theorem c55 (G : Imm) (xs ys : List Bool) (a b : Option Addr) (c d : Nat) (hx : Arr G a xs) (hy : Arr G b ys) (h1 : xs.length ≤ 1099511627776) (h2 : ys.length ≤ 1099511627776) :
    Does Try.prog 55 [.slice a xs.length c, .slice b ys.length d] G [] (fun v G' Ho => v = .bool (decide (xs = ys)) ∧ G' = G ∧ Ho = []) := by
  refine Does.enter Try.func55 rfl Try.ntmps55 rfl (fun w => ?_)
  refine Wc.seq ?_
  refine Wc.region rfl ?_
  refine Wl.q rfl (Qy.assign rfl) ?_
  refine Wl.done ?_
  refine Ar.next ?_
  refine Wc.seq ?_
  refine Wc.seq ?_
  refine Wc.region rfl ?_
  refine Wl.q rfl (Qy.move rfl) ?_
  refine Wl.q rfl (Qy.len T.sl41 rfl) ?_
  refine Wl.q rfl (Qy.move rfl) ?_
  refine Wl.q rfl (Qy.len T.sl41 rfl) ?_
  refine Wl.q rfl (Qy.neq rfl rfl) ?_
  refine Wl.done ?_
  refine Ar.next ?_
  refine Wc.cond rfl (fun hc1 => ?_) (fun hc1 => ?_)
  refine Wc.seq ?_
  refine Wc.region rfl ?_
  refine Wl.q rfl (Qy.assign rfl) ?_
  refine Wl.done ?_
  refine Ar.next ?_
  refine Wc.ret ?_
  refine Ar.passRet ?_
  refine Ar.out1 (.inr rfl) (Ho := Hp.only _ []) rfl (.tmp rfl) (Hp.sub_only _ _) ?_
  rotate_left
  refine Wc.skip ?_
  refine Ar.next ?_
  refine Wc.seq ?_
  refine Wc.seq ?_
  refine Wc.region rfl ?_
  refine Wl.q rfl (Qy.move rfl) ?_
  refine Wl.q rfl (Qy.len T.sl41 rfl) ?_
  refine Wl.q rfl (Qy.move rfl) ?_
  refine Wl.done ?_
  refine Ar.next ?_
  refine Wc.block ?_
  rotate_left
  · have : xs ≠ ys := by rintro rfl; exact hc1 rfl
    exact ⟨by simp [this], rfl, rfl⟩
  have hl : xs.length = ys.length := by omega
  clear hc1
  refine Wc.loop (ι := Nat) (fun k => ([(13, .int .i64 (k : Int)), (12, Go.Value.int Go.IntKind.i64 (↑(List.length xs) : Int)), (0, Go.Value.slice a (List.length xs) c), (1, Go.Value.slice b (List.length ys) d)], [])) (fun k => k ≤ xs.length ∧ xs.take k = ys.take k) (fun k => xs.length - k) (0) (⟨Nat.zero_le _, rfl⟩) ⟨rfl, rfl, rfl, rfl, trivial⟩ trivial (fun k => fun (hk : k ≤ xs.length ∧ xs.take k = ys.take k) => ?_)
  obtain ⟨hk1, hk2⟩ := hk
  refine Wc.seq ?_
  refine Wc.region rfl ?_
  refine Wl.q rfl (Qy.lss rfl rfl) ?_
  refine Wl.done ?_
  refine Ar.next ?_
  refine Wc.seq ?_
  refine Wc.cond rfl (fun hc1 => ?_) (fun hc1 => ?_)
  refine Wc.skip ?_
  refine Ar.next ?_
  refine Wc.seq ?_
  refine Wc.block ?_
  refine Wc.seq ?_
  refine Wc.region rfl ?_
  refine Wl.q rfl (Qy.move rfl) ?_
  refine Wl.q rfl (Qy.assign rfl) ?_
  refine Wl.done ?_
  refine Ar.next ?_
  refine Wc.seq ?_
  refine Wc.draw [] [] T.mixed rfl ?_
  refine Gm.q 0 [] (by kernel_rfl) rfl rfl (Qy.move rfl) ?_
  refine Gm.q 1 [] (by kernel_rfl) rfl rfl (Qy.move rfl) ?_
  refine Gm.q 2 [] (by kernel_rfl) rfl rfl (Qy.at (α := Bool) T.sl41 rfl rfl (by assumption) (by omega)) ?_
  refine Gm.q 3 [] (by kernel_rfl) rfl rfl (Qy.loadG T.one4 rfl (Arr.cell (by assumption) (by omega) 0 rfl rfl)) ?_
  refine Gm.q 4 [] (by kernel_rfl) rfl rfl (Qy.move rfl) ?_
  refine Gm.q 5 [] (by kernel_rfl) rfl rfl (Qy.move rfl) ?_
  refine Gm.q 6 [] (by kernel_rfl) rfl rfl (Qy.at (α := Bool) T.sl41 rfl rfl (by assumption) (by omega)) ?_
  refine Gm.q 7 [] (by kernel_rfl) rfl rfl (Qy.loadG T.one4 rfl (Arr.cell (by assumption) (by omega) 0 rfl rfl)) ?_
  refine Gm.q 8 [] (by kernel_rfl) rfl rfl (Qy.neqB T.u4 rfl rfl) ?_
  refine Gm.doneA (by kernel_rfl) trivial (by first | exact Imm.le_refl _ | assumption | (refine Imm.le_trans ?_ (by assumption); first | assumption | (refine Imm.le_trans ?_ (by assumption); assumption))) ?_
  refine Ar.next ?_
  refine Wc.cond rfl (fun hc2 => ?_) (fun hc2 => ?_)
  refine Wc.seq ?_
  refine Wc.region rfl ?_
  refine Wl.q rfl (Qy.assign rfl) ?_
  refine Wl.done ?_
  refine Ar.next ?_
  refine Wc.ret ?_
  refine Ar.outRet ?_
  refine Ar.passRet ?_
  refine Ar.passRet ?_
  refine Ar.outRet ?_
  refine Ar.passRet ?_
  refine Ar.out1 (.inr rfl) (Ho := Hp.only _ []) rfl (.tmp rfl) (Hp.sub_only _ _) ?_
  rotate_left
  refine Wc.skip ?_
  refine Ar.outNormal ?_
  refine Ar.next ?_
  refine Wc.region rfl ?_
  refine Wl.q rfl (Qy.add rfl rfl (by omega)) ?_
  refine Wl.q rfl (Qy.move rfl) ?_
  refine Wl.done ?_
  rotate_left
  refine Wc.exit ?_
  refine Ar.passExit ?_
  refine Ar.passExit ?_
  refine Ar.here ?_
  refine Ar.next ?_
  refine Wc.seq ?_
  refine Wc.region rfl ?_
  refine Wl.q rfl (Qy.assign rfl) ?_
  refine Wl.done ?_
  refine Ar.next ?_
  refine Wc.ret ?_
  refine Ar.out1 (.inr rfl) (Ho := Hp.only _ []) rfl (.tmp rfl) (Hp.sub_only _ _) ?_
  rotate_left
  · have : xs ≠ ys := by rintro rfl; exact hc2 rfl
    exact ⟨by simp [this], rfl, rfl⟩
  · refine Ar.again (k + 1) ?_ ?_ rfl ⟨rfl, rfl, rfl, rfl, trivial⟩ trivial
    · exact ⟨by omega, take_eq_step (by omega) (by omega) hk2 (Decidable.not_not.1 hc2)⟩
    · omega
  · have hk : k = xs.length := by omega
    subst hk
    rw [List.take_length, hl, List.take_length] at hk2
    exact ⟨by simp [hk2], rfl, rfl⟩
def exD : PV := ⟨2, 4, [⟨3, 2, 0, 1, 0⟩, ⟨5, 3, 2, 0, 5⟩, ⟨4, 2, 0, 1, 0⟩, ⟨1, 1, 1, 0, 0⟩], [2, 0]⟩
theorem c54 (G : Imm) : Does Try.prog 54 [] G [] (fun v G' Ho => ∃ b d, v = .agg #[.int .i64 exD.ins, .int .i64 exD.regs, .slice (some ⟨b, 0, none⟩) exD.code.length exD.code.length, .slice (some ⟨d, 0, none⟩) exD.outs.length exD.outs.length] ∧
    Ho = [(0, some b, Row 72 exD.code []), (1, some d, Row 3 exD.outs [])] ∧ G' = G) := by
  refine Does.enter Try.func54 rfl Try.ntmps54 rfl (fun w => ?_)
  refine Wc.seq ?_
  refine Wc.region rfl ?_
  refine Wl.alloc 0 rfl T.zero25 (fun b1 => ?_)
  refine Wl.done ?_
  refine Ar.next ?_
  refine Wc.seq ?_
  refine Wc.region rfl ?_
  refine Wl.q rfl (Qy.build (cs := [_, _, _, _, _]) T.st72 rfl rfl rfl) ?_
  refine Wl.q rfl (Qy.build (cs := [_, _, _, _, _]) T.st72 rfl rfl rfl) ?_
  refine Wl.q rfl (Qy.build (cs := [_, _, _, _, _]) T.st72 rfl rfl rfl) ?_
  refine Wl.q rfl (Qy.build (cs := [_, _, _, _, _]) T.st72 rfl rfl rfl) ?_
  refine Wl.lit (α := Instr) 1 [⟨3, 2, 0, 1, 0⟩, ⟨5, 3, 2, 0, 5⟩, ⟨4, 2, 0, 1, 0⟩, ⟨1, 1, 1, 0, 0⟩] rfl T.sl22 T.el72 rfl rfl rfl rfl rfl (fun b2 => ?_)
  refine Wl.lit (α := Int) 2 [(2), (0)] rfl T.sl23 T.el3 rfl rfl rfl rfl rfl (fun b3 => ?_)
  refine Wl.q rfl (Qy.build (cs := [_, _, _, _]) T.st25 rfl rfl rfl) ?_
  refine Wl.storeAll 0 T.size25 rfl rfl rfl rfl rfl rfl ?_
  refine Wl.done ?_
  refine Ar.next ?_
  refine Wc.ret ?_
  refine Ar.pick [1, 2, 0] (by decide) (Ar.out1 (.inr rfl) (Ho := Hp.only _ [0, 1]) rfl (.agg 2 rfl rfl T.agg25) (Hp.sub_only _ _) ?_)
  exact ⟨_, _, rfl, rfl, rfl⟩
theorem keepTo_mem (p : PV) : ∀ k, k ≤ p.code.length → ∀ i ∈ keepTo p k, i ∈ p.code
  | 0, _, i, h => by simp [keepTo] at h
  | k + 1, hk, i, h => by
    have hlt : k < p.code.length := by omega
    have hel : p.code[((k : Nat) : Int).toNat]?.getD default ∈ p.code := by rw [Int.toNat_natCast, List.getElem?_eq_getElem hlt, Option.getD_some]; exact List.getElem_mem _
    simp only [keepTo] at h
    split at h
    · rw [List.mem_append, List.mem_singleton] at h
      rcases h with h | h
      · exact keepTo_mem p k (by omega) i h
      · rw [h]; exact hel
    · exact keepTo_mem p k (by omega) i h
/-- right_facts, the other way -/
theorem right_of {q : PV} (h : 1 ≤ q.ins ∧ q.ins ≤ q.regs ∧ q.regs ≤ 128 ∧ q.code.length ≤ 16384 ∧ 1 ≤ q.outs.length ∧ q.outs.length ≤ 128) (ho : ∀ r ∈ q.outs, 0 ≤ r ∧ r < q.regs) (hc : ∀ i ∈ q.code, mayOk i q.regs = true) : rightP q = true := by
  have h1 : headOk q = true := by
    unfold headOk
    rw [Bool.and_eq_true, decide_eq_true_eq, List.all_eq_true]
    exact ⟨by omega, fun r hr => by rw [decide_eq_true_eq]; exact ho r hr⟩
  have h2 : badAt q = none := by
    unfold badAt
    rw [List.findIdx?_eq_none_iff]
    intro i hi
    rw [hc i hi]; rfl
  unfold rightP checkP
  rw [if_neg (by rw [h1]; decide), h2]; rfl
theorem dead_right {p : PV} (h : rightP p = true) : rightP (deadP p) = true := by
  obtain ⟨r1, r2, r3, r4, r5, r6, r7, r8⟩ := right_facts h
  have hl := keepTo_len p p.code.length
  exact right_of ⟨r1, r2, r3, by show (keepTo p p.code.length).length ≤ 16384; omega, r5, r6⟩ r7 (fun i hi => r8 i (keepTo_mem p _ (Nat.le_refl _) i hi))
/-- from behind: which registers are asked ahead of an instruction -/
def askStep (s : List Bool) (i : Sl.Instr) : List Bool := setAll (s.set i.to.toNat false) (asks i)
def askTo (q : PV) : Nat → List Bool
  | 0 => setAll (List.replicate q.regs.toNat false) q.outs
  | j + 1 => askStep (askTo q j) (q.code[q.code.length - 1 - j]?.getD default)
def askAll (q : PV) : List Bool := askTo q q.code.length
theorem askTo_len (q : PV) (j : Nat) : (askTo q j).length = q.regs.toNat := by
  induction j with
  | zero => simp [askTo, setAll_len]
  | succ j ih => simp [askTo, askStep, setAll_len, ih]
def askE (p : PV) : List Bool := if rightP p then askAll (deadP p) else []
theorem c20R (G : Imm) (p : PV) (ac ao : Option Addr) (cc co : Nat) (hc : Arr G ac p.code) (ho : Arr G ao p.outs) (h1 : p.code.length ≤ 1099511627776) (h2 : p.outs.length ≤ 1099511627776) (hR : rightP p = true) :
    Does Try.prog 20 [.agg #[.int .i64 p.ins, .int .i64 p.regs, .slice ac p.code.length cc, .slice ao p.outs.length co]] G [] (fun v G' Ho => ∃ b c j, v = .tuple #[.slice b (askAll (deadP p)).length c, .int .i64 0] ∧
      OwnA b c (askAll (deadP p)) j ∧ Ho = [(0, b.map (·.block), Row 4 (askAll (deadP p)) j)] ∧ G' = G) := by
  have hD := dead_right hR
  have hE : deadE p = deadP p := if_pos hR
  have hEr : errP p = 0 := if_pos hR
  refine Does.enterM Try.func20 rfl Try.ntmps20 rfl (fun w => ?_)
  refine Wc.seq ?_
  refine Wc.region rfl ?_
  refine Wl.box 0 rfl rfl rfl (fun b1 => ?_)
  refine Wl.q rfl (Qy.assign rfl) ?_
  refine Wl.q rfl (Qy.assign rfl) ?_
  refine Wl.done ?_
  refine Ar.next ?_
  refine Wc.seq ?_
  refine Wc.region rfl ?_
  refine Wl.q rfl (Qy.loadAll 0 T.agg25 rfl rfl rfl) ?_
  refine Wl.call 1 rfl T.fn53 rfl (c53 _ _ _ _ _ _ (by assumption) (by assumption) (by omega) (by omega)) (tags_of trivial) (fun v1 G1 Ho1 hle1 hp => ?_)
  obtain ⟨q1, e1, qc1, qo1, qcc1, qoc1, qj1, qk1, rfl, hq1, hqc1, hqo1, rfl, rfl⟩ := hp
  refine Wl.q rfl (Qy.move rfl) ?_
  refine Wl.q rfl (Qy.extract rfl rfl) ?_
  refine Wl.q rfl (Qy.extract rfl rfl) ?_
  refine Wl.alloc 3 rfl T.zero25 (fun b2 => ?_)
  refine Wl.storeAll 3 T.size25 rfl rfl rfl rfl rfl rfl ?_
  refine Wl.q rfl (Qy.assign rfl) ?_
  refine Wl.done ?_
  refine Ar.next ?_
  refine Wc.seq ?_
  refine Wc.seq ?_
  refine Wc.region rfl ?_
  refine Wl.q rfl (Qy.move rfl) ?_
  refine Wl.q rfl (Qy.neq rfl rfl) ?_
  refine Wl.done ?_
  refine Ar.next ?_
  refine Wc.condN rfl (by first | assumption | omega) ?_
  refine Wc.skip ?_
  refine Ar.next ?_
  refine Wc.seq ?_
  refine Wc.region rfl ?_
  refine Wl.q rfl (Qy.fieldAddr T.fa25_1 rfl) ?_
  refine Wl.q rfl (Qy.load 3 T.one3 rfl rfl rfl) ?_
  obtain ⟨hq, he⟩ := hq1
  rw [hE] at hq
  rw [hEr] at he
  subst hq he
  obtain ⟨r1, r2, r3, r4, r5, r6, r7, r8⟩ := right_facts hD
  generalize hQ : deadP p = z at *
  refine Wl.freezeRow 1 rfl hqc1 (fun G2 hle2 hQc => Wl.freezeRow 2 rfl hqo1 (fun G3 hle3 hQo => ?_))
  replace hQc := hQc.up hle3
  clear hqc1 hqo1 hc ho hle1 hle2 hle3
  refine Wl.make (α := Bool) 4 rfl T.sl41 T.el4 rfl rfl (by omega) (by omega) (fun b3 => ?_)
  refine Wl.alloc 5 rfl T.zero41 (fun b4 => ?_)
  refine Wl.store 5 T.one41 rfl rfl rfl rfl rfl ?_
  refine Wl.done ?_
  refine Ar.next ?_
  refine Wc.seq ?_
  refine Wc.seq ?_
  refine Wc.region rfl ?_
  refine Wl.q rfl (Qy.fieldAddr T.fa25_3 rfl) ?_
  refine Wl.q rfl (Qy.load 3 T.one23 rfl rfl rfl) ?_
  refine Wl.q rfl (Qy.len T.sl23 rfl) ?_
  refine Wl.q rfl (Qy.move rfl) ?_
  refine Wl.done ?_
  refine Ar.next ?_
  refine Wc.block ?_
  generalize hR0 : List.replicate z.regs.toNat (default : Bool) = R0 at *
  have hR0l : (R0.length : Int) = z.regs := by rw [← hR0, List.length_replicate]; omega
  refine Wc.loop (ι := Nat × List Bool) (fun (k, xs) => ([(27, .int .i64 (k : Int)), (26, Go.Value.int Go.IntKind.i64 (↑(List.length (Go.Proofs.Ytbppmiimeccclaa.PV.outs z)) : Int)), (25, Go.Value.slice qo1 (List.length (Go.Proofs.Ytbppmiimeccclaa.PV.outs z)) qoc1), (6, Go.Value.pointer (Option.some (Go.Addr.mk b4 0 Option.none))), (4, Go.Value.pointer (Option.some (Go.Addr.mk b2 0 Option.none))), (3, Go.Value.int Go.IntKind.i64 0), (2, Go.Value.slice Option.none 0 0)], [(5, some b4, .cells #[.slice (some ⟨b3, 0, none⟩) xs.length R0.length] 41), (4, some b3, Row 4 xs []), (3, Option.some b2, Go.Obj.cells #[Go.Value.int Go.IntKind.i64 (Go.Proofs.Ytbppmiimeccclaa.PV.ins z), Go.Value.int Go.IntKind.i64 (Go.Proofs.Ytbppmiimeccclaa.PV.regs z), Go.Value.slice qc1 (List.length (Go.Proofs.Ytbppmiimeccclaa.PV.code z)) qcc1, Go.Value.slice qo1 (List.length (Go.Proofs.Ytbppmiimeccclaa.PV.outs z)) qoc1] 25), (0, Option.some b1, Go.Obj.cells #[Go.Value.int Go.IntKind.i64 (Go.Proofs.Ytbppmiimeccclaa.PV.ins p), Go.Value.int Go.IntKind.i64 (Go.Proofs.Ytbppmiimeccclaa.PV.regs p), Go.Value.slice ac (List.length (Go.Proofs.Ytbppmiimeccclaa.PV.code p)) cc, Go.Value.slice ao (List.length (Go.Proofs.Ytbppmiimeccclaa.PV.outs p)) co] 25)])) (fun (k, xs) => k ≤ z.outs.length ∧ xs = setAll R0 (z.outs.take k) ∧ OwnA (some ⟨b3, 0, none⟩) R0.length xs []) (fun (k, xs) => z.outs.length - k) ((0, R0)) (⟨Nat.zero_le _, rfl, OwnA.made (by simp only [maxLen]; omega)⟩) ⟨rfl, rfl, rfl, rfl, rfl, rfl, rfl, trivial⟩ ⟨rfl, rfl, rfl, rfl, trivial⟩ (fun ⟨k, xs⟩ => fun (hk : k ≤ z.outs.length ∧ xs = setAll R0 (z.outs.take k) ∧ OwnA (some ⟨b3, 0, none⟩) R0.length xs []) => ?_)
  obtain ⟨hk1, hxs, hox⟩ := hk
  have hxl : (xs.length : Int) = z.regs := by rw [hxs, setAll_len]; exact hR0l
  rcases Nat.lt_or_ge k z.outs.length with hlt | hge
  · have hr : 0 ≤ z.outs[((k : Nat) : Int).toNat]?.getD default ∧ z.outs[((k : Nat) : Int).toNat]?.getD default < xs.length := by
      rw [hxl]; refine r7 _ ?_
      rw [Int.toNat_natCast, List.getElem?_eq_getElem hlt]; simp
    refine Wc.seq ?_
    refine Wc.region rfl ?_
    refine Wl.q rfl (Qy.lss rfl rfl) ?_
    refine Wl.done ?_
    refine Ar.next ?_
    refine Wc.seq ?_
    refine Wc.condP rfl (by first | assumption | omega) ?_
    refine Wc.skip ?_
    refine Ar.next ?_
    refine Wc.seq ?_
    refine Wc.block ?_
    refine Wc.seq ?_
    refine Wc.region rfl ?_
    refine Wl.q rfl (Qy.at (α := Int) T.sl23 rfl rfl (by assumption) (by omega)) ?_
    refine Wl.q rfl (Qy.loadG T.one3 rfl (Arr.cell (by assumption) (by omega) 0 rfl rfl)) ?_
    refine Wl.q rfl (Qy.assign rfl) ?_
    refine Wl.done ?_
    refine Ar.next ?_
    refine Wc.region rfl ?_
    refine Wl.q rfl (Qy.load 5 T.one41 rfl rfl rfl) ?_
    refine Wl.q rfl (Qy.move rfl) ?_
    refine Wl.q rfl (Qy.indexAddrO (α := Bool) T.sl41 rfl rfl (by assumption) (by omega)) ?_
    refine Wl.setO (z := _) 4 T.size4 rfl rfl rfl (by assumption) (by omega) rfl (fun ho1 => ?_)
    refine Wl.done ?_
    refine Ar.outNormal ?_
    refine Ar.next ?_
    refine Wc.region rfl ?_
    refine Wl.q rfl (Qy.add rfl rfl (by omega)) ?_
    refine Wl.q rfl (Qy.move rfl) ?_
    refine Wl.done ?_
    refine Ar.reH 5 (.cells #[.slice (some ⟨b3, 0, none⟩) (xs.set (z.outs[((k : Nat) : Int).toNat]?.getD default).toNat true).length R0.length] 41) rfl (by rw [List.length_set]) ?_
    refine Ar.again ((k + 1, _)) ?_ ?_ rfl ⟨rfl, rfl, rfl, rfl, rfl, rfl, rfl, trivial⟩ ⟨rfl, rfl, rfl, rfl, trivial⟩
    · exact ⟨by omega, by rw [setAll_step _ _ hlt, hxs], ho1⟩
    · show z.outs.length - (k + 1) < z.outs.length - k
      omega
  have hk : k = z.outs.length := by omega
  subst hk
  rw [List.take_length] at hxs
  clear hk1 hge
  refine Wc.seq ?_
  refine Wc.region rfl ?_
  refine Wl.q rfl (Qy.lss rfl rfl) ?_
  refine Wl.done ?_
  refine Ar.next ?_
  refine Wc.seq ?_
  refine Wc.condN rfl (by first | assumption | omega) ?_
  refine Wc.exit ?_
  refine Ar.passExit ?_
  refine Ar.passExit ?_
  refine Ar.here ?_
  refine Ar.next ?_
  refine Wc.seq ?_
  refine Wc.seq ?_
  refine Wc.region rfl ?_
  refine Wl.q rfl (Qy.loadAll 3 T.agg25 rfl rfl rfl) ?_
  refine Wl.call 6 rfl T.fn58 rfl (c58 _ _ _ _ _ _) (tags_of trivial) (fun v1 G1 Ho1 hle1 hp => ?_)
  obtain ⟨bb1, rfl, rfl, hbb1⟩ := hp
  replace hQo := hQo.up hle1
  replace hQc := hQc.up hle1
  refine Wl.done ?_
  refine Ar.next ?_
  refine Wc.block ?_
  refine Wc.rangeFunc (ι := List Bool) 900 901 (fun A => [(5, some b4, .cells #[.slice (some ⟨b3, 0, none⟩) A.length R0.length] 41), (4, some b3, Row 4 A []), (3, Option.some b2, Go.Obj.cells #[Go.Value.int Go.IntKind.i64 (Go.Proofs.Ytbppmiimeccclaa.PV.ins z), Go.Value.int Go.IntKind.i64 (Go.Proofs.Ytbppmiimeccclaa.PV.regs z), Go.Value.slice qc1 (List.length (Go.Proofs.Ytbppmiimeccclaa.PV.code z)) qcc1, Go.Value.slice qo1 (List.length (Go.Proofs.Ytbppmiimeccclaa.PV.outs z)) qoc1] 25), (0, Option.some b1, Go.Obj.cells #[Go.Value.int Go.IntKind.i64 (Go.Proofs.Ytbppmiimeccclaa.PV.ins p), Go.Value.int Go.IntKind.i64 (Go.Proofs.Ytbppmiimeccclaa.PV.regs p), Go.Value.slice ac (List.length (Go.Proofs.Ytbppmiimeccclaa.PV.code p)) cc, Go.Value.slice ao (List.length (Go.Proofs.Ytbppmiimeccclaa.PV.outs p)) co] 25)]) (fun k A => A = askTo z k ∧ OwnA (some ⟨b3, 0, none⟩) R0.length A []) (fun c A => False) (xs) rfl T.fn104 (fun _ => rfl) rfl (c104R _ z _ _ _ _ _ hQc hQo (by omega) (by omega) hbb1 hD) (⟨by rw [hxs, ← hR0]; rfl, hox⟩) (Hp.got ⟨rfl, rfl, rfl, rfl, trivial⟩) ⟨rfl, fun _ => rfl⟩ (fun k x A l dd q w0 hx hi => ?_) (fun A dd hi => ?_) (fun A dd c hi => ?_)
  · obtain ⟨hn, hoA⟩ := hi
    have hkl : k < z.code.length := by have := (List.getElem?_eq_some_iff.1 hx).1; rw [backL_len] at this; exact this
    have hxe : x = (((z.code.length - 1 - k : Nat) : Int), z.code[z.code.length - 1 - k]?.getD default) := by rw [backL_get _ hkl] at hx; exact (Option.some.inj hx).symm
    have hx2 : x.2 = z.code[z.code.length - 1 - k]?.getD default := by rw [hxe]
    clear hxe
    have hm : mayOk x.2 z.regs = true := by
      rw [hx2]; refine r8 _ ?_
      rw [List.getElem?_eq_getElem (by omega), Option.getD_some]; exact List.getElem_mem _
    have hAl : (A.length : Int) = z.regs := by rw [hn, askTo_len]; omega
    have hto : 0 ≤ x.2.to ∧ x.2.to < A.length := by rw [hAl]; rw [mayOk_iff] at hm; exact ⟨hm.1.2.2.1, hm.1.2.2.2.1⟩
    have hask : ∀ r ∈ asks x.2, 0 ≤ r ∧ r < A.length := by rw [hAl]; exact asks_in hm
    have hst : askTo z (k + 1) = askStep A x.2 := by rw [hx2, hn]; rfl
    have hasks : (asks x.2).length ≤ 2 := by unfold asks; split <;> (try split) <;> simp
    refine Wc.region rfl ?_
    refine Wl.alloc 902 rfl T.zero72 (fun b5 => ?_)
    refine Wl.storeAll 902 T.size72 rfl rfl rfl rfl rfl rfl ?_
    refine Wl.done ?_
    refine Ar.begin 900 rfl ?_
    refine Wc.block ?_
    refine Wc.seq ?_
    refine Wc.region rfl ?_
    refine Wl.q rfl (Qy.load 5 T.one41 rfl rfl rfl) ?_
    refine Wl.q rfl (Qy.fieldAddr T.fa72_1 rfl) ?_
    refine Wl.q rfl (Qy.load 902 T.one3 rfl rfl rfl) ?_
    refine Wl.q rfl (Qy.indexAddrO (α := Bool) T.sl41 rfl rfl (by assumption) (by omega)) ?_
    refine Wl.setO (z := _) 4 T.size4 rfl rfl rfl (by assumption) (by omega) rfl (fun ho1 => ?_)
    refine Wl.done ?_
    refine Ar.next ?_
    refine Wc.seq ?_
    refine Wc.region rfl ?_
    refine Wl.q rfl (Qy.loadAll 902 T.agg72 rfl rfl rfl) ?_
    refine Wl.call 903 rfl T.fn59 rfl (c59 _ _) (tags_of trivial) (fun v2 G2 Ho2 hle2 hp => ?_)
    obtain ⟨ad2, cd2, junk2, rfl, hoa2, rfl, rfl⟩ := hp
    refine Wl.q rfl (Qy.len T.sl23 rfl) ?_
    refine Wl.q rfl (Qy.move rfl) ?_
    refine Wl.done ?_
    refine Ar.next ?_
    refine Wc.block ?_
    refine Wc.reH 5 (.cells #[.slice (some ⟨b3, 0, none⟩) (A.set x.2.to.toNat false).length R0.length] 41) rfl (by rw [List.length_set]) ?_
    refine Wc.loop (ι := Nat × List Bool) (fun (m, B) => ([(46, .int .i64 (m : Int)), (45, Go.Value.int Go.IntKind.i64 (↑(List.length (Go.Proofs.Ytbppmiimeccclaa.asks (Prod.snd x))) : Int)), (44, Go.Value.slice ad2 (List.length (Go.Proofs.Ytbppmiimeccclaa.asks (Prod.snd x))) cd2), (6, Go.Value.pointer (Option.some (Go.Addr.mk b4 0 Option.none)))], [(5, some b4, .cells #[.slice (some ⟨b3, 0, none⟩) B.length R0.length] 41), (4, some b3, Row 4 B []), (904, Option.map (fun x => Go.Addr.block x) ad2, Go.Sl.Row (α := Int) 3 (Go.Proofs.Ytbppmiimeccclaa.asks (Prod.snd x)) (junk2)), (900, Option.some l, Go.Sl.lrec q Go.LoopState.busy Option.none), (902, Option.some b5, Go.Obj.cells (List.toArray (Go.Sl.Cells.enc (Prod.snd x))) 72), (901, Option.some dd, Go.Obj.deferred (Option.some [])), (3, Option.some b2, Go.Obj.cells #[Go.Value.int Go.IntKind.i64 (Go.Proofs.Ytbppmiimeccclaa.PV.ins z), Go.Value.int Go.IntKind.i64 (Go.Proofs.Ytbppmiimeccclaa.PV.regs z), Go.Value.slice qc1 (List.length (Go.Proofs.Ytbppmiimeccclaa.PV.code z)) qcc1, Go.Value.slice qo1 (List.length (Go.Proofs.Ytbppmiimeccclaa.PV.outs z)) qoc1] 25), (0, Option.some b1, Go.Obj.cells #[Go.Value.int Go.IntKind.i64 (Go.Proofs.Ytbppmiimeccclaa.PV.ins p), Go.Value.int Go.IntKind.i64 (Go.Proofs.Ytbppmiimeccclaa.PV.regs p), Go.Value.slice ac (List.length (Go.Proofs.Ytbppmiimeccclaa.PV.code p)) cc, Go.Value.slice ao (List.length (Go.Proofs.Ytbppmiimeccclaa.PV.outs p)) co] 25)])) (fun (m, B) => m ≤ (asks x.2).length ∧ B = setAll (A.set x.2.to.toNat false) ((asks x.2).take m) ∧ OwnA (some ⟨b3, 0, none⟩) R0.length B []) (fun (m, B) => (asks x.2).length - m) ((0, A.set x.2.to.toNat false)) (⟨Nat.zero_le _, rfl, ho1⟩) ⟨rfl, rfl, rfl, rfl, trivial⟩ ⟨rfl, rfl, rfl, rfl, rfl, rfl, rfl, rfl, trivial⟩ (fun ⟨m, B⟩ => fun (hk : m ≤ (asks x.2).length ∧ B = setAll (A.set x.2.to.toNat false) ((asks x.2).take m) ∧ OwnA (some ⟨b3, 0, none⟩) R0.length B []) => ?_)
    obtain ⟨hm1, hB, hoB⟩ := hk
    have hBl : B.length = A.length := by rw [hB, setAll_len, List.length_set]
    rcases Nat.lt_or_ge m (asks x.2).length with hlt | hge
    · have hr : 0 ≤ (asks x.2)[((m : Nat) : Int).toNat]?.getD default ∧ (asks x.2)[((m : Nat) : Int).toNat]?.getD default < B.length := by
        rw [hBl]; refine hask _ ?_
        rw [Int.toNat_natCast, List.getElem?_eq_getElem hlt]; simp
      refine Wc.seq ?_
      refine Wc.region rfl ?_
      refine Wl.q rfl (Qy.lss rfl rfl) ?_
      refine Wl.done ?_
      refine Ar.next ?_
      refine Wc.seq ?_
      refine Wc.condP rfl (by first | assumption | omega) ?_
      refine Wc.skip ?_
      refine Ar.next ?_
      refine Wc.seq ?_
      refine Wc.block ?_
      refine Wc.seq ?_
      refine Wc.region rfl ?_
      refine Wl.q rfl (Qy.indexAddrO (α := Int) T.sl23 rfl rfl (by assumption) (by omega)) ?_
      refine Wl.q rfl (Qy.loadO 904 0 T.one3 rfl rfl (by assumption) (by omega) rfl rfl) ?_
      refine Wl.q rfl (Qy.assign rfl) ?_
      refine Wl.done ?_
      refine Ar.next ?_
      refine Wc.region rfl ?_
      refine Wl.q rfl (Qy.load 5 T.one41 rfl rfl rfl) ?_
      refine Wl.q rfl (Qy.move rfl) ?_
      refine Wl.q rfl (Qy.indexAddrO (α := Bool) T.sl41 rfl rfl (by assumption) (by omega)) ?_
      refine Wl.setO (z := _) 4 T.size4 rfl rfl rfl (by assumption) (by omega) rfl (fun ho2 => ?_)
      refine Wl.done ?_
      refine Ar.outNormal ?_
      refine Ar.next ?_
      refine Wc.region rfl ?_
      refine Wl.q rfl (Qy.add rfl rfl (by omega)) ?_
      refine Wl.q rfl (Qy.move rfl) ?_
      refine Wl.done ?_
      refine Ar.reH 5 (.cells #[.slice (some ⟨b3, 0, none⟩) (B.set ((asks x.2)[((m : Nat) : Int).toNat]?.getD default).toNat true).length R0.length] 41) rfl (by rw [List.length_set]) ?_
      refine Ar.again ((m + 1, _)) ?_ ?_ rfl ⟨rfl, rfl, rfl, rfl, trivial⟩ ⟨rfl, rfl, rfl, rfl, rfl, rfl, rfl, rfl, trivial⟩
      · exact ⟨by omega, by rw [setAll_step _ _ hlt, hB], ho2⟩
      · show (asks x.2).length - (m + 1) < (asks x.2).length - m
        omega
    · have hm : m = (asks x.2).length := by omega
      subst hm
      rw [List.take_length] at hB
      refine Wc.seq ?_
      refine Wc.region rfl ?_
      refine Wl.q rfl (Qy.lss rfl rfl) ?_
      refine Wl.done ?_
      refine Ar.next ?_
      refine Wc.seq ?_
      refine Wc.condN rfl (by first | assumption | omega) ?_
      refine Wc.exit ?_
      refine Ar.passExit ?_
      refine Ar.passExit ?_
      refine Ar.here ?_
      refine Ar.outNormal ?_
      refine Ar.roundEnd none (.inl ⟨rfl, rfl⟩) 900 rfl ⟨rfl, (B, none), rfl, .inl ⟨rfl, rfl, ?_⟩⟩ (Hp.got ⟨rfl, rfl, rfl, rfl, rfl, rfl, trivial⟩)
      exact ⟨by rw [hst, hB]; rfl, hoB⟩
  · obtain ⟨hn, hoA⟩ := hi
    rw [backL_len] at hn
    have hO : A = askAll z := hn
    subst hO
    refine Ar.outNormal ?_
    refine Ar.next ?_
    refine Wc.seq ?_
    refine Wc.region rfl ?_
    refine Wl.q rfl (Qy.load 5 T.one41 rfl rfl rfl) ?_
    refine Wl.q rfl (Qy.assign rfl) ?_
    refine Wl.q rfl (Qy.assign rfl) ?_
    refine Wl.done ?_
    refine Ar.next ?_
    refine Wc.ret ?_
    refine Ar.collect (.inr rfl) 901 rfl ?_
    refine Ar.outOf (.inr rfl) ?_
    refine Ar.base (Ar.pick [4] (by decide) (Ar.out2 (.inr rfl) rfl (.tmp rfl) (.tmp rfl) (Hp.sub_self 0 _) ?_))
    exact ⟨_, _, _, rfl, hoA, rfl, rfl⟩
  · exact hi.elim
theorem c20W (G : Imm) (p : PV) (ac ao : Option Addr) (cc co : Nat) (hc : Arr G ac p.code) (ho : Arr G ao p.outs) (h1 : p.code.length ≤ 1099511627776) (h2 : p.outs.length ≤ 1099511627776) (hR : ¬ rightP p = true) :
    Does Try.prog 20 [.agg #[.int .i64 p.ins, .int .i64 p.regs, .slice ac p.code.length cc, .slice ao p.outs.length co]] G [] (fun v G' Ho => v = .tuple #[.slice none 0 0, .int .i64 80] ∧
      Ho = [(0, none, Row 4 ([] : List Bool) [])] ∧ G' = G) := by
  have hE : deadE p = ⟨0, 0, [], []⟩ := if_neg hR
  have hEr : errP p = 80 := if_neg hR
  refine Does.enterM Try.func20 rfl Try.ntmps20 rfl (fun w => ?_)
  refine Wc.nilRow 20 (Row 4 ([] : List Bool) []) ?_
  refine Wc.seq ?_
  refine Wc.region rfl ?_
  refine Wl.box 21 rfl rfl rfl (fun b1 => ?_)
  refine Wl.q rfl (Qy.assign rfl) ?_
  refine Wl.q rfl (Qy.assign rfl) ?_
  refine Wl.done ?_
  refine Ar.next ?_
  refine Wc.seq ?_
  refine Wc.region rfl ?_
  refine Wl.q rfl (Qy.loadAll 21 T.agg25 rfl rfl rfl) ?_
  refine Wl.call 22 rfl T.fn53 rfl (c53 _ _ _ _ _ _ (by assumption) (by assumption) (by omega) (by omega)) (tags_of trivial) (fun v1 G1 Ho1 hle1 hp => ?_)
  obtain ⟨q1, e1, qc1, qo1, qcc1, qoc1, qj1, qk1, rfl, hq1, hqc1, hqo1, rfl, rfl⟩ := hp
  refine Wl.q rfl (Qy.move rfl) ?_
  refine Wl.q rfl (Qy.extract rfl rfl) ?_
  refine Wl.q rfl (Qy.extract rfl rfl) ?_
  refine Wl.alloc 24 rfl T.zero25 (fun b2 => ?_)
  refine Wl.storeAll 24 T.size25 rfl rfl rfl rfl rfl rfl ?_
  refine Wl.q rfl (Qy.assign rfl) ?_
  refine Wl.done ?_
  refine Ar.next ?_
  refine Wc.seq ?_
  refine Wc.seq ?_
  refine Wc.region rfl ?_
  refine Wl.q rfl (Qy.move rfl) ?_
  refine Wl.q rfl (Qy.neq rfl rfl) ?_
  refine Wl.done ?_
  refine Ar.next ?_
  refine Wc.condP rfl (by first | assumption | omega) ?_
  refine Wc.seq ?_
  refine Wc.region rfl ?_
  refine Wl.q rfl (Qy.move rfl) ?_
  refine Wl.q rfl (Qy.assign rfl) ?_
  refine Wl.q rfl (Qy.assign rfl) ?_
  refine Wl.done ?_
  refine Ar.next ?_
  refine Wc.ret ?_
  refine Ar.passRet ?_
  refine Ar.outOf (.inr rfl) ?_
  refine Ar.pick [20] (by decide) (Ar.out2 (.inr rfl) rfl (.tmp rfl) (.tmp rfl) (Hp.sub_self 0 _) ?_)
  rw [hq1.2, hEr]
  exact ⟨rfl, rfl, rfl⟩
theorem c20 (G : Imm) (p : PV) (ac ao : Option Addr) (cc co : Nat) (hc : Arr G ac p.code) (ho : Arr G ao p.outs) (h1 : p.code.length ≤ 1099511627776) (h2 : p.outs.length ≤ 1099511627776) :
    Does Try.prog 20 [.agg #[.int .i64 p.ins, .int .i64 p.regs, .slice ac p.code.length cc, .slice ao p.outs.length co]] G [] (fun v G' Ho => ∃ l e b c j, v = .tuple #[.slice b l.length c, .int .i64 e] ∧ (l = askE p ∧ e = errP p ∧ (rightP p ≠ true → b = none)) ∧
      OwnA b c l j ∧ Ho = [(0, b.map (·.block), Row 4 l j)] ∧ G' = G) := by
  by_cases hR : rightP p = true
  · refine (c20R G p ac ao cc co hc ho h1 h2 hR).mono fun v G' Ho _ ⟨b, c, j, q1, q2, q3, q4⟩ => ?_
    exact ⟨askAll (deadP p), 0, b, c, j, q1, ⟨(if_pos hR).symm, (if_pos hR).symm, fun h => absurd hR h⟩, q2, q3, q4⟩
  · refine (c20W G p ac ao cc co hc ho h1 h2 hR).mono fun v G' Ho _ ⟨q1, q2, q3⟩ => ?_
    exact ⟨[], 80, none, 0, [], q1, ⟨(if_neg hR).symm, (if_neg hR).symm, fun _ => rfl⟩, OwnA.nil, q2, q3⟩
end Go.Proofs.Ytbppmiimeccclaa
namespace Go.Proofs.Ytbppmiimeccclaa
open Go Go.Sl
set_option linter.unusedVariables false
/-- the marks over a list of instructions, from behind -/
def nf (p : PV) : List Sl.Instr → List Bool × List Bool
  | [] => (setAll (List.replicate p.regs.toNat false) p.outs, [])
  | i :: l => if (nf p l).1[i.to.toNat]?.getD default = true then (setAll ((nf p l).1.set i.to.toNat false) (asks i), true :: (nf p l).2) else ((nf p l).1, false :: (nf p l).2)
theorem nf_len (p : PV) (l : List Sl.Instr) : (nf p l).1.length = p.regs.toNat ∧ (nf p l).2.length = l.length := by
  induction l with
  | nil => simp [nf, setAll_len]
  | cons i l ih =>
    simp only [nf]
    split
    · simp [setAll_len, ih]
    · simp [ih]
theorem needTo_nf (p : PV) : ∀ j, j ≤ p.code.length → needTo p j = ((nf p (p.code.drop (p.code.length - j))).1, List.replicate (p.code.length - j) false ++ (nf p (p.code.drop (p.code.length - j))).2)
  | 0, _ => by simp [needTo, nf]
  | j + 1, hj => by
    have ih := needTo_nf p j (by omega)
    obtain ⟨k, hk⟩ : ∃ k, k = p.code.length - (j + 1) := ⟨_, rfl⟩
    have hk1 : p.code.length - j = k + 1 := by omega
    have hk2 : p.code.length - 1 - j = k := by omega
    have hlt : k < p.code.length := by omega
    rw [hk1] at ih
    rw [← hk]
    have hd : p.code.drop k = p.code[k]?.getD default :: p.code.drop (k + 1) := by
      rw [List.getElem?_eq_getElem hlt, Option.getD_some]; exact List.drop_eq_getElem_cons hlt
    show needStep (needTo p j) ((p.code.length - 1 - j : Nat) : Int) (p.code[p.code.length - 1 - j]?.getD default) = _
    rw [hk2, ih, hd]
    generalize p.code[k]?.getD default = i
    generalize p.code.drop (k + 1) = l
    unfold needStep
    simp only [nf]
    rw [List.replicate_succ']
    split
    · simp only [Int.toNat_natCast]
      rw [List.append_assoc, List.set_append_right _ _ (by simp)]
      simp
    · simp
theorem needed_nf (p : PV) : neededP p = (nf p p.code).2 := by
  unfold neededP
  rw [needTo_nf p p.code.length (Nat.le_refl _)]
  simp
/-- whether an instruction is left -/
def leaves (x : Sl.Instr × Bool) : Option Sl.Instr := if x.2 = true ∧ ¬ doesNothing x.1 then some x.1 else none
theorem leaves_pos {i : Sl.Instr} {b : Bool} (h : b = true ∧ ¬ doesNothing i) : leaves (i, b) = some i := if_pos h
theorem leaves_neg {i : Sl.Instr} {b : Bool} (h : ¬ (b = true ∧ ¬ doesNothing i)) : leaves (i, b) = none := if_neg h
def keepF (p : PV) (l : List Sl.Instr) : List Sl.Instr := (l.zip (nf p l).2).filterMap leaves
theorem keepTo_zip (p : PV) : ∀ k, k ≤ p.code.length → keepTo p k = ((p.code.take k).zip ((neededP p).take k)).filterMap leaves
  | 0, _ => by simp [keepTo]
  | k + 1, hk => by
    have hlt : k < p.code.length := by omega
    have hnl : (neededP p).length = p.code.length := (needTo_len p _).2
    have hlt2 : k < (neededP p).length := by omega
    have e1 : p.code.take (k + 1) = p.code.take k ++ [p.code[((k : Nat) : Int).toNat]?.getD default] := by
      rw [List.take_add_one, Int.toNat_natCast, List.getElem?_eq_getElem hlt]; rfl
    have e2 : (neededP p).take (k + 1) = (neededP p).take k ++ [(neededP p)[((k : Nat) : Int).toNat]?.getD default] := by
      rw [List.take_add_one, Int.toNat_natCast, List.getElem?_eq_getElem hlt2]; rfl
    rw [e1, e2, List.zip_append (by simp; omega), List.filterMap_append, ← keepTo_zip p k (by omega)]
    simp only [List.zip_cons_cons, List.zip_nil_right, List.filterMap_cons, List.filterMap_nil]
    by_cases h : (neededP p)[((k : Nat) : Int).toNat]?.getD default = true ∧ ¬ doesNothing (p.code[((k : Nat) : Int).toNat]?.getD default)
    · rw [leaves_pos h]; exact if_pos h
    · rw [leaves_neg h]
      show keepTo p (k + 1) = keepTo p k ++ []
      rw [List.append_nil]; exact if_neg h
theorem dead_code (p : PV) : (deadP p).code = keepF p p.code := by
  show keepTo p p.code.length = _
  have hnl : (neededP p).length = p.code.length := (needTo_len p _).2
  rw [keepTo_zip p _ (Nat.le_refl _), List.take_length, ← hnl, List.take_length, needed_nf]
  rfl
theorem nf_same {p q : PV} (h1 : q.regs = p.regs) (h2 : q.outs = p.outs) (l : List Sl.Instr) : nf q l = nf p l := by
  induction l with
  | nil => simp only [nf]; rw [h1, h2]
  | cons i l ih => simp only [nf]; rw [ih]
theorem asks_nothing {i : Sl.Instr} (h : doesNothing i) : asks i = [i.to] := by
  unfold asks
  rw [if_neg (by rw [h.1]; decide), if_pos (by rw [h.1]; decide), h.2]
theorem set_back {l : List Bool} {k : Nat} (h : l[k]?.getD default = true) : (l.set k false).set k true = l := by
  apply List.ext_getElem?
  intro i
  rw [List.getElem?_set, List.getElem?_set]
  by_cases hi : k = i
  · subst hi
    by_cases hl : k < l.length
    · simp only [List.length_set, hl, if_true]
      rw [List.getElem?_eq_getElem hl] at h ⊢
      simpa using h.symm
    · rw [List.getElem?_eq_none (by omega)] at h; cases h
  · simp [hi]
/-- what is left is marked as it was; all of it is needed -/
theorem nf_keep (p : PV) (l : List Sl.Instr) : (nf p (keepF p l)).1 = (nf p l).1 ∧ (nf p (keepF p l)).2 = List.replicate (keepF p l).length true := by
  induction l with
  | nil => simp [keepF, nf]
  | cons i l ih =>
    by_cases h : (nf p l).1[i.to.toNat]?.getD default = true
    · have e : nf p (i :: l) = (setAll ((nf p l).1.set i.to.toNat false) (asks i), true :: (nf p l).2) := by simp only [nf]; rw [if_pos h]
      by_cases hd : doesNothing i
      · have ek : keepF p (i :: l) = keepF p l := by
          unfold keepF
          rw [e]
          simp [leaves, hd]
        rw [ek, e]
        refine ⟨?_, ih.2⟩
        rw [ih.1, asks_nothing hd]
        exact (set_back h).symm
      · have ek : keepF p (i :: l) = i :: keepF p l := by
          unfold keepF
          rw [e]
          simp [leaves, hd]
        rw [ek, e]
        have e2 : nf p (i :: keepF p l) = (setAll ((nf p (keepF p l)).1.set i.to.toNat false) (asks i), true :: (nf p (keepF p l)).2) := by
          simp only [nf]; rw [if_pos (by rw [ih.1]; exact h)]
        rw [e2, ih.1, ih.2]
        exact ⟨rfl, rfl⟩
    · have e : nf p (i :: l) = ((nf p l).1, false :: (nf p l).2) := by simp only [nf]; rw [if_neg h]
      have ek : keepF p (i :: l) = keepF p l := by
        unfold keepF
        rw [e]
        simp [leaves]
      rw [ek, e]
      exact ih
end Go.Proofs.Ytbppmiimeccclaa
namespace Go.Proofs.Ytbppmiimeccclaa
open Go Go.Sl
set_option linter.unusedVariables false
theorem setAll_get : ∀ (rs : List Int) (l : List Bool) (k : Nat), k < l.length → (∀ r ∈ rs, 0 ≤ r) → (setAll l rs)[k]?.getD default = (l[k]?.getD default || decide ((k : Int) ∈ rs))
  | [], l, k, hk, _ => by simp [setAll]
  | r :: rs, l, k, hk, hr => by
    have ih := setAll_get rs (l.set r.toNat true) k (by simpa using hk) (fun x hx => hr x (by simp [hx]))
    have e : setAll l (r :: rs) = setAll (l.set r.toNat true) rs := rfl
    rw [e, ih, List.getElem?_set]
    have h0 := hr r (by simp)
    by_cases h : r.toNat = k
    · have h1 : (k : Int) = r := by omega
      have h2 : (k : Int) ∈ r :: rs := by rw [h1]; simp
      rw [if_pos h, if_pos (by omega), decide_eq_true h2]
      simp
    · have h1 : (k : Int) ≠ r := by omega
      rw [if_neg h]
      simp [h1]
theorem asks_pos {i : Sl.Instr} {regs : Int} (h : mayOk i regs = true) : ∀ r ∈ asks i, 0 ≤ r := fun r hr => (asks_in h r hr).1
/-- one step from behind -/
theorem step_get {A : List Bool} {i : Sl.Instr} {regs : Int} (hA : (A.length : Int) = regs) (hm : mayOk i regs = true) {r : Int} (hr : 0 ≤ r ∧ r < regs) :
    (setAll (A.set i.to.toNat false) (asks i))[r.toNat]?.getD default = (decide (r ∈ asks i) || (!decide (i.to = r) && A[r.toNat]?.getD default)) := by
  have hto : 0 ≤ i.to ∧ i.to < regs := by rw [mayOk_iff] at hm; exact ⟨hm.1.2.2.1, hm.1.2.2.2.1⟩
  rw [setAll_get _ _ _ (by rw [List.length_set]; omega) (asks_pos hm), List.getElem?_set]
  have e1 : ((r.toNat : Nat) : Int) = r := by omega
  rw [e1]
  by_cases h : i.to = r
  · subst h
    rw [if_pos rfl, if_pos (by omega)]
    simp
  · rw [if_neg (by omega)]
    simp [h, Bool.or_comm]
theorem start_get {regs : Int} (h0 : 0 ≤ regs) {outs : List Int} (ho : ∀ r ∈ outs, 0 ≤ r ∧ r < regs) {r : Int} (hr : 0 ≤ r ∧ r < regs) : (setAll (List.replicate regs.toNat false) outs)[r.toNat]?.getD default = decide (r ∈ outs) := by
  rw [setAll_get _ _ _ (by simp; omega) (fun x hx => (ho x hx).1)]
  have e1 : ((r.toNat : Nat) : Int) = r := by omega
  rw [e1]
  have : (List.replicate regs.toNat false)[r.toNat]?.getD default = false := by
    rw [List.getElem?_replicate]; split <;> rfl
  rw [this, Bool.false_or]
def aT (q : PV) : List Sl.Instr → List Bool
  | [] => setAll (List.replicate q.regs.toNat false) q.outs
  | i :: l => askStep (aT q l) i
theorem askTo_aT (q : PV) : ∀ j, j ≤ q.code.length → askTo q j = aT q (q.code.drop (q.code.length - j))
  | 0, _ => by simp [askTo, aT]
  | j + 1, hj => by
    have ih := askTo_aT q j (by omega)
    obtain ⟨k, hk⟩ : ∃ k, k = q.code.length - (j + 1) := ⟨_, rfl⟩
    have hk1 : q.code.length - j = k + 1 := by omega
    have hk2 : q.code.length - 1 - j = k := by omega
    have hlt : k < q.code.length := by omega
    rw [hk1] at ih
    rw [← hk]
    show askStep (askTo q j) (q.code[q.code.length - 1 - j]?.getD default) = _
    rw [hk2, ih, List.drop_eq_getElem_cons hlt, List.getElem?_eq_getElem hlt]
    rfl
end Go.Proofs.Ytbppmiimeccclaa
