import Derived.Test.YtfleehgbpgmcnaaSlS
import Derived.Test.YtfleehgbpgmcnaaNj
set_option maxRecDepth 100000
set_option linter.unusedVariables false
namespace Go.Proofs.Ytfleehgbpgmcnaa
open Go Go.Sl

set_option maxHeartbeats 4000000
theorem mul_lt_pw {x y : Int} {k m : Nat} (hx : (x.natAbs : Int) < pw k) (hy : (y.natAbs : Int) < pw m) : ((x * y).natAbs : Int) < pw (k + m) := by
  rw [Int.natAbs_mul, pw_add, Int.natCast_mul]
  have h1 := Int.mul_le_mul_of_nonneg_left (Int.le_of_lt hy) (show (0 : Int) ≤ x.natAbs by omega)
  exact Int.lt_of_le_of_lt h1 (Int.mul_lt_mul_of_pos_right hx (pw_pos m))
/-- x times the one row and y times the other -/
def comb (x : Int) (xs : List Int) (y : Int) (ys : List Int) : List Int := List.zipWith (fun a b => x * a + y * b) xs ys
theorem comb_len {x y : Int} {xs ys : List Int} (h : xs.length = ys.length) : (comb x xs y ys).length = xs.length := by
  unfold comb; rw [List.length_zipWith, h, Nat.min_self]
theorem comb_succ {x y : Int} {xs ys : List Int} (h : xs.length = ys.length) {i : Nat} (hi : i < xs.length) :
    (comb x xs y ys).take (i + 1) = (comb x xs y ys).take i ++ [x * (xs[((i : Nat) : Int).toNat]?.getD 0) + y * (ys[((i : Nat) : Int).toNat]?.getD 0)] := by
  have h1 : i < (comb x xs y ys).length := by rw [comb_len h]; exact hi
  rw [List.take_succ_eq_append_getElem h1, Int.toNat_natCast, List.getElem?_eq_getElem hi, List.getElem?_eq_getElem (by omega : i < ys.length)]
  have h2 : (comb x xs y ys)[i] = x * xs[i] + y * ys[i] := List.getElem_zipWith
  rw [h2]; rfl
/-- two rows alike -/
theorem same_end {xs ys : List Int} (h : xs.length = ys.length) (he : ∀ i : Nat, i < xs.length → xs[i]?.getD 0 = ys[i]?.getD 0) : xs = ys := by
  refine List.ext_getElem h fun i h1 h2 => ?_
  have := he i h1
  rw [List.getElem?_eq_getElem h1, List.getElem?_eq_getElem h2] at this
  exact this
theorem cmpZ_zero {x y : Int} : cmpZ x y = 0 ↔ x = y := by
  unfold cmpZ
  split
  · omega
  · split <;> omega
theorem one_lt : (((1 : Int)).natAbs : Int) < pw 1 := by decide
theorem mone_lt : (((-1 : Int)).natAbs : Int) < pw 1 := by decide
theorem zero_lt (k : Nat) : (((0 : Int)).natAbs : Int) < pw k := pw_pos k
attribute [local irreducible] valL pw cmpZ p2
theorem c22 (G : Imm) (a b : Option Addr) (ca cb : Nat) (la lb : List IV) (xs ys : List Int) (ha : Arr G a la) (hb : Arr G b lb) (hx : Nums G la xs) (hy : Nums G lb ys) (m : Nat) (hm : m ≤ 1073741824) (bx : Below m xs) (by' : Below m ys) (h1 : la.length ≤ 1099511627776) (h2 : lb.length ≤ 1099511627776) :
    Does Try.prog 22 [.slice a la.length ca, .slice b lb.length cb] G [] (fun v G' Ho => v = .bool (decide (xs = ys)) ∧ G' = G ∧ Ho = []) := by
  have hxl := hx.1
  have hyl := hy.1
  refine Does.enter Try.func22 rfl Try.ntmps22 rfl (fun w => ?_)
  by_cases hl : la.length = lb.length
  · refine Wc.seq ?_
    refine Wc.region rfl ?_
    refine Wl.q rfl (Qy.assign rfl) ?_
    refine Wl.done ?_
    refine Ar.next ?_
    refine Wc.seq ?_
    refine Wc.seq ?_
    refine Wc.region rfl ?_
    refine Wl.q rfl (Qy.move rfl) ?_
    refine Wl.q rfl (Qy.len T.sl40 rfl) ?_
    refine Wl.q rfl (Qy.move rfl) ?_
    refine Wl.q rfl (Qy.len T.sl40 rfl) ?_
    refine Wl.q rfl (Qy.neq rfl rfl) ?_
    refine Wl.done ?_
    refine Ar.next ?_
    refine Wc.condN rfl (by first | assumption | omega) ?_
    refine Wc.skip ?_
    refine Ar.next ?_
    refine Wc.seq ?_
    refine Wc.seq ?_
    refine Wc.region rfl ?_
    refine Wl.q rfl (Qy.assign rfl) ?_
    refine Wl.done ?_
    refine Ar.next ?_
    refine Wc.block ?_
    refine Wc.loop (ι := Nat) (fun i => ([(5, .int .i64 (i : Int)), (0, Go.Value.slice a (List.length la) ca), (1, Go.Value.slice b (List.length lb) cb)], [])) (fun i => i ≤ la.length ∧ ∀ j : Nat, j < i → xs[j]?.getD 0 = ys[j]?.getD 0) (fun i => la.length - i) (0) (⟨Nat.zero_le _, fun j hj => by omega⟩) ⟨rfl, rfl, rfl, trivial⟩ trivial (fun i => fun (hk : i ≤ la.length ∧ ∀ j : Nat, j < i → xs[j]?.getD 0 = ys[j]?.getD 0) => ?_)
    obtain ⟨hi, he⟩ := hk
    rcases Nat.lt_or_ge i la.length with hia | hia
    · have hxi := hx.at (m := (i : Int)) (by omega)
      have hyi := hy.at (m := (i : Int)) (by omega)
      have hxn := Num.len hxi (bx.at _)
      have hyn := Num.len hyi (by'.at _)
      refine Wc.seq ?_
      refine Wc.seq ?_
      refine Wc.region rfl ?_
      refine Wl.q rfl (Qy.move rfl) ?_
      refine Wl.q rfl (Qy.move rfl) ?_
      refine Wl.q rfl (Qy.len T.sl40 rfl) ?_
      refine Wl.q rfl (Qy.lss rfl rfl) ?_
      refine Wl.done ?_
      refine Ar.next ?_
      refine Wc.condP rfl (by first | assumption | omega) ?_
      refine Wc.skip ?_
      refine Ar.next ?_
      refine Wc.seq ?_
      refine Wc.block ?_
      refine Wc.seq ?_
      refine Wc.draw [] [] T.mixed rfl ?_
      refine Gm.q 0 [] (by kernel_rfl) rfl rfl (Qy.move rfl) ?_
      refine Gm.q 1 [] (by kernel_rfl) rfl rfl (Qy.move rfl) ?_
      refine Gm.q 2 [] (by kernel_rfl) rfl rfl (Qy.at (α := IV) T.sl40 rfl rfl (by assumption) (by omega)) ?_
      refine Gm.q 3 [] (by kernel_rfl) rfl rfl (Qy.loadsG T.agg43 rfl (Arr.elem (by assumption) (by omega)) rfl) ?_
      refine Gm.q 4 [] (by kernel_rfl) rfl rfl (Qy.move rfl) ?_
      refine Gm.q 5 [] (by kernel_rfl) rfl rfl (Qy.move rfl) ?_
      refine Gm.q 6 [] (by kernel_rfl) rfl rfl (Qy.at (α := IV) T.sl40 rfl rfl (by assumption) (by omega)) ?_
      refine Gm.q 7 [] (by kernel_rfl) rfl rfl (Qy.loadsG T.agg43 rfl (Arr.elem (by assumption) (by omega)) rfl) ?_
      refine Gm.one 8 trivial (by first | exact Imm.le_refl _ | assumption | (refine Imm.le_trans ?_ (by assumption); first | assumption | (refine Imm.le_trans ?_ (by assumption); assumption))) (by kernel_rfl) rfl ?_
      refine Wl.call0 rfl T.fn63 rfl (num_cmp _ _ _ _ _ (by assumption) (by assumption) (by omega) (by omega)) ?_
      refine Wl.on0 ?_
      refine Gm.q 9 [] (by kernel_rfl) rfl rfl (Qy.neq rfl rfl) ?_
      refine Gm.doneA (by kernel_rfl) trivial (by first | exact Imm.le_refl _ | assumption | (refine Imm.le_trans ?_ (by assumption); first | assumption | (refine Imm.le_trans ?_ (by assumption); assumption))) ?_
      refine Ar.next ?_
      refine Wc.cond rfl (fun hc1 => ?_) (fun hc1 => ?_)
      refine Wc.seq ?_
      refine Wc.region rfl ?_
      refine Wl.q rfl (Qy.assign rfl) ?_
      refine Wl.done ?_
      refine Ar.next ?_
      refine Wc.ret ?_
      refine Ar.outRet ?_
      refine Ar.passRet ?_
      refine Ar.passRet ?_
      refine Ar.outRet ?_
      refine Ar.passRet ?_
      rotate_left
      refine Wc.skip ?_
      refine Ar.outNormal ?_
      refine Ar.next ?_
      refine Wc.region rfl ?_
      refine Wl.q rfl (Qy.move rfl) ?_
      refine Wl.q rfl (Qy.add rfl rfl (by omega)) ?_
      refine Wl.q rfl (Qy.assign rfl) ?_
      refine Wl.done ?_
      rotate_left
      · refine Ar.out1 (.inr rfl) (Ho := []) rfl (.tmp rfl) trivial ?_
        have hne : ¬ xs = ys := fun e => by subst e; exact hc1 (cmpZ_zero.2 rfl)
        exact ⟨by rw [decide_eq_false hne], rfl, rfl⟩
      · have hc2 := cmpZ_zero.1 (Classical.not_not.1 hc1)
        rw [Int.toNat_natCast] at hc2
        refine Ar.again (i + 1) ?_ ?_ rfl ⟨rfl, rfl, rfl, trivial⟩ trivial
        · refine ⟨by omega, fun j hj => ?_⟩
          by_cases hji : j = i
          · subst hji; exact hc2
          · exact he j (by omega)
        · show la.length - (i + 1) < la.length - i
          omega
    · refine Wc.seq ?_
      refine Wc.seq ?_
      refine Wc.region rfl ?_
      refine Wl.q rfl (Qy.move rfl) ?_
      refine Wl.q rfl (Qy.move rfl) ?_
      refine Wl.q rfl (Qy.len T.sl40 rfl) ?_
      refine Wl.q rfl (Qy.lss rfl rfl) ?_
      refine Wl.done ?_
      refine Ar.next ?_
      refine Wc.condN rfl (by first | assumption | omega) ?_
      refine Wc.exit ?_
      refine Ar.passExit ?_
      refine Ar.passExit ?_
      refine Ar.here ?_
      refine Ar.next ?_
      refine Wc.seq ?_
      refine Wc.region rfl ?_
      refine Wl.q rfl (Qy.assign rfl) ?_
      refine Wl.done ?_
      refine Ar.next ?_
      refine Wc.ret ?_
      refine Ar.out1 (.inr rfl) (Ho := []) rfl (.tmp rfl) trivial ?_
      have hee : xs = ys := same_end (by omega) (fun j hj => he j (by omega))
      exact ⟨by rw [decide_eq_true hee], rfl, rfl⟩
  · refine Wc.seq ?_
    refine Wc.region rfl ?_
    refine Wl.q rfl (Qy.assign rfl) ?_
    refine Wl.done ?_
    refine Ar.next ?_
    refine Wc.seq ?_
    refine Wc.seq ?_
    refine Wc.region rfl ?_
    refine Wl.q rfl (Qy.move rfl) ?_
    refine Wl.q rfl (Qy.len T.sl40 rfl) ?_
    refine Wl.q rfl (Qy.move rfl) ?_
    refine Wl.q rfl (Qy.len T.sl40 rfl) ?_
    refine Wl.q rfl (Qy.neq rfl rfl) ?_
    refine Wl.done ?_
    refine Ar.next ?_
    refine Wc.condP rfl (by first | assumption | omega) ?_
    refine Wc.seq ?_
    refine Wc.region rfl ?_
    refine Wl.q rfl (Qy.assign rfl) ?_
    refine Wl.done ?_
    refine Ar.next ?_
    refine Wc.ret ?_
    refine Ar.passRet ?_
    refine Ar.out1 (.inr rfl) (Ho := []) rfl (.tmp rfl) trivial ?_
    have hne : ¬ xs = ys := fun e => by subst e; omega
    exact ⟨by rw [decide_eq_false hne], rfl, rfl⟩
/-- a row of numbers, frozen -/
def RowOf (G : Imm) (v : Value) (zs : List Int) : Prop := ∃ (o : Option Addr) (c : Nat) (l : List IV), v = .slice o l.length c ∧ Arr G o l ∧ Nums G l zs ∧ l.length ≤ c
theorem c97 (G : Imm) (x y : IV) (zx zy : Int) (a b : Option Addr) (ca cb : Nat) (la lb : List IV) (xs ys : List Int) (hx : Num G x zx) (hy : Num G y zy) (ha : Arr G a la) (hb : Arr G b lb) (hxs : Nums G la xs) (hys : Nums G lb ys) (hl : la.length = lb.length) (k m : Nat) (hk : k + m ≤ 134217728)
    (bx : (zx.natAbs : Int) < pw k) (by' : (zy.natAbs : Int) < pw k) (bxs : Below m xs) (bys : Below m ys) (h1 : la.length ≤ 1048576) :
    Does Try.prog 97 [.agg (Cells.enc x).toArray, .slice a la.length ca, .agg (Cells.enc y).toArray, .slice b lb.length cb] G [] (fun v G' Ho => RowOf G' v (comb zx xs zy ys) ∧ Ho = []) := by
  have hxl := hxs.1
  have hyl := hys.1
  obtain ⟨K, hK⟩ : ∃ K, K = k + m := ⟨_, rfl⟩
  have hK9 : K ≤ 1073741824 := by omega
  refine Does.enter Try.func97 rfl Try.ntmps97 rfl (fun w => ?_)
  refine Wc.nilRow 9 (Row 43 ([] : List IV) []) ?_
  refine Wc.seq ?_
  refine Wc.region rfl ?_
  refine Wl.box 10 rfl rfl rfl (fun b1 => ?_)
  refine Wl.box 11 rfl rfl rfl (fun b2 => ?_)
  refine Wl.q rfl (Qy.assign rfl) ?_
  refine Wl.done ?_
  refine Ar.next ?_
  refine Wc.seq ?_
  refine Wc.region rfl ?_
  refine Wl.q rfl (Qy.assign rfl) ?_
  refine Wl.done ?_
  refine Ar.next ?_
  refine Wc.seq ?_
  refine Wc.seq ?_
  refine Wc.region rfl ?_
  refine Wl.q rfl (Qy.assign rfl) ?_
  refine Wl.done ?_
  refine Ar.next ?_
  refine Wc.block ?_
  refine Wc.loopG (ι := Nat × Imm × List IV × (Option Addr × Nat × List Value)) (fun (i, Gx, r, (o, d, j)) => ([(10, .int .i64 (i : Int)), (9, .slice o r.length d), (8, Go.Value.slice Option.none 0 0), (6, Go.Value.pointer (Option.some (Go.Addr.mk b2 0 Option.none))), (4, Go.Value.pointer (Option.some (Go.Addr.mk b1 0 Option.none))), (1, Go.Value.slice a (List.length la) ca), (3, Go.Value.slice b (List.length lb) cb)], [(9, o.map (·.block), Row 43 r j), (11, Option.some b2, Go.Obj.cells (List.toArray (Go.Sl.Cells.enc y)) 43), (10, Option.some b1, Go.Obj.cells (List.toArray (Go.Sl.Cells.enc x)) 43)])) (fun (i, Gx, r, (o, d, j)) => Gx) (fun (i, Gx, r, (o, d, j)) => i ≤ la.length ∧ G.le Gx ∧ r.length = i ∧ Nums Gx r ((comb zx xs zy ys).take i) ∧ OwnA o d r j) (fun (i, Gx, r, (o, d, j)) => la.length - i) ((0, G, [], (none, 0, []))) (⟨Nat.zero_le _, Imm.le_refl _, rfl, by rw [List.take_zero]; exact Nums.nil _, OwnA.nil⟩) rfl ⟨rfl, rfl, rfl, rfl, rfl, rfl, rfl, trivial⟩ ⟨rfl, rfl, rfl, trivial⟩ (fun ⟨i, Gx, r, (o, d, j)⟩ => fun (hk : i ≤ la.length ∧ G.le Gx ∧ r.length = i ∧ Nums Gx r ((comb zx xs zy ys).take i) ∧ OwnA o d r j) => ?_)
  obtain ⟨hi, hgx, hri, hrs, hob⟩ := hk
  replace hx := hx.up hgx
  replace hy := hy.up hgx
  replace ha := ha.up hgx
  replace hb := hb.up hgx
  replace hxs := hxs.up hgx
  replace hys := hys.up hgx
  rcases Nat.lt_or_ge i la.length with hia | hia
  · have hxi := hxs.at (m := (i : Int)) (by omega)
    have hyi := hys.at (m := (i : Int)) (by omega)
    have hxn := Num.len hxi (bxs.at _)
    have hyn := Num.len hyi (bys.at _)
    have hxn0 := Num.len hx bx
    have hyn0 := Num.len hy by'
    have hp1 := mul_lt_pw bx (bxs.at (m := m) ((i : Int).toNat))
    have hp2 := mul_lt_pw by' (bys.at (m := m) ((i : Int).toNat))
    rw [← hK] at hp1 hp2
    refine Wc.seq ?_
    refine Wc.seq ?_
    refine Wc.region rfl ?_
    refine Wl.q rfl (Qy.move rfl) ?_
    refine Wl.q rfl (Qy.move rfl) ?_
    refine Wl.q rfl (Qy.len T.sl40 rfl) ?_
    refine Wl.q rfl (Qy.lss rfl rfl) ?_
    refine Wl.done ?_
    refine Ar.next ?_
    refine Wc.condP rfl (by first | assumption | omega) ?_
    refine Wc.skip ?_
    refine Ar.next ?_
    refine Wc.seq ?_
    refine Wc.block ?_
    refine Wc.draw [10, 11, 9] [(9, 15)] T.mixed rfl ?_
    refine Gm.q 0 [] (by kernel_rfl) rfl rfl (Qy.move rfl) ?_
    refine Gm.q 1 [10] (by kernel_rfl) rfl rfl (Qy.loadAll 10 T.agg43 rfl rfl rfl) ?_
    refine Gm.q 2 [] (by kernel_rfl) rfl rfl (Qy.move rfl) ?_
    refine Gm.q 3 [] (by kernel_rfl) rfl rfl (Qy.move rfl) ?_
    refine Gm.q 4 [] (by kernel_rfl) rfl rfl (Qy.at (α := IV) T.sl40 rfl rfl (by assumption) (by omega)) ?_
    refine Gm.q 5 [] (by kernel_rfl) rfl rfl (Qy.loadsG T.agg43 rfl (Arr.elem (by assumption) (by omega)) rfl) ?_
    refine Gm.q 7 [11] (by kernel_rfl) rfl rfl (Qy.loadAll 11 T.agg43 rfl rfl rfl) ?_
    refine Gm.q 8 [] (by kernel_rfl) rfl rfl (Qy.move rfl) ?_
    refine Gm.q 9 [] (by kernel_rfl) rfl rfl (Qy.move rfl) ?_
    refine Gm.q 10 [] (by kernel_rfl) rfl rfl (Qy.at (α := IV) T.sl40 rfl rfl (by assumption) (by omega)) ?_
    refine Gm.q 11 [] (by kernel_rfl) rfl rfl (Qy.loadsG T.agg43 rfl (Arr.elem (by assumption) (by omega)) rfl) ?_
    refine Gm.one 6 ⟨rfl, rfl, rfl, trivial⟩ (by first | exact Imm.le_refl _ | assumption | (refine Imm.le_trans ?_ (by assumption); first | assumption | (refine Imm.le_trans ?_ (by assumption); assumption))) (by kernel_rfl) rfl ?_
    refine Wl.call 12 rfl T.fn102 rfl (num_mul _ _ _ _ _ (by assumption) (by assumption) (by omega) (by omega)) (tags_of trivial) (fun v1 G1 Ho1 hle1 hp => ?_)
    obtain ⟨pm1, rfl, hpm1, rfl⟩ := hp
    replace hrs := hrs.up hle1
    replace hx := hx.up hle1
    replace hy := hy.up hle1
    replace ha := ha.up hle1
    replace hb := hb.up hle1
    replace hxs := hxs.up hle1
    replace hys := hys.up hle1
    replace hxi := hxi.up hle1
    replace hyi := hyi.up hle1
    refine Wl.on0 ?_
    refine Gm.one 12 ⟨rfl, rfl, rfl, trivial⟩ (by first | exact Imm.le_refl _ | assumption | (refine Imm.le_trans ?_ (by assumption); first | assumption | (refine Imm.le_trans ?_ (by assumption); assumption))) (by kernel_rfl) rfl ?_
    refine Wl.call 12 rfl T.fn102 rfl (num_mul _ _ _ _ _ (by assumption) (by assumption) (by omega) (by omega)) (tags_of trivial) (fun v2 G2 Ho2 hle2 hp => ?_)
    obtain ⟨pm2, rfl, hpm2, rfl⟩ := hp
    replace hpm1 := hpm1.up hle2
    replace hrs := hrs.up hle2
    replace hx := hx.up hle2
    replace hy := hy.up hle2
    replace ha := ha.up hle2
    replace hb := hb.up hle2
    replace hxs := hxs.up hle2
    replace hys := hys.up hle2
    replace hxi := hxi.up hle2
    replace hyi := hyi.up hle2
    refine Wl.on0 ?_
    refine Gm.one 13 ⟨rfl, rfl, rfl, trivial⟩ (by first | exact Imm.le_refl _ | assumption | (refine Imm.le_trans ?_ (by assumption); first | assumption | (refine Imm.le_trans ?_ (by assumption); assumption))) (by kernel_rfl) rfl ?_
    refine Wl.call 12 rfl T.fn101 rfl (num_add _ _ _ _ _ (by assumption) (by assumption) (Nat.le_trans (Num.len (m := K) (by assumption) (by assumption)) hK9) (Nat.le_trans (Num.len (m := K) (by assumption) (by assumption)) hK9)) (tags_of trivial) (fun v3 G3 Ho3 hle3 hp => ?_)
    obtain ⟨ps3, rfl, hps3, rfl⟩ := hp
    replace hpm2 := hpm2.up hle3
    replace hpm1 := hpm1.up hle3
    replace hrs := hrs.up hle3
    replace hx := hx.up hle3
    replace hy := hy.up hle3
    replace ha := ha.up hle3
    replace hb := hb.up hle3
    replace hxs := hxs.up hle3
    replace hys := hys.up hle3
    replace hxi := hxi.up hle3
    replace hyi := hyi.up hle3
    refine Wl.on0 ?_
    refine Gm.one 14 ⟨rfl, rfl, rfl, trivial⟩ (by first | exact Imm.le_refl _ | assumption | (refine Imm.le_trans ?_ (by assumption); first | assumption | (refine Imm.le_trans ?_ (by assumption); assumption))) (by kernel_rfl) rfl ?_
    refine Wl.lit (α := IV) 12 [(ps3)] rfl T.sl40 T.el43 rfl rfl rfl rfl rfl (fun b3 => ?_)
    refine Wl.on0 ?_
    refine Gm.one 15 ⟨rfl, rfl, rfl, trivial⟩ (by first | exact Imm.le_refl _ | assumption | (refine Imm.le_trans ?_ (by assumption); first | assumption | (refine Imm.le_trans ?_ (by assumption); assumption))) (by kernel_rfl) rfl ?_
    refine Wl.append (α := IV) 9 rfl T.sl40 T.el43 rfl rfl rfl (by first | assumption | exact OwnA.nil | exact OwnA.made (by simp)) (Src.row 12 rfl) (by first | omega | (simp only [List.length_append, List.length_cons, List.length_nil, maxLen]; omega)) (by first | omega | (simp only [List.length_append, List.length_cons, List.length_nil, maxLen]; omega)) (fun a1 c1 junk1 ho1 => ?_)
    refine Wl.on0 ?_
    refine Gm.q 16 [] (by kernel_rfl) rfl rfl (Qy.assign rfl) ?_
    refine Gm.doneA (by kernel_rfl) ⟨rfl, rfl, trivial⟩ (by first | exact Imm.le_refl _ | assumption | (refine Imm.le_trans ?_ (by assumption); first | assumption | (refine Imm.le_trans ?_ (by assumption); assumption))) ?_
    refine Ar.outNormal ?_
    refine Ar.next ?_
    refine Wc.region rfl ?_
    refine Wl.q rfl (Qy.move rfl) ?_
    refine Wl.q rfl (Qy.add rfl rfl (by omega)) ?_
    refine Wl.q rfl (Qy.assign rfl) ?_
    refine Wl.done ?_
    refine Ar.again ((i + 1, G3, r ++ [ps3], (a1, c1, junk1))) ?_ ?_ rfl ⟨rfl, rfl, rfl, rfl, rfl, rfl, rfl, trivial⟩ ⟨rfl, rfl, rfl, trivial⟩
    · exact ⟨by omega, Imm.le_trans hgx (Imm.le_trans hle1 (Imm.le_trans hle2 hle3)), by rw [List.length_append]; show r.length + 1 = i + 1; omega, by rw [comb_succ (by omega) (by omega)]; exact hrs.snoc hps3, ho1⟩
    · show la.length - (i + 1) < la.length - i
      omega
  · refine Wc.seq ?_
    refine Wc.seq ?_
    refine Wc.region rfl ?_
    refine Wl.q rfl (Qy.move rfl) ?_
    refine Wl.q rfl (Qy.move rfl) ?_
    refine Wl.q rfl (Qy.len T.sl40 rfl) ?_
    refine Wl.q rfl (Qy.lss rfl rfl) ?_
    refine Wl.done ?_
    refine Ar.next ?_
    refine Wc.condN rfl (by first | assumption | omega) ?_
    refine Wc.exit ?_
    refine Ar.passExit ?_
    refine Ar.passExit ?_
    refine Ar.here ?_
    refine Ar.next ?_
    refine Wc.seq ?_
    refine Wc.region rfl ?_
    refine Wl.q rfl (Qy.move rfl) ?_
    refine Wl.q rfl (Qy.assign rfl) ?_
    refine Wl.done ?_
    refine Ar.next ?_
    refine Wc.ret ?_
    have hcap := hob.le
    rw [List.take_of_length_le (by rw [comb_len (by omega)]; omega)] at hrs
    refine Ar.freezeRow 9 rfl hob (fun G9 hle9 hA => ?_)
    refine Ar.out1 (.inr rfl) (Ho := []) rfl (.tmp rfl) trivial ?_
    exact ⟨⟨o, d, r, rfl, hA, hrs.up hle9, hcap⟩, rfl⟩
theorem nums_zeros (G : Imm) (n : Nat) : Nums G (List.replicate n (default : IV)) (List.replicate n 0) := by
  refine ⟨by rw [List.length_replicate, List.length_replicate], fun i hi => ?_⟩
  rw [List.length_replicate] at hi
  rw [List.getElem?_replicate, List.getElem?_replicate, if_pos hi, if_pos hi]
  exact Num.zero G
theorem c61 (G : Imm) (n : Nat) (hn : n ≤ 1048576) :
    Does Try.prog 61 [.int .i64 (n : Int)] G [] (fun v G' Ho => RowOf G' v (List.replicate n 0) ∧ Ho = []) := by
  refine Does.enter Try.func61 rfl Try.ntmps61 rfl (fun w => ?_)
  refine Wc.seq ?_
  refine Wc.region rfl ?_
  refine Wl.q rfl (Qy.assign rfl) ?_
  refine Wl.done ?_
  refine Ar.next ?_
  refine Wc.seq ?_
  refine Wc.region rfl ?_
  refine Wl.q rfl (Qy.move rfl) ?_
  refine Wl.make (α := IV) 0 rfl T.sl40 T.el43 rfl rfl (by omega) (by omega) (fun b1 => ?_)
  refine Wl.q rfl (Qy.assign rfl) ?_
  refine Wl.done ?_
  refine Ar.next ?_
  refine Wc.ret ?_
  have hr : ∀ N : Nat, (N : Int).toNat = N := fun N => Int.toNat_natCast N
  rw [hr n]
  have hl : (List.replicate n (default : IV)).length = n := List.length_replicate
  have hob : OwnA (some ⟨b1, 0, none⟩) n (List.replicate n (default : IV)) [] := .inr ⟨b1, rfl, by rw [hl]; rfl, by omega, by simp only [maxLen]; omega⟩
  refine Ar.freezeRow 0 rfl hob (fun G9 hle9 hA => ?_)
  refine Ar.out1 (.inr rfl) (Ho := []) rfl (.tmp rfl) trivial ?_
  exact ⟨⟨_, n, _, by rw [hl], hA, nums_zeros _ n, by rw [hl]; exact Nat.le_refl _⟩, rfl⟩
theorem comb_scale (z : Int) (xs : List Int) : comb z xs 0 xs = xs.map (fun a => z * a) := by
  unfold comb
  induction xs with
  | nil => rfl
  | cons a l ih => rw [List.zipWith_cons_cons, ih, List.map_cons, Int.zero_mul, Int.add_zero]
theorem comb_one (c : Int) (xs ys : List Int) : comb 1 xs c ys = List.zipWith (fun a b => a + c * b) xs ys := by
  unfold comb
  congr 1
  funext a b
  rw [Int.one_mul]
theorem c85 (G : Imm) (x : IV) (z : Int) (a : Option Addr) (ca : Nat) (la : List IV) (xs : List Int) (hx : Num G x z) (ha : Arr G a la) (hxs : Nums G la xs) (k m : Nat) (hk : k + m ≤ 134217728)
    (bx : (z.natAbs : Int) < pw k) (bxs : Below m xs) (h1 : la.length ≤ 1048576) :
    Does Try.prog 85 [.slice a la.length ca, .agg (Cells.enc x).toArray] G [] (fun v G' Ho => RowOf G' v (xs.map (fun a => z * a)) ∧ Ho = []) := by
  refine Does.enter Try.func85 rfl Try.ntmps85 rfl (fun w => ?_)
  refine Wc.seq ?_
  refine Wc.region rfl ?_
  refine Wl.box 0 rfl rfl rfl (fun b1 => ?_)
  refine Wl.q rfl (Qy.assign rfl) ?_
  refine Wl.done ?_
  refine Ar.next ?_
  refine Wc.seq ?_
  refine Wc.region rfl ?_
  refine Wl.q rfl (Qy.loadAll 0 T.agg43 rfl rfl rfl) ?_
  refine Wl.q rfl (Qy.move rfl) ?_
  refine Wl.q rfl (Qy.build (cs := [_, _]) T.st43 rfl rfl rfl) ?_
  refine Wl.q rfl (Qy.move rfl) ?_
  refine Wl.call 1 rfl T.fn97 rfl (c97 _ x ⟨false, none, 0, 0⟩ z 0 _ _ _ _ _ _ xs xs hx (Num.zero _) ha ha hxs hxs rfl k m hk bx (zero_lt k) bxs bxs h1) (tags_of trivial) (fun v1 G1 Ho1 hle1 hp => ?_)
  obtain ⟨⟨ro1, rc1, rl1, rfl, hrA1, hrs1, hrl1⟩, rfl⟩ := hp
  replace hx := hx.up hle1
  replace ha := ha.up hle1
  replace hxs := hxs.up hle1
  refine Wl.q rfl (Qy.assign rfl) ?_
  refine Wl.done ?_
  refine Ar.next ?_
  refine Wc.ret ?_
  refine Ar.out1 (.inr rfl) (Ho := []) rfl (.tmp rfl) trivial ?_
  exact ⟨⟨ro1, rc1, rl1, rfl, hrA1, by rw [← comb_scale]; exact hrs1, hrl1⟩, rfl⟩
theorem c86 (G : Imm) (a b : Option Addr) (ca cb : Nat) (la lb : List IV) (xs ys : List Int) (ha : Arr G a la) (hb : Arr G b lb) (hxs : Nums G la xs) (hys : Nums G lb ys) (hl : la.length = lb.length) (m : Nat) (hm : 1 + m ≤ 134217728)
    (bxs : Below m xs) (bys : Below m ys) (h1 : la.length ≤ 1048576) :
    Does Try.prog 86 [.slice a la.length ca, .slice b lb.length cb] G [] (fun v G' Ho => RowOf G' v (List.zipWith (fun a b => a + 1 * b) xs ys) ∧ Ho = []) := by
  refine Does.enter Try.func86 rfl Try.ntmps86 rfl (fun w => ?_)
  refine Wc.seq ?_
  refine Wc.region rfl ?_
  refine Wl.q rfl (Qy.assign rfl) ?_
  refine Wl.done ?_
  refine Ar.next ?_
  refine Wc.seq ?_
  refine Wc.region rfl ?_
  refine Wl.call 0 rfl T.fn20 rfl (num_of _ _ ⟨by decide, by decide⟩) (tags_of trivial) (fun v1 G1 Ho1 hle1 hp => ?_)
  obtain ⟨ri1, rfl, hri1, rfl⟩ := hp
  replace ha := ha.up hle1
  replace hb := hb.up hle1
  replace hxs := hxs.up hle1
  replace hys := hys.up hle1
  refine Wl.q rfl (Qy.move rfl) ?_
  refine Wl.call 0 rfl T.fn20 rfl (num_of _ _ ⟨by decide, by decide⟩) (tags_of trivial) (fun v2 G2 Ho2 hle2 hp => ?_)
  obtain ⟨ri2, rfl, hri2, rfl⟩ := hp
  replace hri1 := hri1.up hle2
  replace ha := ha.up hle2
  replace hb := hb.up hle2
  replace hxs := hxs.up hle2
  replace hys := hys.up hle2
  refine Wl.q rfl (Qy.move rfl) ?_
  refine Wl.call 0 rfl T.fn97 rfl (c97 _ _ _ 1 1 _ _ _ _ la lb xs ys hri1 hri2 ha hb hxs hys hl 1 m hm one_lt one_lt bxs bys h1) (tags_of trivial) (fun v3 G3 Ho3 hle3 hp => ?_)
  obtain ⟨⟨ro3, rc3, rl3, rfl, hrA3, hrs3, hrl3⟩, rfl⟩ := hp
  replace hri2 := hri2.up hle3
  replace hri1 := hri1.up hle3
  replace ha := ha.up hle3
  replace hb := hb.up hle3
  replace hxs := hxs.up hle3
  replace hys := hys.up hle3
  refine Wl.q rfl (Qy.assign rfl) ?_
  refine Wl.done ?_
  refine Ar.next ?_
  refine Wc.ret ?_
  refine Ar.out1 (.inr rfl) (Ho := []) rfl (.tmp rfl) trivial ?_
  exact ⟨⟨ro3, rc3, rl3, rfl, hrA3, by rw [← comb_one]; exact hrs3, hrl3⟩, rfl⟩
theorem c87 (G : Imm) (a b : Option Addr) (ca cb : Nat) (la lb : List IV) (xs ys : List Int) (ha : Arr G a la) (hb : Arr G b lb) (hxs : Nums G la xs) (hys : Nums G lb ys) (hl : la.length = lb.length) (m : Nat) (hm : 1 + m ≤ 134217728)
    (bxs : Below m xs) (bys : Below m ys) (h1 : la.length ≤ 1048576) :
    Does Try.prog 87 [.slice a la.length ca, .slice b lb.length cb] G [] (fun v G' Ho => RowOf G' v (List.zipWith (fun a b => a + (-1) * b) xs ys) ∧ Ho = []) := by
  refine Does.enter Try.func87 rfl Try.ntmps87 rfl (fun w => ?_)
  refine Wc.seq ?_
  refine Wc.region rfl ?_
  refine Wl.q rfl (Qy.assign rfl) ?_
  refine Wl.done ?_
  refine Ar.next ?_
  refine Wc.seq ?_
  refine Wc.region rfl ?_
  refine Wl.call 0 rfl T.fn20 rfl (num_of _ _ ⟨by decide, by decide⟩) (tags_of trivial) (fun v1 G1 Ho1 hle1 hp => ?_)
  obtain ⟨ri1, rfl, hri1, rfl⟩ := hp
  replace ha := ha.up hle1
  replace hb := hb.up hle1
  replace hxs := hxs.up hle1
  replace hys := hys.up hle1
  refine Wl.q rfl (Qy.move rfl) ?_
  refine Wl.call 0 rfl T.fn20 rfl (num_of _ _ ⟨by decide, by decide⟩) (tags_of trivial) (fun v2 G2 Ho2 hle2 hp => ?_)
  obtain ⟨ri2, rfl, hri2, rfl⟩ := hp
  replace hri1 := hri1.up hle2
  replace ha := ha.up hle2
  replace hb := hb.up hle2
  replace hxs := hxs.up hle2
  replace hys := hys.up hle2
  refine Wl.q rfl (Qy.move rfl) ?_
  refine Wl.call 0 rfl T.fn97 rfl (c97 _ _ _ 1 (-1) _ _ _ _ la lb xs ys hri1 hri2 ha hb hxs hys hl 1 m hm one_lt mone_lt bxs bys h1) (tags_of trivial) (fun v3 G3 Ho3 hle3 hp => ?_)
  obtain ⟨⟨ro3, rc3, rl3, rfl, hrA3, hrs3, hrl3⟩, rfl⟩ := hp
  replace hri2 := hri2.up hle3
  replace hri1 := hri1.up hle3
  replace ha := ha.up hle3
  replace hb := hb.up hle3
  replace hxs := hxs.up hle3
  replace hys := hys.up hle3
  refine Wl.q rfl (Qy.assign rfl) ?_
  refine Wl.done ?_
  refine Ar.next ?_
  refine Wc.ret ?_
  refine Ar.out1 (.inr rfl) (Ho := []) rfl (.tmp rfl) trivial ?_
  exact ⟨⟨ro3, rc3, rl3, rfl, hrA3, by rw [← comb_one]; exact hrs3, hrl3⟩, rfl⟩
theorem map_succ {y : Int} {xs : List Int} {i : Nat} (hi : i < xs.length) :
    (xs.map (· / y)).take (i + 1) = (xs.map (· / y)).take i ++ [xs[((i : Nat) : Int).toNat]?.getD 0 / y] := by
  have h1 : i < (xs.map (· / y)).length := by rw [List.length_map]; exact hi
  rw [List.take_succ_eq_append_getElem h1, Int.toNat_natCast, List.getElem?_eq_getElem hi, List.getElem_map]; rfl
/-- every one a multiple -/
def AllDiv (y : Int) (xs : List Int) : Prop := ∀ i : Nat, i < xs.length → xs[i]?.getD 0 % y = 0
instance (y : Int) (xs : List Int) : Decidable (AllDiv y xs) := by unfold AllDiv; infer_instance
theorem c89 (G : Imm) (y : IV) (zy : Int) (a : Option Addr) (ca : Nat) (la : List IV) (xs : List Int) (hy : Num G y zy) (ha : Arr G a la) (hxs : Nums G la xs) (m : Nat) (hm : m ≤ 134217728) (hyn0 : y.n ≤ 134217728)
    (bxs : Below m xs) (hy0 : zy ≠ 0) (h1 : la.length ≤ 1048576) :
    Does Try.prog 89 [.slice a la.length ca, .agg (Cells.enc y).toArray] G [] (fun v G' Ho => ∃ rv, v = .tuple #[rv, .bool (decide (AllDiv zy xs))] ∧ (AllDiv zy xs → RowOf G' rv (xs.map (· / zy))) ∧ Ho = []) := by
  have hxl := hxs.1
  refine Does.enter Try.func89 rfl Try.ntmps89 rfl (fun w => ?_)
  refine Wc.nilRow 9 (Row 43 ([] : List IV) []) ?_
  refine Wc.seq ?_
  refine Wc.region rfl ?_
  refine Wl.box 10 rfl rfl rfl (fun b1 => ?_)
  refine Wl.q rfl (Qy.assign rfl) ?_
  refine Wl.q rfl (Qy.assign rfl) ?_
  refine Wl.done ?_
  refine Ar.next ?_
  refine Wc.seq ?_
  refine Wc.region rfl ?_
  refine Wl.q rfl (Qy.assign rfl) ?_
  refine Wl.done ?_
  refine Ar.next ?_
  refine Wc.seq ?_
  refine Wc.seq ?_
  refine Wc.region rfl ?_
  refine Wl.q rfl (Qy.assign rfl) ?_
  refine Wl.done ?_
  refine Ar.next ?_
  refine Wc.block ?_
  refine Wc.loopG (ι := Nat × Imm × List IV × (Option Addr × Nat × List Value)) (fun (i, Gx, r, (o, d, j)) => ([(7, .int .i64 (i : Int)), (6, .slice o r.length d), (3, Go.Value.pointer (Option.some (Go.Addr.mk b1 0 Option.none))), (0, Go.Value.slice a (List.length la) ca)], [(9, o.map (·.block), Row 43 r j), (10, Option.some b1, Go.Obj.cells (List.toArray (Go.Sl.Cells.enc y)) 43)])) (fun (i, Gx, r, (o, d, j)) => Gx) (fun (i, Gx, r, (o, d, j)) => i ≤ la.length ∧ G.le Gx ∧ r.length = i ∧ Nums Gx r ((xs.map (· / zy)).take i) ∧ OwnA o d r j ∧ ∀ q : Nat, q < i → xs[q]?.getD 0 % zy = 0) (fun (i, Gx, r, (o, d, j)) => la.length - i) ((0, G, [], (none, 0, []))) (⟨Nat.zero_le _, Imm.le_refl _, rfl, by rw [List.take_zero]; exact Nums.nil _, OwnA.nil, fun q hq => by omega⟩) rfl ⟨rfl, rfl, rfl, rfl, trivial⟩ ⟨rfl, rfl, trivial⟩ (fun ⟨i, Gx, r, (o, d, j)⟩ => fun (hk : i ≤ la.length ∧ G.le Gx ∧ r.length = i ∧ Nums Gx r ((xs.map (· / zy)).take i) ∧ OwnA o d r j ∧ ∀ q : Nat, q < i → xs[q]?.getD 0 % zy = 0) => ?_)
  obtain ⟨hi, hgx, hri, hrs, hob, hq⟩ := hk
  replace hy := hy.up hgx
  replace ha := ha.up hgx
  replace hxs := hxs.up hgx
  rcases Nat.lt_or_ge i la.length with hia | hia
  · have hxi := hxs.at (m := (i : Int)) (by omega)
    have hxn := Num.len hxi (bxs.at _)
    refine Wc.seq ?_
    refine Wc.seq ?_
    refine Wc.region rfl ?_
    refine Wl.q rfl (Qy.move rfl) ?_
    refine Wl.q rfl (Qy.move rfl) ?_
    refine Wl.q rfl (Qy.len T.sl40 rfl) ?_
    refine Wl.q rfl (Qy.lss rfl rfl) ?_
    refine Wl.done ?_
    refine Ar.next ?_
    refine Wc.condP rfl (by first | assumption | omega) ?_
    refine Wc.skip ?_
    refine Ar.next ?_
    refine Wc.seq ?_
    refine Wc.block ?_
    refine Wc.seq ?_
    refine Wc.draw [10, 9] [] T.mixed rfl ?_
    refine Gm.q 0 [] (by kernel_rfl) rfl rfl (Qy.move rfl) ?_
    refine Gm.q 1 [] (by kernel_rfl) rfl rfl (Qy.move rfl) ?_
    refine Gm.q 2 [] (by kernel_rfl) rfl rfl (Qy.at (α := IV) T.sl40 rfl rfl (by assumption) (by omega)) ?_
    refine Gm.q 3 [] (by kernel_rfl) rfl rfl (Qy.loadsG T.agg43 rfl (Arr.elem (by assumption) (by omega)) rfl) ?_
    refine Gm.q 4 [10] (by kernel_rfl) rfl rfl (Qy.loadAll 10 T.agg43 rfl rfl rfl) ?_
    refine Gm.two 5 9 ⟨rfl, rfl, trivial⟩ (by first | exact Imm.le_refl _ | assumption | (refine Imm.le_trans ?_ (by assumption); first | assumption | (refine Imm.le_trans ?_ (by assumption); assumption))) (by kernel_rfl) rfl rfl ?_ ?_
    refine Wl.call 11 rfl T.fn99 rfl (num_over _ _ _ _ zy (by assumption) (by assumption) (by omega) (by omega) hy0) (tags_of trivial) (fun v1 G1 Ho1 hle1 hp => ?_)
    obtain ⟨qo1, rfl, hqo1, rfl⟩ := hp
    replace hrs := hrs.up hle1
    replace hy := hy.up hle1
    replace ha := ha.up hle1
    replace hxs := hxs.up hle1
    replace hxi := hxi.up hle1
    refine Wl.on0 ?_
    refine Gm.q 6 [] (by kernel_rfl) rfl rfl (Qy.move rfl) ?_
    refine Gm.q 7 [] (by kernel_rfl) rfl rfl (Qy.extract rfl rfl) ?_
    refine Gm.q 8 [] (by kernel_rfl) rfl rfl (Qy.extract rfl rfl) ?_
    refine Gm.one 9 ⟨rfl, rfl, trivial⟩ (by first | exact Imm.le_refl _ | assumption | (refine Imm.le_trans ?_ (by assumption); first | assumption | (refine Imm.le_trans ?_ (by assumption); assumption))) (by kernel_rfl) rfl ?_
    refine Wl.alloc 11 rfl T.zero43 (fun b2 => ?_)
    refine Wl.on0 ?_
    refine Gm.one 10 ⟨rfl, rfl, trivial⟩ (by first | exact Imm.le_refl _ | assumption | (refine Imm.le_trans ?_ (by assumption); first | assumption | (refine Imm.le_trans ?_ (by assumption); assumption))) (by kernel_rfl) rfl ?_
    refine Wl.storeAll 11 T.size43 rfl rfl rfl rfl rfl rfl ?_
    refine Wl.on0 ?_
    refine Gm.q 11 [] (by kernel_rfl) rfl rfl (Qy.assign rfl) ?_
    refine Gm.doneA (by kernel_rfl) ⟨rfl, rfl, trivial⟩ (by first | exact Imm.le_refl _ | assumption | (refine Imm.le_trans ?_ (by assumption); first | assumption | (refine Imm.le_trans ?_ (by assumption); assumption))) ?_
    refine Ar.next ?_
    refine Wc.seq ?_
    refine Wc.seq ?_
    refine Wc.region rfl ?_
    refine Wl.q rfl (Qy.move rfl) ?_
    refine Wl.q rfl (Qy.notD rfl) ?_
    refine Wl.done ?_
    refine Ar.next ?_
    refine Wc.cond rfl (fun hc1 => ?_) (fun hc1 => ?_)
    refine Wc.seq ?_
    refine Wc.region rfl ?_
    refine Wl.q rfl (Qy.assign rfl) ?_
    refine Wl.q rfl (Qy.assign rfl) ?_
    refine Wl.done ?_
    refine Ar.next ?_
    refine Wc.ret ?_
    refine Ar.passRet ?_
    refine Ar.outRet ?_
    refine Ar.passRet ?_
    refine Ar.passRet ?_
    refine Ar.outRet ?_
    refine Ar.passRet ?_
    rotate_left
    refine Wc.skip ?_
    refine Ar.next ?_
    refine Wc.region rfl ?_
    refine Wl.q rfl (Qy.move rfl) ?_
    refine Wl.q rfl (Qy.loadAll 11 T.agg43 rfl rfl rfl) ?_
    refine Wl.lit (α := IV) 12 [(qo1)] rfl T.sl40 T.el43 rfl rfl rfl rfl rfl (fun b3 => ?_)
    refine Wl.append (α := IV) 9 rfl T.sl40 T.el43 rfl rfl rfl (by first | assumption | exact OwnA.nil | exact OwnA.made (by simp)) (Src.row 12 rfl) (by first | omega | (simp only [List.length_append, List.length_cons, List.length_nil, maxLen]; omega)) (by first | omega | (simp only [List.length_append, List.length_cons, List.length_nil, maxLen]; omega)) (fun a1 c1 junk1 ho1 => ?_)
    refine Wl.q rfl (Qy.assign rfl) ?_
    refine Wl.done ?_
    refine Ar.outNormal ?_
    refine Ar.next ?_
    refine Wc.region rfl ?_
    refine Wl.q rfl (Qy.move rfl) ?_
    refine Wl.q rfl (Qy.add rfl rfl (by omega)) ?_
    refine Wl.q rfl (Qy.assign rfl) ?_
    refine Wl.done ?_
    rotate_left
    refine Wl.alloc 11 rfl T.zero43 (fun b2 => ?_)
    refine Wl.on0 ?_
    refine Gm.one 5 ⟨rfl, rfl, trivial⟩ (by first | exact Imm.le_refl _ | assumption | (refine Imm.le_trans ?_ (by assumption); first | assumption | (refine Imm.le_trans ?_ (by assumption); assumption))) (by kernel_rfl) rfl ?_
    refine Wl.call 12 rfl T.fn99 rfl (num_over _ _ _ _ zy (by assumption) (by assumption) (by omega) (by omega) hy0) (tags_of trivial) (fun v1 G1 Ho1 hle1 hp => ?_)
    obtain ⟨qo1, rfl, hqo1, rfl⟩ := hp
    replace hrs := hrs.up hle1
    replace hy := hy.up hle1
    replace ha := ha.up hle1
    replace hxs := hxs.up hle1
    replace hxi := hxi.up hle1
    refine Wl.on0 ?_
    refine Gm.q 6 [] (by kernel_rfl) rfl rfl (Qy.move rfl) ?_
    refine Gm.q 7 [] (by kernel_rfl) rfl rfl (Qy.extract rfl rfl) ?_
    refine Gm.q 8 [] (by kernel_rfl) rfl rfl (Qy.extract rfl rfl) ?_
    refine Gm.one 10 ⟨rfl, rfl, trivial⟩ (by first | exact Imm.le_refl _ | assumption | (refine Imm.le_trans ?_ (by assumption); first | assumption | (refine Imm.le_trans ?_ (by assumption); assumption))) (by kernel_rfl) rfl ?_
    refine Wl.storeAll 11 T.size43 rfl rfl rfl rfl rfl rfl ?_
    refine Wl.on0 ?_
    refine Gm.q 11 [] (by kernel_rfl) rfl rfl (Qy.assign rfl) ?_
    refine Gm.doneA (by kernel_rfl) ⟨rfl, rfl, trivial⟩ (by first | exact Imm.le_refl _ | assumption | (refine Imm.le_trans ?_ (by assumption); first | assumption | (refine Imm.le_trans ?_ (by assumption); assumption))) ?_
    refine Ar.next ?_
    refine Wc.seq ?_
    refine Wc.seq ?_
    refine Wc.region rfl ?_
    refine Wl.q rfl (Qy.move rfl) ?_
    refine Wl.q rfl (Qy.notD rfl) ?_
    refine Wl.done ?_
    refine Ar.next ?_
    refine Wc.cond rfl (fun hc1 => ?_) (fun hc1 => ?_)
    refine Wc.seq ?_
    refine Wc.region rfl ?_
    refine Wl.q rfl (Qy.assign rfl) ?_
    refine Wl.q rfl (Qy.assign rfl) ?_
    refine Wl.done ?_
    refine Ar.next ?_
    refine Wc.ret ?_
    refine Ar.passRet ?_
    refine Ar.outRet ?_
    refine Ar.passRet ?_
    refine Ar.passRet ?_
    refine Ar.outRet ?_
    refine Ar.passRet ?_
    rotate_left
    refine Wc.skip ?_
    refine Ar.next ?_
    refine Wc.region rfl ?_
    refine Wl.q rfl (Qy.move rfl) ?_
    refine Wl.q rfl (Qy.loadAll 11 T.agg43 rfl rfl rfl) ?_
    refine Wl.lit (α := IV) 12 [(qo1)] rfl T.sl40 T.el43 rfl rfl rfl rfl rfl (fun b3 => ?_)
    refine Wl.append (α := IV) 9 rfl T.sl40 T.el43 rfl rfl rfl (by first | assumption | exact OwnA.nil | exact OwnA.made (by simp)) (Src.row 12 rfl) (by first | omega | (simp only [List.length_append, List.length_cons, List.length_nil, maxLen]; omega)) (by first | omega | (simp only [List.length_append, List.length_cons, List.length_nil, maxLen]; omega)) (fun a1 c1 junk1 ho1 => ?_)
    refine Wl.q rfl (Qy.assign rfl) ?_
    refine Wl.done ?_
    refine Ar.outNormal ?_
    refine Ar.next ?_
    refine Wc.region rfl ?_
    refine Wl.q rfl (Qy.move rfl) ?_
    refine Wl.q rfl (Qy.add rfl rfl (by omega)) ?_
    refine Wl.q rfl (Qy.assign rfl) ?_
    refine Wl.done ?_
    rotate_left
    · refine Ar.out2 (.inr rfl) (Ho := []) rfl (.tmp rfl) (.tmp rfl) trivial ?_
      have hn : ¬ AllDiv zy xs := fun h => hc1 (h _ (by omega))
      exact ⟨_, by rw [decide_eq_false hn], fun h => absurd h hn, rfl⟩
    · have hc2 := Classical.not_not.1 hc1
      rw [if_pos hc2] at hqo1
      refine Ar.again ((i + 1, G1, r ++ [qo1], (a1, c1, junk1))) ?_ ?_ rfl ⟨rfl, rfl, rfl, rfl, trivial⟩ ⟨rfl, rfl, trivial⟩
      · refine ⟨by omega, Imm.le_trans hgx hle1, by rw [List.length_append]; show r.length + 1 = i + 1; omega, by rw [map_succ (by omega)]; exact hrs.snoc hqo1, ho1, fun q hq9 => ?_⟩
        by_cases hqi : q = i
        · subst hqi; rw [Int.toNat_natCast] at hc2; exact hc2
        · exact hq q (by omega)
      · show la.length - (i + 1) < la.length - i
        omega
    · refine Ar.out2 (.inr rfl) (Ho := []) rfl (.tmp rfl) (.tmp rfl) trivial ?_
      have hn : ¬ AllDiv zy xs := fun h => hc1 (h _ (by omega))
      exact ⟨_, by rw [decide_eq_false hn], fun h => absurd h hn, rfl⟩
    · have hc2 := Classical.not_not.1 hc1
      rw [if_pos hc2] at hqo1
      refine Ar.again ((i + 1, G1, r ++ [qo1], (a1, c1, junk1))) ?_ ?_ rfl ⟨rfl, rfl, rfl, rfl, trivial⟩ ⟨rfl, rfl, trivial⟩
      · refine ⟨by omega, Imm.le_trans hgx hle1, by rw [List.length_append]; show r.length + 1 = i + 1; omega, by rw [map_succ (by omega)]; exact hrs.snoc hqo1, ho1, fun q hq9 => ?_⟩
        by_cases hqi : q = i
        · subst hqi; rw [Int.toNat_natCast] at hc2; exact hc2
        · exact hq q (by omega)
      · show la.length - (i + 1) < la.length - i
        omega
  · refine Wc.seq ?_
    refine Wc.seq ?_
    refine Wc.region rfl ?_
    refine Wl.q rfl (Qy.move rfl) ?_
    refine Wl.q rfl (Qy.move rfl) ?_
    refine Wl.q rfl (Qy.len T.sl40 rfl) ?_
    refine Wl.q rfl (Qy.lss rfl rfl) ?_
    refine Wl.done ?_
    refine Ar.next ?_
    refine Wc.condN rfl (by first | assumption | omega) ?_
    refine Wc.exit ?_
    refine Ar.passExit ?_
    refine Ar.passExit ?_
    refine Ar.here ?_
    refine Ar.next ?_
    refine Wc.seq ?_
    refine Wc.region rfl ?_
    refine Wl.q rfl (Qy.move rfl) ?_
    refine Wl.q rfl (Qy.assign rfl) ?_
    refine Wl.q rfl (Qy.assign rfl) ?_
    refine Wl.done ?_
    refine Ar.next ?_
    refine Wc.ret ?_
    have hcap := hob.le
    have hall : AllDiv zy xs := fun q hq9 => hq q (by omega)
    rw [List.take_of_length_le (by rw [List.length_map]; omega)] at hrs
    refine Ar.freezeRow 9 rfl hob (fun G9 hle9 hA => ?_)
    refine Ar.out2 (.inr rfl) (Ho := []) rfl (.tmp rfl) (.tmp rfl) trivial ?_
    exact ⟨_, by rw [decide_eq_true hall], fun _ => ⟨o, d, r, rfl, hA, hrs.up hle9, hcap⟩, rfl⟩
end Go.Proofs.Ytfleehgbpgmcnaa
