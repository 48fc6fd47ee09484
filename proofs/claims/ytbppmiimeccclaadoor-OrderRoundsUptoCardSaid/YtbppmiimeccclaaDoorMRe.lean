/- Parts of the proof (part 5): what the rows' text needs of the texts that lead to it. -/
import Derived.Test.YtbppmiimeccclaaDoorMRd
set_option maxRecDepth 100000
set_option linter.unusedVariables false
namespace Go.Proofs.YtbppmiimeccclaaDoor
open Go Go.Sl
set_option maxHeartbeats 4000000
theorem mul_lt_pw {x y : Int} {k m : Nat} (hx : (x.natAbs : Int) < pw k) (hy : (y.natAbs : Int) < pw m) : ((x * y).natAbs : Int) < pw (k + m) := by
 rw [Int.natAbs_mul, pw_add, Int.natCast_mul]
 have h1 := Int.mul_le_mul_of_nonneg_left (Int.le_of_lt hy) (show (0 : Int) ≤ x.natAbs by omega)
 exact Int.lt_of_le_of_lt h1 (Int.mul_lt_mul_of_pos_right hx (pw_pos m))
def comb (x : Int) (xs : List Int) (y : Int) (ys : List Int) : List Int := List.zipWith (fun a b => x * a + y * b) xs ys
theorem comb_len {x y : Int} {xs ys : List Int} (h : xs.length = ys.length) : (comb x xs y ys).length = xs.length := by
 unfold comb; rw [List.length_zipWith, h, Nat.min_self]
theorem comb_succ {x y : Int} {xs ys : List Int} (h : xs.length = ys.length) {i : Nat} (hi : i < xs.length) :
 (comb x xs y ys).take (i + 1) = (comb x xs y ys).take i ++ [x * (xs[((i : Nat) : Int).toNat]?.getD 0) + y * (ys[((i : Nat) : Int).toNat]?.getD 0)] := by
 have h1 : i < (comb x xs y ys).length := by rw [comb_len h]; exact hi
 rw [List.take_succ_eq_append_getElem h1, Int.toNat_natCast, List.getElem?_eq_getElem hi, List.getElem?_eq_getElem (by omega : i < ys.length)]
 have h2 : (comb x xs y ys)[i] = x * xs[i] + y * ys[i] := List.getElem_zipWith
 rw [h2]; rfl
theorem same_end {xs ys : List Int} (h : xs.length = ys.length) (he : ∀ i : Nat, i < xs.length → xs[i]?.getD 0 = ys[i]?.getD 0) : xs = ys := by
 refine List.ext_getElem h fun i h1 h2 => ?_
 have := he i h1
 rw [List.getElem?_eq_getElem h1, List.getElem?_eq_getElem h2] at this
 exact this
theorem cmpZ_zeroN {x y : Int} : cmpZ x y = 0 ↔ x = y := by
 unfold cmpZ
 split
 · omega
 · split <;> omega
theorem one_ltN : (((1 : Int)).natAbs : Int) < pw 1 := by decide
theorem mone_lt : (((-1 : Int)).natAbs : Int) < pw 1 := by decide
theorem zero_lt (k : Nat) : (((0 : Int)).natAbs : Int) < pw k := pw_pos k
attribute [local irreducible] valL pw cmpZ p2
theorem c58 (G : Imm) (a b : Option Addr) (ca cb : Nat) (la lb : List IV) (xs ys : List Int) (ha : Arr G a la) (hb : Arr G b lb) (hx : Nums G la xs) (hy : Nums G lb ys) (m : Nat) (hm : m ≤ 1073741824) (bx : Below m xs) (by' : Below m ys) (h1 : la.length ≤ 1099511627776) (h2 : lb.length ≤ 1099511627776) :
 Does Tryd.prog 58 [.slice a la.length ca, .slice b lb.length cb] G [] (fun v G' Ho => v = .bool (decide (xs = ys)) ∧ G' = G ∧ Ho = []) := by
 have hxl := hx.1
 have hyl := hy.1
 refine Does.enter Tryd.func58 rfl Tryd.ntmps58 rfl (fun w => ?_)
 by_cases hl : la.length = lb.length
 · refine Wc.seq (Wc.region rfl (Wl.q rfl (Qy.assign rfl) (Wl.done (Ar.next (Wc.seq (Wc.seq (Wc.region rfl (Wl.q rfl (Qy.move rfl) (Wl.q rfl (Qy.len T.sl80 rfl) (Wl.q rfl (Qy.move rfl) (Wl.q rfl (Qy.len T.sl80 rfl) (Wl.q rfl (Qy.neq rfl rfl) (Wl.done (Ar.next (Wc.condN rfl (by first | assumption | omega) ?_)))))))))))))))
   refine Wc.skip (Ar.next (Wc.seq (Wc.seq (Wc.region rfl (Wl.q rfl (Qy.assign rfl) (Wl.done (Ar.next (Wc.block ?_))))))))
   refine Wc.loop (ι := Nat) (fun i => ([(5, .int .i64 (i : Int)), (0, Go.Value.slice a (List.length la) ca), (1, Go.Value.slice b (List.length lb) cb)], [])) (fun i => i ≤ la.length ∧ ∀ j : Nat, j < i → xs[j]?.getD 0 = ys[j]?.getD 0) (fun i => la.length - i) (0) (⟨Nat.zero_le _, fun j hj => by omega⟩) ⟨rfl, rfl, rfl, trivial⟩ trivial (fun i => fun (hk : i ≤ la.length ∧ ∀ j : Nat, j < i → xs[j]?.getD 0 = ys[j]?.getD 0) => ?_)
   obtain ⟨hi, he⟩ := hk
   rcases Nat.lt_or_ge i la.length with hia | hia
   · have hxi := hx.at (m := (i : Int)) (by omega)
     have hyi := hy.at (m := (i : Int)) (by omega)
     have hxn := Num.len hxi (bx.at _)
     have hyn := Num.len hyi (by'.at _)
     refine Wc.seq (Wc.seq (Wc.region rfl (Wl.q rfl (Qy.move rfl) (Wl.q rfl (Qy.move rfl) (Wl.q rfl (Qy.len T.sl80 rfl) (Wl.q rfl (Qy.lss rfl rfl) (Wl.done (Ar.next (Wc.condP rfl (by first | assumption | omega) ?_)))))))))
     refine Wc.skip (Ar.next (Wc.seq (Wc.block (Wc.seq (Wc.draw [] [] T.mixed rfl ?_)))))
     refine Gm.q 0 [] (by kernel_rfl) rfl rfl (Qy.move rfl) (Gm.q 1 [] (by kernel_rfl) rfl rfl (Qy.move rfl) (Gm.q 2 [] (by kernel_rfl) rfl rfl (Qy.at (α := IV) T.sl80 rfl rfl (by assumption) (by omega)) ?_))
     refine Gm.q 3 [] (by kernel_rfl) rfl rfl (Qy.loadsG T.agg82 rfl (Arr.elem (by assumption) (by omega)) rfl) ?_
     refine Gm.q 4 [] (by kernel_rfl) rfl rfl (Qy.move rfl) (Gm.q 5 [] (by kernel_rfl) rfl rfl (Qy.move rfl) (Gm.q 6 [] (by kernel_rfl) rfl rfl (Qy.at (α := IV) T.sl80 rfl rfl (by assumption) (by omega)) ?_))
     refine Gm.q 7 [] (by kernel_rfl) rfl rfl (Qy.loadsG T.agg82 rfl (Arr.elem (by assumption) (by omega)) rfl) ?_
     refine Gm.one 8 trivial (by first | exact Imm.le_refl _ | assumption) (by kernel_rfl) rfl ?_
     refine Wl.call0 rfl T.fn85 rfl (num_cmp _ _ _ _ _ (by assumption) (by assumption) (by omega) (by omega)) ?_
     refine Wl.on0 ?_
     refine Gm.q 9 [] (by kernel_rfl) rfl rfl (Qy.neq rfl rfl) ?_
     refine Gm.doneA (by kernel_rfl) trivial (by first | exact Imm.le_refl _ | assumption) ?_
     refine Ar.next ?_
     refine Wc.cond rfl (fun hc1 => ?_) (fun hc1 => ?_)
     refine Wc.seq (Wc.region rfl (Wl.q rfl (Qy.assign rfl) (Wl.done (Ar.next (Wc.ret ?_)))))
     refine Ar.outRet ?_
     refine Ar.passRet ?_
     refine Ar.passRet ?_
     refine Ar.outRet ?_
     refine Ar.passRet ?_
     rotate_left
     refine Wc.skip ?_
     refine Ar.outNormal ?_
     refine Ar.next (Wc.region rfl (Wl.q rfl (Qy.move rfl) (Wl.q rfl (Qy.add rfl rfl (by omega)) ?_)))
     refine Wl.q rfl (Qy.assign rfl) (Wl.done ?_)
     rotate_left
     · refine Ar.out1 (.inr rfl) (Ho := []) rfl (.tmp rfl) trivial ?_
       have hne : ¬ xs = ys := fun e => by subst e; exact hc1 (cmpZ_zeroN.2 rfl)
       exact ⟨by rw [decide_eq_false hne], rfl, rfl⟩
     · have hc2 := cmpZ_zeroN.1 (Classical.not_not.1 hc1)
       rw [Int.toNat_natCast] at hc2
       refine Ar.again (i + 1) ?_ ?_ rfl ⟨rfl, rfl, rfl, trivial⟩ trivial
       · refine ⟨by omega, fun j hj => ?_⟩
         by_cases hji : j = i
         · subst hji; exact hc2
         · exact he j (by omega)
       · show la.length - (i + 1) < la.length - i
         omega
   · refine Wc.seq (Wc.seq (Wc.region rfl (Wl.q rfl (Qy.move rfl) (Wl.q rfl (Qy.move rfl) (Wl.q rfl (Qy.len T.sl80 rfl) (Wl.q rfl (Qy.lss rfl rfl) (Wl.done (Ar.next (Wc.condN rfl (by first | assumption | omega) ?_)))))))))
     refine Wc.exit (Ar.passExit ?_)
     refine Ar.passExit ?_
     refine Ar.here ?_
     refine Ar.next (Wc.seq (Wc.region rfl (Wl.q rfl (Qy.assign rfl) (Wl.done (Ar.next (Wc.ret ?_))))))
     refine Ar.out1 (.inr rfl) (Ho := []) rfl (.tmp rfl) trivial ?_
     have hee : xs = ys := same_end (by omega) (fun j hj => he j (by omega))
     exact ⟨by rw [decide_eq_true hee], rfl, rfl⟩
 · refine Wc.seq (Wc.region rfl (Wl.q rfl (Qy.assign rfl) (Wl.done (Ar.next (Wc.seq (Wc.seq (Wc.region rfl (Wl.q rfl (Qy.move rfl) (Wl.q rfl (Qy.len T.sl80 rfl) (Wl.q rfl (Qy.move rfl) (Wl.q rfl (Qy.len T.sl80 rfl) (Wl.q rfl (Qy.neq rfl rfl) (Wl.done (Ar.next (Wc.condP rfl (by first | assumption | omega) ?_)))))))))))))))
   refine Wc.seq (Wc.region rfl (Wl.q rfl (Qy.assign rfl) (Wl.done (Ar.next (Wc.ret (Ar.passRet ?_))))))
   refine Ar.out1 (.inr rfl) (Ho := []) rfl (.tmp rfl) trivial ?_
   have hne : ¬ xs = ys := fun e => by subst e; omega
   exact ⟨by rw [decide_eq_false hne], rfl, rfl⟩
def RowOf (G : Imm) (v : Value) (zs : List Int) : Prop := ∃ (o : Option Addr) (c : Nat) (l : List IV), v = .slice o l.length c ∧ Arr G o l ∧ Nums G l zs ∧ l.length ≤ c
theorem c116 (G : Imm) (x y : IV) (zx zy : Int) (a b : Option Addr) (ca cb : Nat) (la lb : List IV) (xs ys : List Int) (hx : Num G x zx) (hy : Num G y zy) (ha : Arr G a la) (hb : Arr G b lb) (hxs : Nums G la xs) (hys : Nums G lb ys) (hl : la.length = lb.length) (k m : Nat) (hk : k + m ≤ 134217728)
 (bx : (zx.natAbs : Int) < pw k) (by' : (zy.natAbs : Int) < pw k) (bxs : Below m xs) (bys : Below m ys) (h1 : la.length ≤ 1048576) :
 Does Tryd.prog 116 [.agg (Cells.enc x).toArray, .slice a la.length ca, .agg (Cells.enc y).toArray, .slice b lb.length cb] G [] (fun v G' Ho => RowOf G' v (comb zx xs zy ys) ∧ Ho = []) := by
 have hxl := hxs.1
 have hyl := hys.1
 obtain ⟨K, hK⟩ : ∃ K, K = k + m := ⟨_, rfl⟩
 have hK9 : K ≤ 1073741824 := by omega
 refine Does.enter Tryd.func116 rfl Tryd.ntmps116 rfl (fun w => ?_)
 refine Wc.nilRow 9 (Row 82 ([] : List IV) []) ?_
 refine Wc.seq (Wc.region rfl ?_)
 refine Wl.box 10 rfl rfl rfl (fun b1 => ?_)
 refine Wl.box 11 rfl rfl rfl (fun b2 => ?_)
 refine Wl.q rfl (Qy.assign rfl) (Wl.done (Ar.next (Wc.seq (Wc.region rfl (Wl.q rfl (Qy.assign rfl) (Wl.done (Ar.next (Wc.seq (Wc.seq (Wc.region rfl (Wl.q rfl (Qy.assign rfl) (Wl.done (Ar.next (Wc.block ?_))))))))))))))
 refine Wc.loopG (ι := Nat × Imm × List IV × (Option Addr × Nat × List Value)) (fun (i, Gx, r, (o, d, j)) => ([(10, .int .i64 (i : Int)), (9, .slice o r.length d), (8, Go.Value.slice Option.none 0 0), (6, Go.Value.pointer (Option.some (Go.Addr.mk b2 0 Option.none))), (4, Go.Value.pointer (Option.some (Go.Addr.mk b1 0 Option.none))), (1, Go.Value.slice a (List.length la) ca), (3, Go.Value.slice b (List.length lb) cb)], [(9, o.map (·.block), Row 82 r j), (11, Option.some b2, Go.Obj.cells (List.toArray (Go.Sl.Cells.enc y)) 82), (10, Option.some b1, Go.Obj.cells (List.toArray (Go.Sl.Cells.enc x)) 82)])) (fun (i, Gx, r, (o, d, j)) => Gx) (fun (i, Gx, r, (o, d, j)) => i ≤ la.length ∧ G.le Gx ∧ r.length = i ∧ Nums Gx r ((comb zx xs zy ys).take i) ∧ OwnA o d r j) (fun (i, Gx, r, (o, d, j)) => la.length - i) ((0, G, [], (none, 0, []))) (⟨Nat.zero_le _, Imm.le_refl _, rfl, by rw [List.take_zero]; exact Nums.nil _, OwnA.nil⟩) rfl ⟨rfl, rfl, rfl, rfl, rfl, rfl, rfl, trivial⟩ ⟨rfl, rfl, rfl, trivial⟩ (fun ⟨i, Gx, r, (o, d, j)⟩ => fun (hk : i ≤ la.length ∧ G.le Gx ∧ r.length = i ∧ Nums Gx r ((comb zx xs zy ys).take i) ∧ OwnA o d r j) => ?_)
 obtain ⟨hi, hgx, hri, hrs, hob⟩ := hk
 replace hx := hx.up hgx
 replace hy := hy.up hgx
 replace ha := ha.up hgx
 replace hb := hb.up hgx
 replace hxs := hxs.up hgx
 replace hys := hys.up hgx
 rcases Nat.lt_or_ge i la.length with hia | hia
 · have hxi := hxs.at (m := (i : Int)) (by omega)
   have hyi := hys.at (m := (i : Int)) (by omega)
   have hxn := Num.len hxi (bxs.at _)
   have hyn := Num.len hyi (bys.at _)
   have hxn0 := Num.len hx bx
   have hyn0 := Num.len hy by'
   have hp1 := mul_lt_pw bx (bxs.at (m := m) ((i : Int).toNat))
   have hp2 := mul_lt_pw by' (bys.at (m := m) ((i : Int).toNat))
   rw [← hK] at hp1 hp2
   refine Wc.seq (Wc.seq (Wc.region rfl (Wl.q rfl (Qy.move rfl) (Wl.q rfl (Qy.move rfl) (Wl.q rfl (Qy.len T.sl80 rfl) (Wl.q rfl (Qy.lss rfl rfl) (Wl.done (Ar.next (Wc.condP rfl (by first | assumption | omega) ?_)))))))))
   refine Wc.skip (Ar.next (Wc.seq (Wc.block (Wc.draw [10, 11, 9] [(9, 15)] T.mixed rfl ?_))))
   refine Gm.q 0 [] (by kernel_rfl) rfl rfl (Qy.move rfl) (Gm.q 1 [10] (by kernel_rfl) rfl rfl (Qy.loadAll 10 T.agg82 rfl rfl rfl) (Gm.q 2 [] (by kernel_rfl) rfl rfl (Qy.move rfl) (Gm.q 3 [] (by kernel_rfl) rfl rfl (Qy.move rfl) (Gm.q 4 [] (by kernel_rfl) rfl rfl (Qy.at (α := IV) T.sl80 rfl rfl (by assumption) (by omega)) ?_))))
   refine Gm.q 5 [] (by kernel_rfl) rfl rfl (Qy.loadsG T.agg82 rfl (Arr.elem (by assumption) (by omega)) rfl) ?_
   refine Gm.q 7 [11] (by kernel_rfl) rfl rfl (Qy.loadAll 11 T.agg82 rfl rfl rfl) (Gm.q 8 [] (by kernel_rfl) rfl rfl (Qy.move rfl) (Gm.q 9 [] (by kernel_rfl) rfl rfl (Qy.move rfl) (Gm.q 10 [] (by kernel_rfl) rfl rfl (Qy.at (α := IV) T.sl80 rfl rfl (by assumption) (by omega)) ?_)))
   refine Gm.q 11 [] (by kernel_rfl) rfl rfl (Qy.loadsG T.agg82 rfl (Arr.elem (by assumption) (by omega)) rfl) ?_
   refine Gm.one 6 ⟨rfl, rfl, rfl, trivial⟩ (by first | exact Imm.le_refl _ | assumption) (by kernel_rfl) rfl ?_
   refine Wl.call 12 rfl T.fn122 rfl (num_mul _ _ _ _ _ (by assumption) (by assumption) (by omega) (by omega)) (tags_of trivial) (fun v1 G1 Ho1 hle1 hp => ?_)
   obtain ⟨pm1, rfl, hpm1, rfl⟩ := hp
   replace hrs := hrs.up hle1
   replace hx := hx.up hle1
   replace hy := hy.up hle1
   replace ha := ha.up hle1
   replace hb := hb.up hle1
   replace hxs := hxs.up hle1
   replace hys := hys.up hle1
   replace hxi := hxi.up hle1
   replace hyi := hyi.up hle1
   refine Wl.on0 ?_
   refine Gm.one 12 ⟨rfl, rfl, rfl, trivial⟩ (by first | exact Imm.le_refl _ | assumption) (by kernel_rfl) rfl ?_
   refine Wl.call 12 rfl T.fn122 rfl (num_mul _ _ _ _ _ (by assumption) (by assumption) (by omega) (by omega)) (tags_of trivial) (fun v2 G2 Ho2 hle2 hp => ?_)
   obtain ⟨pm2, rfl, hpm2, rfl⟩ := hp
   replace hpm1 := hpm1.up hle2
   replace hrs := hrs.up hle2
   replace hx := hx.up hle2
   replace hy := hy.up hle2
   replace ha := ha.up hle2
   replace hb := hb.up hle2
   replace hxs := hxs.up hle2
   replace hys := hys.up hle2
   replace hxi := hxi.up hle2
   replace hyi := hyi.up hle2
   refine Wl.on0 ?_
   refine Gm.one 13 ⟨rfl, rfl, rfl, trivial⟩ (by first | exact Imm.le_refl _ | assumption | (refine Imm.le_trans ?_ (by assumption); first | assumption | (refine Imm.le_trans ?_ (by assumption); assumption))) (by kernel_rfl) rfl ?_
   refine Wl.call 12 rfl T.fn121 rfl (num_add _ _ _ _ _ (by assumption) (by assumption) (Nat.le_trans (Num.len (m := K) (by assumption) (by assumption)) hK9) (Nat.le_trans (Num.len (m := K) (by assumption) (by assumption)) hK9)) (tags_of trivial) (fun v3 G3 Ho3 hle3 hp => ?_)
   obtain ⟨ps3, rfl, hps3, rfl⟩ := hp
   replace hpm2 := hpm2.up hle3
   replace hpm1 := hpm1.up hle3
   replace hrs := hrs.up hle3
   replace hx := hx.up hle3
   replace hy := hy.up hle3
   replace ha := ha.up hle3
   replace hb := hb.up hle3
   replace hxs := hxs.up hle3
   replace hys := hys.up hle3
   replace hxi := hxi.up hle3
   replace hyi := hyi.up hle3
   refine Wl.on0 ?_
   refine Gm.one 14 ⟨rfl, rfl, rfl, trivial⟩ (by first | exact Imm.le_refl _ | assumption | (refine Imm.le_trans ?_ (by assumption); first | assumption | (refine Imm.le_trans ?_ (by assumption); assumption))) (by kernel_rfl) rfl ?_
   refine Wl.lit (α := IV) 12 [(ps3)] rfl T.sl80 T.el82 rfl rfl rfl rfl rfl (fun b3 => ?_)
   refine Wl.on0 ?_
   refine Gm.one 15 ⟨rfl, rfl, rfl, trivial⟩ (by first | exact Imm.le_refl _ | assumption | (refine Imm.le_trans ?_ (by assumption); first | assumption | (refine Imm.le_trans ?_ (by assumption); assumption))) (by kernel_rfl) rfl ?_
   refine Wl.append (α := IV) 9 rfl T.sl80 T.el82 rfl rfl rfl (by first | assumption | exact OwnA.nil | exact OwnA.made (by simp)) (Src.row 12 rfl) (by first | omega | (simp only [List.length_append, List.length_cons, List.length_nil, maxLen]; omega)) (by first | omega | (simp only [List.length_append, List.length_cons, List.length_nil, maxLen]; omega)) (fun a1 c1 junk1 ho1 => ?_)
   refine Wl.on0 ?_
   refine Gm.q 16 [] (by kernel_rfl) rfl rfl (Qy.assign rfl) (Gm.doneA (by kernel_rfl) ⟨rfl, rfl, trivial⟩ (by first | exact Imm.le_refl _ | assumption | (refine Imm.le_trans ?_ (by assumption); first | assumption | (refine Imm.le_trans ?_ (by assumption); assumption))) ?_)
   refine Ar.outNormal ?_
   refine Ar.next (Wc.region rfl (Wl.q rfl (Qy.move rfl) (Wl.q rfl (Qy.add rfl rfl (by omega)) ?_)))
   refine Wl.q rfl (Qy.assign rfl) (Wl.done ?_)
   refine Ar.again ((i + 1, G3, r ++ [ps3], (a1, c1, junk1))) ?_ ?_ rfl ⟨rfl, rfl, rfl, rfl, rfl, rfl, rfl, trivial⟩ ⟨rfl, rfl, rfl, trivial⟩
   · exact ⟨by omega, Imm.le_trans hgx (Imm.le_trans hle1 (Imm.le_trans hle2 hle3)), by rw [List.length_append]; show r.length + 1 = i + 1; omega, by rw [comb_succ (by omega) (by omega)]; exact hrs.snoc hps3, ho1⟩
   · show la.length - (i + 1) < la.length - i
     omega
 · refine Wc.seq (Wc.seq (Wc.region rfl (Wl.q rfl (Qy.move rfl) (Wl.q rfl (Qy.move rfl) (Wl.q rfl (Qy.len T.sl80 rfl) (Wl.q rfl (Qy.lss rfl rfl) (Wl.done (Ar.next (Wc.condN rfl (by first | assumption | omega) ?_)))))))))
   refine Wc.exit (Ar.passExit ?_)
   refine Ar.passExit ?_
   refine Ar.here ?_
   refine Ar.next (Wc.seq (Wc.region rfl (Wl.q rfl (Qy.move rfl) (Wl.q rfl (Qy.assign rfl) (Wl.done (Ar.next (Wc.ret ?_)))))))
   have hcap := hob.le
   rw [List.take_of_length_le (by rw [comb_len (by omega)]; omega)] at hrs
   refine Ar.freezeRow 9 rfl hob (fun G9 hle9 hA => ?_)
   refine Ar.out1 (.inr rfl) (Ho := []) rfl (.tmp rfl) trivial ?_
   exact ⟨⟨o, d, r, rfl, hA, hrs.up hle9, hcap⟩, rfl⟩
theorem nums_zeros (G : Imm) (n : Nat) : Nums G (List.replicate n (default : IV)) (List.replicate n 0) := by
 refine ⟨by rw [List.length_replicate, List.length_replicate], fun i hi => ?_⟩
 rw [List.length_replicate] at hi
 rw [List.getElem?_replicate, List.getElem?_replicate, if_pos hi, if_pos hi]
 exact Num.zero G
theorem c83 (G : Imm) (n : Nat) (hn : n ≤ 1048576) :
 Does Tryd.prog 83 [.int .i64 (n : Int)] G [] (fun v G' Ho => RowOf G' v (List.replicate n 0) ∧ Ho = []) := by
 refine Does.enter Tryd.func83 rfl Tryd.ntmps83 rfl (fun w => ?_)
 refine Wc.seq (Wc.region rfl (Wl.q rfl (Qy.assign rfl) (Wl.done (Ar.next (Wc.seq (Wc.region rfl (Wl.q rfl (Qy.move rfl) ?_)))))))
 refine Wl.make (α := IV) 0 rfl T.sl80 T.el82 rfl rfl (by omega) (by omega) (fun b1 => ?_)
 refine Wl.q rfl (Qy.assign rfl) (Wl.done (Ar.next (Wc.ret ?_)))
 have hr : ∀ N : Nat, (N : Int).toNat = N := fun N => Int.toNat_natCast N
 rw [hr n]
 have hl : (List.replicate n (default : IV)).length = n := List.length_replicate
 have hob : OwnA (some ⟨b1, 0, none⟩) n (List.replicate n (default : IV)) [] := .inr ⟨b1, rfl, by rw [hl]; rfl, by omega, by simp only [maxLen]; omega⟩
 refine Ar.freezeRow 0 rfl hob (fun G9 hle9 hA => ?_)
 refine Ar.out1 (.inr rfl) (Ho := []) rfl (.tmp rfl) trivial ?_
 exact ⟨⟨_, n, _, by rw [hl], hA, nums_zeros _ n, by rw [hl]; exact Nat.le_refl _⟩, rfl⟩
theorem comb_scale (z : Int) (xs : List Int) : comb z xs 0 xs = xs.map (fun a => z * a) := by
 unfold comb
 induction xs with
 | nil => rfl
 | cons a l ih => rw [List.zipWith_cons_cons, ih, List.map_cons, Int.zero_mul, Int.add_zero]
theorem comb_one (c : Int) (xs ys : List Int) : comb 1 xs c ys = List.zipWith (fun a b => a + c * b) xs ys := by
 unfold comb
 congr 1
 funext a b
 rw [Int.one_mul]
theorem c100 (G : Imm) (x : IV) (z : Int) (a : Option Addr) (ca : Nat) (la : List IV) (xs : List Int) (hx : Num G x z) (ha : Arr G a la) (hxs : Nums G la xs) (k m : Nat) (hk : k + m ≤ 134217728)
 (bx : (z.natAbs : Int) < pw k) (bxs : Below m xs) (h1 : la.length ≤ 1048576) :
 Does Tryd.prog 100 [.slice a la.length ca, .agg (Cells.enc x).toArray] G [] (fun v G' Ho => RowOf G' v (xs.map (fun a => z * a)) ∧ Ho = []) := by
 refine Does.enter Tryd.func100 rfl Tryd.ntmps100 rfl (fun w => ?_)
 refine Wc.seq (Wc.region rfl ?_)
 refine Wl.box 0 rfl rfl rfl (fun b1 => ?_)
 refine Wl.q rfl (Qy.assign rfl) (Wl.done (Ar.next (Wc.seq (Wc.region rfl (Wl.q rfl (Qy.loadAll 0 T.agg82 rfl rfl rfl) (Wl.q rfl (Qy.move rfl) (Wl.q rfl (Qy.build (cs := [_, _]) T.st82 rfl rfl rfl) ?_)))))))
 refine Wl.q rfl (Qy.move rfl) ?_
 refine Wl.call 1 rfl T.fn116 rfl (c116 _ x ⟨false, none, 0, 0⟩ z 0 _ _ _ _ _ _ xs xs hx (Num.zero _) ha ha hxs hxs rfl k m hk bx (zero_lt k) bxs bxs h1) (tags_of trivial) (fun v1 G1 Ho1 hle1 hp => ?_)
 obtain ⟨⟨ro1, rc1, rl1, rfl, hrA1, hrs1, hrl1⟩, rfl⟩ := hp
 replace hx := hx.up hle1
 replace ha := ha.up hle1
 replace hxs := hxs.up hle1
 refine Wl.q rfl (Qy.assign rfl) (Wl.done (Ar.next (Wc.ret ?_)))
 refine Ar.out1 (.inr rfl) (Ho := []) rfl (.tmp rfl) trivial ?_
 exact ⟨⟨ro1, rc1, rl1, rfl, hrA1, by rw [← comb_scale]; exact hrs1, hrl1⟩, rfl⟩
theorem c101 (G : Imm) (a b : Option Addr) (ca cb : Nat) (la lb : List IV) (xs ys : List Int) (ha : Arr G a la) (hb : Arr G b lb) (hxs : Nums G la xs) (hys : Nums G lb ys) (hl : la.length = lb.length) (m : Nat) (hm : 1 + m ≤ 134217728)
 (bxs : Below m xs) (bys : Below m ys) (h1 : la.length ≤ 1048576) :
 Does Tryd.prog 101 [.slice a la.length ca, .slice b lb.length cb] G [] (fun v G' Ho => RowOf G' v (List.zipWith (fun a b => a + 1 * b) xs ys) ∧ Ho = []) := by
 refine Does.enter Tryd.func101 rfl Tryd.ntmps101 rfl (fun w => ?_)
 refine Wc.seq (Wc.region rfl (Wl.q rfl (Qy.assign rfl) (Wl.done (Ar.next (Wc.seq (Wc.region rfl ?_))))))
 refine Wl.call 0 rfl T.fn42 rfl (num_of _ _ ⟨by decide, by decide⟩) (tags_of trivial) (fun v1 G1 Ho1 hle1 hp => ?_)
 obtain ⟨ri1, rfl, hri1, rfl⟩ := hp
 replace ha := ha.up hle1
 replace hb := hb.up hle1
 replace hxs := hxs.up hle1
 replace hys := hys.up hle1
 refine Wl.q rfl (Qy.move rfl) ?_
 refine Wl.call 0 rfl T.fn42 rfl (num_of _ _ ⟨by decide, by decide⟩) (tags_of trivial) (fun v2 G2 Ho2 hle2 hp => ?_)
 obtain ⟨ri2, rfl, hri2, rfl⟩ := hp
 replace hri1 := hri1.up hle2
 replace ha := ha.up hle2
 replace hb := hb.up hle2
 replace hxs := hxs.up hle2
 replace hys := hys.up hle2
 refine Wl.q rfl (Qy.move rfl) ?_
 refine Wl.call 0 rfl T.fn116 rfl (c116 _ _ _ 1 1 _ _ _ _ la lb xs ys hri1 hri2 ha hb hxs hys hl 1 m hm one_ltN one_ltN bxs bys h1) (tags_of trivial) (fun v3 G3 Ho3 hle3 hp => ?_)
 obtain ⟨⟨ro3, rc3, rl3, rfl, hrA3, hrs3, hrl3⟩, rfl⟩ := hp
 replace hri2 := hri2.up hle3
 replace hri1 := hri1.up hle3
 replace ha := ha.up hle3
 replace hb := hb.up hle3
 replace hxs := hxs.up hle3
 replace hys := hys.up hle3
 refine Wl.q rfl (Qy.assign rfl) (Wl.done (Ar.next (Wc.ret ?_)))
 refine Ar.out1 (.inr rfl) (Ho := []) rfl (.tmp rfl) trivial ?_
 exact ⟨⟨ro3, rc3, rl3, rfl, hrA3, by rw [← comb_one]; exact hrs3, hrl3⟩, rfl⟩
theorem c102 (G : Imm) (a b : Option Addr) (ca cb : Nat) (la lb : List IV) (xs ys : List Int) (ha : Arr G a la) (hb : Arr G b lb) (hxs : Nums G la xs) (hys : Nums G lb ys) (hl : la.length = lb.length) (m : Nat) (hm : 1 + m ≤ 134217728)
 (bxs : Below m xs) (bys : Below m ys) (h1 : la.length ≤ 1048576) :
 Does Tryd.prog 102 [.slice a la.length ca, .slice b lb.length cb] G [] (fun v G' Ho => RowOf G' v (List.zipWith (fun a b => a + (-1) * b) xs ys) ∧ Ho = []) := by
 refine Does.enter Tryd.func102 rfl Tryd.ntmps102 rfl (fun w => ?_)
 refine Wc.seq (Wc.region rfl (Wl.q rfl (Qy.assign rfl) (Wl.done (Ar.next (Wc.seq (Wc.region rfl ?_))))))
 refine Wl.call 0 rfl T.fn42 rfl (num_of _ _ ⟨by decide, by decide⟩) (tags_of trivial) (fun v1 G1 Ho1 hle1 hp => ?_)
 obtain ⟨ri1, rfl, hri1, rfl⟩ := hp
 replace ha := ha.up hle1
 replace hb := hb.up hle1
 replace hxs := hxs.up hle1
 replace hys := hys.up hle1
 refine Wl.q rfl (Qy.move rfl) ?_
 refine Wl.call 0 rfl T.fn42 rfl (num_of _ _ ⟨by decide, by decide⟩) (tags_of trivial) (fun v2 G2 Ho2 hle2 hp => ?_)
 obtain ⟨ri2, rfl, hri2, rfl⟩ := hp
 replace hri1 := hri1.up hle2
 replace ha := ha.up hle2
 replace hb := hb.up hle2
 replace hxs := hxs.up hle2
 replace hys := hys.up hle2
 refine Wl.q rfl (Qy.move rfl) ?_
 refine Wl.call 0 rfl T.fn116 rfl (c116 _ _ _ 1 (-1) _ _ _ _ la lb xs ys hri1 hri2 ha hb hxs hys hl 1 m hm one_ltN mone_lt bxs bys h1) (tags_of trivial) (fun v3 G3 Ho3 hle3 hp => ?_)
 obtain ⟨⟨ro3, rc3, rl3, rfl, hrA3, hrs3, hrl3⟩, rfl⟩ := hp
 replace hri2 := hri2.up hle3
 replace hri1 := hri1.up hle3
 replace ha := ha.up hle3
 replace hb := hb.up hle3
 replace hxs := hxs.up hle3
 replace hys := hys.up hle3
 refine Wl.q rfl (Qy.assign rfl) (Wl.done (Ar.next (Wc.ret ?_)))
 refine Ar.out1 (.inr rfl) (Ho := []) rfl (.tmp rfl) trivial ?_
 exact ⟨⟨ro3, rc3, rl3, rfl, hrA3, by rw [← comb_one]; exact hrs3, hrl3⟩, rfl⟩
theorem map_succ {y : Int} {xs : List Int} {i : Nat} (hi : i < xs.length) :
 (xs.map (· / y)).take (i + 1) = (xs.map (· / y)).take i ++ [xs[((i : Nat) : Int).toNat]?.getD 0 / y] := by
 have h1 : i < (xs.map (· / y)).length := by rw [List.length_map]; exact hi
 rw [List.take_succ_eq_append_getElem h1, Int.toNat_natCast, List.getElem?_eq_getElem hi, List.getElem_map]; rfl
theorem c104 (G : Imm) (y : IV) (zy : Int) (a : Option Addr) (ca : Nat) (la : List IV) (xs : List Int) (hy : Num G y zy) (ha : Arr G a la) (hxs : Nums G la xs) (m : Nat) (hm : m ≤ 134217728) (hyn0 : y.n ≤ 134217728)
 (bxs : Below m xs) (hy0 : zy ≠ 0) (h1 : la.length ≤ 1048576) :
 Does Tryd.prog 104 [.slice a la.length ca, .agg (Cells.enc y).toArray] G [] (fun v G' Ho => ∃ rv, v = .tuple #[rv, .bool (decide (AllDiv zy xs))] ∧ (AllDiv zy xs → RowOf G' rv (xs.map (· / zy))) ∧ Ho = []) := by
 have hxl := hxs.1
 refine Does.enter Tryd.func104 rfl Tryd.ntmps104 rfl (fun w => ?_)
 refine Wc.nilRow 9 (Row 82 ([] : List IV) []) ?_
 refine Wc.seq (Wc.region rfl ?_)
 refine Wl.box 10 rfl rfl rfl (fun b1 => ?_)
 refine Wl.q rfl (Qy.assign rfl) (Wl.q rfl (Qy.assign rfl) (Wl.done (Ar.next (Wc.seq (Wc.region rfl (Wl.q rfl (Qy.assign rfl) (Wl.done (Ar.next (Wc.seq (Wc.seq (Wc.region rfl (Wl.q rfl (Qy.assign rfl) (Wl.done (Ar.next (Wc.block ?_)))))))))))))))
 refine Wc.loopG (ι := Nat × Imm × List IV × (Option Addr × Nat × List Value)) (fun (i, Gx, r, (o, d, j)) => ([(7, .int .i64 (i : Int)), (6, .slice o r.length d), (3, Go.Value.pointer (Option.some (Go.Addr.mk b1 0 Option.none))), (0, Go.Value.slice a (List.length la) ca)], [(9, o.map (·.block), Row 82 r j), (10, Option.some b1, Go.Obj.cells (List.toArray (Go.Sl.Cells.enc y)) 82)])) (fun (i, Gx, r, (o, d, j)) => Gx) (fun (i, Gx, r, (o, d, j)) => i ≤ la.length ∧ G.le Gx ∧ r.length = i ∧ Nums Gx r ((xs.map (· / zy)).take i) ∧ OwnA o d r j ∧ ∀ q : Nat, q < i → xs[q]?.getD 0 % zy = 0) (fun (i, Gx, r, (o, d, j)) => la.length - i) ((0, G, [], (none, 0, []))) (⟨Nat.zero_le _, Imm.le_refl _, rfl, by rw [List.take_zero]; exact Nums.nil _, OwnA.nil, fun q hq => by omega⟩) rfl ⟨rfl, rfl, rfl, rfl, trivial⟩ ⟨rfl, rfl, trivial⟩ (fun ⟨i, Gx, r, (o, d, j)⟩ => fun (hk : i ≤ la.length ∧ G.le Gx ∧ r.length = i ∧ Nums Gx r ((xs.map (· / zy)).take i) ∧ OwnA o d r j ∧ ∀ q : Nat, q < i → xs[q]?.getD 0 % zy = 0) => ?_)
 obtain ⟨hi, hgx, hri, hrs, hob, hq⟩ := hk
 replace hy := hy.up hgx
 replace ha := ha.up hgx
 replace hxs := hxs.up hgx
 rcases Nat.lt_or_ge i la.length with hia | hia
 · have hxi := hxs.at (m := (i : Int)) (by omega)
   have hxn := Num.len hxi (bxs.at _)
   refine Wc.seq (Wc.seq (Wc.region rfl (Wl.q rfl (Qy.move rfl) (Wl.q rfl (Qy.move rfl) (Wl.q rfl (Qy.len T.sl80 rfl) (Wl.q rfl (Qy.lss rfl rfl) (Wl.done (Ar.next (Wc.condP rfl (by first | assumption | omega) ?_)))))))))
   refine Wc.skip (Ar.next (Wc.seq (Wc.block (Wc.seq (Wc.draw [10, 9] [] T.mixed rfl ?_)))))
   refine Gm.q 0 [] (by kernel_rfl) rfl rfl (Qy.move rfl) (Gm.q 1 [] (by kernel_rfl) rfl rfl (Qy.move rfl) (Gm.q 2 [] (by kernel_rfl) rfl rfl (Qy.at (α := IV) T.sl80 rfl rfl (by assumption) (by omega)) ?_))
   refine Gm.q 3 [] (by kernel_rfl) rfl rfl (Qy.loadsG T.agg82 rfl (Arr.elem (by assumption) (by omega)) rfl) ?_
   refine Gm.q 4 [10] (by kernel_rfl) rfl rfl (Qy.loadAll 10 T.agg82 rfl rfl rfl) ?_
   refine Gm.two 5 9 ⟨rfl, rfl, trivial⟩ (by first | exact Imm.le_refl _ | assumption) (by kernel_rfl) rfl rfl ?_ ?_
   refine Wl.call 11 rfl T.fn118 rfl (num_over _ _ _ _ zy (by assumption) (by assumption) (by omega) (by omega) hy0) (tags_of trivial) (fun v1 G1 Ho1 hle1 hp => ?_)
   obtain ⟨qo1, rfl, hqo1, rfl⟩ := hp
   replace hrs := hrs.up hle1
   replace hy := hy.up hle1
   replace ha := ha.up hle1
   replace hxs := hxs.up hle1
   replace hxi := hxi.up hle1
   refine Wl.on0 ?_
   refine Gm.q 6 [] (by kernel_rfl) rfl rfl (Qy.move rfl) (Gm.q 7 [] (by kernel_rfl) rfl rfl (Qy.extract rfl rfl) (Gm.q 8 [] (by kernel_rfl) rfl rfl (Qy.extract rfl rfl) (Gm.one 9 ⟨rfl, rfl, trivial⟩ (by first | exact Imm.le_refl _ | assumption) (by kernel_rfl) rfl ?_)))
   refine Wl.alloc 11 rfl T.zero82 (fun b2 => ?_)
   refine Wl.on0 ?_
   refine Gm.one 10 ⟨rfl, rfl, trivial⟩ (by first | exact Imm.le_refl _ | assumption) (by kernel_rfl) rfl ?_
   refine Wl.storeAll 11 T.size82 rfl rfl rfl rfl rfl rfl ?_
   refine Wl.on0 ?_
   refine Gm.q 11 [] (by kernel_rfl) rfl rfl (Qy.assign rfl) (Gm.doneA (by kernel_rfl) ⟨rfl, rfl, trivial⟩ (by first | exact Imm.le_refl _ | assumption) ?_)
   refine Ar.next (Wc.seq (Wc.seq (Wc.region rfl (Wl.q rfl (Qy.move rfl) (Wl.q rfl (Qy.notD rfl) (Wl.done (Ar.next ?_)))))))
   refine Wc.cond rfl (fun hc1 => ?_) (fun hc1 => ?_)
   refine Wc.seq (Wc.region rfl (Wl.q rfl (Qy.assign rfl) (Wl.q rfl (Qy.assign rfl) (Wl.done (Ar.next (Wc.ret (Ar.passRet ?_)))))))
   refine Ar.outRet ?_
   refine Ar.passRet ?_
   refine Ar.passRet ?_
   refine Ar.outRet ?_
   refine Ar.passRet ?_
   rotate_left
   refine Wc.skip (Ar.next (Wc.region rfl (Wl.q rfl (Qy.move rfl) (Wl.q rfl (Qy.loadAll 11 T.agg82 rfl rfl rfl) ?_))))
   refine Wl.lit (α := IV) 12 [(qo1)] rfl T.sl80 T.el82 rfl rfl rfl rfl rfl (fun b3 => ?_)
   refine Wl.append (α := IV) 9 rfl T.sl80 T.el82 rfl rfl rfl (by first | assumption | exact OwnA.nil | exact OwnA.made (by simp)) (Src.row 12 rfl) (by first | omega | (simp only [List.length_append, List.length_cons, List.length_nil, maxLen]; omega)) (by first | omega | (simp only [List.length_append, List.length_cons, List.length_nil, maxLen]; omega)) (fun a1 c1 junk1 ho1 => ?_)
   refine Wl.q rfl (Qy.assign rfl) (Wl.done ?_)
   refine Ar.outNormal ?_
   refine Ar.next (Wc.region rfl (Wl.q rfl (Qy.move rfl) (Wl.q rfl (Qy.add rfl rfl (by omega)) ?_)))
   refine Wl.q rfl (Qy.assign rfl) (Wl.done ?_)
   rotate_left
   refine Wl.alloc 11 rfl T.zero82 (fun b2 => ?_)
   refine Wl.on0 ?_
   refine Gm.one 5 ⟨rfl, rfl, trivial⟩ (by first | exact Imm.le_refl _ | assumption) (by kernel_rfl) rfl ?_
   refine Wl.call 12 rfl T.fn118 rfl (num_over _ _ _ _ zy (by assumption) (by assumption) (by omega) (by omega) hy0) (tags_of trivial) (fun v1 G1 Ho1 hle1 hp => ?_)
   obtain ⟨qo1, rfl, hqo1, rfl⟩ := hp
   replace hrs := hrs.up hle1
   replace hy := hy.up hle1
   replace ha := ha.up hle1
   replace hxs := hxs.up hle1
   replace hxi := hxi.up hle1
   refine Wl.on0 ?_
   refine Gm.q 6 [] (by kernel_rfl) rfl rfl (Qy.move rfl) (Gm.q 7 [] (by kernel_rfl) rfl rfl (Qy.extract rfl rfl) (Gm.q 8 [] (by kernel_rfl) rfl rfl (Qy.extract rfl rfl) (Gm.one 10 ⟨rfl, rfl, trivial⟩ (by first | exact Imm.le_refl _ | assumption) (by kernel_rfl) rfl ?_)))
   refine Wl.storeAll 11 T.size82 rfl rfl rfl rfl rfl rfl ?_
   refine Wl.on0 ?_
   refine Gm.q 11 [] (by kernel_rfl) rfl rfl (Qy.assign rfl) (Gm.doneA (by kernel_rfl) ⟨rfl, rfl, trivial⟩ (by first | exact Imm.le_refl _ | assumption) ?_)
   refine Ar.next (Wc.seq (Wc.seq (Wc.region rfl (Wl.q rfl (Qy.move rfl) (Wl.q rfl (Qy.notD rfl) (Wl.done (Ar.next ?_)))))))
   refine Wc.cond rfl (fun hc1 => ?_) (fun hc1 => ?_)
   refine Wc.seq (Wc.region rfl (Wl.q rfl (Qy.assign rfl) (Wl.q rfl (Qy.assign rfl) (Wl.done (Ar.next (Wc.ret (Ar.passRet ?_)))))))
   refine Ar.outRet ?_
   refine Ar.passRet ?_
   refine Ar.passRet ?_
   refine Ar.outRet ?_
   refine Ar.passRet ?_
   rotate_left
   refine Wc.skip (Ar.next (Wc.region rfl (Wl.q rfl (Qy.move rfl) (Wl.q rfl (Qy.loadAll 11 T.agg82 rfl rfl rfl) ?_))))
   refine Wl.lit (α := IV) 12 [(qo1)] rfl T.sl80 T.el82 rfl rfl rfl rfl rfl (fun b3 => ?_)
   refine Wl.append (α := IV) 9 rfl T.sl80 T.el82 rfl rfl rfl (by first | assumption | exact OwnA.nil | exact OwnA.made (by simp)) (Src.row 12 rfl) (by first | omega | (simp only [List.length_append, List.length_cons, List.length_nil, maxLen]; omega)) (by first | omega | (simp only [List.length_append, List.length_cons, List.length_nil, maxLen]; omega)) (fun a1 c1 junk1 ho1 => ?_)
   refine Wl.q rfl (Qy.assign rfl) (Wl.done ?_)
   refine Ar.outNormal ?_
   refine Ar.next (Wc.region rfl (Wl.q rfl (Qy.move rfl) (Wl.q rfl (Qy.add rfl rfl (by omega)) ?_)))
   refine Wl.q rfl (Qy.assign rfl) (Wl.done ?_)
   rotate_left
   · refine Ar.out2 (.inr rfl) (Ho := []) rfl (.tmp rfl) (.tmp rfl) trivial ?_
     have hn : ¬ AllDiv zy xs := fun h => hc1 (h _ (by omega))
     exact ⟨_, by rw [decide_eq_false hn], fun h => absurd h hn, rfl⟩
   · have hc2 := Classical.not_not.1 hc1
     rw [if_pos hc2] at hqo1
     refine Ar.again ((i + 1, G1, r ++ [qo1], (a1, c1, junk1))) ?_ ?_ rfl ⟨rfl, rfl, rfl, rfl, trivial⟩ ⟨rfl, rfl, trivial⟩
     · refine ⟨by omega, Imm.le_trans hgx hle1, by rw [List.length_append]; show r.length + 1 = i + 1; omega, by rw [map_succ (by omega)]; exact hrs.snoc hqo1, ho1, fun q hq9 => ?_⟩
       by_cases hqi : q = i
       · subst hqi; rw [Int.toNat_natCast] at hc2; exact hc2
       · exact hq q (by omega)
     · show la.length - (i + 1) < la.length - i
       omega
   · refine Ar.out2 (.inr rfl) (Ho := []) rfl (.tmp rfl) (.tmp rfl) trivial ?_
     have hn : ¬ AllDiv zy xs := fun h => hc1 (h _ (by omega))
     exact ⟨_, by rw [decide_eq_false hn], fun h => absurd h hn, rfl⟩
   · have hc2 := Classical.not_not.1 hc1
     rw [if_pos hc2] at hqo1
     refine Ar.again ((i + 1, G1, r ++ [qo1], (a1, c1, junk1))) ?_ ?_ rfl ⟨rfl, rfl, rfl, rfl, trivial⟩ ⟨rfl, rfl, trivial⟩
     · refine ⟨by omega, Imm.le_trans hgx hle1, by rw [List.length_append]; show r.length + 1 = i + 1; omega, by rw [map_succ (by omega)]; exact hrs.snoc hqo1, ho1, fun q hq9 => ?_⟩
       by_cases hqi : q = i
       · subst hqi; rw [Int.toNat_natCast] at hc2; exact hc2
       · exact hq q (by omega)
     · show la.length - (i + 1) < la.length - i
       omega
 · refine Wc.seq (Wc.seq (Wc.region rfl (Wl.q rfl (Qy.move rfl) (Wl.q rfl (Qy.move rfl) (Wl.q rfl (Qy.len T.sl80 rfl) (Wl.q rfl (Qy.lss rfl rfl) (Wl.done (Ar.next (Wc.condN rfl (by first | assumption | omega) ?_)))))))))
   refine Wc.exit (Ar.passExit ?_)
   refine Ar.passExit ?_
   refine Ar.here ?_
   refine Ar.next (Wc.seq (Wc.region rfl (Wl.q rfl (Qy.move rfl) (Wl.q rfl (Qy.assign rfl) (Wl.q rfl (Qy.assign rfl) (Wl.done (Ar.next (Wc.ret ?_))))))))
   have hcap := hob.le
   have hall : AllDiv zy xs := fun q hq9 => hq q (by omega)
   rw [List.take_of_length_le (by rw [List.length_map]; omega)] at hrs
   refine Ar.freezeRow 9 rfl hob (fun G9 hle9 hA => ?_)
   refine Ar.out2 (.inr rfl) (Ho := []) rfl (.tmp rfl) (.tmp rfl) trivial ?_
   exact ⟨_, by rw [decide_eq_true hall], fun _ => ⟨o, d, r, rfl, hA, hrs.up hle9, hcap⟩, rfl⟩
end Go.Proofs.YtbppmiimeccclaaDoor
set_option maxRecDepth 100000
set_option linter.unusedVariables false
namespace Go.Proofs.YtbppmiimeccclaaDoor
open Go Go.Sl
set_option maxHeartbeats 4000000
def RowS (G : Imm) (s : SV) (zs : List Int) : Prop := ∃ l : List IV, l.length = s.n ∧ s.n ≤ s.c ∧ Arr G s.a l ∧ Nums G l zs
theorem RowS.up {G G' : Imm} {s : SV} {zs : List Int} (h : RowS G s zs) (hl : G.le G') : RowS G' s zs := by
 obtain ⟨l, h1, h2, h3, h4⟩ := h
 exact ⟨l, h1, h2, h3.up hl, h4.up hl⟩
theorem RowOf.handle {G : Imm} {v : Value} {zs : List Int} (h : RowOf G v zs) : ∃ s : SV, v = .slice s.a s.n s.c ∧ RowS G s zs := by
 obtain ⟨o, c, l, rfl, h1, h2, h3⟩ := h
 exact ⟨⟨o, l.length, c⟩, rfl, l, rfl, h3, h1, h2⟩
def Grid (G : Imm) (l : List SV) (rs : List (List Int)) : Prop := l.length = rs.length ∧ ∀ i : Nat, i < l.length → RowS G (l[i]?.getD default) (rs[i]?.getD [])
theorem Grid.up {G G' : Imm} {l : List SV} {rs : List (List Int)} (h : Grid G l rs) (hl : G.le G') : Grid G' l rs := ⟨h.1, fun i hi => (h.2 i hi).up hl⟩
theorem Grid.nil (G : Imm) : Grid G [] [] := ⟨rfl, fun i hi => by simp at hi⟩
theorem Grid.at {G : Imm} {l : List SV} {rs : List (List Int)} (h : Grid G l rs) {m : Int} (hm : 0 ≤ m ∧ m < l.length) : RowS G (l[m.toNat]?.getD default) (rs[m.toNat]?.getD []) := h.2 _ (by omega)
theorem Grid.snoc {G : Imm} {l : List SV} {rs : List (List Int)} (h : Grid G l rs) {s : SV} {zs : List Int} (hx : RowS G s zs) : Grid G (l ++ [s]) (rs ++ [zs]) := by
 refine ⟨by simp [h.1], fun i hi => ?_⟩
 rw [List.length_append, List.length_singleton] at hi
 by_cases hc : i < l.length
 · rw [List.getElem?_append_left hc, List.getElem?_append_left (by rw [← h.1]; exact hc)]
   exact h.2 i hc
 · have e : i = l.length := by omega
   subst e
   rw [List.getElem?_concat_length, h.1, List.getElem?_concat_length]
   exact hx
theorem Grid.set {G : Imm} {l : List SV} {rs : List (List Int)} (h : Grid G l rs) (k : Nat) {s : SV} {zs : List Int} (hx : RowS G s zs) : Grid G (l.set k s) (rs.set k zs) := by
 refine ⟨by rw [List.length_set, List.length_set]; exact h.1, fun i hi => ?_⟩
 rw [List.length_set] at hi
 have hi2 : i < rs.length := by rw [← h.1]; exact hi
 rw [List.getElem?_set, List.getElem?_set]
 by_cases hk : k = i
 · subst hk; rw [if_pos rfl, if_pos rfl, if_pos hi, if_pos hi2]; exact hx
 · rw [if_neg hk, if_neg hk]; exact h.2 i hi
attribute [local irreducible] valL pw cmpZ p2
theorem c103 (G : Imm) (i : Sl.Instr) (hc1 : i.op = 5 ∨ i.op = 6 → -9223372036854775808 ≤ i.c ∧ i.c ≤ 9223372036854775807) (hc2 : ¬ (i.op = 5 ∨ i.op = 6) → 0 ≤ i.c ∧ i.c ≤ 64) :
 Does Tryd.prog 103 [.agg (Cells.enc i).toArray] G [] (fun v G' Ho => ∃ r : IV, v = .agg (Cells.enc r).toArray ∧ Num G' r (cst i) ∧ Ho = []) := by
 refine Does.enter Tryd.func103 rfl Tryd.ntmps103 rfl (fun w => ?_)
 by_cases h5 : i.op = 5
 · have hc1 := hc1 (.inl h5)
   refine Wc.seq (Wc.region rfl ?_)
   refine Wl.box 0 rfl rfl rfl (fun b1 => ?_)
   refine Wl.alloc 1 rfl T.zero82 (fun b2 => ?_)
   refine Wl.done (Ar.next (Wc.seq (Wc.seq (Wc.region rfl (Wl.q rfl (Qy.fieldAddr T.fa55_0 rfl) (Wl.q rfl (Qy.load 0 T.one3 rfl rfl rfl) (Wl.q rfl (Qy.eql rfl rfl) (Wl.q rfl (Qy.move rfl) (Wl.yes 6 rfl (by first | assumption | omega) ?_)))))))))
   refine Wl.pass rfl rfl rfl (Wl.pass rfl rfl rfl (Wl.pass rfl rfl rfl (Wl.q rfl (Qy.pick rfl rfl) (Wl.done (Ar.next (Wc.condT rfl ?_))))))
   refine Wc.seq (Wc.region rfl (Wl.q rfl (Qy.fieldAddr T.fa55_4 rfl) (Wl.q rfl (Qy.load 0 T.one3 rfl rfl rfl) ?_)))
   refine Wl.call 2 rfl T.fn42 rfl (num_of _ _ hc1) (tags_of trivial) (fun v1 G1 Ho1 hle1 hp => ?_)
   obtain ⟨ri1, rfl, hri1, rfl⟩ := hp
   refine Wl.storeAll 1 T.size82 rfl rfl rfl rfl rfl rfl ?_
   refine Wl.done (Ar.next (Wc.ret (Ar.passRet ?_)))
   refine Ar.out1 (.inr rfl) (Ho := []) rfl (.agg 1 rfl rfl T.agg82) trivial ?_
   exact ⟨ri1, rfl, by rw [cst_c (.inl h5)]; exact hri1, rfl⟩
 · by_cases h6 : i.op = 6
   · have hc1 := hc1 (.inr h6)
     refine Wc.seq (Wc.region rfl ?_)
     refine Wl.box 0 rfl rfl rfl (fun b1 => ?_)
     refine Wl.alloc 1 rfl T.zero82 (fun b2 => ?_)
     refine Wl.done (Ar.next (Wc.seq (Wc.seq (Wc.region rfl (Wl.q rfl (Qy.fieldAddr T.fa55_0 rfl) (Wl.q rfl (Qy.load 0 T.one3 rfl rfl rfl) (Wl.q rfl (Qy.eql rfl rfl) (Wl.q rfl (Qy.move rfl) (Wl.no 6 rfl (by first | assumption | omega) ?_)))))))))
     refine Wl.want rfl rfl (Wl.q rfl (Qy.fieldAddr T.fa55_0 rfl) (Wl.want rfl rfl (Wl.q rfl (Qy.load 0 T.one3 rfl rfl rfl) (Wl.want rfl rfl (Wl.q rfl (Qy.eql rfl rfl) (Wl.q rfl (Qy.pick rfl rfl) (Wl.done (Ar.next (Wc.condP rfl (by first | assumption | omega) ?_)))))))))
     refine Wc.seq (Wc.region rfl (Wl.q rfl (Qy.fieldAddr T.fa55_4 rfl) (Wl.q rfl (Qy.load 0 T.one3 rfl rfl rfl) ?_)))
     refine Wl.call 2 rfl T.fn42 rfl (num_of _ _ hc1) (tags_of trivial) (fun v1 G1 Ho1 hle1 hp => ?_)
     obtain ⟨ri1, rfl, hri1, rfl⟩ := hp
     refine Wl.storeAll 1 T.size82 rfl rfl rfl rfl rfl rfl ?_
     refine Wl.done (Ar.next (Wc.ret (Ar.passRet ?_)))
     refine Ar.out1 (.inr rfl) (Ho := []) rfl (.agg 1 rfl rfl T.agg82) trivial ?_
     exact ⟨ri1, rfl, by rw [cst_c (.inr h6)]; exact hri1, rfl⟩
   · have hcp := cst_p (i := i) (by omega)
     obtain ⟨c, hc⟩ : ∃ c : Nat, i.c = (c : Int) := ⟨i.c.toNat, by have := hc2 (by omega); omega⟩
     have hc9 : c ≤ 16777216 := by have := hc2 (by omega); omega
     rw [hc, Int.toNat_natCast] at hcp
     clear hc1 hc2
     obtain ⟨o, t, a, b, cc⟩ := i
     simp only at hc h5 h6
     subst hc
     refine Wc.seq (Wc.region rfl ?_)
     refine Wl.box 0 rfl rfl rfl (fun b1 => ?_)
     refine Wl.alloc 1 rfl T.zero82 (fun b2 => ?_)
     refine Wl.done (Ar.next (Wc.seq (Wc.seq (Wc.region rfl (Wl.q rfl (Qy.fieldAddr T.fa55_0 rfl) (Wl.q rfl (Qy.load 0 T.one3 rfl rfl rfl) (Wl.q rfl (Qy.eql rfl rfl) (Wl.q rfl (Qy.move rfl) (Wl.no 6 rfl (by first | assumption | omega) ?_)))))))))
     refine Wl.want rfl rfl (Wl.q rfl (Qy.fieldAddr T.fa55_0 rfl) (Wl.want rfl rfl (Wl.q rfl (Qy.load 0 T.one3 rfl rfl rfl) (Wl.want rfl rfl (Wl.q rfl (Qy.eql rfl rfl) (Wl.q rfl (Qy.pick rfl rfl) (Wl.done (Ar.next (Wc.condN rfl (by first | assumption | omega) ?_)))))))))
     refine Wc.skip (Ar.next (Wc.seq (Wc.region rfl (Wl.q rfl (Qy.fieldAddr T.fa55_4 rfl) (Wl.q rfl (Qy.load 0 T.one3 rfl rfl rfl) ?_)))))
     refine Wl.call 2 rfl T.fn117 rfl (c117 _ c hc9) (tags_of trivial) (fun v1 G1 Ho1 hle1 hp => ?_)
     obtain ⟨ri1, rfl, hri1, rfl⟩ := hp
     refine Wl.storeAll 1 T.size82 rfl rfl rfl rfl rfl rfl ?_
     refine Wl.done (Ar.next (Wc.ret ?_))
     refine Ar.out1 (.inr rfl) (Ho := []) rfl (.agg 1 rfl rfl T.agg82) trivial ?_
     exact ⟨ri1, rfl, by rw [hcp]; exact hri1, rfl⟩
theorem row_scale (G : Imm) (x : IV) (z : Int) (s : SV) (xs : List Int) (hx : Num G x z) (hs : RowS G s xs) (m : Nat) (hk : 5 + m ≤ 134217728)
 (bx : (z.natAbs : Int) < pw 5) (bxs : Below m xs) (h1 : s.n ≤ 1048576) :
 Does Tryd.prog 100 [.slice s.a s.n s.c, .agg (Cells.enc x).toArray] G [] (fun v G' Ho => ∃ s' : SV, v = .slice s'.a s'.n s'.c ∧ RowS G' s' (xs.map (fun a => z * a)) ∧ Ho = []) := by
 obtain ⟨sa, sn, sc⟩ := s
 obtain ⟨l, hl, hc, hA, hN⟩ := hs
 simp only at hl hc hA h1
 subst hl
 refine (c100 G x z sa sc l xs hx hA hN 5 m hk bx bxs h1).mono fun v G' Ho _ ⟨h, e⟩ => ?_
 obtain ⟨s', e1, e2⟩ := h.handle
 exact ⟨s', e1, e2, e⟩
theorem row_add (G : Imm) (s t : SV) (xs ys : List Int) (hs : RowS G s xs) (ht : RowS G t ys) (hl : xs.length = ys.length) (m : Nat) (hm : 1 + m ≤ 134217728) (bxs : Below m xs) (bys : Below m ys) (h1 : s.n ≤ 1048576) :
 Does Tryd.prog 101 [.slice s.a s.n s.c, .slice t.a t.n t.c] G [] (fun v G' Ho => ∃ s' : SV, v = .slice s'.a s'.n s'.c ∧ RowS G' s' (List.zipWith (fun a b => a + 1 * b) xs ys) ∧ Ho = []) := by
 obtain ⟨sa, sn, sc⟩ := s
 obtain ⟨ta, tn, tc⟩ := t
 obtain ⟨l, hl1, hc, hA, hN⟩ := hs
 obtain ⟨l', hl2, hc', hA', hN'⟩ := ht
 simp only at hl1 hc hA h1 hl2 hc' hA'
 subst hl1 hl2
 have e1 := hN.1
 have e2 := hN'.1
 refine (c101 G sa ta sc tc l l' xs ys hA hA' hN hN' (by omega) m hm bxs bys h1).mono fun v G' Ho _ ⟨h, e⟩ => ?_
 obtain ⟨s', e1, e2⟩ := h.handle
 exact ⟨s', e1, e2, e⟩
theorem row_sub (G : Imm) (s t : SV) (xs ys : List Int) (hs : RowS G s xs) (ht : RowS G t ys) (hl : xs.length = ys.length) (m : Nat) (hm : 1 + m ≤ 134217728) (bxs : Below m xs) (bys : Below m ys) (h1 : s.n ≤ 1048576) :
 Does Tryd.prog 102 [.slice s.a s.n s.c, .slice t.a t.n t.c] G [] (fun v G' Ho => ∃ s' : SV, v = .slice s'.a s'.n s'.c ∧ RowS G' s' (List.zipWith (fun a b => a + (-1) * b) xs ys) ∧ Ho = []) := by
 obtain ⟨sa, sn, sc⟩ := s
 obtain ⟨ta, tn, tc⟩ := t
 obtain ⟨l, hl1, hc, hA, hN⟩ := hs
 obtain ⟨l', hl2, hc', hA', hN'⟩ := ht
 simp only at hl1 hc hA h1 hl2 hc' hA'
 subst hl1 hl2
 have e1 := hN.1
 have e2 := hN'.1
 refine (c102 G sa ta sc tc l l' xs ys hA hA' hN hN' (by omega) m hm bxs bys h1).mono fun v G' Ho _ ⟨h, e⟩ => ?_
 obtain ⟨s', e1, e2⟩ := h.handle
 exact ⟨s', e1, e2, e⟩
theorem row_over (G : Imm) (y : IV) (zy : Int) (s : SV) (xs : List Int) (hy : Num G y zy) (hs : RowS G s xs) (m : Nat) (hm : m ≤ 134217728) (by' : (zy.natAbs : Int) < pw 5) (bxs : Below m xs) (hy0 : zy ≠ 0) (h1 : s.n ≤ 1048576) :
 Does Tryd.prog 104 [.slice s.a s.n s.c, .agg (Cells.enc y).toArray] G [] (fun v G' Ho => ∃ rv, v = .tuple #[rv, .bool (decide (AllDiv zy xs))] ∧ (AllDiv zy xs → ∃ s' : SV, rv = .slice s'.a s'.n s'.c ∧ RowS G' s' (xs.map (· / zy))) ∧ Ho = []) := by
 obtain ⟨sa, sn, sc⟩ := s
 obtain ⟨l, hl, hc, hA, hN⟩ := hs
 simp only at hl hc hA h1
 subst hl
 refine (c104 G y zy sa sc l xs hy hA hN m hm (Nat.le_trans (Num.len hy by') (by decide)) bxs hy0 h1).mono fun v G' Ho _ ⟨rv, h, h2, e⟩ => ?_
 exact ⟨rv, h, fun ha => (h2 ha).handle, e⟩
def Even (m N : Nat) (rs : List (List Int)) : Prop := ∀ zs ∈ rs, zs.length = N ∧ Below m zs
theorem Even.at {m N : Nat} {rs : List (List Int)} (h : Even m N rs) {k : Int} (hk : 0 ≤ k ∧ k < rs.length) : (rs[k.toNat]?.getD []).length = N ∧ Below m (rs[k.toNat]?.getD []) := by
 have h1 : k.toNat < rs.length := by omega
 rw [List.getElem?_eq_getElem h1]
 exact h _ (List.getElem_mem h1)
theorem RowS.len {G : Imm} {s : SV} {zs : List Int} (h : RowS G s zs) : s.n = zs.length := by
 obtain ⟨l, h1, _, _, h4⟩ := h
 rw [← h1]; exact h4.1
end Go.Proofs.YtbppmiimeccclaaDoor
set_option maxRecDepth 100000
set_option linter.unusedVariables false
namespace Go.Proofs.YtbppmiimeccclaaDoor
open Go Go.Sl
set_option maxHeartbeats 4000000
attribute [local irreducible] valL pw cmpZ p2
theorem one_lt5 : (((-1 : Int)).natAbs : Int) < pw 5 := Int.lt_of_lt_of_le mone_lt (pw_le (by decide))
def DoPostN (i : Sl.Instr) (rs : List (List Int)) (H0 : Hp) (v : Value) (G' : Imm) (Ho : Hp) : Prop :=
 ∃ rv, v = .tuple #[rv, .bool (decide (doI i rs ≠ none))] ∧ (∀ zs, doI i rs = some zs → ∃ s : SV, rv = .slice s.a s.n s.c ∧ RowS G' s zs) ∧ Ho = H0
theorem do_someN {i : Sl.Instr} {rs : List (List Int)} {H0 : Hp} {s : SV} {G' : Imm} {zs : List Int} (h : doI i rs = some zs) (hs : RowS G' s zs) : DoPostN i rs H0 (.tuple #[.slice s.a s.n s.c, .bool true]) G' H0 :=
 ⟨_, by rw [decide_eq_true (show doI i rs ≠ none from fun e => by rw [e] at h; cases h)], fun zs' h' => by rw [h] at h'; cases h'; exact ⟨s, rfl, hs⟩, rfl⟩
theorem do_overN {i : Sl.Instr} {rs : List (List Int)} {H0 : Hp} {rv : Value} {G' : Imm} {y : Int} {xs : List Int} (h : doI i rs = if AllDiv y xs then some (xs.map (· / y)) else none)
 (hs : AllDiv y xs → ∃ s : SV, rv = .slice s.a s.n s.c ∧ RowS G' s (xs.map (· / y))) : DoPostN i rs H0 (.tuple #[rv, .bool (decide (AllDiv y xs))]) G' H0 := by
 by_cases ha : AllDiv y xs
 · rw [if_pos ha] at h
   obtain ⟨s, e1, e2⟩ := hs ha
   subst e1
   rw [decide_eq_true ha]
   exact do_someN h e2
 · rw [if_neg ha] at h
   refine ⟨rv, by rw [decide_eq_false ha, decide_eq_false (show ¬ doI i rs ≠ none from fun e => e h)], (fun zs hz => by rw [h] at hz; cases hz), rfl⟩
theorem c84 (G : Imm) (i : Sl.Instr) (o : Option Addr) (d : Nat) (r : List SV) (j : List Value) (rs : List (List Int)) (m N : Nat) (hob : OwnA o d r j) (hg : Grid G r rs) (he : Even m N rs) (hN : N ≤ 1048576) (hm : 5 + m ≤ 134217728)
 (hop : 1 ≤ i.op ∧ i.op ≤ 8) (ha : 0 ≤ i.a ∧ i.a < r.length) (hb : i.op = 3 ∨ i.op = 4 → 0 ≤ i.b ∧ i.b < r.length) (hcc : constOk i.op i.c = true) (hr : r.length ≤ 1048576) (hz : i.op ≠ 1 → i.op ≠ 2 → i.op ≠ 3 → i.op ≠ 4 → cst i ≠ 0 ∧ ((cst i).natAbs : Int) < pw 5)
 (hc1 : i.op = 5 ∨ i.op = 6 → -9223372036854775808 ≤ i.c ∧ i.c ≤ 9223372036854775807) (hc2 : ¬ (i.op = 5 ∨ i.op = 6) → 0 ≤ i.c ∧ i.c ≤ 64) :
 Does Tryd.prog 84 [.agg (Cells.enc i).toArray, .slice o r.length d] G [(0, o.map (·.block), Row 80 r j)] (fun v G' Ho => DoPostN i rs [(0, o.map (·.block), Row 80 r j)] v G' Ho) := by
 have hgl := hg.1
 have hca := hob.le
 have haR := hg.at ha
 obtain ⟨haL, haB⟩ := he.at (k := i.a) (by omega)
 have haN : (r[i.a.toNat]?.getD default).n ≤ 1048576 := by rw [haR.len, haL]; exact hN
 have hm1 : 1 + m ≤ 134217728 := by omega
 have hm2 : m ≤ 134217728 := by omega
 have hmone := one_lt5
 refine Does.enter Tryd.func84 rfl Tryd.ntmps84 rfl (fun w => ?_)
 by_cases h2 : i.op = 2
 · refine Wc.seq (Wc.region rfl ?_)
   refine Wl.box 1 rfl rfl rfl (fun b1 => ?_)
   refine Wl.q rfl (Qy.assign rfl) (Wl.q rfl (Qy.assign rfl) (Wl.done (Ar.next (Wc.seq (Wc.region rfl (Wl.q rfl (Qy.move rfl) (Wl.q rfl (Qy.fieldAddr T.fa55_2 rfl) (Wl.q rfl (Qy.load 1 T.one3 rfl rfl rfl) (Wl.q rfl (Qy.indexAddrO (α := SV) T.sl42 rfl rfl (by assumption) (by omega)) ?_)))))))))
   refine Wl.q rfl (Qy.loadO 0 0 T.one80 rfl rfl (by assumption) (by omega) rfl rfl) ?_
   refine Wl.q rfl (Qy.assign rfl) (Wl.done (Ar.next (Wc.seq (Wc.seq (Wc.region rfl (Wl.q rfl (Qy.fieldAddr T.fa55_0 rfl) (Wl.q rfl (Qy.load 1 T.one3 rfl rfl rfl) (Wl.q rfl (Qy.eql rfl rfl) (Wl.done (Ar.next (Wc.condP rfl (by first | assumption | omega) ?_)))))))))))
   refine Wc.seq (Wc.region rfl (Wl.q rfl (Qy.move rfl) ?_))
   refine Wl.call 2 rfl T.fn42 rfl (num_of _ _ ⟨by decide, by decide⟩) (tags_of trivial) (fun v1 G1 Ho1 hle1 hp => ?_)
   obtain ⟨ri1, rfl, hri1, rfl⟩ := hp
   replace hg := hg.up hle1
   replace haR := haR.up hle1
   refine Wl.call 2 rfl T.fn100 rfl (row_scale _ _ _ _ _ (by assumption) (by assumption) m hm (by assumption) (by assumption) (by assumption)) (tags_of trivial) (fun v2 G2 Ho2 hle2 hp => ?_)
   obtain ⟨rs2, rfl, hrs2, rfl⟩ := hp
   replace hri1 := hri1.up hle2
   replace hg := hg.up hle2
   replace haR := haR.up hle2
   refine Wl.q rfl (Qy.assign rfl) (Wl.q rfl (Qy.assign rfl) (Wl.done (Ar.next (Wc.ret (Ar.passRet ?_)))))
   refine Ar.out2 (.inr rfl) (Ho := [(0, o.map (·.block), Row 80 r j)]) rfl (.tmp rfl) (.tmp rfl) ⟨rfl, trivial⟩ ?_
   exact do_someN (by unfold doI; exact if_pos h2) hrs2
 by_cases h34 : i.op = 3 ∨ i.op = 4
 · have hb := hb h34
   have hbR := hg.at hb
   obtain ⟨hbL, hbB⟩ := he.at (k := i.b) (by omega)
   have hll : (rs[i.a.toNat]?.getD []).length = (rs[i.b.toNat]?.getD []).length := by rw [haL, hbL]
   by_cases h3 : i.op = 3
   · refine Wc.seq (Wc.region rfl ?_)
     refine Wl.box 1 rfl rfl rfl (fun b1 => ?_)
     refine Wl.q rfl (Qy.assign rfl) (Wl.q rfl (Qy.assign rfl) (Wl.done (Ar.next (Wc.seq (Wc.region rfl (Wl.q rfl (Qy.move rfl) (Wl.q rfl (Qy.fieldAddr T.fa55_2 rfl) (Wl.q rfl (Qy.load 1 T.one3 rfl rfl rfl) (Wl.q rfl (Qy.indexAddrO (α := SV) T.sl42 rfl rfl (by assumption) (by omega)) ?_)))))))))
     refine Wl.q rfl (Qy.loadO 0 0 T.one80 rfl rfl (by assumption) (by omega) rfl rfl) ?_
     refine Wl.q rfl (Qy.assign rfl) (Wl.done (Ar.next (Wc.seq (Wc.seq (Wc.region rfl (Wl.q rfl (Qy.fieldAddr T.fa55_0 rfl) (Wl.q rfl (Qy.load 1 T.one3 rfl rfl rfl) (Wl.q rfl (Qy.eql rfl rfl) (Wl.done (Ar.next (Wc.condN rfl (by first | assumption | omega) ?_)))))))))))
     refine Wc.skip (Ar.next (Wc.seq (Wc.seq (Wc.region rfl (Wl.q rfl (Qy.fieldAddr T.fa55_0 rfl) (Wl.q rfl (Qy.load 1 T.one3 rfl rfl rfl) (Wl.q rfl (Qy.eql rfl rfl) (Wl.done (Ar.next (Wc.condP rfl (by first | assumption | omega) ?_))))))))))
     refine Wc.seq (Wc.region rfl (Wl.q rfl (Qy.move rfl) (Wl.q rfl (Qy.move rfl) (Wl.q rfl (Qy.fieldAddr T.fa55_3 rfl) (Wl.q rfl (Qy.load 1 T.one3 rfl rfl rfl) (Wl.q rfl (Qy.indexAddrO (α := SV) T.sl42 rfl rfl (by assumption) (by omega)) ?_))))))
     refine Wl.q rfl (Qy.loadO 0 0 T.one80 rfl rfl (by assumption) (by omega) rfl rfl) ?_
     refine Wl.call 2 rfl T.fn101 rfl (row_add _ _ _ _ _ (by assumption) hbR hll m hm1 (by assumption) hbB (by assumption)) (tags_of trivial) (fun v1 G1 Ho1 hle1 hp => ?_)
     obtain ⟨rs1, rfl, hrs1, rfl⟩ := hp
     replace hg := hg.up hle1
     replace haR := haR.up hle1
     replace hbR := hbR.up hle1
     refine Wl.q rfl (Qy.assign rfl) (Wl.q rfl (Qy.assign rfl) (Wl.done (Ar.next (Wc.ret (Ar.passRet ?_)))))
     refine Ar.out2 (.inr rfl) (Ho := [(0, o.map (·.block), Row 80 r j)]) rfl (.tmp rfl) (.tmp rfl) ⟨rfl, trivial⟩ ?_
     exact do_someN (by unfold doI; exact (if_neg h2).trans (if_pos h3)) hrs1
   · have h4 : i.op = 4 := by omega
     refine Wc.seq (Wc.region rfl ?_)
     refine Wl.box 1 rfl rfl rfl (fun b1 => ?_)
     refine Wl.q rfl (Qy.assign rfl) (Wl.q rfl (Qy.assign rfl) (Wl.done (Ar.next (Wc.seq (Wc.region rfl (Wl.q rfl (Qy.move rfl) (Wl.q rfl (Qy.fieldAddr T.fa55_2 rfl) (Wl.q rfl (Qy.load 1 T.one3 rfl rfl rfl) (Wl.q rfl (Qy.indexAddrO (α := SV) T.sl42 rfl rfl (by assumption) (by omega)) ?_)))))))))
     refine Wl.q rfl (Qy.loadO 0 0 T.one80 rfl rfl (by assumption) (by omega) rfl rfl) ?_
     refine Wl.q rfl (Qy.assign rfl) (Wl.done (Ar.next (Wc.seq (Wc.seq (Wc.region rfl (Wl.q rfl (Qy.fieldAddr T.fa55_0 rfl) (Wl.q rfl (Qy.load 1 T.one3 rfl rfl rfl) (Wl.q rfl (Qy.eql rfl rfl) (Wl.done (Ar.next (Wc.condN rfl (by first | assumption | omega) ?_)))))))))))
     refine Wc.skip (Ar.next (Wc.seq (Wc.seq (Wc.region rfl (Wl.q rfl (Qy.fieldAddr T.fa55_0 rfl) (Wl.q rfl (Qy.load 1 T.one3 rfl rfl rfl) (Wl.q rfl (Qy.eql rfl rfl) (Wl.done (Ar.next (Wc.condN rfl (by first | assumption | omega) ?_))))))))))
     refine Wc.skip (Ar.next (Wc.seq (Wc.seq (Wc.region rfl (Wl.q rfl (Qy.fieldAddr T.fa55_0 rfl) (Wl.q rfl (Qy.load 1 T.one3 rfl rfl rfl) (Wl.q rfl (Qy.eql rfl rfl) (Wl.done (Ar.next (Wc.condP rfl (by first | assumption | omega) ?_))))))))))
     refine Wc.seq (Wc.region rfl (Wl.q rfl (Qy.move rfl) (Wl.q rfl (Qy.move rfl) (Wl.q rfl (Qy.fieldAddr T.fa55_3 rfl) (Wl.q rfl (Qy.load 1 T.one3 rfl rfl rfl) (Wl.q rfl (Qy.indexAddrO (α := SV) T.sl42 rfl rfl (by assumption) (by omega)) ?_))))))
     refine Wl.q rfl (Qy.loadO 0 0 T.one80 rfl rfl (by assumption) (by omega) rfl rfl) ?_
     refine Wl.call 2 rfl T.fn102 rfl (row_sub _ _ _ _ _ (by assumption) hbR hll m hm1 (by assumption) hbB (by assumption)) (tags_of trivial) (fun v1 G1 Ho1 hle1 hp => ?_)
     obtain ⟨rs1, rfl, hrs1, rfl⟩ := hp
     replace hg := hg.up hle1
     replace haR := haR.up hle1
     replace hbR := hbR.up hle1
     refine Wl.q rfl (Qy.assign rfl) (Wl.q rfl (Qy.assign rfl) (Wl.done (Ar.next (Wc.ret (Ar.passRet ?_)))))
     refine Ar.out2 (.inr rfl) (Ho := [(0, o.map (·.block), Row 80 r j)]) rfl (.tmp rfl) (.tmp rfl) ⟨rfl, trivial⟩ ?_
     exact do_someN (by unfold doI; exact (if_neg h2).trans ((if_neg h3).trans (if_pos h4))) hrs1
 by_cases h1 : i.op = 1
 · refine Wc.seq (Wc.region rfl ?_)
   refine Wl.box 1 rfl rfl rfl (fun b1 => ?_)
   refine Wl.q rfl (Qy.assign rfl) (Wl.q rfl (Qy.assign rfl) (Wl.done (Ar.next (Wc.seq (Wc.region rfl (Wl.q rfl (Qy.move rfl) (Wl.q rfl (Qy.fieldAddr T.fa55_2 rfl) (Wl.q rfl (Qy.load 1 T.one3 rfl rfl rfl) (Wl.q rfl (Qy.indexAddrO (α := SV) T.sl42 rfl rfl (by assumption) (by omega)) ?_)))))))))
   refine Wl.q rfl (Qy.loadO 0 0 T.one80 rfl rfl (by assumption) (by omega) rfl rfl) ?_
   refine Wl.q rfl (Qy.assign rfl) (Wl.done (Ar.next (Wc.seq (Wc.seq (Wc.region rfl (Wl.q rfl (Qy.fieldAddr T.fa55_0 rfl) (Wl.q rfl (Qy.load 1 T.one3 rfl rfl rfl) (Wl.q rfl (Qy.eql rfl rfl) (Wl.done (Ar.next (Wc.condN rfl (by first | assumption | omega) ?_)))))))))))
   refine Wc.skip (Ar.next (Wc.seq (Wc.seq (Wc.region rfl (Wl.q rfl (Qy.fieldAddr T.fa55_0 rfl) (Wl.q rfl (Qy.load 1 T.one3 rfl rfl rfl) (Wl.q rfl (Qy.eql rfl rfl) (Wl.done (Ar.next (Wc.condN rfl (by first | assumption | omega) ?_))))))))))
   refine Wc.skip (Ar.next (Wc.seq (Wc.seq (Wc.region rfl (Wl.q rfl (Qy.fieldAddr T.fa55_0 rfl) (Wl.q rfl (Qy.load 1 T.one3 rfl rfl rfl) (Wl.q rfl (Qy.eql rfl rfl) (Wl.done (Ar.next (Wc.condN rfl (by first | assumption | omega) ?_))))))))))
   refine Wc.skip (Ar.next (Wc.seq (Wc.seq (Wc.region rfl (Wl.q rfl (Qy.fieldAddr T.fa55_0 rfl) (Wl.q rfl (Qy.load 1 T.one3 rfl rfl rfl) (Wl.q rfl (Qy.eql rfl rfl) (Wl.q rfl (Qy.move rfl) (Wl.no 41 rfl (by first | assumption | omega) ?_)))))))))
   refine Wl.want rfl rfl (Wl.q rfl (Qy.fieldAddr T.fa55_0 rfl) (Wl.want rfl rfl (Wl.q rfl (Qy.load 1 T.one3 rfl rfl rfl) (Wl.want rfl rfl (Wl.q rfl (Qy.eql rfl rfl) (Wl.q rfl (Qy.pick rfl rfl) (Wl.done (Ar.next (Wc.condN rfl (by first | assumption | omega) ?_)))))))))
   refine Wc.skip (Ar.next (Wc.seq (Wc.seq (Wc.region rfl (Wl.q rfl (Qy.fieldAddr T.fa55_0 rfl) (Wl.q rfl (Qy.load 1 T.one3 rfl rfl rfl) (Wl.q rfl (Qy.eql rfl rfl) (Wl.q rfl (Qy.move rfl) (Wl.no 53 rfl (by first | assumption | omega) ?_)))))))))
   refine Wl.want rfl rfl (Wl.q rfl (Qy.fieldAddr T.fa55_0 rfl) (Wl.want rfl rfl (Wl.q rfl (Qy.load 1 T.one3 rfl rfl rfl) (Wl.want rfl rfl (Wl.q rfl (Qy.eql rfl rfl) (Wl.q rfl (Qy.pick rfl rfl) (Wl.done (Ar.next (Wc.condN rfl (by first | assumption | omega) ?_)))))))))
   refine Wc.skip (Ar.next (Wc.seq (Wc.region rfl (Wl.q rfl (Qy.move rfl) (Wl.q rfl (Qy.assign rfl) (Wl.q rfl (Qy.assign rfl) (Wl.done (Ar.next (Wc.ret ?_)))))))))
   refine Ar.out2 (.inr rfl) (Ho := [(0, o.map (·.block), Row 80 r j)]) rfl (.tmp rfl) (.tmp rfl) ⟨rfl, trivial⟩ ?_
   exact do_someN (by unfold doI; exact (if_neg h2).trans ((if_neg (fun e => h34 (.inl e))).trans ((if_neg (fun e => h34 (.inr e))).trans ((if_neg (by omega)).trans (if_neg (by omega)))))) haR
 obtain ⟨hy0, hyb⟩ := hz h1 h2 (by omega) (by omega)
 by_cases h5 : i.op = 5
 · refine Wc.seq (Wc.region rfl ?_)
   refine Wl.box 1 rfl rfl rfl (fun b1 => ?_)
   refine Wl.q rfl (Qy.assign rfl) (Wl.q rfl (Qy.assign rfl) (Wl.done (Ar.next (Wc.seq (Wc.region rfl (Wl.q rfl (Qy.move rfl) (Wl.q rfl (Qy.fieldAddr T.fa55_2 rfl) (Wl.q rfl (Qy.load 1 T.one3 rfl rfl rfl) (Wl.q rfl (Qy.indexAddrO (α := SV) T.sl42 rfl rfl (by assumption) (by omega)) ?_)))))))))
   refine Wl.q rfl (Qy.loadO 0 0 T.one80 rfl rfl (by assumption) (by omega) rfl rfl) ?_
   refine Wl.q rfl (Qy.assign rfl) (Wl.done (Ar.next (Wc.seq (Wc.seq (Wc.region rfl (Wl.q rfl (Qy.fieldAddr T.fa55_0 rfl) (Wl.q rfl (Qy.load 1 T.one3 rfl rfl rfl) (Wl.q rfl (Qy.eql rfl rfl) (Wl.done (Ar.next (Wc.condN rfl (by first | assumption | omega) ?_)))))))))))
   refine Wc.skip (Ar.next (Wc.seq (Wc.seq (Wc.region rfl (Wl.q rfl (Qy.fieldAddr T.fa55_0 rfl) (Wl.q rfl (Qy.load 1 T.one3 rfl rfl rfl) (Wl.q rfl (Qy.eql rfl rfl) (Wl.done (Ar.next (Wc.condN rfl (by first | assumption | omega) ?_))))))))))
   refine Wc.skip (Ar.next (Wc.seq (Wc.seq (Wc.region rfl (Wl.q rfl (Qy.fieldAddr T.fa55_0 rfl) (Wl.q rfl (Qy.load 1 T.one3 rfl rfl rfl) (Wl.q rfl (Qy.eql rfl rfl) (Wl.done (Ar.next (Wc.condN rfl (by first | assumption | omega) ?_))))))))))
   refine Wc.skip (Ar.next (Wc.seq (Wc.seq (Wc.region rfl (Wl.q rfl (Qy.fieldAddr T.fa55_0 rfl) (Wl.q rfl (Qy.load 1 T.one3 rfl rfl rfl) (Wl.q rfl (Qy.eql rfl rfl) (Wl.q rfl (Qy.move rfl) (Wl.yes 41 rfl (by first | assumption | omega) ?_)))))))))
   refine Wl.pass rfl rfl rfl (Wl.pass rfl rfl rfl (Wl.pass rfl rfl rfl (Wl.q rfl (Qy.pick rfl rfl) (Wl.done (Ar.next (Wc.condT rfl ?_))))))
   refine Wc.seq (Wc.region rfl (Wl.q rfl (Qy.move rfl) (Wl.q rfl (Qy.loadAll 1 T.agg55 rfl rfl rfl) ?_)))
   refine Wl.call 2 rfl T.fn103 rfl (c103 _ i hc1 hc2) (tags_of trivial) (fun v1 G1 Ho1 hle1 hp => ?_)
   obtain ⟨ri1, rfl, hri1, rfl⟩ := hp
   replace hg := hg.up hle1
   replace haR := haR.up hle1
   refine Wl.call 2 rfl T.fn100 rfl (row_scale _ _ _ _ _ (by assumption) (by assumption) m hm (by assumption) (by assumption) (by assumption)) (tags_of trivial) (fun v2 G2 Ho2 hle2 hp => ?_)
   obtain ⟨rs2, rfl, hrs2, rfl⟩ := hp
   replace hri1 := hri1.up hle2
   replace hg := hg.up hle2
   replace haR := haR.up hle2
   refine Wl.q rfl (Qy.assign rfl) (Wl.q rfl (Qy.assign rfl) (Wl.done (Ar.next (Wc.ret (Ar.passRet ?_)))))
   refine Ar.out2 (.inr rfl) (Ho := [(0, o.map (·.block), Row 80 r j)]) rfl (.tmp rfl) (.tmp rfl) ⟨rfl, trivial⟩ ?_
   exact do_someN (by unfold doI; exact (if_neg h2).trans ((if_neg (fun e => h34 (.inl e))).trans ((if_neg (fun e => h34 (.inr e))).trans (if_pos (.inl h5))))) hrs2
 by_cases h7 : i.op = 7
 · refine Wc.seq (Wc.region rfl ?_)
   refine Wl.box 1 rfl rfl rfl (fun b1 => ?_)
   refine Wl.q rfl (Qy.assign rfl) (Wl.q rfl (Qy.assign rfl) (Wl.done (Ar.next (Wc.seq (Wc.region rfl (Wl.q rfl (Qy.move rfl) (Wl.q rfl (Qy.fieldAddr T.fa55_2 rfl) (Wl.q rfl (Qy.load 1 T.one3 rfl rfl rfl) (Wl.q rfl (Qy.indexAddrO (α := SV) T.sl42 rfl rfl (by assumption) (by omega)) ?_)))))))))
   refine Wl.q rfl (Qy.loadO 0 0 T.one80 rfl rfl (by assumption) (by omega) rfl rfl) ?_
   refine Wl.q rfl (Qy.assign rfl) (Wl.done (Ar.next (Wc.seq (Wc.seq (Wc.region rfl (Wl.q rfl (Qy.fieldAddr T.fa55_0 rfl) (Wl.q rfl (Qy.load 1 T.one3 rfl rfl rfl) (Wl.q rfl (Qy.eql rfl rfl) (Wl.done (Ar.next (Wc.condN rfl (by first | assumption | omega) ?_)))))))))))
   refine Wc.skip (Ar.next (Wc.seq (Wc.seq (Wc.region rfl (Wl.q rfl (Qy.fieldAddr T.fa55_0 rfl) (Wl.q rfl (Qy.load 1 T.one3 rfl rfl rfl) (Wl.q rfl (Qy.eql rfl rfl) (Wl.done (Ar.next (Wc.condN rfl (by first | assumption | omega) ?_))))))))))
   refine Wc.skip (Ar.next (Wc.seq (Wc.seq (Wc.region rfl (Wl.q rfl (Qy.fieldAddr T.fa55_0 rfl) (Wl.q rfl (Qy.load 1 T.one3 rfl rfl rfl) (Wl.q rfl (Qy.eql rfl rfl) (Wl.done (Ar.next (Wc.condN rfl (by first | assumption | omega) ?_))))))))))
   refine Wc.skip (Ar.next (Wc.seq (Wc.seq (Wc.region rfl (Wl.q rfl (Qy.fieldAddr T.fa55_0 rfl) (Wl.q rfl (Qy.load 1 T.one3 rfl rfl rfl) (Wl.q rfl (Qy.eql rfl rfl) (Wl.q rfl (Qy.move rfl) (Wl.no 41 rfl (by first | assumption | omega) ?_)))))))))
   refine Wl.want rfl rfl (Wl.q rfl (Qy.fieldAddr T.fa55_0 rfl) (Wl.want rfl rfl (Wl.q rfl (Qy.load 1 T.one3 rfl rfl rfl) (Wl.want rfl rfl (Wl.q rfl (Qy.eql rfl rfl) (Wl.q rfl (Qy.pick rfl rfl) (Wl.done (Ar.next (Wc.condP rfl (by first | assumption | omega) ?_)))))))))
   refine Wc.seq (Wc.region rfl (Wl.q rfl (Qy.move rfl) (Wl.q rfl (Qy.loadAll 1 T.agg55 rfl rfl rfl) ?_)))
   refine Wl.call 2 rfl T.fn103 rfl (c103 _ i hc1 hc2) (tags_of trivial) (fun v1 G1 Ho1 hle1 hp => ?_)
   obtain ⟨ri1, rfl, hri1, rfl⟩ := hp
   replace hg := hg.up hle1
   replace haR := haR.up hle1
   refine Wl.call 2 rfl T.fn100 rfl (row_scale _ _ _ _ _ (by assumption) (by assumption) m hm (by assumption) (by assumption) (by assumption)) (tags_of trivial) (fun v2 G2 Ho2 hle2 hp => ?_)
   obtain ⟨rs2, rfl, hrs2, rfl⟩ := hp
   replace hri1 := hri1.up hle2
   replace hg := hg.up hle2
   replace haR := haR.up hle2
   refine Wl.q rfl (Qy.assign rfl) (Wl.q rfl (Qy.assign rfl) (Wl.done (Ar.next (Wc.ret (Ar.passRet ?_)))))
   refine Ar.out2 (.inr rfl) (Ho := [(0, o.map (·.block), Row 80 r j)]) rfl (.tmp rfl) (.tmp rfl) ⟨rfl, trivial⟩ ?_
   exact do_someN (by unfold doI; exact (if_neg h2).trans ((if_neg (fun e => h34 (.inl e))).trans ((if_neg (fun e => h34 (.inr e))).trans (if_pos (.inr h7))))) hrs2
 by_cases h6 : i.op = 6
 · refine Wc.seq (Wc.region rfl ?_)
   refine Wl.box 1 rfl rfl rfl (fun b1 => ?_)
   refine Wl.q rfl (Qy.assign rfl) (Wl.q rfl (Qy.assign rfl) (Wl.done (Ar.next (Wc.seq (Wc.region rfl (Wl.q rfl (Qy.move rfl) (Wl.q rfl (Qy.fieldAddr T.fa55_2 rfl) (Wl.q rfl (Qy.load 1 T.one3 rfl rfl rfl) (Wl.q rfl (Qy.indexAddrO (α := SV) T.sl42 rfl rfl (by assumption) (by omega)) ?_)))))))))
   refine Wl.q rfl (Qy.loadO 0 0 T.one80 rfl rfl (by assumption) (by omega) rfl rfl) ?_
   refine Wl.q rfl (Qy.assign rfl) (Wl.done (Ar.next (Wc.seq (Wc.seq (Wc.region rfl (Wl.q rfl (Qy.fieldAddr T.fa55_0 rfl) (Wl.q rfl (Qy.load 1 T.one3 rfl rfl rfl) (Wl.q rfl (Qy.eql rfl rfl) (Wl.done (Ar.next (Wc.condN rfl (by first | assumption | omega) ?_)))))))))))
   refine Wc.skip (Ar.next (Wc.seq (Wc.seq (Wc.region rfl (Wl.q rfl (Qy.fieldAddr T.fa55_0 rfl) (Wl.q rfl (Qy.load 1 T.one3 rfl rfl rfl) (Wl.q rfl (Qy.eql rfl rfl) (Wl.done (Ar.next (Wc.condN rfl (by first | assumption | omega) ?_))))))))))
   refine Wc.skip (Ar.next (Wc.seq (Wc.seq (Wc.region rfl (Wl.q rfl (Qy.fieldAddr T.fa55_0 rfl) (Wl.q rfl (Qy.load 1 T.one3 rfl rfl rfl) (Wl.q rfl (Qy.eql rfl rfl) (Wl.done (Ar.next (Wc.condN rfl (by first | assumption | omega) ?_))))))))))
   refine Wc.skip (Ar.next (Wc.seq (Wc.seq (Wc.region rfl (Wl.q rfl (Qy.fieldAddr T.fa55_0 rfl) (Wl.q rfl (Qy.load 1 T.one3 rfl rfl rfl) (Wl.q rfl (Qy.eql rfl rfl) (Wl.q rfl (Qy.move rfl) (Wl.no 41 rfl (by first | assumption | omega) ?_)))))))))
   refine Wl.want rfl rfl (Wl.q rfl (Qy.fieldAddr T.fa55_0 rfl) (Wl.want rfl rfl (Wl.q rfl (Qy.load 1 T.one3 rfl rfl rfl) (Wl.want rfl rfl (Wl.q rfl (Qy.eql rfl rfl) (Wl.q rfl (Qy.pick rfl rfl) (Wl.done (Ar.next (Wc.condN rfl (by first | assumption | omega) ?_)))))))))
   refine Wc.skip (Ar.next (Wc.seq (Wc.seq (Wc.region rfl (Wl.q rfl (Qy.fieldAddr T.fa55_0 rfl) (Wl.q rfl (Qy.load 1 T.one3 rfl rfl rfl) (Wl.q rfl (Qy.eql rfl rfl) (Wl.q rfl (Qy.move rfl) (Wl.yes 53 rfl (by first | assumption | omega) ?_)))))))))
   refine Wl.pass rfl rfl rfl (Wl.pass rfl rfl rfl (Wl.pass rfl rfl rfl (Wl.q rfl (Qy.pick rfl rfl) (Wl.done (Ar.next (Wc.condT rfl ?_))))))
   refine Wc.seq (Wc.region rfl (Wl.q rfl (Qy.move rfl) (Wl.q rfl (Qy.loadAll 1 T.agg55 rfl rfl rfl) ?_)))
   refine Wl.call 2 rfl T.fn103 rfl (c103 _ i hc1 hc2) (tags_of trivial) (fun v1 G1 Ho1 hle1 hp => ?_)
   obtain ⟨ri1, rfl, hri1, rfl⟩ := hp
   replace hg := hg.up hle1
   replace haR := haR.up hle1
   refine Wl.call 2 rfl T.fn104 rfl (row_over _ _ _ _ _ (by assumption) (by assumption) m hm2 (by assumption) (by assumption) hy0 (by assumption)) (tags_of trivial) (fun v2 G2 Ho2 hle2 hp => ?_)
   obtain ⟨rv2, rfl, hrv2, rfl⟩ := hp
   replace hri1 := hri1.up hle2
   replace hg := hg.up hle2
   replace haR := haR.up hle2
   refine Wl.q rfl (Qy.extract rfl rfl) (Wl.q rfl (Qy.extract rfl rfl) (Wl.q rfl (Qy.assign rfl) (Wl.q rfl (Qy.assign rfl) (Wl.done (Ar.next (Wc.ret (Ar.passRet ?_)))))))
   refine Ar.out2 (.inr rfl) (Ho := [(0, o.map (·.block), Row 80 r j)]) rfl (.tmp rfl) (.tmp rfl) ⟨rfl, trivial⟩ ?_
   exact do_overN (by unfold doI; exact (if_neg h2).trans ((if_neg (fun e => h34 (.inl e))).trans ((if_neg (fun e => h34 (.inr e))).trans ((if_neg (by omega)).trans (if_pos (.inl h6)))))) hrv2
 · have h8 : i.op = 8 := by omega
   refine Wc.seq (Wc.region rfl ?_)
   refine Wl.box 1 rfl rfl rfl (fun b1 => ?_)
   refine Wl.q rfl (Qy.assign rfl) (Wl.q rfl (Qy.assign rfl) (Wl.done (Ar.next (Wc.seq (Wc.region rfl (Wl.q rfl (Qy.move rfl) (Wl.q rfl (Qy.fieldAddr T.fa55_2 rfl) (Wl.q rfl (Qy.load 1 T.one3 rfl rfl rfl) (Wl.q rfl (Qy.indexAddrO (α := SV) T.sl42 rfl rfl (by assumption) (by omega)) ?_)))))))))
   refine Wl.q rfl (Qy.loadO 0 0 T.one80 rfl rfl (by assumption) (by omega) rfl rfl) ?_
   refine Wl.q rfl (Qy.assign rfl) (Wl.done (Ar.next (Wc.seq (Wc.seq (Wc.region rfl (Wl.q rfl (Qy.fieldAddr T.fa55_0 rfl) (Wl.q rfl (Qy.load 1 T.one3 rfl rfl rfl) (Wl.q rfl (Qy.eql rfl rfl) (Wl.done (Ar.next (Wc.condN rfl (by first | assumption | omega) ?_)))))))))))
   refine Wc.skip (Ar.next (Wc.seq (Wc.seq (Wc.region rfl (Wl.q rfl (Qy.fieldAddr T.fa55_0 rfl) (Wl.q rfl (Qy.load 1 T.one3 rfl rfl rfl) (Wl.q rfl (Qy.eql rfl rfl) (Wl.done (Ar.next (Wc.condN rfl (by first | assumption | omega) ?_))))))))))
   refine Wc.skip (Ar.next (Wc.seq (Wc.seq (Wc.region rfl (Wl.q rfl (Qy.fieldAddr T.fa55_0 rfl) (Wl.q rfl (Qy.load 1 T.one3 rfl rfl rfl) (Wl.q rfl (Qy.eql rfl rfl) (Wl.done (Ar.next (Wc.condN rfl (by first | assumption | omega) ?_))))))))))
   refine Wc.skip (Ar.next (Wc.seq (Wc.seq (Wc.region rfl (Wl.q rfl (Qy.fieldAddr T.fa55_0 rfl) (Wl.q rfl (Qy.load 1 T.one3 rfl rfl rfl) (Wl.q rfl (Qy.eql rfl rfl) (Wl.q rfl (Qy.move rfl) (Wl.no 41 rfl (by first | assumption | omega) ?_)))))))))
   refine Wl.want rfl rfl (Wl.q rfl (Qy.fieldAddr T.fa55_0 rfl) (Wl.want rfl rfl (Wl.q rfl (Qy.load 1 T.one3 rfl rfl rfl) (Wl.want rfl rfl (Wl.q rfl (Qy.eql rfl rfl) (Wl.q rfl (Qy.pick rfl rfl) (Wl.done (Ar.next (Wc.condN rfl (by first | assumption | omega) ?_)))))))))
   refine Wc.skip (Ar.next (Wc.seq (Wc.seq (Wc.region rfl (Wl.q rfl (Qy.fieldAddr T.fa55_0 rfl) (Wl.q rfl (Qy.load 1 T.one3 rfl rfl rfl) (Wl.q rfl (Qy.eql rfl rfl) (Wl.q rfl (Qy.move rfl) (Wl.no 53 rfl (by first | assumption | omega) ?_)))))))))
   refine Wl.want rfl rfl (Wl.q rfl (Qy.fieldAddr T.fa55_0 rfl) (Wl.want rfl rfl (Wl.q rfl (Qy.load 1 T.one3 rfl rfl rfl) (Wl.want rfl rfl (Wl.q rfl (Qy.eql rfl rfl) (Wl.q rfl (Qy.pick rfl rfl) (Wl.done (Ar.next (Wc.condP rfl (by first | assumption | omega) ?_)))))))))
   refine Wc.seq (Wc.region rfl (Wl.q rfl (Qy.move rfl) (Wl.q rfl (Qy.loadAll 1 T.agg55 rfl rfl rfl) ?_)))
   refine Wl.call 2 rfl T.fn103 rfl (c103 _ i hc1 hc2) (tags_of trivial) (fun v1 G1 Ho1 hle1 hp => ?_)
   obtain ⟨ri1, rfl, hri1, rfl⟩ := hp
   replace hg := hg.up hle1
   replace haR := haR.up hle1
   refine Wl.call 2 rfl T.fn104 rfl (row_over _ _ _ _ _ (by assumption) (by assumption) m hm2 (by assumption) (by assumption) hy0 (by assumption)) (tags_of trivial) (fun v2 G2 Ho2 hle2 hp => ?_)
   obtain ⟨rv2, rfl, hrv2, rfl⟩ := hp
   replace hri1 := hri1.up hle2
   replace hg := hg.up hle2
   replace haR := haR.up hle2
   refine Wl.q rfl (Qy.extract rfl rfl) (Wl.q rfl (Qy.extract rfl rfl) (Wl.q rfl (Qy.assign rfl) (Wl.q rfl (Qy.assign rfl) (Wl.done (Ar.next (Wc.ret (Ar.passRet ?_)))))))
   refine Ar.out2 (.inr rfl) (Ho := [(0, o.map (·.block), Row 80 r j)]) rfl (.tmp rfl) (.tmp rfl) ⟨rfl, trivial⟩ ?_
   exact do_overN (by unfold doI; exact (if_neg h2).trans ((if_neg (fun e => h34 (.inl e))).trans ((if_neg (fun e => h34 (.inr e))).trans ((if_neg (by omega)).trans (if_pos (.inr h8)))))) hrv2
end Go.Proofs.YtbppmiimeccclaaDoor
set_option linter.unusedVariables false
namespace Go.Proofs.YtbppmiimeccclaaDoor
open Go Go.Sl
theorem below_map {m k : Nat} {xs : List Int} {f : Int → Int} (h : ∀ x : Int, (x.natAbs : Int) < pw m → ((f x).natAbs : Int) < pw k) (hx : Below m xs) : Below k (xs.map f) := fun z hz => by
 obtain ⟨x, h1, rfl⟩ := List.mem_map.1 hz
 exact h x (hx x h1)
theorem below_zip {m k : Nat} {xs ys : List Int} {f : Int → Int → Int} (h : ∀ x y : Int, (x.natAbs : Int) < pw m → (y.natAbs : Int) < pw m → ((f x y).natAbs : Int) < pw k) (hx : Below m xs) (hy : Below m ys) : Below k (List.zipWith f xs ys) := fun z hz => by
 rw [List.mem_iff_getElem] at hz
 obtain ⟨n, hn, rfl⟩ := hz
 rw [List.getElem_zipWith]
 exact h _ _ (hx _ (List.getElem_mem _)) (hy _ (List.getElem_mem _))
theorem pw_five (m : Nat) : 65536 * pw m ≤ pw (5 + m) := by
 rw [← pw_succ]; exact pw_le (by omega)
theorem doI_even {i : Sl.Instr} {rs : List (List Int)} {m N : Nat} {x : List Int} (he : Even m N rs) (ha : 0 ≤ i.a ∧ i.a < rs.length) (hb : i.op = 3 ∨ i.op = 4 → 0 ≤ i.b ∧ i.b < rs.length)
 (hz : i.op = 5 ∨ i.op = 7 → ((cst i).natAbs : Int) < pw 5) (h : doI i rs = some x) : x.length = N ∧ Below (5 + m) x := by
 obtain ⟨haL, haB⟩ := he.at ha
 have h5 := pw_five m
 have hp := pw_pos m
 unfold doI at h
 simp only at h
 split at h
 · cases h
   exact ⟨by rw [List.length_map]; exact haL, below_map (fun x hx => by omega) haB⟩
 · split at h
   · rename_i h3
     obtain ⟨hbL, hbB⟩ := he.at (hb (.inl h3))
     cases h
     exact ⟨by rw [List.length_zipWith, haL, hbL, Nat.min_self], below_zip (fun x y hx hy => by omega) haB hbB⟩
   · split at h
     · rename_i h4
       obtain ⟨hbL, hbB⟩ := he.at (hb (.inr h4))
       cases h
       exact ⟨by rw [List.length_zipWith, haL, hbL, Nat.min_self], below_zip (fun x y hx hy => by omega) haB hbB⟩
     · split at h
       · rename_i h57
         cases h
         exact ⟨by rw [List.length_map]; exact haL, below_map (fun x hx => mul_lt_pw (hz h57) hx) haB⟩
       · split at h
         · split at h
           · cases h
             refine ⟨by rw [List.length_map]; exact haL, below_map (fun x hx => ?_) haB⟩
             have h1 : (x / cst i).natAbs ≤ x.natAbs := Int.natAbs_ediv_le_natAbs _ _
             omega
           · cases h
         · cases h
           exact ⟨haL, haB.mono (by omega)⟩
theorem even_regs0 {p : PV} {gs : List (List Int)} {m N : Nat} (hg : Even m N gs) (h0 : 0 < gs.length) : Even m N (regs0 p gs) := fun zs hz => by
 unfold regs0 at hz
 obtain ⟨k, hk, rfl⟩ := List.mem_map.1 hz
 have hN := (hg.at (k := 0) (by omega)).1
 split
 · exact hg.at (k := (k : Int)) (by omega)
 · refine ⟨by rw [List.length_replicate]; exact hN, fun z hz => ?_⟩
   rw [List.eq_of_mem_replicate hz]; exact pw_pos m
theorem even_set {m N : Nat} {rs : List (List Int)} {x : List Int} (h : Even m N rs) (hx : x.length = N ∧ Below m x) (k : Nat) : Even m N (rs.set k x) := fun zs hz => by
 rcases List.mem_or_eq_of_mem_set hz with h1 | h1
 · exact h zs h1
 · rw [h1]; exact hx
theorem Even.mono {m k N : Nat} {rs : List (List Int)} (h : Even m N rs) (hk : m ≤ k) : Even k N rs := fun zs hz => ⟨(h zs hz).1, (h zs hz).2.mono hk⟩
end Go.Proofs.YtbppmiimeccclaaDoor
set_option maxRecDepth 100000
set_option linter.unusedVariables false
namespace Go.Proofs.YtbppmiimeccclaaDoor
open Go Go.Sl
set_option maxHeartbeats 4000000
theorem row_next {G : Imm} {r : List SV} {rs : List (List Int)} {k : Nat} {s : SV} (h : ∀ q : Nat, q < k → RowS G (r[q]?.getD default) (rs[q]?.getD [])) (hk : k < r.length) (hs : RowS G s (rs[k]?.getD [])) : ∀ q : Nat, q < k + 1 → RowS G ((r.set k s)[q]?.getD default) (rs[q]?.getD []) := fun q hq => by
 rw [List.getElem?_set]
 by_cases he : k = q
 · subst he; rw [if_pos rfl, if_pos hk]; exact hs
 · rw [if_neg he]; exact h q (by omega)
theorem rows_up {G G' : Imm} {r : List SV} {rs : List (List Int)} {k : Nat} (h : ∀ q : Nat, q < k → RowS G (r[q]?.getD default) (rs[q]?.getD [])) (hl : G.le G') : ∀ q : Nat, q < k → RowS G' (r[q]?.getD default) (rs[q]?.getD []) := fun q hq => (h q hq).up hl
theorem outs_succ {p : PV} {rs : List (List Int)} {q : Nat} (hq : q < p.outs.length) :
 (outsOf p rs).take (q + 1) = (outsOf p rs).take q ++ [rs[(p.outs[((q : Nat) : Int).toNat]?.getD default).toNat]?.getD []] := by
 have h1 : q < (outsOf p rs).length := by unfold outsOf; rw [List.length_map]; exact hq
 have h2 : (outsOf p rs)[q] = rs[(p.outs[q]).toNat]?.getD [] := List.getElem_map _
 rw [List.take_succ_eq_append_getElem h1, h2, Int.toNat_natCast, List.getElem?_eq_getElem hq]; rfl
attribute [local irreducible] valL pw cmpZ p2
theorem c57 (G : Imm) (p : PV) (ac ao ga : Option Addr) (cc co gc : Nat) (gl : List SV) (gs : List (List Int)) (N : Nat) (hc : Arr G ac p.code) (ho : Arr G ao p.outs) (hga : Arr G ga gl) (hgg : Grid G gl gs) (hev : Even 4 N gs) (hN : N ≤ 1048576) (hR : rightP p = true) (hgi : (gl.length : Int) = p.ins) (hcl : p.code.length ≤ 1024) :
 Does Tryd.prog 57 [.agg #[.int .i64 p.ins, .int .i64 p.regs, .slice ac p.code.length cc, .slice ao p.outs.length co], .slice ga gl.length gc] G [] (fun v G' Ho => ∃ sv bad ov, v = .tuple #[sv, .int .i64 bad, ov] ∧ (followP p gs = none → 0 ≤ bad ∧ ov = .slice none 0 0) ∧
  (∀ os, followP p gs = some os → bad = -1 ∧ ∃ (oa : Option Addr) (oc : Nat) (ol : List SV), ov = .slice oa ol.length oc ∧ Arr G' oa ol ∧ Grid G' ol os) ∧ Ho = []) := by
 obtain ⟨f1, f2, f3, f4, f5, f6, f7, f8⟩ := right_facts hR
 have hgl := hgg.1
 obtain ⟨R, hRR⟩ : ∃ R : Nat, p.regs = (R : Int) := ⟨p.regs.toNat, by omega⟩
 refine Does.enter Tryd.func57 rfl Tryd.ntmps57 rfl (fun w => ?_)
 have hM : p.regs.toNat = R := by omega
 have hrl0 := regs0_len p gs
 rw [hM] at hrl0
 have hgl0 : 0 < gl.length := by omega
 have h0R := hgg.at (m := 0) (by omega)
 obtain ⟨h0L, h0B⟩ := hev.at (k := 0) (by omega)
 have h0n : (gl[(0 : Int).toNat]?.getD default).n ≤ 1048576 := by rw [h0R.len, h0L]; exact hN
 refine Wc.seq (Wc.region rfl ?_)
 refine Wl.box 0 rfl rfl rfl (fun b1 => ?_)
 refine Wl.q rfl (Qy.assign rfl) (Wl.q rfl (Qy.assign rfl) (Wl.q rfl (Qy.assign rfl) (Wl.done (Ar.next (Wc.seq (Wc.region rfl (Wl.q rfl (Qy.fieldAddr T.fa25_1 rfl) (Wl.q rfl (Qy.load 0 T.one3 rfl rfl rfl) ?_))))))))
 refine Wl.make (α := SV) 1 rfl T.sl42 T.el80 rfl rfl (by omega) (by omega) (fun b2 => ?_)
 refine Wl.q rfl (Qy.assign rfl) (Wl.done (Ar.next (Wc.seq (Wc.seq (Wc.region rfl (Wl.q rfl (Qy.assign rfl) (Wl.done (Ar.next (Wc.block ?_)))))))))
 rw [hM]
 have hown : ∀ r : List SV, r.length = R → OwnA (some ⟨b2, 0, none⟩) R r [] := fun r hr => .inr ⟨b2, rfl, by rw [hr]; rfl, by omega, by simp only [maxLen]; omega⟩
 refine Wc.re 7 rfl (show _ = Value.slice (some ⟨b2, 0, none⟩) (List.replicate R (default : SV)).length R by rw [List.length_replicate]) ?_
 refine Wc.loopG (ι := Nat × Imm × List SV) (fun (k, Gx, r) => ([(8, .int .i64 (k : Int)), (7, .slice (some ⟨b2, 0, none⟩) r.length R), (6, Go.Value.slice Option.none 0 0), (5, Go.Value.int Go.IntKind.i64 0), (4, Go.Value.slice Option.none 0 0), (2, Go.Value.pointer (Option.some (Go.Addr.mk b1 0 Option.none))), (1, Go.Value.slice ga (List.length gl) gc)], [(1, some b2, Row 80 r []), (0, Option.some b1, Go.Obj.cells #[Go.Value.int Go.IntKind.i64 (PV.ins p), Go.Value.int Go.IntKind.i64 (PV.regs p), Go.Value.slice ac (List.length (PV.code p)) cc, Go.Value.slice ao (List.length (PV.outs p)) co] 25)])) (fun (k, Gx, r) => Gx) (fun (k, Gx, r) => k ≤ R ∧ G.le Gx ∧ r.length = R ∧ ∀ q : Nat, q < k → RowS Gx (r[q]?.getD default) ((regs0 p gs)[q]?.getD [])) (fun (k, Gx, r) => R - k) ((0, G, List.replicate R (default : SV))) (⟨Nat.zero_le _, Imm.le_refl _, List.length_replicate, fun q hq => by omega⟩) rfl ⟨rfl, rfl, rfl, rfl, rfl, rfl, rfl, trivial⟩ ⟨rfl, rfl, trivial⟩ (fun ⟨k, Gx, r⟩ => fun (hk : k ≤ R ∧ G.le Gx ∧ r.length = R ∧ ∀ q : Nat, q < k → RowS Gx (r[q]?.getD default) ((regs0 p gs)[q]?.getD [])) => ?_)
 obtain ⟨hk0, hgx, hrR, hrow⟩ := hk
 replace hc := hc.up hgx
 replace ho := ho.up hgx
 replace hga := hga.up hgx
 replace hgg := hgg.up hgx
 have hor := hown r hrR
 rcases Nat.lt_or_ge k R with hkR | hkR
 · by_cases hkg : k < gl.length
   · refine Wc.seq (Wc.seq (Wc.region rfl (Wl.q rfl (Qy.move rfl) (Wl.q rfl (Qy.fieldAddr T.fa25_1 rfl) (Wl.q rfl (Qy.load 0 T.one3 rfl rfl rfl) (Wl.q rfl (Qy.lss rfl rfl) (Wl.done (Ar.next (Wc.condP rfl (by first | assumption | omega) ?_)))))))))
     refine Wc.skip (Ar.next (Wc.seq (Wc.block (Wc.seq (Wc.region rfl (Wl.q rfl (Qy.move rfl) (Wl.q rfl (Qy.move rfl) (Wl.q rfl (Qy.move rfl) (Wl.q rfl (Qy.at (α := SV) T.sl42 rfl rfl (by assumption) (by omega)) ?_)))))))))
     refine Wl.q rfl (Qy.loadG T.one80 rfl (Arr.cell (by assumption) (by omega) 0 rfl rfl)) ?_
     refine Wl.q rfl (Qy.len T.sl80 rfl) ?_
     refine Wl.call 2 rfl T.fn83 rfl (c83 _ _ (by assumption)) (tags_of trivial) (fun v1 G1 Ho1 hle1 hp => ?_)
     obtain ⟨⟨zo1, zc1, zl1, rfl, hzA1, hzN1, hzl1⟩, rfl⟩ := hp
     replace hc := hc.up hle1
     replace ho := ho.up hle1
     replace hga := hga.up hle1
     replace hgg := hgg.up hle1
     refine Wl.q rfl (Qy.indexAddrO (α := SV) T.sl42 rfl rfl (by assumption) (by omega)) ?_
     refine Wl.setO (z := ⟨zo1, zl1.length, zc1⟩) 1 T.size80 rfl rfl rfl (by assumption) (by omega) rfl (fun ho1 => ?_)
     refine Wl.done (Ar.next (Wc.seq (Wc.region rfl (Wl.q rfl (Qy.move rfl) (Wl.q rfl (Qy.move rfl) (Wl.q rfl (Qy.len T.sl42 rfl) (Wl.q rfl (Qy.lss rfl rfl) (Wl.done (Ar.next (Wc.condP rfl (by first | assumption | omega) ?_))))))))))
     refine Wc.region rfl (Wl.q rfl (Qy.move rfl) (Wl.q rfl (Qy.move rfl) (Wl.q rfl (Qy.move rfl) (Wl.q rfl (Qy.move rfl) (Wl.q rfl (Qy.at (α := SV) T.sl42 rfl rfl (by assumption) (by omega)) ?_)))))
     refine Wl.q rfl (Qy.loadG T.one80 rfl (Arr.cell (by assumption) (by omega) 0 rfl rfl)) ?_
     refine Wl.q rfl (Qy.indexAddrO (α := SV) T.sl42 rfl rfl (by assumption) (by omega)) ?_
     refine Wl.setO (z := gl[((k : Nat) : Int).toNat]?.getD default) 1 T.size80 rfl rfl rfl (by assumption) (by rw [List.length_set]; omega) rfl (fun ho2 => ?_)
     refine Wl.done ?_
     refine Ar.outNormal ?_
     refine Ar.next (Wc.region rfl (Wl.q rfl (Qy.move rfl) (Wl.q rfl (Qy.add rfl rfl (by omega)) ?_)))
     refine Wl.q rfl (Qy.assign rfl) (Wl.done ?_)
     rw [Int.toNat_natCast, List.set_set]
     refine Ar.re 7 rfl (show _ = Value.slice (some ⟨b2, 0, none⟩) (r.set k (gl[k]?.getD default)).length R by rw [List.length_set]) ?_
     refine Ar.again ((k + 1, G1, r.set k (gl[k]?.getD default))) ?_ ?_ rfl ⟨rfl, rfl, rfl, rfl, rfl, rfl, rfl, trivial⟩ ⟨rfl, rfl, trivial⟩
     · refine ⟨by omega, Imm.le_trans hgx hle1, by rw [List.length_set]; exact hrR, row_next (rows_up hrow hle1) (by omega) ?_⟩
       rw [regs0_at (by omega), if_pos (by omega)]
       exact hgg.2 k hkg
     · show R - (k + 1) < R - k
       omega
   · refine Wc.seq (Wc.seq (Wc.region rfl (Wl.q rfl (Qy.move rfl) (Wl.q rfl (Qy.fieldAddr T.fa25_1 rfl) (Wl.q rfl (Qy.load 0 T.one3 rfl rfl rfl) (Wl.q rfl (Qy.lss rfl rfl) (Wl.done (Ar.next (Wc.condP rfl (by first | assumption | omega) ?_)))))))))
     refine Wc.skip (Ar.next (Wc.seq (Wc.block (Wc.seq (Wc.region rfl (Wl.q rfl (Qy.move rfl) (Wl.q rfl (Qy.move rfl) (Wl.q rfl (Qy.move rfl) (Wl.q rfl (Qy.at (α := SV) T.sl42 rfl rfl (by assumption) (by omega)) ?_)))))))))
     refine Wl.q rfl (Qy.loadG T.one80 rfl (Arr.cell (by assumption) (by omega) 0 rfl rfl)) ?_
     refine Wl.q rfl (Qy.len T.sl80 rfl) ?_
     refine Wl.call 2 rfl T.fn83 rfl (c83 _ _ (by assumption)) (tags_of trivial) (fun v1 G1 Ho1 hle1 hp => ?_)
     obtain ⟨⟨zo1, zc1, zl1, rfl, hzA1, hzN1, hzl1⟩, rfl⟩ := hp
     replace hc := hc.up hle1
     replace ho := ho.up hle1
     replace hga := hga.up hle1
     replace hgg := hgg.up hle1
     refine Wl.q rfl (Qy.indexAddrO (α := SV) T.sl42 rfl rfl (by assumption) (by omega)) ?_
     refine Wl.setO (z := ⟨zo1, zl1.length, zc1⟩) 1 T.size80 rfl rfl rfl (by assumption) (by omega) rfl (fun ho1 => ?_)
     refine Wl.done (Ar.next (Wc.seq (Wc.region rfl (Wl.q rfl (Qy.move rfl) (Wl.q rfl (Qy.move rfl) (Wl.q rfl (Qy.len T.sl42 rfl) (Wl.q rfl (Qy.lss rfl rfl) (Wl.done (Ar.next (Wc.condN rfl (by first | assumption | omega) ?_))))))))))
     refine Wc.skip ?_
     refine Ar.outNormal ?_
     refine Ar.next (Wc.region rfl (Wl.q rfl (Qy.move rfl) (Wl.q rfl (Qy.add rfl rfl (by omega)) ?_)))
     refine Wl.q rfl (Qy.assign rfl) (Wl.done ?_)
     rw [Int.toNat_natCast]
     refine Ar.re 7 rfl (show _ = Value.slice (some ⟨b2, 0, none⟩) (r.set k (⟨zo1, zl1.length, zc1⟩ : SV)).length R by rw [List.length_set]) ?_
     refine Ar.again ((k + 1, G1, r.set k (⟨zo1, zl1.length, zc1⟩ : SV))) ?_ ?_ rfl ⟨rfl, rfl, rfl, rfl, rfl, rfl, rfl, trivial⟩ ⟨rfl, rfl, trivial⟩
     · refine ⟨by omega, Imm.le_trans hgx hle1, by rw [List.length_set]; exact hrR, row_next (rows_up hrow hle1) (by omega) ?_⟩
       rw [regs0_at (by omega), if_neg (by omega)]
       refine ⟨zl1, rfl, hzl1, hzA1, ?_⟩
       have e := hzN1
       rw [h0R.len] at e
       exact e
     · show R - (k + 1) < R - k
       omega
 · have hg0 : Grid Gx r (regs0 p gs) := ⟨by omega, fun q hq => hrow q (by omega)⟩
   have he0 : Even 4 N (regs0 p gs) := even_regs0 hev (by omega)
   refine Wc.seq (Wc.seq (Wc.region rfl (Wl.q rfl (Qy.move rfl) (Wl.q rfl (Qy.fieldAddr T.fa25_1 rfl) (Wl.q rfl (Qy.load 0 T.one3 rfl rfl rfl) (Wl.q rfl (Qy.lss rfl rfl) (Wl.done (Ar.next (Wc.condN rfl (by first | assumption | omega) ?_)))))))))
   refine Wc.exit (Ar.passExit ?_)
   refine Ar.passExit ?_
   refine Ar.here ?_
   refine Ar.next (Wc.seq (Wc.region rfl (Wl.q rfl (Qy.assign rfl) (Wl.done (Ar.next (Wc.seq (Wc.seq (Wc.region rfl (Wl.q rfl (Qy.assign rfl) (Wl.done (Ar.next (Wc.block (Wc.nilRow 3 (Row 80 ([] : List SV) []) ?_)))))))))))))
   refine Wc.loopG (ι := Nat × Imm × List SV × List (List Int) × List SV × (Option Addr × Nat × List Value)) (fun (i, Gy, r2, rs, st, (o, d, j)) => ([(10, .int .i64 (i : Int)), (9, .slice o st.length d), (7, .slice (some ⟨b2, 0, none⟩) r2.length R), (2, Go.Value.pointer (Option.some (Go.Addr.mk b1 0 Option.none)))], [(3, o.map (·.block), Row 80 st j), (1, some b2, Row 80 r2 []), (0, Option.some b1, Go.Obj.cells #[Go.Value.int Go.IntKind.i64 (PV.ins p), Go.Value.int Go.IntKind.i64 (PV.regs p), Go.Value.slice ac (List.length (PV.code p)) cc, Go.Value.slice ao (List.length (PV.outs p)) co] 25)])) (fun (i, Gy, r2, rs, st, (o, d, j)) => Gy) (fun (i, Gy, r2, rs, st, (o, d, j)) => i ≤ p.code.length ∧ Gx.le Gy ∧ r2.length = R ∧ Grid Gy r2 rs ∧ Even (4 + 5 * i) N rs ∧ runTo p gs i = some rs ∧ OwnA o d st j ∧ st.length = i) (fun (i, Gy, r2, rs, st, (o, d, j)) => p.code.length - i) ((0, Gx, r, regs0 p gs, [], (none, 0, []))) (⟨Nat.zero_le _, Imm.le_refl _, hrR, hg0, he0, rfl, OwnA.nil, rfl⟩) rfl ⟨rfl, rfl, rfl, rfl, trivial⟩ ⟨rfl, rfl, rfl, trivial⟩ (fun ⟨i, Gy, r2, rs, st, (o, d, j)⟩ => fun (hk : i ≤ p.code.length ∧ Gx.le Gy ∧ r2.length = R ∧ Grid Gy r2 rs ∧ Even (4 + 5 * i) N rs ∧ runTo p gs i = some rs ∧ OwnA o d st j ∧ st.length = i) => ?_)
   obtain ⟨hi0, hgy, hr2, hg2, he2, hrun, hob, hst⟩ := hk
   replace hc := hc.up hgy
   replace ho := ho.up hgy
   have hor2 := hown r2 hr2
   have hg2l := hg2.1
   rcases Nat.lt_or_ge i p.code.length with hic | hic
   · have hmem : (p.code[((i : Nat) : Int).toNat]?.getD default) ∈ p.code := by
      rw [Int.toNat_natCast, List.getElem?_eq_getElem hic]; exact List.getElem_mem hic
     obtain ⟨m1, m2, m3, m4, m5, m6, m7, m8⟩ := may_facts (f8 _ hmem)
     have m3' : 0 ≤ (p.code[((i : Nat) : Int).toNat]?.getD default).a ∧ (p.code[((i : Nat) : Int).toNat]?.getD default).a < r2.length := by omega
     have m2' : 0 ≤ (p.code[((i : Nat) : Int).toNat]?.getD default).to ∧ (p.code[((i : Nat) : Int).toNat]?.getD default).to < r2.length := by omega
     have he9 := Even.at he2 (k := (p.code[((i : Nat) : Int).toNat]?.getD default).a) (by omega)
     obtain ⟨ci, hci⟩ : ∃ ci, ci = p.code[((i : Nat) : Int).toNat]?.getD default := ⟨_, rfl⟩
     refine Wc.seq (Wc.seq (Wc.region rfl (Wl.q rfl (Qy.move rfl) (Wl.q rfl (Qy.fieldAddr T.fa25_2 rfl) (Wl.q rfl (Qy.load 0 T.one22 rfl rfl rfl) (Wl.q rfl (Qy.len T.sl22 rfl) (Wl.q rfl (Qy.lss rfl rfl) (Wl.done (Ar.next (Wc.condP rfl (by first | assumption | omega) ?_))))))))))
     refine Wc.skip (Ar.next (Wc.seq (Wc.block (Wc.seq (Wc.region rfl (Wl.q rfl (Qy.fieldAddr T.fa25_2 rfl) (Wl.q rfl (Qy.load 0 T.one22 rfl rfl rfl) (Wl.q rfl (Qy.move rfl) (Wl.q rfl (Qy.at (α := Sl.Instr) T.sl22 rfl rfl (by assumption) (by omega)) ?_)))))))))
     refine Wl.q rfl (Qy.loadsG T.agg55 rfl (Arr.elem (by assumption) (by omega)) rfl) ?_
     refine Wl.q rfl (Qy.move rfl) ?_
     refine Wl.call 1 rfl T.fn84 rfl (c84 _ (p.code[((i : Nat) : Int).toNat]?.getD default) (some ⟨b2, 0, none⟩) R r2 [] rs (4 + 5 * i) N hor2 hg2 he2 hN (by omega) m1 m3' (fun h => by have := m4 h; omega) m5 (by omega) m6 m7 m8) (tags_of ⟨rfl, trivial⟩) (fun v1 G1 Ho1 hle1 hp => ?_)
     obtain ⟨rv, rfl, hrv, rfl⟩ := hp
     by_cases hd : doI (p.code[((i : Nat) : Int).toNat]?.getD default) rs = none
     · have hd2 : ¬ doI (p.code[((i : Nat) : Int).toNat]?.getD default) rs ≠ none := fun h => h hd
       refine Wl.q rfl (Qy.move rfl) (Wl.q rfl (Qy.extract rfl rfl) (Wl.q rfl (Qy.extract rfl rfl) (Wl.q rfl (Qy.assign rfl) (Wl.q rfl (Qy.assign rfl) (Wl.done (Ar.next (Wc.seq (Wc.seq (Wc.region rfl (Wl.q rfl (Qy.move rfl) (Wl.q rfl (Qy.notD rfl) (Wl.done (Ar.next (Wc.condP rfl (by first | assumption | omega) ?_))))))))))))))
       refine Wc.seq (Wc.region rfl (Wl.q rfl (Qy.move rfl) (Wl.q rfl (Qy.move rfl) (Wl.q rfl (Qy.assign rfl) (Wl.q rfl (Qy.assign rfl) (Wl.q rfl (Qy.assign rfl) (Wl.done (Ar.next (Wc.ret (Ar.passRet ?_))))))))))
       refine Ar.outRet ?_
       refine Ar.passRet ?_
       refine Ar.passRet ?_
       refine Ar.outRet ?_
       refine Ar.passRet ?_
       refine Ar.out3 (.inr rfl) (Ho := []) rfl (.tmp rfl) (.tmp rfl) (.tmp rfl) trivial ?_
       have hfn := runTo_stop hrun hd hic
       exact ⟨_, (i : Int), _, rfl, fun _ => ⟨Int.natCast_nonneg i, rfl⟩, fun os h => (by rw [hfn] at h; cases h), rfl⟩
     · obtain ⟨zs, hzs⟩ := Option.ne_none_iff_exists'.1 hd
       obtain ⟨s, rfl, hs⟩ := hrv zs hzs
       have hok : doI (p.code[((i : Nat) : Int).toNat]?.getD default) rs ≠ none := hd
       replace hc := hc.up hle1
       replace ho := ho.up hle1
       replace hg2 := hg2.up hle1
       refine Wl.q rfl (Qy.move rfl) (Wl.q rfl (Qy.extract rfl rfl) (Wl.q rfl (Qy.extract rfl rfl) (Wl.q rfl (Qy.assign rfl) (Wl.q rfl (Qy.assign rfl) (Wl.done (Ar.next (Wc.seq (Wc.seq (Wc.region rfl (Wl.q rfl (Qy.move rfl) (Wl.q rfl (Qy.notD rfl) (Wl.done (Ar.next ?_)))))))))))))
       refine Wc.cond rfl (fun hc1 => ?_) (fun hc1 => ?_)
       refine Wc.seq (Wc.region rfl (Wl.q rfl (Qy.move rfl) (Wl.q rfl (Qy.move rfl) (Wl.q rfl (Qy.assign rfl) (Wl.q rfl (Qy.assign rfl) (Wl.q rfl (Qy.assign rfl) (Wl.done (Ar.next (Wc.ret (Ar.passRet ?_))))))))))
       refine Ar.outRet ?_
       refine Ar.passRet ?_
       refine Ar.passRet ?_
       refine Ar.outRet ?_
       refine Ar.passRet ?_
       rotate_left
       refine Wc.skip (Ar.next (Wc.seq (Wc.region rfl (Wl.q rfl (Qy.move rfl) (Wl.q rfl (Qy.fieldAddr T.fa25_2 rfl) (Wl.q rfl (Qy.load 0 T.one22 rfl rfl rfl) (Wl.q rfl (Qy.move rfl) (Wl.q rfl (Qy.at (α := Sl.Instr) T.sl22 rfl rfl (by assumption) (by omega)) ?_))))))))
       refine Wl.q rfl (Qy.fieldAddr T.fa55_1 rfl) (Wl.q rfl (Qy.loadG T.one3 rfl (Arr.cell (by assumption) (by omega) 1 rfl rfl)) ?_)
       refine Wl.q rfl (Qy.move rfl) (Wl.q rfl (Qy.indexAddrO (α := SV) T.sl42 rfl rfl (by assumption) (by omega)) ?_)
       refine Wl.setO (z := _) 1 T.size80 rfl rfl rfl (by assumption) (by omega) rfl (fun ho1 => ?_)
       refine Wl.done (Ar.next (Wc.region rfl (Wl.q rfl (Qy.move rfl) (Wl.q rfl (Qy.move rfl) ?_))))
       refine Wl.lit (α := SV) 4 [⟨_, _, _⟩] rfl T.sl42 T.el80 rfl rfl rfl rfl rfl (fun b3 => ?_)
       refine Wl.append (α := SV) 3 rfl T.sl42 T.el80 rfl rfl rfl (by first | assumption | exact OwnA.nil | exact OwnA.made (by simp)) (Src.row 4 rfl) (by first | omega | (simp only [List.length_append, List.length_cons, List.length_nil, maxLen]; omega)) (by first | omega | (simp only [List.length_append, List.length_cons, List.length_nil, maxLen]; omega)) (fun a2 c2 junk2 ho2 => ?_)
       refine Wl.q rfl (Qy.assign rfl) (Wl.done ?_)
       refine Ar.outNormal ?_
       refine Ar.next (Wc.region rfl (Wl.q rfl (Qy.move rfl) (Wl.q rfl (Qy.add rfl rfl (by omega)) ?_)))
       refine Wl.q rfl (Qy.assign rfl) (Wl.done ?_)
       rotate_left
       · exact absurd hok hc1
       · refine Ar.re 7 rfl (show _ = Value.slice (some ⟨b2, 0, none⟩) (r2.set (p.code[((i : Nat) : Int).toNat]?.getD default).to.toNat s).length R by rw [List.length_set]) ?_
         refine Ar.again ((i + 1, G1, r2.set (p.code[((i : Nat) : Int).toNat]?.getD default).to.toNat s, rs.set (p.code[((i : Nat) : Int).toNat]?.getD default).to.toNat zs, st ++ [s], (a2, c2, junk2))) ?_ ?_ rfl ⟨rfl, rfl, rfl, rfl, trivial⟩ ⟨rfl, rfl, rfl, trivial⟩
         · have hx := doI_even (i := p.code[((i : Nat) : Int).toNat]?.getD default) he2 (by omega) (fun h => by have := m4 h; omega) (fun h => (m6 (by omega) (by omega) (by omega) (by omega)).2) hzs
           refine ⟨by omega, Imm.le_trans hgy hle1, by rw [List.length_set]; exact hr2, hg2.set _ hs, ?_, runTo_succ (x := []) hrun hzs, by assumption, by rw [List.length_append]; show st.length + 1 = i + 1; omega⟩
           rw [show 4 + 5 * (i + 1) = 5 + (4 + 5 * i) by omega]
           exact even_set (he2.mono (by omega)) hx _
         · show p.code.length - (i + 1) < p.code.length - i
           omega
   · have hie : i = p.code.length := by omega
     subst hie
     have hfo : followP p gs = some (outsOf p rs) := by unfold followP; rw [hrun]; rfl
     have hol : (outsOf p rs).length = p.outs.length := by unfold outsOf; rw [List.length_map]
     refine Wc.seq (Wc.seq (Wc.region rfl (Wl.q rfl (Qy.move rfl) (Wl.q rfl (Qy.fieldAddr T.fa25_2 rfl) (Wl.q rfl (Qy.load 0 T.one22 rfl rfl rfl) (Wl.q rfl (Qy.len T.sl22 rfl) (Wl.q rfl (Qy.lss rfl rfl) (Wl.done (Ar.next (Wc.condN rfl (by first | assumption | omega) ?_))))))))))
     refine Wc.exit (Ar.passExit ?_)
     refine Ar.passExit ?_
     refine Ar.here ?_
     refine Ar.next (Wc.seq (Wc.region rfl (Wl.q rfl (Qy.assign rfl) (Wl.done (Ar.next (Wc.seq (Wc.seq (Wc.region rfl (Wl.q rfl (Qy.assign rfl) (Wl.done (Ar.next (Wc.block (Wc.nilRow 4 (Row 80 ([] : List SV) []) ?_)))))))))))))
     refine Wc.loop (ι := Nat × List SV × (Option Addr × Nat × List Value)) (fun (q, ol, (oo, od, oj)) => ([(14, .int .i64 (q : Int)), (13, .slice oo ol.length od), (9, Go.Value.slice o (List.length st) d), (7, Go.Value.slice (Option.some (Go.Addr.mk b2 0 Option.none)) (List.length r2) R), (2, Go.Value.pointer (Option.some (Go.Addr.mk b1 0 Option.none)))], [(4, oo.map (·.block), Row 80 ol oj), (3, Option.map (fun x => Go.Addr.block x) o, Go.Sl.Row (α := Go.Sl.SV) 80 (st) (j)), (1, Option.some b2, Go.Sl.Row (α := Go.Sl.SV) 80 (r2) ([])), (0, Option.some b1, Go.Obj.cells #[Go.Value.int Go.IntKind.i64 (PV.ins p), Go.Value.int Go.IntKind.i64 (PV.regs p), Go.Value.slice ac (List.length (PV.code p)) cc, Go.Value.slice ao (List.length (PV.outs p)) co] 25)])) (fun (q, ol, (oo, od, oj)) => q ≤ p.outs.length ∧ ol.length = q ∧ Grid Gy ol ((outsOf p rs).take q) ∧ OwnA oo od ol oj) (fun (q, ol, (oo, od, oj)) => p.outs.length - q) ((0, [], (none, 0, []))) (⟨Nat.zero_le _, rfl, by rw [List.take_zero]; exact Grid.nil _, OwnA.nil⟩) ⟨rfl, rfl, rfl, rfl, rfl, trivial⟩ ⟨rfl, rfl, rfl, rfl, trivial⟩ (fun ⟨q, ol, (oo, od, oj)⟩ => fun (hk : q ≤ p.outs.length ∧ ol.length = q ∧ Grid Gy ol ((outsOf p rs).take q) ∧ OwnA oo od ol oj) => ?_)
     obtain ⟨hq0, hql, hqg, hqo⟩ := hk
     rcases Nat.lt_or_ge q p.outs.length with hqc | hqc
     · have hmem : (p.outs[((q : Nat) : Int).toNat]?.getD default) ∈ p.outs := by
        rw [Int.toNat_natCast, List.getElem?_eq_getElem hqc]; exact List.getElem_mem hqc
       have hrr := f7 _ hmem
       have hrr2 : 0 ≤ (p.outs[((q : Nat) : Int).toNat]?.getD default) ∧ (p.outs[((q : Nat) : Int).toNat]?.getD default) < r2.length := by omega
       have hss := hg2.at hrr2
       refine Wc.seq (Wc.seq (Wc.region rfl (Wl.q rfl (Qy.move rfl) (Wl.q rfl (Qy.fieldAddr T.fa25_3 rfl) (Wl.q rfl (Qy.load 0 T.one23 rfl rfl rfl) (Wl.q rfl (Qy.len T.sl23 rfl) (Wl.q rfl (Qy.lss rfl rfl) (Wl.done (Ar.next (Wc.condP rfl (by first | assumption | omega) ?_))))))))))
       refine Wc.skip (Ar.next (Wc.seq (Wc.block (Wc.region rfl (Wl.q rfl (Qy.move rfl) (Wl.q rfl (Qy.move rfl) (Wl.q rfl (Qy.fieldAddr T.fa25_3 rfl) (Wl.q rfl (Qy.load 0 T.one23 rfl rfl rfl) (Wl.q rfl (Qy.move rfl) (Wl.q rfl (Qy.at (α := Int) T.sl23 rfl rfl (by assumption) (by omega)) ?_))))))))))
       refine Wl.q rfl (Qy.loadG T.one3 rfl (Arr.cell (by assumption) (by omega) 0 rfl rfl)) ?_
       refine Wl.q rfl (Qy.indexAddrO (α := SV) T.sl42 rfl rfl (by assumption) (by omega)) ?_
       refine Wl.q rfl (Qy.loadO 1 0 T.one80 rfl rfl (by assumption) (by omega) rfl rfl) ?_
       refine Wl.lit (α := SV) 5 [⟨_, _, _⟩] rfl T.sl42 T.el80 rfl rfl rfl rfl rfl (fun b3 => ?_)
       refine Wl.append (α := SV) 4 rfl T.sl42 T.el80 rfl rfl rfl (by first | assumption | exact OwnA.nil | exact OwnA.made (by simp)) (Src.row 5 rfl) (by first | omega | (simp only [List.length_append, List.length_cons, List.length_nil, maxLen]; omega)) (by first | omega | (simp only [List.length_append, List.length_cons, List.length_nil, maxLen]; omega)) (fun a1 c1 junk1 ho1 => ?_)
       refine Wl.q rfl (Qy.assign rfl) (Wl.done ?_)
       refine Ar.outNormal ?_
       refine Ar.next (Wc.region rfl (Wl.q rfl (Qy.move rfl) (Wl.q rfl (Qy.add rfl rfl (by omega)) ?_)))
       refine Wl.q rfl (Qy.assign rfl) (Wl.done ?_)
       refine Ar.again ((q + 1, ol ++ [r2[(p.outs[((q : Nat) : Int).toNat]?.getD default).toNat]?.getD default], (a1, c1, junk1))) ?_ ?_ rfl ⟨rfl, rfl, rfl, rfl, rfl, trivial⟩ ⟨rfl, rfl, rfl, rfl, trivial⟩
       · exact ⟨by omega, by rw [List.length_append]; show ol.length + 1 = q + 1; omega, by rw [outs_succ hqc]; exact hqg.snoc hss, by assumption⟩
       · show p.outs.length - (q + 1) < p.outs.length - q
         omega
     · refine Wc.seq (Wc.seq (Wc.region rfl (Wl.q rfl (Qy.move rfl) (Wl.q rfl (Qy.fieldAddr T.fa25_3 rfl) (Wl.q rfl (Qy.load 0 T.one23 rfl rfl rfl) (Wl.q rfl (Qy.len T.sl23 rfl) (Wl.q rfl (Qy.lss rfl rfl) (Wl.done (Ar.next (Wc.condN rfl (by first | assumption | omega) ?_))))))))))
       refine Wc.exit (Ar.passExit ?_)
       refine Ar.passExit ?_
       refine Ar.here ?_
       refine Ar.next (Wc.seq (Wc.region rfl (Wl.q rfl (Qy.move rfl) (Wl.q rfl (Qy.move rfl) (Wl.q rfl (Qy.assign rfl) (Wl.q rfl (Qy.assign rfl) (Wl.q rfl (Qy.assign rfl) (Wl.done (Ar.next (Wc.ret ?_))))))))))
       rw [List.take_of_length_le (by omega)] at hqg
       refine Ar.freezeRow 4 rfl hqo (fun G9 hle9 hA => ?_)
       refine Ar.out3 (.inr rfl) (Ho := []) rfl (.tmp rfl) (.tmp rfl) (.tmp rfl) trivial ?_
       exact ⟨_, -1, _, rfl, fun h => (by rw [hfo] at h; cases h), fun os h => (by rw [hfo] at h; cases h; exact ⟨rfl, oo, od, ol, rfl, hA, hqg.up hle9⟩), rfl⟩
end Go.Proofs.YtbppmiimeccclaaDoor
set_option maxRecDepth 100000
set_option linter.unusedVariables false
namespace Go.Proofs.YtbppmiimeccclaaDoor
open Go Go.Sl
set_option maxHeartbeats 4000000
def IRow (G : Imm) (s : SV) (l : List Int) : Prop := l.length = s.n ∧ Arr G s.a l ∧ ∀ x ∈ l, -9223372036854775808 ≤ x ∧ x ≤ 9223372036854775807
theorem IRow.up {G G' : Imm} {s : SV} {l : List Int} (h : IRow G s l) (hl : G.le G') : IRow G' s l := ⟨h.1, h.2.1.up hl, h.2.2⟩
def IGrid (G : Imm) (gl : List SV) (ls : List (List Int)) : Prop := gl.length = ls.length ∧ ∀ i : Nat, i < gl.length → IRow G (gl[i]?.getD default) (ls[i]?.getD [])
theorem IGrid.up {G G' : Imm} {gl : List SV} {ls : List (List Int)} (h : IGrid G gl ls) (hl : G.le G') : IGrid G' gl ls := ⟨h.1, fun i hi => (h.2 i hi).up hl⟩
theorem IGrid.at {G : Imm} {gl : List SV} {ls : List (List Int)} (h : IGrid G gl ls) {m : Int} (hm : 0 ≤ m ∧ m < gl.length) : IRow G (gl[m.toNat]?.getD default) (ls[m.toNat]?.getD []) := h.2 _ (by omega)
theorem follow_none (G : Imm) (p : PV) (ac ao ga : Option Addr) (cc co gc : Nat) (gl : List SV) (gs : List (List Int)) (N : Nat) (hc : Arr G ac p.code) (ho : Arr G ao p.outs) (hga : Arr G ga gl) (hgg : Grid G gl gs) (hev : Even 4 N gs) (hN : N ≤ 1048576) (hR : rightP p = true) (hgi : (gl.length : Int) = p.ins) (hcl : p.code.length ≤ 1024) (hf : followP p gs = none) :
 Does Tryd.prog 57 [.agg #[.int .i64 p.ins, .int .i64 p.regs, .slice ac p.code.length cc, .slice ao p.outs.length co], .slice ga gl.length gc] G [] (fun v G' Ho => ∃ sv bad, v = .tuple #[sv, .int .i64 bad, .slice none 0 0] ∧ 0 ≤ bad ∧ Ho = []) := by
 refine (c57 G p ac ao ga cc co gc gl gs N hc ho hga hgg hev hN hR hgi hcl).mono fun v G' Ho _ ⟨sv, bad, ov, e, h1, h2, h3⟩ => ?_
 obtain ⟨e1, e2⟩ := h1 hf
 subst e2
 exact ⟨sv, bad, e, e1, h3⟩
theorem follow_some (G : Imm) (p : PV) (ac ao ga : Option Addr) (cc co gc : Nat) (gl : List SV) (gs : List (List Int)) (N : Nat) (hc : Arr G ac p.code) (ho : Arr G ao p.outs) (hga : Arr G ga gl) (hgg : Grid G gl gs) (hev : Even 4 N gs) (hN : N ≤ 1048576) (hR : rightP p = true) (hgi : (gl.length : Int) = p.ins) (hcl : p.code.length ≤ 1024) (os : List (List Int)) (hf : followP p gs = some os) :
 Does Tryd.prog 57 [.agg #[.int .i64 p.ins, .int .i64 p.regs, .slice ac p.code.length cc, .slice ao p.outs.length co], .slice ga gl.length gc] G [] (fun v G' Ho => ∃ sv oa oc ol, v = .tuple #[sv, .int .i64 (-1), .slice oa ol.length oc] ∧ Arr G' oa ol ∧ Grid G' ol os ∧ Ho = []) := by
 refine (c57 G p ac ao ga cc co gc gl gs N hc ho hga hgg hev hN hR hgi hcl).mono fun v G' Ho _ ⟨sv, bad, ov, e, h1, h2, h3⟩ => ?_
 obtain ⟨e1, oa, oc, ol, e2, e3, e4⟩ := h2 os hf
 subst e1 e2
 exact ⟨sv, oa, oc, ol, e, e3, e4, h3⟩
theorem take_nextN {l : List Int} {k : Nat} (h : k < l.length) : l.take (k + 1) = l.take k ++ [l[((k : Nat) : Int).toNat]?.getD default] := by
 rw [List.take_succ_eq_append_getElem h, Int.toNat_natCast, List.getElem?_eq_getElem h]; rfl
theorem ls_next {l : List (List Int)} {k : Nat} (h : k < l.length) : l.take (k + 1) = l.take k ++ [l[((k : Nat) : Int).toNat]?.getD []] := by
 rw [List.take_succ_eq_append_getElem h, Int.toNat_natCast, List.getElem?_eq_getElem h]; rfl
theorem pw4 : pw 4 = 18446744073709551616 := by decide
theorem follow_len {p : PV} {gs os : List (List Int)} (h : followP p gs = some os) : os.length = p.outs.length := by
 unfold followP at h
 obtain ⟨rs, h1, h2⟩ := Option.map_eq_some_iff.1 h
 subst h2
 unfold outsOf; rw [List.length_map]
theorem row_same (G : Imm) (s t : SV) (xs ys : List Int) (hs : RowS G s xs) (ht : RowS G t ys) (m : Nat) (hm : m ≤ 1073741824) (bx : Below m xs) (by' : Below m ys) (h1 : s.n ≤ 1048576) (h2 : t.n ≤ 1048576) :
 Does Tryd.prog 58 [.slice s.a s.n s.c, .slice t.a t.n t.c] G [] (fun v G' Ho => v = .bool (decide (xs = ys)) ∧ G' = G ∧ Ho = []) := by
 obtain ⟨sa, sn, sc⟩ := s
 obtain ⟨ta, tn, tc⟩ := t
 obtain ⟨l, hl, hc, hA, hN⟩ := hs
 obtain ⟨l', hl', hc', hA', hN'⟩ := ht
 simp only at hl hc hA h1 hl' hc' hA' h2
 subst hl hl'
 exact c58 G sa ta sc tc l l' xs ys hA hA' hN hN' m hm bx by' (by omega) (by omega)
theorem run_even {p : PV} {gs : List (List Int)} {N : Nat} (hR : rightP p = true) (hev : Even 4 N gs) (h0 : 0 < gs.length) : ∀ (k : Nat) (rs : List (List Int)), k ≤ p.code.length → runTo p gs k = some rs → Even (4 + 5 * k) N rs ∧ rs.length = p.regs.toNat
 | 0, rs, _, h => by
   cases h
   exact ⟨even_regs0 hev h0, regs0_len p gs⟩
 | k + 1, rs, hk, h => by
   obtain ⟨f1, f2, f3, f4, f5, f6, f7, f8⟩ := right_facts hR
   unfold runTo at h
   obtain ⟨rs0, h1, h2⟩ := Option.bind_eq_some_iff.1 h
   obtain ⟨y, h3, h4⟩ := Option.map_eq_some_iff.1 h2
   obtain ⟨he, hl⟩ := run_even hR hev h0 k rs0 (by omega) h1
   subst h4
   have hmem : (p.code[((k : Nat) : Int).toNat]?.getD default) ∈ p.code := by
    rw [Int.toNat_natCast, List.getElem?_eq_getElem (by omega)]; exact List.getElem_mem _
   obtain ⟨m1, m2, m3, m4, m5, m6, m7, m8⟩ := may_facts (f8 _ hmem)
   have hx := doI_even (i := p.code[((k : Nat) : Int).toNat]?.getD default) he (by omega) (fun h => by have := m4 h; omega) (fun h => (m6 (by omega) (by omega) (by omega) (by omega)).2) h3
   refine ⟨?_, by rw [List.length_set]; exact hl⟩
   rw [show 4 + 5 * (k + 1) = 5 + (4 + 5 * k) by omega]
   exact even_set (he.mono (by omega)) hx _
theorem follow_even {p : PV} {gs os : List (List Int)} {N : Nat} (hR : rightP p = true) (hev : Even 4 N gs) (h0 : 0 < gs.length) (h : followP p gs = some os) : Even (4 + 5 * p.code.length) N os := by
 obtain ⟨f1, f2, f3, f4, f5, f6, f7, f8⟩ := right_facts hR
 unfold followP at h
 obtain ⟨rs, h1, h2⟩ := Option.map_eq_some_iff.1 h
 obtain ⟨he, hl⟩ := run_even hR hev h0 _ rs (Nat.le_refl _) h1
 subst h2
 intro zs hz
 unfold outsOf at hz
 obtain ⟨r, hr, rfl⟩ := List.mem_map.1 hz
 exact he.at (k := r) (by have := f7 r hr; omega)
attribute [local irreducible] valL pw cmpZ p2 passP passTo followP rightP
end Go.Proofs.YtbppmiimeccclaaDoor
namespace Go.Proofs.YtbppmiimeccclaaDoor
open Go Go.Sl Go.ChangeShapes Go.WideShapes Go.RowKit Go.Joins
set_option linter.unusedVariables false
set_option maxRecDepth 100000
theorem und35 : Tryd.prog.underlying 41 = some (.slice 26) := by kernel_rfl
theorem und38 : Tryd.prog.underlying 26 = some (.slice 2) := by kernel_rfl
theorem cells38 : Tryd.prog.cellsOf 26 = 1 := by kernel_rfl
theorem bulk_mem {H : Type} {l : List (DataW H)} {i : Nat} {d : DataW H} (h : l[i]? = some d) : Rows.uptoBulk d ≤ Rows.uptoBulkAll l := by
 induction l generalizing i with
 | nil => simp at h
 | cons x r ih =>
   simp only [Rows.uptoBulkAll]
   cases i with
   | zero => simp at h; subst h; omega
   | succ i => have := ih (i := i) (by simpa using h); omega
section
variable {H : Type} {enc : TypeId × Value → H}
theorem dec_irow {W : World} : Dec (α := SV) enc Tryd.prog W 26 (fun s d => ∃ l : List Int, IRow (heapG W) s l ∧ l.length ≤ Rows.uptoBulk d) := fun n cs x h => by
 obtain ⟨a, c, xs, e, hA, hl, hd⟩ := open_arr (α := Int) und38 cells2 (by decide) (dec_int und2) h
 refine ⟨⟨a, xs.length, c⟩, e, xs, ⟨rfl, hA, fun y hy => ?_⟩, ?_⟩
 · rcases hd with ⟨_, rfl⟩ | ⟨l, r, e, hl, hi⟩
   · cases hy
   · obtain ⟨i, hi1, rfl⟩ := List.mem_iff_getElem.1 hy
     obtain ⟨d, _, _, hw⟩ := hi i hi1
     rw [List.getElem?_eq_getElem hi1] at hw
     unfold Lit.wf at hw
     rw [Bool.and_eq_true, decide_eq_true_eq, decide_eq_true_eq] at hw
     exact hw
 · rcases hd with ⟨_, rfl⟩ | ⟨l, r, e, hl, _⟩
   · exact Nat.zero_le _
   · rw [e, ← hl]; exact bulk_slice l r
theorem open_grid {W : World} {r : Reach} {b0 : Nat} {v : Value} {d : DataW H} {ps : List MemPlace} (hv : Value.okWide Tryd.prog W r b0 41 v) (h : DataW.Trod enc Tryd.prog W 0 (fun _ => true) true 41 v d ps) :
 ∃ (a : Option Addr) (c : Nat) (gl : List SV) (ls : List (List Int)), v = .slice a gl.length c ∧ Arr (heapG W) a gl ∧ IGrid (heapG W) gl ls ∧ gl.length ≤ Rows.uptoBulk d ∧ ∀ l ∈ ls, l.length ≤ Rows.uptoBulk d := by
 obtain ⟨a0, n0, c0, rfl⟩ := okWide_slice und35 hv
 obtain ⟨n, h⟩ := h
 obtain ⟨a, c, gl, e, hA, hl, hd⟩ := open_arr (α := SV) und35 cells38 (by decide) dec_irow h
 have e' : [Value.slice a0 n0 c0] = [.slice a gl.length c] := e
 simp only [List.cons.injEq, and_true] at e'
 have hrow : ∀ i, i < gl.length → ∃ l : List Int, IRow (heapG W) (gl[i]?.getD default) l ∧ l.length ≤ Rows.uptoBulk d := fun i hi => by
  rcases hd with ⟨_, rfl⟩ | ⟨l, r, e, hl, hx⟩
  · exact absurd hi (Nat.not_lt_zero _)
  · obtain ⟨d', h1, l', h2, h3⟩ := hx i hi
    refine ⟨l', h2, Nat.le_trans h3 ?_⟩
    have := bulk_mem h1
    have e2 : d = .slice l r := e
    rw [e2]
    simp only [Rows.uptoBulk]
    omega
 obtain ⟨Y, hY⟩ := Deep.choose_lt hrow
 refine ⟨a, c, gl, (List.range gl.length).map Y, e', hA, ⟨by simp, fun i hi => ?_⟩, ?_, fun l hl => ?_⟩
 · have : ((List.range gl.length).map Y)[i]?.getD [] = Y i := by simp [hi]
   rw [this]
   exact (hY i hi).1
 · rcases hd with ⟨_, rfl⟩ | ⟨l, r, e, hl, _⟩
   · exact Nat.zero_le _
   · have e2 : d = .slice l r := e
     rw [e2, ← hl]; exact bulk_slice l r
 · obtain ⟨i, hi, rfl⟩ := List.mem_map.1 hl
   exact (hY i (List.mem_range.1 hi)).2
end
end Go.Proofs.YtbppmiimeccclaaDoor
set_option linter.unusedVariables false
namespace Go.Sl
open Go
section
variable {P : Program} {B : Bs} {e : Env} {D : List Deferred} {H H' : Hp} {G : Imm}
theorem HoldH.ren {w : World} (hh : HoldH H G w) (σ : Nat → Nat) (hσ : ∀ t x, H'.get t = some x → H.get (σ t) = some x) (hi : ∀ t t' x y, H'.get t = some x → H'.get t' = some y → σ t = σ t' → t = t') : HoldH H' G w :=
 ⟨fun t b o x => hh.own _ b o (hσ _ _ x), fun t t' b o o' x y => hi t t' _ _ x y (hh.one _ _ b _ _ (hσ _ _ x) (hσ _ _ y)), hh.imm, fun t b o x => hh.off _ b o (hσ _ _ x)⟩
theorem Hold.ren {a : Act} {w : World} (hh : Hold B ⟨e, D, H, G⟩ a w) (σ : Nat → Nat) (hσ : ∀ t x, H'.get t = some x → H.get (σ t) = some x) (hi : ∀ t t' x y, H'.get t = some x → H'.get t' = some y → σ t = σ t' → t = t') : Hold B ⟨e, D, H', G⟩ a w :=
 ⟨hh.size, hh.defers, hh.env, hh.mem.ren σ hσ hi, hh.upd, fun t b o x => hh.mine _ b o (hσ _ _ x), hh.le, hh.new⟩
end
abbrev Hp.two (x y : Option Nat × Obj) (T : Hp) : Hp := (0, x) :: (1, y) :: T.shift 2
theorem Hp.two_get (x y : Option Nat × Obj) (T : Hp) (t : Nat) : (Hp.two x y T).get t = if t = 0 then some x else if t = 1 then some y else T.get (t - 2) := by
 unfold Hp.two
 rw [Hp.get_cons]
 by_cases h0 : 0 = t
 · subst h0; rw [if_pos rfl, if_pos rfl]
 rw [if_neg h0, if_neg (Ne.symm h0), Hp.get_cons]
 by_cases h1 : 1 = t
 · subst h1; rw [if_pos rfl, if_pos rfl]
 rw [if_neg h1, if_neg (Ne.symm h1), Hp.get_shift, if_pos (by omega)]
section
variable {P : Program} {ops : Array Oper} {rest : List Oper} {B : Bs} {e : Env} {D : List Deferred} {H : Hp} {G : Imm} {K : Act → World → Prop}
 {ty : TypeId} {pos : String} {after : Array Edge} {d : Nat}
theorem Wl.yieldO {g : Operand} {l : Nat} {xs : Array Operand} {ats : Array TypeId} {vs : List Value} {A Hi : Hp} {x1 x2 : Option Nat × Obj} {post : Value → Imm → Hp → Prop} (k r1 r2 : Nat)
 (hn : Nat.ble (d + 1) B.n = true) (hg : e.ev g = some (.func (.yield l) #[] #[])) (hx : e.evs xs.toList = some vs) (h1 : H.get r1 = some x1) (h2 : H.get r2 = some x2) (hr : (Nat.ble (r1 + 1) k && Nat.ble (r2 + 1) k && !Nat.beq r1 r2) = true)
 (hH : H.sub A) (hA1 : A.get r1 = none) (hA2 : A.get r2 = none) (ht : H.tl k Hi) (hA : Hp.below k A = true)
 (hF : YieldDoes P l vs G (Hp.two x1 x2 Hi) post) (h : ∀ v G' Ho, G.le G' → post v G' Ho → Wl P ops rest B ⟨(d, v) :: e, D, A ++ Ho.shift k, G'⟩ K) :
 Wl P ops (⟨some d, .call { callee := .value g, args := xs, argTypes := ats }, ty, pos, after, none⟩ :: rest) B ⟨e, D, H, G⟩ K := by
 simp only [Bool.and_eq_true, Bool.not_eq_true'] at hr
 have hr1 := Nat.le_of_ble_eq_true hr.1.1
 have hr2 := Nat.le_of_ble_eq_true hr.1.2
 have hr3 : r1 ≠ r2 := fun q => by subst q; have := hr.2; simp at this
 intro a w hh
 refine Wl.yield (H := A ++ (Hp.two x1 x2 Hi).shift k) k hn hg hx rfl hA hF h a w (hh.ren (fun t => if t < k then t else if t = k then r1 else if t = k + 1 then r2 else t - 2) (fun t x hx => ?_) (fun t t' x y hx hy he => ?_))
 · rw [Hp.get_append] at hx
   by_cases htk : t < k
   · simp only [if_pos htk]
     rw [Hp.get_shift, if_neg (by omega), Option.or_none] at hx
     exact Hp.sub_get hH t x hx
   · rw [Hp.below_get hA t (by omega), Option.none_or, Hp.get_shift, if_pos (by omega), Hp.two_get] at hx
     simp only [if_neg htk]
     by_cases h0 : t = k
     · rw [if_pos (by omega)] at hx; rw [if_pos h0, ← hx]; exact h1
     · rw [if_neg (by omega)] at hx; rw [if_neg h0]
       by_cases h9 : t = k + 1
       · rw [if_pos (by omega)] at hx; rw [if_pos h9, ← hx]; exact h2
       · rw [if_neg (by omega)] at hx; rw [if_neg h9]
         refine ht _ _ ?_
         rw [Hp.get_shift, if_pos (by omega), ← hx]
         congr 1; omega
 · have hlow : ∀ u z, u < k → Hp.get (A ++ (Hp.two x1 x2 Hi).shift k) u = some z → u ≠ r1 ∧ u ≠ r2 := fun u z hu hz => by
    rw [Hp.get_append, Hp.get_shift, if_neg (by omega), Option.or_none] at hz
    exact ⟨fun q => by (subst q; rw [hA1] at hz; cases hz), fun q => by (subst q; rw [hA2] at hz; cases hz)⟩
   have q1 := hlow t x
   have q2 := hlow t' y
   by_cases c1 : t < k
   · have p1 := q1 c1 hx
     by_cases c2 : t' < k
     · simpa [c1, c2] using he
     · simp only [if_pos c1, if_neg c2] at he
       split at he <;> rename_i c3
       · omega
       · split at he <;> omega
   · by_cases c2 : t' < k
     · have p2 := q2 c2 hy
       simp only [if_neg c1, if_pos c2] at he
       split at he <;> rename_i c3
       · omega
       · split at he <;> omega
     · simp only [if_neg c1, if_neg c2] at he
       split at he <;> rename_i c3
       · split at he <;> rename_i c4
         · omega
         · split at he <;> omega
       · split at he <;> rename_i c4
         · split at he <;> rename_i c5
           · omega
           · split at he <;> omega
         · split at he <;> rename_i c5
           · omega
           · split at he <;> omega
end
section
variable {P : Program} {B : Bs} {e : Env} {D : List Deferred} {H : Hp} {G : Imm}
theorem Wc.loopGT {ι : Type} {r : Option Nat} {c : Code} {Q : Exit → Act → World → Prop} (k : Nat) (I : ι → Env × Hp) (T : ι → Hp) (g : ι → Imm) (φ : ι → Prop) (μ : ι → Nat) (i0 : ι) (h0 : φ i0) (hg : G = g i0)
 (he : e.sub (I i0).1) (hH : H.sub (I i0).2) (ht : H.tl k (T i0))
 (hb : ∀ i, φ i → Wc r P c B ⟨(I i).1, D, (I i).2 ++ (T i).shift k, g i⟩ (Exit.then (Again B (fun i => ⟨(I i).1, D, (I i).2 ++ (T i).shift k, g i⟩) φ μ (μ i)) Q)) : Wc r P (.loop c) B ⟨e, D, H, G⟩ Q :=
 Wc.loopS (fun i => ⟨(I i).1, D, (I i).2 ++ (T i).shift k, g i⟩) φ μ i0 h0 (fun _ _ h => by rw [hg] at h; exact h.cutT he hH ht) hb
theorem Ar.againGT {ι : Type} {I : ι → Env × Hp} {T : ι → Hp} {g : ι → Imm} {k : Nat} {φ : ι → Prop} {μ : ι → Nat} {m : Nat} {Q : Exit → Act → World → Prop} (j : ι) (hφ : φ j) (hμ : μ j < m) (hg : G = g j)
 (he : e.sub (I j).1) (hH : H.sub (I j).2) (ht : H.tl k (T j)) : Ar (Exit.then (Again B (fun i => ⟨(I i).1, D, (I i).2 ++ (T i).shift k, g i⟩) φ μ m) Q) .normal B ⟨e, D, H, G⟩ :=
 fun a w hh => ⟨j, hφ, hμ, by rw [hg] at hh; exact hh.cutT he hH ht⟩
end
def IterGives {β γ : Type} (P : Program) (f : FuncId) (caps : List Value) (G : Imm) (enc : β → γ → List Value) (o1 o2 : β → γ → Option Nat × Obj) (good : β → γ → Prop) (xs : List β) : Prop :=
 ∀ (ι : Type) (J : ι → Hp) (inv : Nat → ι → Prop) (stop : ι → Prop) (l : Nat) (i0 : ι), inv 0 i0 →
  (∀ k x y i, xs[k]? = some x → good x y → inv k i → YieldDoes P l (enc x y) G (Hp.two (o1 x y) (o2 x y) (J i)) (fun v G' Ho => G' = G ∧ ∃ j, Ho = J j ∧ ((v = .bool true ∧ inv (k + 1) j) ∨ (v = .bool false ∧ stop j)))) →
  Does P f (.func (.yield l) #[] #[] :: caps) G (J i0) (fun v G' Ho => G' = G ∧ ∃ j, Ho = J j ∧ (inv xs.length j ∨ stop j))
section stmt
variable {P : Program} {B : Bs} {e : Env} {D : List Deferred} {H : Hp} {G : Imm}
variable {β γ ι : Type} {Q : Exit → Act → World → Prop} {f : FuncId} {caps : List Value} {enc : β → γ → List Value} {o1 o2 : β → γ → Option Nat × Obj} {good : β → γ → Prop} {xs : List β} {ps : List Nat} {assign body : Code} {g : Operand}
theorem Wc.rangeGives (tl td u1 u2 : Nat) (I : ι → Hp) (inv : Nat → ι → Prop) (stop : Code → ι → Prop) (i0 : ι) (hg : e.ev g = some (.func (.func f) #[] caps.toArray)) (hf : isFn P f)
 (hps : ∀ x y, (enc x y).length = ps.length) (hpb : ps.all (fun t => Nat.ble (t + 1) B.n) = true) (hit : IterGives P f caps G enc o1 o2 good xs) (h0 : inv 0 i0) (hH : ∀ t x, (I i0).get t = some x → H.get t = some x)
 (htl : Nat.beq tl td = false ∧ ∀ i, (I i).get tl = none) (hu : Nat.beq u1 u2 = false)
 (hround : ∀ k x y i l dd q w0, xs[k]? = some x → good x y → inv k i → Wc (some l) P assign ⟨B.n, w0, (Hp.two (o1 x y) (o2 x y) (RJ tl td q l dd (I i) none)).has, G⟩ ⟨Env.ps ps (enc x y) e, [], (u1, o1 x y) :: (u2, o2 x y) :: RJ tl td q l dd (I i) none, G⟩
  (RoundQ P l body (DoesPost G (Hp.two (o1 x y) (o2 x y) (RJ tl td q l dd (I i) none)) w0 (fun v G' Ho => G' = G ∧ ∃ j : ι × Option Code, Ho = RJ tl td q l dd (I j.1) j.2 ∧ ((v = .bool true ∧ j.2 = none ∧ inv (k + 1) j.1) ∨ (v = .bool false ∧ ∃ c, j.2 = some c ∧ stop c j.1))))))
 (hdone : ∀ j dd, inv xs.length j → Ar Q .normal B ⟨e, mark dd :: D, (td, some dd, .deferred (some [])) :: I j, G⟩)
 (hstop : ∀ j dd c, stop c j → Wc none P c B ⟨e, mark dd :: D, (td, some dd, .deferred (some [])) :: I j, G⟩ Q) :
 Wc none P (.rangeFunc g ps.toArray assign body) B ⟨e, D, H, G⟩ Q := by
 intro a w hh
 refine wpIn_rangeFunc fun fn _ => ?_
 obtain ⟨q, hq⟩ : ∃ q : Loop, q = { state := .ready, pending := none, fn, tmps := a.tmps, params := ps.toArray, assign, body, defers := w.heap.size } := ⟨_, rfl⟩
 obtain ⟨fnn, hf1, hf2, hf3⟩ := hf
 obtain ⟨ht3, htI⟩ := htl
 have hne : tl ≠ td := fun h => by subst h; simp at ht3
 have hune : u1 ≠ u2 := fun h => by subst h; simp at hu
 have hA := hh.alloc td (.deferred (some []))
 have hB := hA.alloc tl (lrec q .ready none)
 rw [World.size_alloc] at hB
 refine ⟨w.heap.size + 1, [mark w.heap.size], (w.alloc (.deferred (some []))).alloc (lrec q .ready none), { target := .fn (.func f) caps.toArray, args := #[.func (.yield (w.heap.size + 1)) #[] #[]] }, (w.alloc (.deferred (some []))).alloc (lrec q .ready none), f,
  (.func (.yield (w.heap.size + 1)) #[] #[] :: caps).toArray, (w.alloc (.deferred (some []))).alloc (lrec q .ready none), ?_, ?_, ?_, ?_, fun h => by simp [FF] at h, ?_⟩
 · have := run_enterLoop_outer (P := P) (w := w) fn a.tmps ps.toArray assign body
   rw [hq]; exact this
 · have hev : Act.eval a g = .func (.func f) #[] caps.toArray := hh.eval hg
   simp only [resolve, hev]
   simp [go_sem]
 · intro f' hf'; trivial
 · simp [invoke, run_callFunc _ _ hf1 hf2 hf3]
 · have hB' : Hold B ⟨e, D, RJ tl td q (w.heap.size + 1) w.heap.size (I i0) none, G⟩ a ((w.alloc (.deferred (some []))).alloc (lrec q .ready none)) := by
    refine hB.weaken (fun _ _ h => h) (fun t x hx => ?_)
    rw [Hp.get_cons] at hx ⊢
    split at hx <;> rename_i h1
    · rw [if_pos h1]; exact hx
    · rw [if_neg h1]
      rw [Hp.get_cons] at hx ⊢
      split at hx <;> rename_i h2
      · rw [if_pos h2]; exact hx
      · rw [if_neg h2]; exact hH t x hx
   have hC := hit (ι × Option Code) (fun s => RJ tl td q (w.heap.size + 1) w.heap.size (I s.1) s.2) (fun k j => j.2 = none ∧ inv k j.1) (fun j => ∃ c, j.2 = some c ∧ stop c j.1) (w.heap.size + 1) (i0, none) ⟨rfl, h0⟩ (fun k x y i hx hgd hi => ?_)
   · refine callsIn_FF.2 ((hC _ hB'.mem).mono fun ex w' ⟨v, G', Ho, h1, h2, h3, h4, h5, h6, h7, j, h8, h9⟩ => ?_)
     subst h1 h7
     have hcl := hB'.called 0 (Hi := RJ tl td q (w.heap.size + 1) w.heap.size (I i0) none) (fun t x hx => by rw [Nat.zero_add]; exact hx) h2 h3 h4 h5 h6
     have hD : Hold B ⟨e, D, Ho, G'⟩ a w' := hcl.weaken (fun _ _ h => h) (fun t x hx => by
      rw [Hp.get_append, Hp.get_shift, if_pos (Nat.zero_le _), Nat.sub_zero, hx]; rfl)
     rw [h8] at hD
     obtain ⟨ji, jp⟩ := j
     have hget : Hp.get (RJ tl td q (w.heap.size + 1) w.heap.size (I ji) jp) tl = some (some (w.heap.size + 1), lrec q (rst jp) jp) := by
      rw [Hp.get_cons, if_pos rfl]
     have hbk := hD.mem.own tl _ _ hget
     have hlt := (Array.getElem?_eq_some_iff.1 hbk).1
     have hE := hD.set hget (o' := lrec q .exhausted jp) (putObj_upd w' _ _) (World.putObj_heap_same hlt)
     have hF : Hold B ⟨e, D, (td, some w.heap.size, .deferred (some [])) :: I ji, G'⟩ a (w'.putObj (w.heap.size + 1) (lrec q .exhausted jp)) := by
      refine hE.weaken (fun _ _ h => h) (fun t x hx => ?_)
      rw [Hp.get_cons] at hx ⊢
      have htn : tl ≠ t := fun h => by
       subst h
       rw [if_neg (Ne.symm hne)] at hx
       have := htI ji
       rw [hx] at this; cases this
      rw [if_neg htn]
      rw [Hp.get_cons, if_neg htn, Hp.get_cons]
      exact hx
     have hG : Hold B ⟨e, mark w.heap.size :: D, (td, some w.heap.size, .deferred (some [])) :: I ji, G'⟩ { a with defers := [mark w.heap.size] ++ a.defers } (w'.putObj (w.heap.size + 1) (lrec q .exhausted jp)) :=
      ⟨hF.size, by show [mark w.heap.size] ++ a.defers = _; rw [hF.defers]; rfl, hF.env, hF.mem, hF.upd, hF.mine, hF.le, hF.new⟩
     have hend : (Instr.endLoop (w.heap.size + 1)).run P w' = .ok jp (w'.putObj (w.heap.size + 1) (lrec q .exhausted jp)) := run_endLoop hbk (by cases jp <;> simp [rst])
     refine ⟨jp, _, hend, ?_⟩
     rcases h9 with ⟨hj, hi⟩ | ⟨c, hj, hs⟩
     · have hj' : jp = none := hj
       subst hj'
       exact hdone ji _ hi _ _ hG
     · have hj' : jp = some c := hj
       subst hj'
       exact hstop ji _ c hs _ _ hG
   · obtain ⟨i, ip⟩ := i
     obtain ⟨hip, hi⟩ := hi
     have hip' : ip = none := hip
     subst hip'
     intro w2 hw2
     have hl2 : w2.heap[w.heap.size + 1]? = some (lrec q .ready none) := hw2.own (tl + 2) _ _ (by rw [Hp.two_get, if_neg (by omega), if_neg (by omega), Nat.add_sub_cancel, Hp.get_cons, if_pos rfl]; rfl)
     have hq2 : q.params = ps.toArray ∧ q.tmps = a.tmps ∧ q.assign = assign ∧ q.body = body := by rw [hq]; exact ⟨rfl, rfl, rfl, rfl⟩
     have hy := run_yield (P := P) (args := (enc x y).toArray) hl2 (by show _ = q.params.size; rw [hq2.1]; simp [hps x y])
     refine ⟨_, _, _, _, hy, roundIn_of_wpIn (F := Fence.wide) (n := 0) trivial ?_⟩
     have hz := Env.ps_hold ps (enc x y) e a.tmps hh.size hh.env hpb
     have hr := hround k x y i (w.heap.size + 1) w.heap.size q w2 hx hgd hi
     have hhold0 : Hold ⟨B.n, w2, (Hp.two (o1 x y) (o2 x y) (RJ tl td q (w.heap.size + 1) w.heap.size (I i) none)).has, G⟩ ⟨Env.ps ps (enc x y) e, [], Hp.two (o1 x y) (o2 x y) (RJ tl td q (w.heap.size + 1) w.heap.size (I i) none), G⟩
      { tmps := (q.params.zip (enc x y).toArray).foldl (fun tmps (t, a) => tmps.setIfInBounds t a) q.tmps, defers := [] } w2 := by
      refine ⟨?_, rfl, ?_, hw2, Upd.refl _ _, fun t b o hx => .inr ⟨t, o, hx⟩, Imm.le_refl _, fun b h1 h2 => (h1 h2).elim⟩
      · show ((q.params.zip (enc x y).toArray).foldl _ q.tmps).size = B.n
        rw [hq2.1, hq2.2.1]
        have := hz.1
        simpa using this
      · intro i v hv
        show ((q.params.zip (enc x y).toArray).foldl _ q.tmps)[i]? = some v
        rw [hq2.1, hq2.2.1]
        have := hz.2 i v hv
        simpa using this
     have hhold := hhold0.ren (H' := (u1, o1 x y) :: (u2, o2 x y) :: RJ tl td q (w.heap.size + 1) w.heap.size (I i) none) (fun t => if t = u1 then 0 else if t = u2 then 1 else t + 2) (fun t z hz => by
      rw [Hp.two_get]
      rw [Hp.get_cons] at hz
      by_cases c1 : t = u1
      · rw [if_pos c1.symm] at hz; rw [if_pos c1, if_pos rfl]; exact hz
      rw [if_neg (Ne.symm c1), Hp.get_cons] at hz
      by_cases c2 : t = u2
      · rw [if_pos c2.symm] at hz; rw [if_neg c1, if_pos c2, if_neg (by decide), if_pos rfl]; exact hz
      rw [if_neg (Ne.symm c2)] at hz
      rw [if_neg c1, if_neg c2, if_neg (by omega), if_neg (by omega), Nat.add_sub_cancel]; exact hz) (fun t t' z z' _ _ he => by
      by_cases c1 : t = u1
      · rw [if_pos c1] at he
        by_cases c2 : t' = u1
        · omega
        · rw [if_neg c2] at he
          split at he <;> omega
      · rw [if_neg c1] at he
        by_cases c2 : t' = u1
        · rw [if_pos c2] at he
          split at he <;> omega
        · rw [if_neg c2] at he
          split at he <;> split at he <;> omega)
     have h := hr _ w2 hhold
     show q.assign.wpIn (FF (some (w.heap.size + 1))) 0 P (RoundQ P (w.heap.size + 1) q.body _) _ _
     rw [hq2.2.2.1, hq2.2.2.2]
     exact h
end stmt
section
variable {P : Program} {e : Env} {H : Hp} {G : Imm} {ty : TypeId}
theorem Qy.neqSS {t t' : TypeId} {x y : Operand} {m : ByteArray} (hx : e.ev x = some (.string m)) (hy : e.ev y = some (.string m)) : Qy P (.binOp .neq t x y t') ty e H G (.bool false) := fun a w _ _ _ _ hh => by
 simp [execOp, hh.eval hx, hh.eval hy, binOp, eqGuard, Op.stringOp]
end
end Go.Sl
set_option maxRecDepth 100000
namespace Go.Proofs.YtbppmiimeccclaaDoor
open Go Go.Sl
set_option maxHeartbeats 2000000
attribute [local irreducible] plainP togP powC constOk
def meltP (a b : Sl.Instr) : Sl.Instr × Bool :=
 if b.op = 3 ∨ b.op = 4 ∨ b.a ≠ a.to ∨ b.to ≠ a.to then (⟨0, 0, 0, 0, 0⟩, false)
 else if (togP a.op a.c b.op b.c).2.2 = true then (plainP ⟨(togP a.op a.c b.op b.c).1, b.to, a.a, 0, (togP a.op a.c b.op b.c).2.1⟩, true) else (⟨0, 0, 0, 0, 0⟩, false)
theorem c31 (G : Imm) (hT : TabOk G) (a b : Sl.Instr) (ha : constOk a.op a.c = true) (hb : constOk b.op b.c = true) :
 Does Tryd.prog 31 [.agg (Cells.enc a).toArray, .agg (Cells.enc b).toArray] G [] (fun v G' Ho => v = .tuple #[.agg (Cells.enc (meltP a b).1).toArray, .bool (meltP a b).2] ∧ G' = G ∧ Ho = []) := by
 have ht := tog_const ha hb
 refine Does.enter Tryd.func31 rfl Tryd.ntmps31 rfl (fun w => ?_)
 refine Wc.seq (Wc.region rfl ?_)
 refine Wl.box 0 rfl rfl rfl (fun b1 => ?_)
 refine Wl.box 1 rfl rfl rfl (fun b2 => ?_)
 refine Wl.alloc 2 rfl T.zero55 (fun b3 => ?_)
 refine Wl.q rfl (Qy.assign rfl) (Wl.done (Ar.next (Wc.seq (Wc.seq (Wc.region rfl (Wl.q rfl (Qy.fieldAddr T.fa55_0 rfl) (Wl.q rfl (Qy.load 1 T.one3 rfl rfl rfl) (Wl.q rfl (Qy.eql rfl rfl) (Wl.q rfl (Qy.move rfl) ?_)))))))))
 apply Wl.joinOr 4 12 16 rfl
 intro hg1
 refine Wl.want rfl rfl (Wl.q rfl (Qy.fieldAddr T.fa55_0 rfl) (Wl.want rfl rfl (Wl.q rfl (Qy.load 1 T.one3 rfl rfl rfl) (Wl.want rfl rfl (Wl.q rfl (Qy.eql rfl rfl) (Wl.q rfl (Qy.pick rfl rfl) ?_))))))
 exact Wl.back 4 0 rfl rfl rfl rfl rfl
 intro hg1
 refine Wl.pass rfl rfl rfl (Wl.pass rfl rfl rfl (Wl.pass rfl rfl rfl (Wl.q rfl (Qy.pick rfl rfl) ?_)))
 exact Wl.back 4 0 rfl rfl rfl rfl rfl
 refine Wl.q rfl (Qy.move rfl) ?_
 apply Wl.joinOr 6 17 23 rfl
 intro hg1
 refine Wl.want rfl rfl (Wl.q rfl (Qy.fieldAddr T.fa55_2 rfl) (Wl.want rfl rfl (Wl.q rfl (Qy.load 1 T.one3 rfl rfl rfl) (Wl.want rfl rfl (Wl.q rfl (Qy.fieldAddr T.fa55_1 rfl) (Wl.want rfl rfl (Wl.q rfl (Qy.load 0 T.one3 rfl rfl rfl) (Wl.want rfl rfl (Wl.q rfl (Qy.neq rfl rfl) ?_)))))))))
 refine Wl.q rfl (Qy.pick rfl rfl) ?_
 exact Wl.back 6 0 rfl rfl rfl rfl rfl
 intro hg1
 refine Wl.pass rfl rfl rfl (Wl.pass rfl rfl rfl (Wl.pass rfl rfl rfl (Wl.pass rfl rfl rfl (Wl.pass rfl rfl rfl (Wl.q rfl (Qy.pick rfl rfl) ?_)))))
 exact Wl.back 6 0 rfl rfl rfl rfl rfl
 refine Wl.q rfl (Qy.move rfl) ?_
 apply Wl.joinOr 6 24 30 rfl
 intro hg1
 refine Wl.want rfl rfl (Wl.q rfl (Qy.fieldAddr T.fa55_1 rfl) (Wl.want rfl rfl (Wl.q rfl (Qy.load 1 T.one3 rfl rfl rfl) (Wl.want rfl rfl (Wl.q rfl (Qy.fieldAddr T.fa55_1 rfl) (Wl.want rfl rfl (Wl.q rfl (Qy.load 0 T.one3 rfl rfl rfl) (Wl.want rfl rfl (Wl.q rfl (Qy.neq rfl rfl) ?_)))))))))
 refine Wl.q rfl (Qy.pick rfl rfl) ?_
 exact Wl.back 6 0 rfl rfl rfl rfl rfl
 intro hg1
 refine Wl.pass rfl rfl rfl (Wl.pass rfl rfl rfl (Wl.pass rfl rfl rfl (Wl.pass rfl rfl rfl (Wl.pass rfl rfl rfl (Wl.q rfl (Qy.pick rfl rfl) ?_)))))
 exact Wl.back 6 0 rfl rfl rfl rfl rfl
 refine Wl.done (Ar.next ?_)
 refine Wc.cond rfl (fun hc1 => ?_) (fun hc1 => ?_)
 refine Wc.seq (Wc.region rfl (Wl.q rfl (Qy.build (cs := [_, _, _, _, _]) T.st55 rfl rfl rfl) ?_))
 refine Wl.storeAll 2 T.size55 rfl rfl rfl rfl rfl rfl ?_
 refine Wl.q rfl (Qy.assign rfl) (Wl.done (Ar.next (Wc.ret (Ar.passRet ?_))))
 refine Ar.out2 (.inr rfl) (Ho := Hp.only _ []) rfl (.agg 2 rfl rfl T.agg55) (.tmp rfl) (Hp.sub_only _ _) ?_
 rotate_left
 refine Wc.skip (Ar.next (Wc.seq (Wc.region rfl (Wl.q rfl (Qy.fieldAddr T.fa55_0 rfl) (Wl.q rfl (Qy.load 0 T.one3 rfl rfl rfl) (Wl.q rfl (Qy.fieldAddr T.fa55_4 rfl) (Wl.q rfl (Qy.load 0 T.one3 rfl rfl rfl) (Wl.q rfl (Qy.fieldAddr T.fa55_0 rfl) (Wl.q rfl (Qy.load 1 T.one3 rfl rfl rfl) ?_)))))))))
 refine Wl.q rfl (Qy.fieldAddr T.fa55_4 rfl) (Wl.q rfl (Qy.load 1 T.one3 rfl rfl rfl) ?_)
 refine Wl.call0 rfl T.fn62 rfl (c62 _ _ _ _ _ (by assumption) (by assumption)) ?_
 refine Wl.q rfl (Qy.move rfl) (Wl.q rfl (Qy.extract rfl rfl) (Wl.q rfl (Qy.extract rfl rfl) (Wl.q rfl (Qy.extract rfl rfl) (Wl.q rfl (Qy.assign rfl) (Wl.q rfl (Qy.assign rfl) (Wl.q rfl (Qy.assign rfl) (Wl.done (Ar.next (Wc.seq (Wc.seq (Wc.region rfl (Wl.q rfl (Qy.move rfl) ?_))))))))))))
 refine Wl.q rfl (Qy.not rfl) (Wl.done (Ar.next (Wc.ite rfl (fun hc2 => ?_) (fun hc2 => ?_))))
 refine Wc.seq (Wc.region rfl (Wl.q rfl (Qy.build (cs := [_, _, _, _, _]) T.st55 rfl rfl rfl) ?_))
 refine Wl.storeAll 2 T.size55 rfl rfl rfl rfl rfl rfl ?_
 refine Wl.q rfl (Qy.assign rfl) (Wl.done (Ar.next (Wc.ret (Ar.passRet ?_))))
 refine Ar.out2 (.inr rfl) (Ho := Hp.only _ []) rfl (.agg 2 rfl rfl T.agg55) (.tmp rfl) (Hp.sub_only _ _) ?_
 rotate_left
 refine Wc.skip (Ar.next (Wc.seq (Wc.region rfl (Wl.q rfl (Qy.move rfl) (Wl.q rfl (Qy.fieldAddr T.fa55_1 rfl) (Wl.q rfl (Qy.load 1 T.one3 rfl rfl rfl) (Wl.q rfl (Qy.fieldAddr T.fa55_2 rfl) (Wl.q rfl (Qy.load 0 T.one3 rfl rfl rfl) (Wl.q rfl (Qy.move rfl) ?_)))))))))
 refine Wl.call0 rfl T.fn61 rfl (c61 _ _ _ _ _) ?_
 rotate_left
 · refine ⟨?_, rfl, rfl⟩
   rw [meltP, if_pos (by omega)]; rfl
 · refine ⟨?_, rfl, rfl⟩
   rw [meltP, if_neg (by omega), if_neg (by simpa using hc2)]; rfl
 · have hok : (togP a.op a.c b.op b.c).2.2 = true := by simpa using hc2
   have hcf : constOk (togP a.op a.c b.op b.c).1 (togP a.op a.c b.op b.c).2.1 = true := by
    rcases ht with h | h
    · exact h
    · rw [h] at hok; cases hok
   refine Wl.call0 rfl T.fn30 rfl (c30 _ hT ⟨(togP a.op a.c b.op b.c).1, b.to, a.a, 0, (togP a.op a.c b.op b.c).2.1⟩ (const_fits hcf)) ?_
   refine Wl.storeAll 2 T.size55 rfl rfl rfl rfl rfl rfl ?_
   refine Wl.q rfl (Qy.assign rfl) (Wl.done (Ar.next (Wc.ret ?_)))
   refine Ar.out2 (.inr rfl) (Ho := Hp.only _ []) rfl (.agg 2 rfl rfl T.agg55) (.tmp rfl) (Hp.sub_only _ _) ?_
   refine ⟨?_, rfl, rfl⟩
   rw [meltP, if_neg (by omega), if_pos hok]
theorem right_one (i : Sl.Instr) : rightP ⟨1, 128, [i], [0]⟩ = mayOk i 128 := by
 unfold rightP checkP badAt headOk
 cases h : mayOk i 128 <;> simp [h]
theorem may_const {i : Sl.Instr} {r : Int} (h : mayOk i r = true) : constOk i.op i.c = true := by
 unfold mayOk at h
 rw [Bool.and_eq_true, Bool.and_eq_true] at h
 exact h.1.2
def zeroI : Sl.Instr := ⟨0, 0, 0, 0, 0⟩
def plainQ (i : Sl.Instr) : Sl.Instr × Bool := if mayOk i 128 = true then (plainP i, decide (plainP i ≠ i)) else (zeroI, false)
end Go.Proofs.YtbppmiimeccclaaDoor
set_option maxRecDepth 100000
set_option linter.unusedVariables false
namespace Go.Proofs.YtbppmiimeccclaaDoor
open Go Go.Sl
set_option maxHeartbeats 2000000
attribute [local irreducible] togP constOk
def tw (m : Nat) : Int := ((2 ^ m : Nat) : Int)
theorem pow_tw {c : Int} (h : powC c ≠ 0) : ∃ m : Nat, 1 ≤ m ∧ m ≤ 9 ∧ c = tw m ∧ powC c = m := by
 rcases pow_cases h with rfl | rfl | rfl | rfl | rfl | rfl | rfl | rfl | rfl
 · exact ⟨1, by decide⟩
 · exact ⟨2, by decide⟩
 · exact ⟨3, by decide⟩
 · exact ⟨4, by decide⟩
 · exact ⟨5, by decide⟩
 · exact ⟨6, by decide⟩
 · exact ⟨7, by decide⟩
 · exact ⟨8, by decide⟩
 · exact ⟨9, by decide⟩
attribute [local irreducible] powC
attribute [local irreducible] plainP
end Go.Proofs.YtbppmiimeccclaaDoor
set_option maxRecDepth 100000
namespace Go.Proofs.YtbppmiimeccclaaDoor
open Go Go.Sl
def idle1 (i : Sl.Instr) : Bool := decide (i.op = 1 ∧ i.to = i.a)
def pushP : List Sl.Instr → Sl.Instr → List Sl.Instr
 | [], b => if idle1 b = true then [] else [b]
 | a :: s, b => if idle1 b = true then a :: s else if (meltP a b).2 = true then pushP s (meltP a b).1 else b :: a :: s
def pushL (L : List Sl.Instr) (b : Sl.Instr) : List Sl.Instr := (pushP L.reverse b).reverse
def foldS (l : List Sl.Instr) : List Sl.Instr := l.foldl (fun s i => pushP s (plainP i)) []
def foldTo (p : PV) (k : Nat) : List Sl.Instr := (foldS (p.code.take k)).reverse
def foldP (p : PV) : PV := ⟨p.ins, p.regs, (foldS p.code).reverse, p.outs⟩
theorem pushL_idle {L : List Sl.Instr} {b : Sl.Instr} (h : idle1 b = true) : pushL L b = L := by
 unfold pushL
 cases hL : L.reverse with
 | nil => rw [pushP, if_pos h, ← hL, List.reverse_reverse]
 | cons a s => rw [pushP, if_pos h, ← hL, List.reverse_reverse]
theorem pushL_nil {b : Sl.Instr} (h : ¬ idle1 b = true) : pushL [] b = [b] := by
 unfold pushL; rw [List.reverse_nil, pushP, if_neg h]; rfl
theorem pushL_melt {M : List Sl.Instr} {a b : Sl.Instr} (h : ¬ idle1 b = true) (hm : (meltP a b).2 = true) : pushL (M ++ [a]) b = pushL M (meltP a b).1 := by
 unfold pushL; rw [List.reverse_append, List.reverse_singleton, List.singleton_append, pushP, if_neg h, if_pos hm]
theorem pushL_push {M : List Sl.Instr} {a b : Sl.Instr} (h : ¬ idle1 b = true) (hm : ¬ (meltP a b).2 = true) : pushL (M ++ [a]) b = M ++ [a] ++ [b] := by
 unfold pushL; rw [List.reverse_append, List.reverse_singleton, List.singleton_append, pushP, if_neg h, if_neg hm]
 simp
theorem foldTo_step {p : PV} {k : Nat} (h : k < p.code.length) : foldTo p (k + 1) = pushL (foldTo p k) (plainP (p.code[((k : Nat) : Int).toNat]?.getD default)) := by
 unfold foldTo pushL foldS
 rw [List.reverse_reverse, List.take_add_one, Int.toNat_natCast, List.getElem?_eq_getElem h, List.foldl_append]
 rfl
theorem foldTo_all (p : PV) : foldTo p p.code.length = (foldP p).code := by unfold foldTo foldP; rw [List.take_length]
theorem foldTo_zero (p : PV) : foldTo p 0 = [] := rfl
theorem push_len : ∀ (s : List Sl.Instr) (b : Sl.Instr), (pushP s b).length ≤ s.length + 1
 | [], b => by unfold pushP; split <;> simp
 | a :: s, b => by
   unfold pushP
   split
   · simp
   split
   · have := push_len s (meltP a b).1; simp only [List.length_cons]; omega
   · simp
theorem fold_len_aux (l : List Sl.Instr) (s : List Sl.Instr) : (l.foldl (fun s i => pushP s (plainP i)) s).length ≤ s.length + l.length := by
 induction l generalizing s with
 | nil => simp
 | cons x l ih => have h1 := ih (pushP s (plainP x)); have h2 := push_len s (plainP x); simp only [List.foldl_cons, List.length_cons]; omega
theorem foldTo_len (p : PV) (k : Nat) : (foldTo p k).length ≤ k := by
 have := fold_len_aux (p.code.take k) []
 unfold foldTo foldS
 simp only [List.length_reverse, List.length_nil, List.length_take] at *
 omega
theorem fold_len (p : PV) : (foldP p).code.length ≤ p.code.length := by rw [← foldTo_all]; exact foldTo_len p _
theorem push_all {q : Sl.Instr → Prop} (hm : ∀ a b, q a → q b → (meltP a b).2 = true → q (meltP a b).1) : ∀ (s : List Sl.Instr) (b : Sl.Instr), (∀ i ∈ s, q i) → q b → ∀ i ∈ pushP s b, q i
 | [], b, _, hb => by
   unfold pushP; split
   · simp
   · simpa using hb
 | a :: s, b, hs, hb => by
   unfold pushP
   split
   · exact hs
   split
   · rename_i h
     exact push_all hm s _ (fun i hi => hs i (List.mem_cons_of_mem _ hi)) (hm a b (hs a List.mem_cons_self) hb h)
   · intro i hi
     rcases List.mem_cons.1 hi with rfl | hi
     · exact hb
     · exact hs i hi
theorem fold_all {q : Sl.Instr → Prop} (hm : ∀ a b, q a → q b → (meltP a b).2 = true → q (meltP a b).1) (hp : ∀ i, q i → q (plainP i)) (l : List Sl.Instr) (h : ∀ i ∈ l, q i) : ∀ i ∈ foldS l, q i := by
 have aux : ∀ (l s : List Sl.Instr), (∀ i ∈ l, q i) → (∀ i ∈ s, q i) → ∀ i ∈ l.foldl (fun s i => pushP s (plainP i)) s, q i := by
  intro l
  induction l with
  | nil => intro s _ hs; exact hs
  | cons x l ih =>
    intro s hl hs
    exact ih _ (fun i hi => hl i (List.mem_cons_of_mem _ hi)) (push_all hm s _ hs (hp x (hl x List.mem_cons_self)))
 exact aux l [] h (fun i hi => by simp at hi)
def okC (i : Sl.Instr) : Prop := constOk i.op i.c = true
theorem melt_okC {a b : Sl.Instr} (ha : okC a) (hb : okC b) (h : (meltP a b).2 = true) : okC (meltP a b).1 := by
 have ht := tog_const (f := a.op) (c := a.c) (s := b.op) (d := b.c) ha hb
 unfold meltP at h ⊢
 split at h
 · cases h
 · rename_i hn
   rw [if_neg hn]
   split at h
   · rename_i hy
     rw [if_pos hy]
     rcases ht with ht | ht
     · exact plain_const (i := ⟨_, b.to, a.a, 0, _⟩) ht
     · rw [hy] at ht; cases ht
   · cases h
theorem foldTo_okC {p : PV} (h : ∀ i ∈ p.code, okC i) (k : Nat) : ∀ i ∈ foldTo p k, okC i := fun i hi => by
 unfold foldTo at hi
 exact fold_all (q := okC) (fun a b ha hb h => melt_okC ha hb h) (fun i hi => plain_const hi) _ (fun i hi => h i (List.mem_of_mem_take hi)) i (List.mem_reverse.1 hi)
end Go.Proofs.YtbppmiimeccclaaDoor
set_option maxRecDepth 100000
set_option linter.unusedVariables false
namespace Go.Proofs.YtbppmiimeccclaaDoor
open Go Go.Sl
set_option maxHeartbeats 4000000
attribute [local irreducible] plainP meltP pushL foldTo
theorem right_codes {p : PV} (hR : rightP p = true) : ∀ i ∈ p.code, mayOk i p.regs = true := by
 have h : (checkP p).2 = false := by simpa [rightP] using hR
 unfold checkP at h
 split at h
 · cases h
 · split at h
   · cases h
   · rename_i hb
     unfold badAt at hb
     rw [List.findIdx?_eq_none_iff] at hb
     intro i hi
     simpa using hb i hi
theorem right_okC {p : PV} (hR : rightP p = true) : ∀ i ∈ p.code, okC i := fun i hi => may_const (right_codes hR i hi)
theorem getD_mem {l : List Sl.Instr} {k : Nat} (h : k < l.length) : l[((k : Nat) : Int).toNat]?.getD default ∈ l := by
 rw [Int.toNat_natCast, List.getElem?_eq_getElem h]; exact List.getElem_mem h
theorem row_cut (M : List Sl.Instr) (t : Sl.Instr) (m : List Value) : Row 55 (M ++ [t]) m = Row 55 M (Cells.enc t ++ m) := by
 unfold Row; rw [flat_append]; simp [flat]
theorem own_cut {a : Option Addr} {c : Nat} {M : List Sl.Instr} {t : Sl.Instr} {m : List Value} (h : OwnA a c (M ++ [t]) m) : OwnA a c M (Cells.enc t ++ m) := by
 rcases h with ⟨_, h, _⟩ | ⟨b, h1, h2, h3, h4⟩
 · simp at h
 · refine .inr ⟨b, h1, ?_, ?_, h4⟩
   · rw [List.length_append, List.length_singleton, Nat.add_mul] at h2
     rw [List.length_append, Cells.len]; omega
   · simp at h3; omega
theorem subA_zero {α : Type} [Cells α] {a : Option Addr} {c e sz : Nat} {xs : List α} {j : List Value} (h : OwnA a e xs j) : subA a c 0 sz = a := by
 unfold subA
 split
 · rfl
 · rcases h with ⟨h1, _⟩ | ⟨b, h1, _⟩
   · rw [h1]; rfl
   · rw [h1]; simp [Addr.add]
theorem c7R (G : Imm) (hT : TabOk G) (p : PV) (ac ao : Option Addr) (cc co : Nat) (hc : Arr G ac p.code) (ho : Arr G ao p.outs) (h1 : p.code.length ≤ 1048576) (h2 : p.outs.length ≤ 1048576) (hR : rightP p = true) :
 Does Tryd.prog 7 [.agg #[.int .i64 p.ins, .int .i64 p.regs, .slice ac p.code.length cc, .slice ao p.outs.length co]] G [] (fun v G' Ho =>
  ∃ bc bo dc do_ j1 j2, v = .tuple #[.agg #[.int .i64 p.ins, .int .i64 p.regs, .slice bc (foldP p).code.length dc, .slice bo p.outs.length do_], .int .i64 0] ∧
   OwnA bc dc (foldP p).code j1 ∧ OwnA bo do_ p.outs j2 ∧ Ho = [(0, bc.map (·.block), Row 55 (foldP p).code j1), (1, bo.map (·.block), Row 3 p.outs j2)] ∧ G' = G) := by
 have hcheck : (checkP p).2 = false := by simpa [rightP] using hR
 have hok := right_okC hR
 refine Does.enter Tryd.func7 rfl Tryd.ntmps7 rfl (fun w => ?_)
 refine Wc.nilRow 0 (Row 55 ([] : List Sl.Instr) []) ?_
 refine Wc.seq (Wc.region rfl ?_)
 refine Wl.box 1 rfl rfl rfl (fun b1 => ?_)
 refine Wl.alloc 2 rfl T.zero25 (fun b2 => ?_)
 refine Wl.q rfl (Qy.assign rfl) (Wl.done (Ar.next (Wc.scope (Wc.seq (Wc.region rfl (Wl.q rfl (Qy.loadAll 1 T.agg25 rfl rfl rfl) ?_))))))
 refine Wl.call0 rfl T.fn8 rfl (c8 _ _ _ _ _ _ (by assumption) (by assumption) (by omega) (by omega)) ?_
 refine Wl.q rfl (Qy.move rfl) (Wl.q rfl (Qy.extract rfl rfl) (Wl.q rfl (Qy.extract rfl rfl) (Wl.q rfl (Qy.assign rfl) (Wl.q rfl (Qy.assign rfl) (Wl.done (Ar.next (Wc.seq (Wc.seq (Wc.region rfl (Wl.q rfl (Qy.move rfl) (Wl.q rfl (Qy.neq rfl rfl) (Wl.done (Ar.next ?_)))))))))))))
 refine Wc.cond rfl (fun hc1 => ?_) (fun hc1 => ?_)
 refine Wc.seq (Wc.region rfl (Wl.q rfl (Qy.build (cs := [_, _, _, _]) T.st25 rfl rfl rfl) ?_))
 refine Wl.q rfl (Qy.move rfl) ?_
 refine Wl.storeAll 2 T.size25 rfl rfl rfl rfl rfl rfl ?_
 refine Wl.q rfl (Qy.assign rfl) (Wl.done (Ar.next (Wc.ret (Ar.passRet ?_))))
 refine Ar.scopeR ?_
 rotate_left
 refine Wc.skip (Ar.next (Wc.seq (Wc.region rfl (Wl.q rfl (Qy.assign rfl) (Wl.done (Ar.next (Wc.seq (Wc.label (Ar.next (Wc.seq (Wc.seq (Wc.region rfl (Wl.q rfl (Qy.fieldAddr T.fa25_2 rfl) (Wl.q rfl (Qy.load 1 T.one22 rfl rfl rfl) (Wl.q rfl (Qy.len T.sl22 rfl) (Wl.q rfl (Qy.move rfl) ?_))))))))))))))))
 refine Wl.done (Ar.next (Wc.block ?_))
 rotate_left
 · rw [hcheck] at hc1; exact absurd rfl hc1
 refine Wc.loop (ι := Nat × List Sl.Instr × (Option Addr × Nat × List Value)) (fun (k, xs, (b, d, j)) => ([(24, .int .i64 (k : Int)), (6, .slice b xs.length d), (23, Go.Value.int Go.IntKind.i64 (↑(List.length (PV.code p)) : Int)), (22, Go.Value.slice ac (List.length (PV.code p)) cc), (3, Go.Value.int Go.IntKind.i64 0), (2, Go.Value.pointer (Option.some (Go.Addr.mk b2 0 Option.none))), (1, Go.Value.pointer (Option.some (Go.Addr.mk b1 0 Option.none)))], [(0, b.map (·.block), Row 55 xs j), (2, Option.some b2, Go.Obj.cells #[Go.Value.int Go.IntKind.i64 0, Go.Value.int Go.IntKind.i64 0, Go.Value.slice Option.none 0 0, Go.Value.slice Option.none 0 0] 25), (1, Option.some b1, Go.Obj.cells #[Go.Value.int Go.IntKind.i64 (PV.ins p), Go.Value.int Go.IntKind.i64 (PV.regs p), Go.Value.slice ac (List.length (PV.code p)) cc, Go.Value.slice ao (List.length (PV.outs p)) co] 25)])) (fun (k, xs, (b, d, j)) => k ≤ p.code.length ∧ xs = foldTo p k ∧ OwnA b d xs j) (fun (k, xs, (b, d, j)) => p.code.length - k) ((0, [], (none, 0, []))) (⟨Nat.zero_le _, by rw [foldTo_zero], OwnA.nil⟩) ⟨rfl, rfl, rfl, rfl, rfl, rfl, rfl, trivial⟩ ⟨rfl, rfl, rfl, trivial⟩ (fun ⟨k, xs, (b, d, j)⟩ => fun (hk : k ≤ p.code.length ∧ xs = foldTo p k ∧ OwnA b d xs j) => ?_)
 obtain ⟨hk1, hxs, hob⟩ := hk
 have hxl : xs.length ≤ k := by rw [hxs]; exact foldTo_len p k
 rcases Nat.lt_or_ge k p.code.length with hlt | hge
 · clear hc1
   have hst := foldTo_step (p := p) hlt
   have hx0 := hok _ (getD_mem hlt)
   have hx1 := const_fits hx0
   have hx2 := plain_const hx0
   have hxo := foldTo_okC hok k
   rw [← hxs] at hxo hst
   refine Wc.seq (Wc.region rfl (Wl.q rfl (Qy.lss rfl rfl) (Wl.done (Ar.next (Wc.seq (Wc.condP rfl (by first | assumption | omega) ?_))))))
   refine Wc.skip (Ar.next (Wc.seq (Wc.block (Wc.seq (Wc.region rfl (Wl.q rfl (Qy.at (α := Instr) T.sl22 rfl rfl (by assumption) (by omega)) ?_))))))
   refine Wl.q rfl (Qy.loadsG T.agg55 rfl (Arr.elem (by assumption) (by omega)) rfl) ?_
   refine Wl.alloc 3 rfl T.zero55 (fun b3 => ?_)
   refine Wl.storeAll 3 T.size55 rfl rfl rfl rfl rfl rfl ?_
   refine Wl.done (Ar.next (Wc.scope (Wc.seq (Wc.region rfl (Wl.q rfl (Qy.loadAll 3 T.agg55 rfl rfl rfl) ?_)))))
   refine Wl.call0 rfl T.fn30 rfl (c30 _ (by assumption) _ (by assumption)) ?_
   refine Wl.alloc 4 rfl T.zero55 (fun b4 => ?_)
   refine Wl.storeAll 4 T.size55 rfl rfl rfl rfl rfl rfl ?_
   refine Wl.done (Ar.next (Wc.seq (Wc.label (Ar.next (Wc.seq (Wc.block ?_))))))
   refine Wc.loop (ι := List Sl.Instr × Sl.Instr × (Option Addr × Nat × List Value)) (fun (M, bi, (a, e, m)) => ([(6, .slice a M.length e), (22, .slice ac p.code.length cc), (23, .int .i64 (p.code.length : Int)), (9, Go.Value.pointer (Option.some (Go.Addr.mk b4 0 Option.none))), (24, Go.Value.int Go.IntKind.i64 (↑k : Int)), (3, Go.Value.int Go.IntKind.i64 0), (2, Go.Value.pointer (Option.some (Go.Addr.mk b2 0 Option.none))), (1, Go.Value.pointer (Option.some (Go.Addr.mk b1 0 Option.none)))], [(0, a.map (·.block), Row 55 M m), (4, some b4, .cells (Cells.enc bi).toArray 55), (3, Option.some b3, Go.Obj.cells (List.toArray (Go.Sl.Cells.enc (Option.getD (PV.code p)[Int.toNat (↑k : Int)]? Inhabited.default))) 55), (2, Option.some b2, Go.Obj.cells #[Go.Value.int Go.IntKind.i64 0, Go.Value.int Go.IntKind.i64 0, Go.Value.slice Option.none 0 0, Go.Value.slice Option.none 0 0] 25), (1, Option.some b1, Go.Obj.cells #[Go.Value.int Go.IntKind.i64 (PV.ins p), Go.Value.int Go.IntKind.i64 (PV.regs p), Go.Value.slice ac (List.length (PV.code p)) cc, Go.Value.slice ao (List.length (PV.outs p)) co] 25)])) (fun (M, bi, (a, e, m)) => foldTo p (k + 1) = pushL M bi ∧ OwnA a e M m ∧ (∀ i ∈ M, okC i) ∧ okC bi ∧ M.length ≤ k) (fun (M, bi, (a, e, m)) => M.length) ((xs, _, (b, d, j))) (⟨hst, hob, hxo, hx2, hxl⟩) ⟨rfl, rfl, rfl, rfl, rfl, rfl, rfl, rfl, trivial⟩ ⟨rfl, rfl, rfl, rfl, rfl, trivial⟩ (fun ⟨M, bi, (a, e, m)⟩ => fun (hk : foldTo p (k + 1) = pushL M bi ∧ OwnA a e M m ∧ (∀ i ∈ M, okC i) ∧ okC bi ∧ M.length ≤ k) => ?_)
   obtain ⟨hpu, hoM, hMo, hbo, hMk⟩ := hk
   have hbo' : constOk bi.op bi.c = true := hbo
   rcases List.eq_nil_or_concat M with rfl | ⟨M', t, rfl⟩
   · have hl0 : (([] : List Sl.Instr).length : Int) = 0 := rfl
     refine Wc.block (Wc.seq (Wc.seq (Wc.region rfl (Wl.q rfl (Qy.fieldAddr T.fa55_0 rfl) (Wl.q rfl (Qy.load 4 T.one3 rfl rfl rfl) (Wl.q rfl (Qy.eql rfl rfl) (Wl.q rfl (Qy.move rfl) ?_)))))))
     apply Wl.joinAnd 6 33 39 rfl
     intro hg1
     refine Wl.want rfl rfl (Wl.q rfl (Qy.fieldAddr T.fa55_1 rfl) (Wl.want rfl rfl (Wl.q rfl (Qy.load 4 T.one3 rfl rfl rfl) (Wl.want rfl rfl (Wl.q rfl (Qy.fieldAddr T.fa55_2 rfl) (Wl.want rfl rfl (Wl.q rfl (Qy.load 4 T.one3 rfl rfl rfl) (Wl.want rfl rfl (Wl.q rfl (Qy.eql rfl rfl) ?_)))))))))
     refine Wl.q rfl (Qy.pick rfl rfl) ?_
     exact Wl.back 6 0 rfl rfl rfl rfl rfl
     intro hg1
     refine Wl.pass rfl rfl rfl (Wl.pass rfl rfl rfl (Wl.pass rfl rfl rfl (Wl.pass rfl rfl rfl (Wl.pass rfl rfl rfl (Wl.q rfl (Qy.pick rfl rfl) ?_)))))
     exact Wl.back 6 0 rfl rfl rfl rfl rfl
     refine Wl.done (Ar.next ?_)
     refine Wc.cond rfl (fun hc1 => ?_) (fun hc1 => ?_)
     refine Wc.exit (Ar.passExit ?_)
     refine Ar.outExit rfl ?_
     refine Ar.passExit ?_
     refine Ar.outExit rfl ?_
     refine Ar.passExit ?_
     refine Ar.scopeE ?_
     refine Ar.here ?_
     refine Ar.next (Wc.region rfl (Wl.q rfl (Qy.add rfl rfl (by omega)) ?_))
     refine Wl.q rfl (Qy.move rfl) (Wl.done ?_)
     rotate_left
     refine Wc.skip (Ar.next (Wc.seq (Wc.seq (Wc.region rfl (Wl.q rfl (Qy.move rfl) (Wl.q rfl (Qy.len T.sl22 rfl) (Wl.q rfl (Qy.eql rfl rfl) (Wl.done (Ar.next (Wc.condP rfl (by first | assumption | omega) ?_))))))))))
     refine Wc.exit (Ar.passExit ?_)
     refine Ar.outExit rfl ?_
     refine Ar.passExit ?_
     refine Ar.here ?_
     refine Ar.next (Wc.region rfl (Wl.q rfl (Qy.move rfl) (Wl.q rfl (Qy.loadAll 4 T.agg55 rfl rfl rfl) ?_)))
     refine Wl.lit (α := Instr) 5 [(bi)] rfl T.sl22 T.el55 rfl rfl rfl rfl rfl (fun b5 => ?_)
     refine Wl.append (α := Instr) 0 rfl T.sl22 T.el55 rfl rfl rfl (by first | assumption | exact OwnA.nil | exact OwnA.made (by simp)) (Src.row 5 rfl) (by first | omega | (simp only [List.length_append, List.length_cons, List.length_nil, maxLen]; omega)) (by first | omega | (simp only [List.length_append, List.length_cons, List.length_nil, maxLen]; omega)) (fun a1 c1 junk1 ho1 => ?_)
     refine Wl.q rfl (Qy.assign rfl) (Wl.done (Ar.scopeN ?_))
     refine Ar.outNormal ?_
     refine Ar.next (Wc.region rfl (Wl.q rfl (Qy.add rfl rfl (by omega)) ?_))
     refine Wl.q rfl (Qy.move rfl) (Wl.done ?_)
     rotate_left
     · refine Ar.again ((k + 1, [], (a, e, m))) ?_ ?_ rfl ⟨rfl, rfl, rfl, rfl, rfl, rfl, rfl, trivial⟩ ⟨rfl, rfl, rfl, trivial⟩
       · exact ⟨by omega, by rw [hpu, pushL_idle (decide_eq_true hc1)], hoM⟩
       · show p.code.length - (k + 1) < p.code.length - k
         omega
     · refine Ar.again ((k + 1, _, (a1, c1, junk1))) ?_ ?_ rfl ⟨rfl, rfl, rfl, rfl, rfl, rfl, rfl, trivial⟩ ⟨rfl, rfl, rfl, trivial⟩
       · exact ⟨by omega, by rw [hpu, pushL_nil (fun h => hc1 (of_decide_eq_true h))]; rfl, ho1⟩
       · show p.code.length - (k + 1) < p.code.length - k
         omega
   · rw [List.concat_eq_append] at *
     have hlen : (M' ++ [t]).length = M'.length + 1 := by simp
     have hto : okC t := hMo t (by simp)
     have hget : (M' ++ [t])[(((M' ++ [t]).length : Int) - 1).toNat]?.getD default = t := by
      have e : (((M' ++ [t]).length : Int) - 1).toNat = M'.length := by omega
      rw [e]; simp
     have hto' : constOk ((M' ++ [t])[(((M' ++ [t]).length : Int) - 1).toNat]?.getD default).op ((M' ++ [t])[(((M' ++ [t]).length : Int) - 1).toNat]?.getD default).c = true := by rw [hget]; exact hto
     have hcap := hoM.le
     have hcut : (((M' ++ [t]).length : Int) - 1).toNat = M'.length := by omega
     have hM'o : ∀ i ∈ M', okC i := fun i hi => hMo i (by simp [hi])
     refine Wc.block (Wc.seq (Wc.seq (Wc.region rfl (Wl.q rfl (Qy.fieldAddr T.fa55_0 rfl) (Wl.q rfl (Qy.load 4 T.one3 rfl rfl rfl) (Wl.q rfl (Qy.eql rfl rfl) (Wl.q rfl (Qy.move rfl) ?_)))))))
     apply Wl.joinAnd 6 33 39 rfl
     intro hg1
     refine Wl.want rfl rfl (Wl.q rfl (Qy.fieldAddr T.fa55_1 rfl) (Wl.want rfl rfl (Wl.q rfl (Qy.load 4 T.one3 rfl rfl rfl) (Wl.want rfl rfl (Wl.q rfl (Qy.fieldAddr T.fa55_2 rfl) (Wl.want rfl rfl (Wl.q rfl (Qy.load 4 T.one3 rfl rfl rfl) (Wl.want rfl rfl (Wl.q rfl (Qy.eql rfl rfl) ?_)))))))))
     refine Wl.q rfl (Qy.pick rfl rfl) ?_
     exact Wl.back 6 0 rfl rfl rfl rfl rfl
     intro hg1
     refine Wl.pass rfl rfl rfl (Wl.pass rfl rfl rfl (Wl.pass rfl rfl rfl (Wl.pass rfl rfl rfl (Wl.pass rfl rfl rfl (Wl.q rfl (Qy.pick rfl rfl) ?_)))))
     exact Wl.back 6 0 rfl rfl rfl rfl rfl
     refine Wl.done (Ar.next ?_)
     refine Wc.cond rfl (fun hc1 => ?_) (fun hc1 => ?_)
     refine Wc.exit (Ar.passExit ?_)
     refine Ar.outExit rfl ?_
     refine Ar.passExit ?_
     refine Ar.outExit rfl ?_
     refine Ar.passExit ?_
     refine Ar.scopeE ?_
     refine Ar.here ?_
     refine Ar.next (Wc.region rfl (Wl.q rfl (Qy.add rfl rfl (by omega)) ?_))
     refine Wl.q rfl (Qy.move rfl) (Wl.done ?_)
     rotate_left
     refine Wc.skip (Ar.next (Wc.seq (Wc.seq (Wc.region rfl (Wl.q rfl (Qy.move rfl) (Wl.q rfl (Qy.len T.sl22 rfl) (Wl.q rfl (Qy.eql rfl rfl) (Wl.done (Ar.next (Wc.condN rfl (by first | assumption | omega) ?_))))))))))
     refine Wc.skip (Ar.next (Wc.seq (Wc.draw [1, 2, 3, 4, 0] [(0, 12), (4, 12), (3, 12), (2, 12), (1, 12)] T.mixed rfl ?_)))
     refine Gm.q 0 [] (by kernel_rfl) rfl rfl (Qy.move rfl) (Gm.q 1 [] (by kernel_rfl) rfl rfl (Qy.move rfl) (Gm.q 2 [] (by kernel_rfl) rfl rfl (Qy.len T.sl22 rfl) (Gm.q 3 [] (by kernel_rfl) rfl rfl (Qy.sub rfl rfl (by omega)) ?_)))
     refine Gm.q 4 [] (by kernel_rfl) rfl rfl (Qy.indexAddrO (α := Instr) T.sl22 rfl rfl (by assumption) (by omega)) ?_
     refine Gm.q 5 [0] (by kernel_rfl) rfl rfl (Qy.loadsO 0 T.agg55 rfl rfl (by assumption) (by omega)) ?_
     refine Gm.q 6 [4] (by kernel_rfl) rfl rfl (Qy.loadAll 4 T.agg55 rfl rfl rfl) ?_
     refine Gm.two 7 11 ⟨rfl, rfl, rfl, rfl, rfl, trivial⟩ (by first | exact Imm.le_refl _ | assumption) (by kernel_rfl) rfl rfl ?_ ?_
     refine Wl.call0 rfl T.fn31 rfl (c31 _ (by assumption) _ _ (by assumption) (by assumption)) ?_
     refine Wl.on0 ?_
     refine Gm.q 8 [] (by kernel_rfl) rfl rfl (Qy.move rfl) (Gm.q 9 [] (by kernel_rfl) rfl rfl (Qy.extract rfl rfl) (Gm.q 10 [] (by kernel_rfl) rfl rfl (Qy.extract rfl rfl) (Gm.one 11 ⟨rfl, rfl, rfl, rfl, rfl, trivial⟩ (by first | exact Imm.le_refl _ | assumption) (by kernel_rfl) rfl ?_)))
     refine Wl.alloc 5 rfl T.zero55 (fun b5 => ?_)
     refine Wl.on0 ?_
     refine Gm.one 12 ⟨rfl, rfl, rfl, rfl, rfl, trivial⟩ (by first | exact Imm.le_refl _ | assumption) (by kernel_rfl) rfl ?_
     refine Wl.storeAll 5 T.size55 rfl rfl rfl rfl rfl rfl ?_
     refine Wl.on0 ?_
     refine Gm.q 13 [] (by kernel_rfl) rfl rfl (Qy.assign rfl) (Gm.doneA (by kernel_rfl) trivial (by first | exact Imm.le_refl _ | assumption) ?_)
     refine Ar.next (Wc.seq (Wc.seq (Wc.region rfl (Wl.q rfl (Qy.move rfl) (Wl.q rfl (Qy.not rfl) (Wl.done (Ar.next (Wc.ite rfl (fun hc2 => ?_) (fun hc2 => ?_)))))))))
     refine Wc.exit (Ar.passExit ?_)
     refine Ar.outExit rfl ?_
     refine Ar.passExit ?_
     refine Ar.here ?_
     refine Ar.next (Wc.region rfl (Wl.q rfl (Qy.move rfl) (Wl.q rfl (Qy.loadAll 4 T.agg55 rfl rfl rfl) ?_)))
     refine Wl.lit (α := Instr) 6 [(bi)] rfl T.sl22 T.el55 rfl rfl rfl rfl rfl (fun b6 => ?_)
     refine Wl.append (α := Instr) 0 rfl T.sl22 T.el55 rfl rfl rfl (by first | assumption | exact OwnA.nil | exact OwnA.made (by simp)) (Src.row 6 rfl) (by first | omega | (simp only [List.length_append, List.length_cons, List.length_nil, maxLen]; omega)) (by first | omega | (simp only [List.length_append, List.length_cons, List.length_nil, maxLen]; omega)) (fun a1 c1 junk1 ho1 => ?_)
     refine Wl.q rfl (Qy.assign rfl) (Wl.done (Ar.scopeN ?_))
     refine Ar.outNormal ?_
     refine Ar.next (Wc.region rfl (Wl.q rfl (Qy.add rfl rfl (by omega)) ?_))
     refine Wl.q rfl (Qy.move rfl) (Wl.done ?_)
     rotate_left
     refine Wc.skip (Ar.next (Wc.seq (Wc.region rfl (Wl.q rfl (Qy.move rfl) (Wl.q rfl (Qy.move rfl) (Wl.q rfl (Qy.len T.sl22 rfl) (Wl.q rfl (Qy.sub rfl rfl (by omega)) ?_)))))))
     refine Wl.q rfl (Qy.cutH T.sl22 rfl rfl (by omega)) ?_
     refine Wl.q rfl (Qy.assign rfl) (Wl.done (Ar.next (Wc.region rfl (Wl.q rfl (Qy.loadAll 5 T.agg55 rfl rfl rfl) ?_))))
     refine Wl.storeAll 4 T.size55 rfl rfl rfl rfl rfl rfl ?_
     refine Wl.done ?_
     refine Ar.outNormal ?_
     rotate_left
     refine Wl.alloc 5 rfl T.zero55 (fun b5 => ?_)
     refine Wl.on0 ?_
     refine Gm.one 7 ⟨rfl, rfl, rfl, rfl, rfl, trivial⟩ (by first | exact Imm.le_refl _ | assumption) (by kernel_rfl) rfl ?_
     refine Wl.call0 rfl T.fn31 rfl (c31 _ (by assumption) _ _ (by assumption) (by assumption)) ?_
     refine Wl.on0 ?_
     refine Gm.q 8 [] (by kernel_rfl) rfl rfl (Qy.move rfl) (Gm.q 9 [] (by kernel_rfl) rfl rfl (Qy.extract rfl rfl) (Gm.q 10 [] (by kernel_rfl) rfl rfl (Qy.extract rfl rfl) (Gm.one 12 ⟨rfl, rfl, rfl, rfl, rfl, trivial⟩ (by first | exact Imm.le_refl _ | assumption) (by kernel_rfl) rfl ?_)))
     refine Wl.storeAll 5 T.size55 rfl rfl rfl rfl rfl rfl ?_
     refine Wl.on0 ?_
     refine Gm.q 13 [] (by kernel_rfl) rfl rfl (Qy.assign rfl) (Gm.doneA (by kernel_rfl) trivial (by first | exact Imm.le_refl _ | assumption) ?_)
     refine Ar.next (Wc.seq (Wc.seq (Wc.region rfl (Wl.q rfl (Qy.move rfl) (Wl.q rfl (Qy.not rfl) (Wl.done (Ar.next (Wc.ite rfl (fun hc2 => ?_) (fun hc2 => ?_)))))))))
     refine Wc.exit (Ar.passExit ?_)
     refine Ar.outExit rfl ?_
     refine Ar.passExit ?_
     refine Ar.here ?_
     refine Ar.next (Wc.region rfl (Wl.q rfl (Qy.move rfl) (Wl.q rfl (Qy.loadAll 4 T.agg55 rfl rfl rfl) ?_)))
     refine Wl.lit (α := Instr) 6 [(bi)] rfl T.sl22 T.el55 rfl rfl rfl rfl rfl (fun b6 => ?_)
     refine Wl.append (α := Instr) 0 rfl T.sl22 T.el55 rfl rfl rfl (by first | assumption | exact OwnA.nil | exact OwnA.made (by simp)) (Src.row 6 rfl) (by first | omega | (simp only [List.length_append, List.length_cons, List.length_nil, maxLen]; omega)) (by first | omega | (simp only [List.length_append, List.length_cons, List.length_nil, maxLen]; omega)) (fun a1 c1 junk1 ho1 => ?_)
     refine Wl.q rfl (Qy.assign rfl) (Wl.done (Ar.scopeN ?_))
     refine Ar.outNormal ?_
     refine Ar.next (Wc.region rfl (Wl.q rfl (Qy.add rfl rfl (by omega)) ?_))
     refine Wl.q rfl (Qy.move rfl) (Wl.done ?_)
     rotate_left
     refine Wc.skip (Ar.next (Wc.seq (Wc.region rfl (Wl.q rfl (Qy.move rfl) (Wl.q rfl (Qy.move rfl) (Wl.q rfl (Qy.len T.sl22 rfl) (Wl.q rfl (Qy.sub rfl rfl (by omega)) ?_)))))))
     refine Wl.q rfl (Qy.cutH T.sl22 rfl rfl (by omega)) ?_
     refine Wl.q rfl (Qy.assign rfl) (Wl.done (Ar.next (Wc.region rfl (Wl.q rfl (Qy.loadAll 5 T.agg55 rfl rfl rfl) ?_))))
     refine Wl.storeAll 4 T.size55 rfl rfl rfl rfl rfl rfl ?_
     refine Wl.done ?_
     refine Ar.outNormal ?_
     rotate_left
     · refine Ar.again ((k + 1, M' ++ [t], (a, e, m))) ?_ ?_ rfl ⟨rfl, rfl, rfl, rfl, rfl, rfl, rfl, trivial⟩ ⟨rfl, rfl, rfl, trivial⟩
       · exact ⟨by omega, by rw [hpu, pushL_idle (decide_eq_true hc1)], hoM⟩
       · show p.code.length - (k + 1) < p.code.length - k
         omega
     · rw [hget] at hc2
       refine Ar.again ((k + 1, _, (a1, c1, junk1))) ?_ ?_ rfl ⟨rfl, rfl, rfl, rfl, rfl, rfl, rfl, trivial⟩ ⟨rfl, rfl, rfl, trivial⟩
       · exact ⟨by omega, by rw [hpu, pushL_push (fun h => hc1 (of_decide_eq_true h)) (by simpa using hc2)], ho1⟩
       · show p.code.length - (k + 1) < p.code.length - k
         omega
     · rw [hget] at hc2 ⊢
       have hmt : (meltP t bi).2 = true := by simpa using hc2
       refine Ar.reH 0 (Row 55 M' (Cells.enc t ++ m)) rfl (row_cut M' t m) ?_
       refine Ar.re 6 rfl (show _ = Value.slice a M'.length e by rw [hcut, subA_zero hoM]) ?_
       refine Ar.again ((M', (meltP t bi).1, (a, e, Cells.enc t ++ m))) ?_ ?_ rfl ⟨rfl, rfl, rfl, rfl, rfl, rfl, rfl, rfl, trivial⟩ ⟨rfl, rfl, rfl, rfl, rfl, trivial⟩
       · exact ⟨by rw [hpu, pushL_melt (fun h => hc1 (of_decide_eq_true h)) hmt], own_cut hoM, hM'o, melt_okC hto hbo hmt, by omega⟩
       · show M'.length < (M' ++ [t]).length
         omega
     · rw [hget] at hc2
       refine Ar.again ((k + 1, _, (a1, c1, junk1))) ?_ ?_ rfl ⟨rfl, rfl, rfl, rfl, rfl, rfl, rfl, trivial⟩ ⟨rfl, rfl, rfl, trivial⟩
       · exact ⟨by omega, by rw [hpu, pushL_push (fun h => hc1 (of_decide_eq_true h)) (by simpa using hc2)], ho1⟩
       · show p.code.length - (k + 1) < p.code.length - k
         omega
     · rw [hget] at hc2 ⊢
       have hmt : (meltP t bi).2 = true := by simpa using hc2
       refine Ar.reH 0 (Row 55 M' (Cells.enc t ++ m)) rfl (row_cut M' t m) ?_
       refine Ar.re 6 rfl (show _ = Value.slice a M'.length e by rw [hcut, subA_zero hoM]) ?_
       refine Ar.again ((M', (meltP t bi).1, (a, e, Cells.enc t ++ m))) ?_ ?_ rfl ⟨rfl, rfl, rfl, rfl, rfl, rfl, rfl, rfl, trivial⟩ ⟨rfl, rfl, rfl, rfl, rfl, trivial⟩
       · exact ⟨by rw [hpu, pushL_melt (fun h => hc1 (of_decide_eq_true h)) hmt], own_cut hoM, hM'o, melt_okC hto hbo hmt, by omega⟩
       · show M'.length < (M' ++ [t]).length
         omega
 · have hk : k = p.code.length := by omega
   subst hk
   rw [foldTo_all] at hxs
   subst hxs
   refine Wc.seq (Wc.region rfl (Wl.q rfl (Qy.lss rfl rfl) (Wl.done (Ar.next (Wc.seq (Wc.condN rfl (by first | assumption | omega) ?_))))))
   refine Wc.exit (Ar.passExit ?_)
   refine Ar.passExit ?_
   refine Ar.here ?_
   refine Ar.next (Wc.seq (Wc.draw [1, 2, 0] [(2, 9)] T.mixed rfl ?_))
   refine Gm.q 0 [] (by kernel_rfl) rfl rfl (Qy.fieldAddr T.fa25_0 rfl) (Gm.q 1 [1] (by kernel_rfl) rfl rfl (Qy.load 1 T.one3 rfl rfl rfl) (Gm.q 2 [] (by kernel_rfl) rfl rfl (Qy.fieldAddr T.fa25_1 rfl) (Gm.q 3 [1] (by kernel_rfl) rfl rfl (Qy.load 1 T.one3 rfl rfl rfl) ?_)))
   refine Gm.q 4 [] (by kernel_rfl) rfl rfl (Qy.move rfl) (Gm.q 5 [] (by kernel_rfl) rfl rfl (Qy.fieldAddr T.fa25_3 rfl) (Gm.q 6 [1] (by kernel_rfl) rfl rfl (Qy.load 1 T.one23 rfl rfl rfl) (Gm.one 7 ⟨rfl, rfl, rfl, trivial⟩ (by first | exact Imm.le_refl _ | assumption) (by kernel_rfl) rfl ?_)))
   refine Wl.call 3 rfl T.fn32 rfl (c32 _ _ _ _ (by assumption) (by omega)) (tags_of trivial) (fun v1 G1 Ho1 hle1 hp => ?_)
   obtain ⟨lb1, ld1, lj1, rfl, hlb1, rfl, rfl⟩ := hp
   refine Wl.on0 ?_
   refine Gm.q 8 [] (by kernel_rfl) rfl rfl (Qy.build (cs := [_, _, _, _]) T.st25 rfl rfl rfl) ?_
   refine Gm.one 9 ⟨rfl, rfl, rfl, trivial⟩ (by first | exact Imm.le_refl _ | assumption) (by kernel_rfl) rfl ?_
   refine Wl.storeAll 2 T.size25 rfl rfl rfl rfl rfl rfl ?_
   refine Wl.on0 ?_
   refine Gm.q 10 [] (by kernel_rfl) rfl rfl (Qy.assign rfl) (Gm.doneA (by kernel_rfl) ⟨rfl, rfl, trivial⟩ (by first | exact Imm.le_refl _ | assumption) ?_)
   refine Ar.next (Wc.ret (Ar.scopeR ?_))
   refine Ar.pick [0, 3, 2] (by decide) (Ar.out2 (.inr rfl) (Ho := Hp.only _ [0, 1]) rfl (.agg 2 rfl rfl T.agg25) (.tmp rfl) (Hp.sub_only _ _) ?_)
   exact ⟨_, _, _, _, _, _, rfl, hob, hlb1, rfl, rfl⟩
def foldE (p : PV) : PV := if rightP p then foldP p else ⟨0, 0, [], []⟩
def errP (p : PV) : Int := if rightP p then 0 else 80
end Go.Proofs.YtbppmiimeccclaaDoor
set_option maxRecDepth 100000
namespace Go.Proofs.YtbppmiimeccclaaDoor
open Go Go.Sl
def Good : List Sl.Instr → Prop
 | [] => True
 | b :: s => plainP b = b ∧ ¬ idle1 b = true ∧ (∀ a t, s = a :: t → ¬ (meltP a b).2 = true) ∧ Good s
theorem plain_may {i : Sl.Instr} {r : Int} (h : mayOk i r = true) : mayOk (plainP i) r = true := by
 have hc := plain_const (i := i) (may_const h)
 rw [mayOk_iff] at h
 obtain ⟨⟨h1, h2, h3, h4, h5, h6⟩, h7⟩ := h
 have hp := pow_range i.c
 by_cases e3 : i.op = 3
 · have e : plainP i = if i.a = i.b then ⟨7, i.to, i.a, 0, 1⟩ else i := by rw [plainP, if_pos e3]
   rw [e]
   split
   · rw [mayOk_iff]; simp; omega
   · rw [mayOk_iff]; exact ⟨⟨h1, h2, h3, h4, h5, h6⟩, h7⟩
 · by_cases h5' : i.op = 5 ∨ i.op = 6
   · have e : plainP i = (if i.c = 1 then ⟨1, i.to, i.a, 0, 0⟩ else if i.c = -1 then ⟨2, i.to, i.a, 0, 0⟩ else if powC i.c ≠ 0 then (if i.op = 5 then ⟨7, i.to, i.a, 0, powC i.c⟩ else ⟨8, i.to, i.a, 0, powC i.c⟩) else i) := by rw [plainP, if_neg e3, if_pos h5']
     rw [e]
     split
     · rw [mayOk_iff]; simp; omega
     split
     · rw [mayOk_iff]; simp; omega
     split
     · split
       · rw [mayOk_iff]; simp; omega
       · rw [mayOk_iff]; simp; omega
     · rw [mayOk_iff]; exact ⟨⟨h1, h2, h3, h4, h5, h6⟩, h7⟩
   · have e : plainP i = i := by rw [plainP, if_neg e3, if_neg h5']
     rw [e, mayOk_iff]; exact ⟨⟨h1, h2, h3, h4, h5, h6⟩, h7⟩
end Go.Proofs.YtbppmiimeccclaaDoor
set_option maxRecDepth 100000
namespace Go.Proofs.YtbppmiimeccclaaDoor
open Go Go.Sl
set_option maxHeartbeats 4000000
def exW : PV := ⟨1, 2, [⟨5, 1, 0, 0, 4⟩, ⟨6, 1, 1, 0, 2⟩, ⟨6, 1, 1, 0, -2⟩, ⟨2, 1, 1, 0, 0⟩], [1]⟩
def exW2 : PV := ⟨1, 2, [⟨1, 1, 0, 0, 0⟩], [1]⟩
theorem exW_right : rightP exW = true := by decide
theorem exW_fold : foldE exW = exW2 := by rw [foldE, if_pos exW_right]; rfl
theorem exW_err : errP exW = 0 := if_pos exW_right
theorem exW_plain : plainQ ⟨5, 1, 0, 0, 8⟩ = (⟨7, 1, 0, 0, 3⟩, true) := by decide
attribute [local irreducible] plainP meltP pushL foldTo foldP foldE errP rightP plainQ
end Go.Proofs.YtbppmiimeccclaaDoor
set_option maxRecDepth 100000
namespace Go.Proofs.YtbppmiimeccclaaDoor
open Go Go.Sl
theorem tog_range {f c s d : Int} (hs : 1 ≤ s ∧ s ≤ 8 ∧ ¬ (s = 3 ∨ s = 4)) (ho : (togP f c s d).2.2 = true) : 1 ≤ (togP f c s d).1 ∧ (togP f c s d).1 ≤ 8 ∧ ¬ ((togP f c s d).1 = 3 ∨ (togP f c s d).1 = 4) := by
 unfold togP at ho ⊢
 repeat' split
 all_goals first
  | exact hs
  | (simp only []; omega)
  | simp_all
theorem melt_may {a b : Sl.Instr} {r : Int} (ha : mayOk a r = true) (hb : mayOk b r = true) (h : (meltP a b).2 = true) : mayOk (meltP a b).1 r = true := by
 have ht := tog_const (f := a.op) (c := a.c) (s := b.op) (d := b.c) (may_const ha) (may_const hb)
 rw [mayOk_iff] at ha hb
 obtain ⟨⟨a1, a2, a3, a4, a5, a6⟩, a7⟩ := ha
 obtain ⟨⟨b1, b2, b3, b4, b5, b6⟩, b7⟩ := hb
 unfold meltP at h ⊢
 split at h
 · cases h
 · rename_i hn
   rw [if_neg hn]
   split at h
   · rename_i hy
     rw [if_pos hy]
     refine plain_may ?_
     rcases ht with ht | ht
     · have hop : 1 ≤ (togP a.op a.c b.op b.c).1 ∧ (togP a.op a.c b.op b.c).1 ≤ 8 ∧ ¬ ((togP a.op a.c b.op b.c).1 = 3 ∨ (togP a.op a.c b.op b.c).1 = 4) := tog_range (by omega) hy
       rw [mayOk_iff]
       refine ⟨⟨hop.1, hop.2.1, b3, b4, a5, a6⟩, ?_⟩
       rw [if_neg hop.2.2]
       refine ⟨rfl, ?_⟩
       unfold constOk at ht
       repeat' split at ht
       all_goals simp_all
     · rw [hy] at ht; cases ht
   · cases h
end Go.Proofs.YtbppmiimeccclaaDoor
set_option maxRecDepth 100000
set_option linter.unusedVariables false
namespace Go.Proofs.YtbppmiimeccclaaDoor
open Go Go.Sl
set_option maxHeartbeats 4000000
theorem right_of {p : PV} (hh : headOk p = true) (hm : ∀ i ∈ p.code, mayOk i p.regs = true) : rightP p = true := by
 have hb : badAt p = none := by
  unfold badAt
  rw [List.findIdx?_eq_none_iff]
  intro i hi
  simp [hm i hi]
 unfold rightP checkP
 rw [hh, hb]; rfl
theorem right_head {p : PV} (hR : rightP p = true) : headOk p = true := by
 have h : (checkP p).2 = false := by simpa [rightP] using hR
 unfold checkP at h
 split at h
 · cases h
 · rename_i hn; simpa using hn
theorem fold_right {p : PV} (hR : rightP p = true) : rightP (foldP p) = true := by
 have hh := right_head hR
 have hl := fold_len p
 refine right_of ?_ ?_
 · unfold headOk at hh ⊢
   rw [Bool.and_eq_true, decide_eq_true_eq] at hh ⊢
   obtain ⟨⟨h1, h2, h3, h4, h5, h6⟩, h7⟩ := hh
   exact ⟨⟨h1, h2, h3, by omega, h5, h6⟩, h7⟩
 · intro i hi
   exact fold_all (q := fun i => mayOk i p.regs = true) (fun a b ha hb h => melt_may ha hb h) (fun i h => plain_may h) p.code (right_codes hR) i (List.mem_reverse.1 hi)
attribute [local irreducible] plainP meltP pushL foldTo foldP foldE errP rightP plainQ
end Go.Proofs.YtbppmiimeccclaaDoor
set_option maxRecDepth 100000
set_option linter.unusedVariables false
namespace Go.Proofs.YtbppmiimeccclaaDoor
open Go Go.Sl
set_option maxHeartbeats 4000000
def Bigs (G : Imm) (l : List IV) (zs : List Int) : Prop := l.length = zs.length ∧ ∀ i : Nat, i < l.length → Big G (l[i]?.getD default) (zs[i]?.getD 0)
theorem Bigs.up {G G' : Imm} {l : List IV} {zs : List Int} (h : Bigs G l zs) (hl : G.le G') : Bigs G' l zs := ⟨h.1, fun i hi => (h.2 i hi).up hl⟩
theorem Bigs.at {G : Imm} {l : List IV} {zs : List Int} (h : Bigs G l zs) {k : Int} (hk : 0 ≤ k ∧ k < l.length) : Big G (l[k.toNat]?.getD default) (zs[k.toNat]?.getD 0) := h.2 _ (by omega)
theorem Bigs.nil (G : Imm) : Bigs G [] [] := ⟨rfl, fun i hi => by simp at hi⟩
theorem Bigs.zeros (G : Imm) (n : Nat) : Bigs G (List.replicate n (default : IV)) (List.replicate n 0) := by
 refine ⟨by rw [List.length_replicate, List.length_replicate], fun i hi => ?_⟩
 rw [List.length_replicate] at hi
 rw [List.getElem?_replicate, List.getElem?_replicate, if_pos hi, if_pos hi]
 exact Big.zero G
def Below (m : Nat) (zs : List Int) : Prop := ∀ z ∈ zs, (z.natAbs : Int) < pb m
theorem Below.at {m : Nat} {zs : List Int} (h : Below m zs) (k : Nat) : ((zs[k]?.getD 0).natAbs : Int) < pb m := by
 rcases Nat.lt_or_ge k zs.length with h1 | h1
 · rw [List.getElem?_eq_getElem h1]; exact h _ (List.getElem_mem h1)
 · rw [List.getElem?_eq_none h1]; exact pb_pos m
attribute [local irreducible] valB pb cmpZ lstWp p2
end Go.Proofs.YtbppmiimeccclaaDoor
set_option maxRecDepth 100000
set_option linter.unusedVariables false
namespace Go.Proofs.YtbppmiimeccclaaDoor
open Go Go.Sl
set_option maxHeartbeats 4000000
def doZ (i : Sl.Instr) (zs : List Int) : Option Int :=
 let a := zs[i.a.toNat]?.getD 0
 let b := zs[i.b.toNat]?.getD 0
 if i.op = 2 then some (-a)
 else if i.op = 3 then some (a + b)
 else if i.op = 4 then some (a - b)
 else if i.op = 5 ∨ i.op = 7 then some (a * cst i)
 else if i.op = 6 ∨ i.op = 8 then (if a % cst i = 0 then some (a / cst i) else none)
 else some a
attribute [local irreducible] valB pb cmpZ lstWp p2 cst
end Go.Proofs.YtbppmiimeccclaaDoor
set_option maxRecDepth 100000
set_option linter.unusedVariables false
namespace Go.Proofs.YtbppmiimeccclaaDoor
open Go Go.Sl
set_option maxHeartbeats 4000000
def stepsZ (p : PV) (zs : List Int) : Nat → Option (List Int)
 | 0 => some zs
 | k + 1 => (stepsZ p zs k).bind fun rs => (doZ (p.code[((k : Nat) : Int).toNat]?.getD default) rs).map fun x => rs.set (p.code[((k : Nat) : Int).toNat]?.getD default).to.toNat x
theorem Below.mono {m k : Nat} {zs : List Int} (h : Below m zs) (hk : m ≤ k) : Below k zs := fun z hz => Int.lt_of_lt_of_le (h z hz) (pb_le hk)
attribute [local irreducible] valB pb cmpZ lstWp p2 cst doZ
end Go.Proofs.YtbppmiimeccclaaDoor
set_option maxRecDepth 100000
set_option linter.unusedVariables false
namespace Go.Proofs.YtbppmiimeccclaaDoor
open Go Go.Sl
set_option maxHeartbeats 4000000
theorem c8R (G : Imm) (p : PV) (ac ao : Option Addr) (cc co : Nat) (hc : Arr G ac p.code) (ho : Arr G ao p.outs) (h1 : p.code.length ≤ 1099511627776) (h2 : p.outs.length ≤ 1099511627776) (hR : rightP p = true) :
 Does Tryd.prog 8 [.agg #[.int .i64 p.ins, .int .i64 p.regs, .slice ac p.code.length cc, .slice ao p.outs.length co]] G [] (fun v G' Ho => v = .tuple #[.int .i64 (checkP p).1, .int .i64 0] ∧ G' = G ∧ Ho = []) := by
 have hf : (checkP p).2 = false := by unfold rightP at hR; simpa using hR
 have h := c8 G p ac ao cc co hc ho h1 h2
 rw [hf] at h
 exact h
def regs0Z (p : PV) (zs : List Int) : List Int := zs ++ List.replicate (p.regs.toNat - zs.length) 0
def outsZ (p : PV) (rs : List Int) : List Int := p.outs.map fun r => rs[r.toNat]?.getD 0
def ansZ (p : PV) (zs : List Int) : Option (List Int) := (stepsZ p (regs0Z p zs) p.code.length).map (outsZ p)
attribute [local irreducible] valB pb cmpZ lstWp p2 cst doZ checkP
end Go.Proofs.YtbppmiimeccclaaDoor
