import Derived.Test.YtfleehgbpgmcnaaNb
set_option maxRecDepth 100000
set_option linter.unusedVariables false
namespace Go.Proofs.Ytfleehgbpgmcnaa
open Go Go.Sl

set_option maxHeartbeats 4000000
def cmpZ (x y : Int) : Int := if x < y then -1 else if y < x then 1 else 0
theorem cmpZ_lt {x y : Int} (h : x < y) : cmpZ x y = -1 := if_pos h
theorem cmpZ_gt {x y : Int} (h : y < x) : cmpZ x y = 1 := by unfold cmpZ; rw [if_neg (by omega), if_pos h]
theorem cmpZ_eq {x y : Int} (h : x = y) : cmpZ x y = 0 := by unfold cmpZ; rw [if_neg (by omega), if_neg (by omega)]
theorem cmpZ_congr {x y u v : Int} (h1 : x < y ↔ u < v) (h2 : y < x ↔ v < u) : cmpZ x y = cmpZ u v := by unfold cmpZ; simp only [h1, h2]
theorem val_split (l : List U32) {m : Nat} (h : m ≤ l.length) : valL l = valL (l.take m) + pw m * valL (l.drop m) := by
  have e : valL l = valL (l.take m ++ l.drop m) := by rw [List.take_append_drop]
  rw [e, valL_append, List.length_take, Nat.min_eq_left h]
theorem u32_eq {x y : U32} (h : x.v = y.v) : x = y := by cases x; cases y; simp only at h; rw [h]
theorem drop_same {la lb : List U32} {k : Nat} (hn : la.length = lb.length) (h : ∀ j, k ≤ j → j < la.length → dg la j = dg lb j) : la.drop k = lb.drop k := by
  apply List.ext_getElem?
  intro j
  rw [List.getElem?_drop, List.getElem?_drop]
  rcases Nat.lt_or_ge (k + j) la.length with hj | hj
  · have := h (k + j) (by omega) hj
    unfold dg at this
    rw [Int.toNat_natCast, List.getElem?_eq_getElem hj, List.getElem?_eq_getElem (by omega)] at this
    rw [List.getElem?_eq_getElem hj, List.getElem?_eq_getElem (by omega)]; exact congrArg some (u32_eq this)
  · rw [List.getElem?_eq_none hj, List.getElem?_eq_none (by omega)]
theorem high_lt {la lb : List U32} {k : Nat} (hn : la.length = lb.length) (hk : k < la.length) (da : Digs la) (db : Digs lb) (h : ∀ j, k + 1 ≤ j → j < la.length → dg la j = dg lb j) (hlt : dg la k < dg lb k) : valL la < valL lb := by
  have e1 := val_split la (m := k + 1) (by omega)
  have e2 := val_split lb (m := k + 1) (by omega)
  rw [val_step, drop_same hn h] at e1
  rw [val_step] at e2
  have h1 := valL_lt (da.take k)
  have h2 := valL_nonneg (db.take k)
  rw [List.length_take, Nat.min_eq_left (by omega)] at h1
  have h3 := Int.mul_le_mul_of_nonneg_left (show dg la k + 1 ≤ dg lb k by omega) (Int.le_of_lt (pw_pos k))
  rw [Int.mul_add, Int.mul_one] at h3
  omega
attribute [local irreducible] valL pw cmpZ
theorem c91 (G : Imm) (a b : Option Addr) (ca cb : Nat) (la lb : List U32) (ha : Arr G a la) (hb : Arr G b lb) (da : Digs la) (db : Digs lb) (ta : Top la) (tb : Top lb) (h1 : la.length ≤ 1073741824) (h2 : lb.length ≤ 1073741824) :
    Does Try.prog 91 [.slice a la.length ca, .slice b lb.length cb] G [] (fun v G' Ho => v = .int .i64 (cmpZ (valL la) (valL lb)) ∧ G' = G ∧ Ho = []) := by
  refine Does.enter Try.func91 rfl Try.ntmps91 rfl (fun w => ?_)
  by_cases hn : la.length = lb.length
  · refine Wc.seq ?_
    refine Wc.region rfl ?_
    refine Wl.q rfl (Qy.assign rfl) ?_
    refine Wl.done ?_
    refine Ar.next ?_
    refine Wc.seq ?_
    refine Wc.seq ?_
    refine Wc.region rfl ?_
    refine Wl.q rfl (Qy.move rfl) ?_
    refine Wl.q rfl (Qy.len T.sl41 rfl) ?_
    refine Wl.q rfl (Qy.move rfl) ?_
    refine Wl.q rfl (Qy.len T.sl41 rfl) ?_
    refine Wl.q rfl (Qy.neq rfl rfl) ?_
    refine Wl.done ?_
    refine Ar.next ?_
    refine Wc.condN rfl (by first | assumption | omega) ?_
    refine Wc.skip ?_
    refine Ar.next ?_
    refine Wc.seq ?_
    refine Wc.seq ?_
    refine Wc.region rfl ?_
    refine Wl.q rfl (Qy.move rfl) ?_
    refine Wl.q rfl (Qy.len T.sl41 rfl) ?_
    refine Wl.q rfl (Qy.sub rfl rfl (by omega)) ?_
    refine Wl.q rfl (Qy.assign rfl) ?_
    refine Wl.done ?_
    refine Ar.next ?_
    refine Wc.block ?_
    refine Wc.loop (ι := Nat) (fun k => ([(5, .int .i64 ((k : Int) - 1)), (0, Go.Value.slice a (List.length la) ca), (1, Go.Value.slice b (List.length lb) cb)], [])) (fun k => k ≤ la.length ∧ ∀ j, k ≤ j → j < la.length → dg la j = dg lb j) (fun k => k) (la.length) (⟨Nat.le_refl _, fun j h1 h2 => absurd h2 (by omega)⟩) ⟨rfl, rfl, rfl, trivial⟩ trivial (fun k => fun (hk : k ≤ la.length ∧ ∀ j, k ≤ j → j < la.length → dg la j = dg lb j) => ?_)
    obtain ⟨hk1, hz⟩ := hk
    rcases Nat.eq_zero_or_pos k with rfl | hpos
    · refine Wc.seq ?_
      refine Wc.seq ?_
      refine Wc.region rfl ?_
      refine Wl.q rfl (Qy.move rfl) ?_
      refine Wl.q rfl (Qy.geq rfl rfl) ?_
      refine Wl.done ?_
      refine Ar.next ?_
      refine Wc.condN rfl (by first | assumption | omega) ?_
      refine Wc.exit ?_
      refine Ar.passExit ?_
      refine Ar.passExit ?_
      refine Ar.here ?_
      refine Ar.next ?_
      refine Wc.seq ?_
      refine Wc.region rfl ?_
      refine Wl.q rfl (Qy.assign rfl) ?_
      refine Wl.done ?_
      refine Ar.next ?_
      refine Wc.ret ?_
      refine Ar.out1 (.inr rfl) (Ho := Hp.only _ []) rfl (.tmp rfl) (Hp.sub_only _ _) ?_
      have e : la = lb := by
        have := drop_same (k := 0) hn hz
        simpa using this
      exact ⟨by rw [e, cmpZ_eq rfl], rfl, rfl⟩
    · have e1 : (la[(((k : Nat) : Int) - 1).toNat]?.getD default).v = dg la (k - 1) := by
        unfold dg; rw [show (((k : Nat) : Int) - 1).toNat = ((k - 1 : Nat) : Int).toNat by omega]
      have e2 : (lb[(((k : Nat) : Int) - 1).toNat]?.getD default).v = dg lb (k - 1) := by
        unfold dg; rw [show (((k : Nat) : Int) - 1).toNat = ((k - 1 : Nat) : Int).toNat by omega]
      have hz' : ∀ j, (k - 1) + 1 ≤ j → j < la.length → dg la j = dg lb j := fun j h1 h2 => hz j (by omega) h2
      refine Wc.seq ?_
      refine Wc.seq ?_
      refine Wc.region rfl ?_
      refine Wl.q rfl (Qy.move rfl) ?_
      refine Wl.q rfl (Qy.geq rfl rfl) ?_
      refine Wl.done ?_
      refine Ar.next ?_
      refine Wc.condP rfl (by first | assumption | omega) ?_
      refine Wc.skip ?_
      refine Ar.next ?_
      refine Wc.seq ?_
      refine Wc.block ?_
      refine Wc.seq ?_
      refine Wc.seq ?_
      refine Wc.draw [] [] T.mixed rfl ?_
      refine Gm.q 0 [] (by kernel_rfl) rfl rfl (Qy.move rfl) ?_
      refine Gm.q 1 [] (by kernel_rfl) rfl rfl (Qy.move rfl) ?_
      refine Gm.q 2 [] (by kernel_rfl) rfl rfl (Qy.at (α := U32) T.sl41 rfl rfl (by assumption) (by omega)) ?_
      refine Gm.q 3 [] (by kernel_rfl) rfl rfl (Qy.loadG T.one91 rfl (Arr.cell (by assumption) (by omega) 0 rfl rfl)) ?_
      refine Gm.q 4 [] (by kernel_rfl) rfl rfl (Qy.move rfl) ?_
      refine Gm.q 5 [] (by kernel_rfl) rfl rfl (Qy.move rfl) ?_
      refine Gm.q 6 [] (by kernel_rfl) rfl rfl (Qy.at (α := U32) T.sl41 rfl rfl (by assumption) (by omega)) ?_
      refine Gm.q 7 [] (by kernel_rfl) rfl rfl (Qy.loadG T.one91 rfl (Arr.cell (by assumption) (by omega) 0 rfl rfl)) ?_
      refine Gm.q 8 [] (by kernel_rfl) rfl rfl (Qy.lss rfl rfl) ?_
      refine Gm.doneA (by kernel_rfl) trivial (by first | exact Imm.le_refl _ | assumption) ?_
      refine Ar.next ?_
      refine Wc.cond rfl (fun hc1 => ?_) (fun hc1 => ?_)
      refine Wc.seq ?_
      refine Wc.region rfl ?_
      refine Wl.q rfl (Qy.assign rfl) ?_
      refine Wl.done ?_
      refine Ar.next ?_
      refine Wc.ret ?_
      refine Ar.passRet ?_
      refine Ar.outRet ?_
      refine Ar.passRet ?_
      refine Ar.passRet ?_
      refine Ar.outRet ?_
      refine Ar.passRet ?_
      refine Ar.out1 (.inr rfl) (Ho := Hp.only _ []) rfl (.tmp rfl) (Hp.sub_only _ _) ?_
      rotate_left
      refine Wc.skip ?_
      refine Ar.next ?_
      refine Wc.seq ?_
      refine Wc.draw [] [] T.mixed rfl ?_
      refine Gm.q 0 [] (by kernel_rfl) rfl rfl (Qy.move rfl) ?_
      refine Gm.q 1 [] (by kernel_rfl) rfl rfl (Qy.move rfl) ?_
      refine Gm.q 2 [] (by kernel_rfl) rfl rfl (Qy.at (α := U32) T.sl41 rfl rfl (by assumption) (by omega)) ?_
      refine Gm.q 3 [] (by kernel_rfl) rfl rfl (Qy.loadG T.one91 rfl (Arr.cell (by assumption) (by omega) 0 rfl rfl)) ?_
      refine Gm.q 4 [] (by kernel_rfl) rfl rfl (Qy.move rfl) ?_
      refine Gm.q 5 [] (by kernel_rfl) rfl rfl (Qy.move rfl) ?_
      refine Gm.q 6 [] (by kernel_rfl) rfl rfl (Qy.at (α := U32) T.sl41 rfl rfl (by assumption) (by omega)) ?_
      refine Gm.q 7 [] (by kernel_rfl) rfl rfl (Qy.loadG T.one91 rfl (Arr.cell (by assumption) (by omega) 0 rfl rfl)) ?_
      refine Gm.q 8 [] (by kernel_rfl) rfl rfl (Qy.gtr rfl rfl) ?_
      refine Gm.doneA (by kernel_rfl) trivial (by first | exact Imm.le_refl _ | assumption) ?_
      refine Ar.next ?_
      refine Wc.cond rfl (fun hc2 => ?_) (fun hc2 => ?_)
      refine Wc.seq ?_
      refine Wc.region rfl ?_
      refine Wl.q rfl (Qy.assign rfl) ?_
      refine Wl.done ?_
      refine Ar.next ?_
      refine Wc.ret ?_
      refine Ar.outRet ?_
      refine Ar.passRet ?_
      refine Ar.passRet ?_
      refine Ar.outRet ?_
      refine Ar.passRet ?_
      refine Ar.out1 (.inr rfl) (Ho := Hp.only _ []) rfl (.tmp rfl) (Hp.sub_only _ _) ?_
      rotate_left
      refine Wc.skip ?_
      refine Ar.outNormal ?_
      refine Ar.next ?_
      refine Wc.region rfl ?_
      refine Wl.q rfl (Qy.move rfl) ?_
      refine Wl.q rfl (Qy.sub rfl rfl (by omega)) ?_
      refine Wl.q rfl (Qy.assign rfl) ?_
      refine Wl.done ?_
      rotate_left
      · exact ⟨by rw [cmpZ_lt (high_lt hn (by omega) da db hz' (by omega))], rfl, rfl⟩
      · exact ⟨by rw [cmpZ_gt (high_lt hn.symm (by omega) db da (fun j h1 h2 => (hz' j h1 (by omega)).symm) (by omega))], rfl, rfl⟩
      · refine Ar.re 5 rfl (show _ = Value.int .i64 (((k - 1 : Nat) : Int) - 1) by congr 1; omega) ?_
        refine Ar.again (k - 1) ?_ ?_ rfl ⟨rfl, rfl, rfl, trivial⟩ trivial
        · refine ⟨by omega, fun j h1 h2 => ?_⟩
          rcases Nat.lt_or_ge j k with h3 | h3
          · have e : j = k - 1 := by omega
            rw [e]; omega
          · exact hz j h3 h2
        · omega
  · by_cases hlt : la.length < lb.length
    · refine Wc.seq ?_
      refine Wc.region rfl ?_
      refine Wl.q rfl (Qy.assign rfl) ?_
      refine Wl.done ?_
      refine Ar.next ?_
      refine Wc.seq ?_
      refine Wc.seq ?_
      refine Wc.region rfl ?_
      refine Wl.q rfl (Qy.move rfl) ?_
      refine Wl.q rfl (Qy.len T.sl41 rfl) ?_
      refine Wl.q rfl (Qy.move rfl) ?_
      refine Wl.q rfl (Qy.len T.sl41 rfl) ?_
      refine Wl.q rfl (Qy.neq rfl rfl) ?_
      refine Wl.done ?_
      refine Ar.next ?_
      refine Wc.condP rfl (by first | assumption | omega) ?_
      refine Wc.seq ?_
      refine Wc.seq ?_
      refine Wc.region rfl ?_
      refine Wl.q rfl (Qy.move rfl) ?_
      refine Wl.q rfl (Qy.len T.sl41 rfl) ?_
      refine Wl.q rfl (Qy.move rfl) ?_
      refine Wl.q rfl (Qy.len T.sl41 rfl) ?_
      refine Wl.q rfl (Qy.lss rfl rfl) ?_
      refine Wl.done ?_
      refine Ar.next ?_
      refine Wc.condP rfl (by first | assumption | omega) ?_
      refine Wc.seq ?_
      refine Wc.region rfl ?_
      refine Wl.q rfl (Qy.assign rfl) ?_
      refine Wl.done ?_
      refine Ar.next ?_
      refine Wc.ret ?_
      refine Ar.passRet ?_
      refine Ar.passRet ?_
      refine Ar.out1 (.inr rfl) (Ho := Hp.only _ []) rfl (.tmp rfl) (Hp.sub_only _ _) ?_
      exact ⟨by rw [cmpZ_lt (top_lt_len da db tb hlt)], rfl, rfl⟩
    · refine Wc.seq ?_
      refine Wc.region rfl ?_
      refine Wl.q rfl (Qy.assign rfl) ?_
      refine Wl.done ?_
      refine Ar.next ?_
      refine Wc.seq ?_
      refine Wc.seq ?_
      refine Wc.region rfl ?_
      refine Wl.q rfl (Qy.move rfl) ?_
      refine Wl.q rfl (Qy.len T.sl41 rfl) ?_
      refine Wl.q rfl (Qy.move rfl) ?_
      refine Wl.q rfl (Qy.len T.sl41 rfl) ?_
      refine Wl.q rfl (Qy.neq rfl rfl) ?_
      refine Wl.done ?_
      refine Ar.next ?_
      refine Wc.condP rfl (by first | assumption | omega) ?_
      refine Wc.seq ?_
      refine Wc.seq ?_
      refine Wc.region rfl ?_
      refine Wl.q rfl (Qy.move rfl) ?_
      refine Wl.q rfl (Qy.len T.sl41 rfl) ?_
      refine Wl.q rfl (Qy.move rfl) ?_
      refine Wl.q rfl (Qy.len T.sl41 rfl) ?_
      refine Wl.q rfl (Qy.lss rfl rfl) ?_
      refine Wl.done ?_
      refine Ar.next ?_
      refine Wc.condN rfl (by first | assumption | omega) ?_
      refine Wc.skip ?_
      refine Ar.next ?_
      refine Wc.seq ?_
      refine Wc.region rfl ?_
      refine Wl.q rfl (Qy.assign rfl) ?_
      refine Wl.done ?_
      refine Ar.next ?_
      refine Wc.ret ?_
      refine Ar.passRet ?_
      refine Ar.out1 (.inr rfl) (Ho := Hp.only _ []) rfl (.tmp rfl) (Hp.sub_only _ _) ?_
      exact ⟨by rw [cmpZ_gt (top_lt_len db da ta (by omega))], rfl, rfl⟩
/-- the sign -/
def sgZ (z : Int) : Int := if z = 0 then 0 else if z < 0 then -1 else 1
theorem c90 (G : Imm) (neg : Bool) (a : Option Addr) (c : Nat) (l : List U32) (z : Int) (h : IsInt neg l z) (h1 : l.length ≤ 1073741824) :
    Does Try.prog 90 [.agg #[.bool neg, .slice a l.length c]] G [] (fun v G' Ho => v = .int .i64 (sgZ z) ∧ G' = G ∧ Ho = []) := by
  have hz := h.zero_iff
  have hn := h.neg_iff
  refine Does.enter Try.func90 rfl Try.ntmps90 rfl (fun w => ?_)
  by_cases h0 : l.length = 0
  · have hz0 := hz.1 h0
    refine Wc.seq ?_
    refine Wc.region rfl ?_
    refine Wl.box 0 rfl rfl rfl (fun b1 => ?_)
    refine Wl.q rfl (Qy.assign rfl) ?_
    refine Wl.done ?_
    refine Ar.next ?_
    refine Wc.seq ?_
    refine Wc.seq ?_
    refine Wc.region rfl ?_
    refine Wl.q rfl (Qy.fieldAddr T.fa43_1 rfl) ?_
    refine Wl.q rfl (Qy.load 0 T.one41 rfl rfl rfl) ?_
    refine Wl.q rfl (Qy.len T.sl41 rfl) ?_
    refine Wl.q rfl (Qy.eql rfl rfl) ?_
    refine Wl.done ?_
    refine Ar.next ?_
    refine Wc.condP rfl (by first | assumption | omega) ?_
    refine Wc.seq ?_
    refine Wc.region rfl ?_
    refine Wl.q rfl (Qy.assign rfl) ?_
    refine Wl.done ?_
    refine Ar.next ?_
    refine Wc.ret ?_
    refine Ar.passRet ?_
    refine Ar.out1 (.inr rfl) (Ho := Hp.only _ []) rfl (.tmp rfl) (Hp.sub_only _ _) ?_
    exact ⟨by rw [hz0]; rfl, rfl, rfl⟩
  · have hz0 : z ≠ 0 := fun e => h0 (hz.2 e)
    by_cases hs : z < 0
    · rw [hn, decide_eq_true hs]
      refine Wc.seq ?_
      refine Wc.region rfl ?_
      refine Wl.box 0 rfl rfl rfl (fun b1 => ?_)
      refine Wl.q rfl (Qy.assign rfl) ?_
      refine Wl.done ?_
      refine Ar.next ?_
      refine Wc.seq ?_
      refine Wc.seq ?_
      refine Wc.region rfl ?_
      refine Wl.q rfl (Qy.fieldAddr T.fa43_1 rfl) ?_
      refine Wl.q rfl (Qy.load 0 T.one41 rfl rfl rfl) ?_
      refine Wl.q rfl (Qy.len T.sl41 rfl) ?_
      refine Wl.q rfl (Qy.eql rfl rfl) ?_
      refine Wl.done ?_
      refine Ar.next ?_
      refine Wc.condN rfl (by first | assumption | omega) ?_
      refine Wc.skip ?_
      refine Ar.next ?_
      refine Wc.seq ?_
      refine Wc.seq ?_
      refine Wc.region rfl ?_
      refine Wl.q rfl (Qy.fieldAddr T.fa43_0 rfl) ?_
      refine Wl.q rfl (Qy.load 0 T.one4 rfl rfl rfl) ?_
      refine Wl.done ?_
      refine Ar.next ?_
      refine Wc.condT rfl ?_
      refine Wc.seq ?_
      refine Wc.region rfl ?_
      refine Wl.q rfl (Qy.assign rfl) ?_
      refine Wl.done ?_
      refine Ar.next ?_
      refine Wc.ret ?_
      refine Ar.passRet ?_
      refine Ar.out1 (.inr rfl) (Ho := Hp.only _ []) rfl (.tmp rfl) (Hp.sub_only _ _) ?_
      exact ⟨by unfold sgZ; rw [if_neg hz0, if_pos hs], rfl, rfl⟩
    · rw [hn, decide_eq_false hs]
      refine Wc.seq ?_
      refine Wc.region rfl ?_
      refine Wl.box 0 rfl rfl rfl (fun b1 => ?_)
      refine Wl.q rfl (Qy.assign rfl) ?_
      refine Wl.done ?_
      refine Ar.next ?_
      refine Wc.seq ?_
      refine Wc.seq ?_
      refine Wc.region rfl ?_
      refine Wl.q rfl (Qy.fieldAddr T.fa43_1 rfl) ?_
      refine Wl.q rfl (Qy.load 0 T.one41 rfl rfl rfl) ?_
      refine Wl.q rfl (Qy.len T.sl41 rfl) ?_
      refine Wl.q rfl (Qy.eql rfl rfl) ?_
      refine Wl.done ?_
      refine Ar.next ?_
      refine Wc.condN rfl (by first | assumption | omega) ?_
      refine Wc.skip ?_
      refine Ar.next ?_
      refine Wc.seq ?_
      refine Wc.seq ?_
      refine Wc.region rfl ?_
      refine Wl.q rfl (Qy.fieldAddr T.fa43_0 rfl) ?_
      refine Wl.q rfl (Qy.load 0 T.one4 rfl rfl rfl) ?_
      refine Wl.done ?_
      refine Ar.next ?_
      refine Wc.condF rfl ?_
      refine Wc.skip ?_
      refine Ar.next ?_
      refine Wc.seq ?_
      refine Wc.region rfl ?_
      refine Wl.q rfl (Qy.assign rfl) ?_
      refine Wl.done ?_
      refine Ar.next ?_
      refine Wc.ret ?_
      refine Ar.out1 (.inr rfl) (Ho := Hp.only _ []) rfl (.tmp rfl) (Hp.sub_only _ _) ?_
      exact ⟨by unfold sgZ; rw [if_neg hz0, if_neg hs], rfl, rfl⟩
theorem sgZ_lt {z : Int} (h : z < 0) : sgZ z = -1 := by unfold sgZ; rw [if_neg (by omega), if_pos h]
theorem sgZ_gt {z : Int} (h : 0 < z) : sgZ z = 1 := by unfold sgZ; rw [if_neg (by omega), if_neg (by omega)]
theorem sgZ_eq {z : Int} (h : z = 0) : sgZ z = 0 := by unfold sgZ; rw [if_pos h]
theorem c63 (G : Imm) (n1 n2 : Bool) (a b : Option Addr) (ca cb : Nat) (la lb : List U32) (x y : Int) (ha : Arr G a la) (hb : Arr G b lb) (hx : IsInt n1 la x) (hy : IsInt n2 lb y) (h1 : la.length ≤ 1073741824) (h2 : lb.length ≤ 1073741824) :
    Does Try.prog 63 [.agg #[.bool n1, .slice a la.length ca], .agg #[.bool n2, .slice b lb.length cb]] G [] (fun v G' Ho => v = .int .i64 (cmpZ x y) ∧ G' = G ∧ Ho = []) := by
  have da := hx.digs
  have db := hy.digs
  have ta := hx.top
  have tb := hy.top
  have va := hx.abs
  have vb := hy.abs
  have cs : ∀ u v : Int, u < v → cmpZ u v = -1 := fun u v h => cmpZ_lt h
  have cg : ∀ u v : Int, v < u → cmpZ u v = 1 := fun u v h => cmpZ_gt h
  refine Does.enter Try.func63 rfl Try.ntmps63 rfl (fun w => ?_)
  have sx : (sgZ x = -1 ∧ x < 0) ∨ (sgZ x = 0 ∧ x = 0) ∨ (sgZ x = 1 ∧ 0 < x) := by
    rcases Int.lt_trichotomy x 0 with h | h | h
    · exact .inl ⟨sgZ_lt h, h⟩
    · exact .inr (.inl ⟨sgZ_eq h, h⟩)
    · exact .inr (.inr ⟨sgZ_gt h, h⟩)
  have sy : (sgZ y = -1 ∧ y < 0) ∨ (sgZ y = 0 ∧ y = 0) ∨ (sgZ y = 1 ∧ 0 < y) := by
    rcases Int.lt_trichotomy y 0 with h | h | h
    · exact .inl ⟨sgZ_lt h, h⟩
    · exact .inr (.inl ⟨sgZ_eq h, h⟩)
    · exact .inr (.inr ⟨sgZ_gt h, h⟩)
  refine Wc.seq ?_
  refine Wc.region rfl ?_
  refine Wl.box 0 rfl rfl rfl (fun b1 => ?_)
  refine Wl.box 1 rfl rfl rfl (fun b2 => ?_)
  refine Wl.q rfl (Qy.assign rfl) ?_
  refine Wl.done ?_
  refine Ar.next ?_
  refine Wc.seq ?_
  refine Wc.draw [0, 1] [] T.mixed rfl ?_
  refine Gm.q 0 [0] (by kernel_rfl) rfl rfl (Qy.loadAll 0 T.agg43 rfl rfl rfl) ?_
  refine Gm.q 2 [1] (by kernel_rfl) rfl rfl (Qy.loadAll 1 T.agg43 rfl rfl rfl) ?_
  refine Gm.one 1 ⟨rfl, rfl, trivial⟩ (by first | exact Imm.le_refl _ | assumption) (by kernel_rfl) rfl ?_
  refine Wl.call0 rfl T.fn90 rfl (c90 _ _ _ _ _ _ (by assumption) (by assumption)) ?_
  refine Wl.on0 ?_
  refine Gm.one 3 ⟨rfl, rfl, trivial⟩ (by first | exact Imm.le_refl _ | assumption) (by kernel_rfl) rfl ?_
  refine Wl.call0 rfl T.fn90 rfl (c90 _ _ _ _ _ _ (by assumption) (by assumption)) ?_
  refine Wl.on0 ?_
  refine Gm.q 4 [] (by kernel_rfl) rfl rfl (Qy.assign rfl) ?_
  refine Gm.q 5 [] (by kernel_rfl) rfl rfl (Qy.assign rfl) ?_
  refine Gm.doneA (by kernel_rfl) ⟨rfl, rfl, trivial⟩ (by first | exact Imm.le_refl _ | assumption) ?_
  refine Ar.next ?_
  refine Wc.seq ?_
  refine Wc.seq ?_
  refine Wc.region rfl ?_
  refine Wl.q rfl (Qy.move rfl) ?_
  refine Wl.q rfl (Qy.move rfl) ?_
  refine Wl.q rfl (Qy.neq rfl rfl) ?_
  refine Wl.done ?_
  refine Ar.next ?_
  refine Wc.cond rfl (fun hc1 => ?_) (fun hc1 => ?_)
  refine Wc.seq ?_
  refine Wc.seq ?_
  refine Wc.region rfl ?_
  refine Wl.q rfl (Qy.move rfl) ?_
  refine Wl.q rfl (Qy.move rfl) ?_
  refine Wl.q rfl (Qy.lss rfl rfl) ?_
  refine Wl.done ?_
  refine Ar.next ?_
  refine Wc.cond rfl (fun hc2 => ?_) (fun hc2 => ?_)
  refine Wc.seq ?_
  refine Wc.region rfl ?_
  refine Wl.q rfl (Qy.assign rfl) ?_
  refine Wl.done ?_
  refine Ar.next ?_
  refine Wc.ret ?_
  refine Ar.passRet ?_
  refine Ar.passRet ?_
  refine Ar.out1 (.inr rfl) (Ho := Hp.only _ []) rfl (.tmp rfl) (Hp.sub_only _ _) ?_
  rotate_left
  refine Wc.skip ?_
  refine Ar.next ?_
  refine Wc.seq ?_
  refine Wc.region rfl ?_
  refine Wl.q rfl (Qy.assign rfl) ?_
  refine Wl.done ?_
  refine Ar.next ?_
  refine Wc.ret ?_
  refine Ar.passRet ?_
  refine Ar.out1 (.inr rfl) (Ho := Hp.only _ []) rfl (.tmp rfl) (Hp.sub_only _ _) ?_
  rotate_left
  refine Wc.skip ?_
  refine Ar.next ?_
  refine Wc.seq ?_
  refine Wc.seq ?_
  refine Wc.region rfl ?_
  refine Wl.q rfl (Qy.move rfl) ?_
  refine Wl.q rfl (Qy.lss rfl rfl) ?_
  refine Wl.done ?_
  refine Ar.next ?_
  refine Wc.cond rfl (fun hc2 => ?_) (fun hc2 => ?_)
  refine Wc.seq ?_
  refine Wc.region rfl ?_
  refine Wl.q rfl (Qy.fieldAddr T.fa43_1 rfl) ?_
  refine Wl.q rfl (Qy.load 1 T.one41 rfl rfl rfl) ?_
  refine Wl.q rfl (Qy.fieldAddr T.fa43_1 rfl) ?_
  refine Wl.q rfl (Qy.load 0 T.one41 rfl rfl rfl) ?_
  refine Wl.call0 rfl T.fn91 rfl (c91 _ _ _ _ _ _ _ (by assumption) (by assumption) (by assumption) (by assumption) (by assumption) (by assumption) (by assumption) (by assumption)) ?_
  refine Wl.q rfl (Qy.assign rfl) ?_
  refine Wl.done ?_
  refine Ar.next ?_
  refine Wc.ret ?_
  refine Ar.passRet ?_
  refine Ar.out1 (.inr rfl) (Ho := Hp.only _ []) rfl (.tmp rfl) (Hp.sub_only _ _) ?_
  rotate_left
  refine Wc.skip ?_
  refine Ar.next ?_
  refine Wc.seq ?_
  refine Wc.region rfl ?_
  refine Wl.q rfl (Qy.fieldAddr T.fa43_1 rfl) ?_
  refine Wl.q rfl (Qy.load 0 T.one41 rfl rfl rfl) ?_
  refine Wl.q rfl (Qy.fieldAddr T.fa43_1 rfl) ?_
  refine Wl.q rfl (Qy.load 1 T.one41 rfl rfl rfl) ?_
  refine Wl.call0 rfl T.fn91 rfl (c91 _ _ _ _ _ _ _ (by assumption) (by assumption) (by assumption) (by assumption) (by assumption) (by assumption) (by assumption) (by assumption)) ?_
  refine Wl.q rfl (Qy.assign rfl) ?_
  refine Wl.done ?_
  refine Ar.next ?_
  refine Wc.ret ?_
  refine Ar.out1 (.inr rfl) (Ho := Hp.only _ []) rfl (.tmp rfl) (Hp.sub_only _ _) ?_
  rotate_left
  · exact ⟨by rw [cs x y (by omega)], rfl, rfl⟩
  · exact ⟨by rw [cg x y (by omega)], rfl, rfl⟩
  · exact ⟨by rw [cmpZ_congr (x := valL lb) (y := valL la) (u := x) (v := y) (by omega) (by omega)], rfl, rfl⟩
  · exact ⟨by rw [cmpZ_congr (x := valL la) (y := valL lb) (u := x) (v := y) (by omega) (by omega)], rfl, rfl⟩
end Go.Proofs.Ytfleehgbpgmcnaa
