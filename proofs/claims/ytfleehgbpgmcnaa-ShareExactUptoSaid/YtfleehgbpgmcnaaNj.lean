import Derived.Test.YtfleehgbpgmcnaaNi
set_option maxRecDepth 100000
set_option linter.unusedVariables false
namespace Go.Proofs.Ytfleehgbpgmcnaa
open Go Go.Sl

set_option maxHeartbeats 4000000
theorem num_divmod (G : Imm) (x y : IV) (zx zy : Int) (hx : Num G x zx) (hy : Num G y zy) (h1 : x.n ≤ 536870912) (h2 : y.n ≤ 536870912) (hy0 : zy ≠ 0) :
    Does Try.prog 103 [.agg (Cells.enc x).toArray, .agg (Cells.enc y).toArray] G [] (fun v G' Ho => ∃ q r : IV, v = .tuple #[.agg (Cells.enc q).toArray, .agg (Cells.enc r).toArray] ∧ Num G' q (zx / zy) ∧ Num G' r (zx % zy) ∧ Ho = []) := by
  obtain ⟨n1, a, k1, ca⟩ := x
  obtain ⟨n2, b, k2, cb⟩ := y
  obtain ⟨la, hl, hlc, hA, hI⟩ := hx
  obtain ⟨lb, hl', hlc', hA', hI'⟩ := hy
  simp only at hl hlc hA hI hl' hlc' hA' hI' h1 h2
  subst hl hl'
  exact c103 G n1 n2 a b ca cb la lb zx zy hA hA' hI hI' h1 h2 hlc' hy0
theorem num_sign (G : Imm) (x : IV) (z : Int) (hx : Num G x z) (h1 : x.n ≤ 1073741824) :
    Does Try.prog 90 [.agg (Cells.enc x).toArray] G [] (fun v G' Ho => v = .int .i64 (sgZ z) ∧ G' = G ∧ Ho = []) := by
  obtain ⟨n1, a, k1, ca⟩ := x
  obtain ⟨la, hl, hlc, hA, hI⟩ := hx
  simp only at hl hlc hA hI h1
  subst hl
  exact c90 G n1 a ca la z hI h1
theorem num_of (G : Imm) (n : Int) (hn : -9223372036854775808 ≤ n ∧ n ≤ 9223372036854775807) :
    Does Try.prog 20 [.int .i64 n] G [] (fun v G' Ho => ∃ r : IV, v = .agg (Cells.enc r).toArray ∧ Num G' r n ∧ Ho = []) := c20 G n hn
theorem Num.zero_iff {G : Imm} {x : IV} {z : Int} (h : Num G x z) : x.n = 0 ↔ z = 0 := by
  obtain ⟨l, h1, _, _, h4⟩ := h
  rw [← h1]; exact h4.zero_iff
theorem valL_pow (n : Nat) : valL ((List.replicate (n / 16 + 1) (default : U32)).set (n / 16) ⟨p2 (n % 16)⟩) = p2 n := by
  rw [valL_set _ _ _ (by rw [List.length_replicate]; omega)]
  have h0 : dg (List.replicate (n / 16 + 1) (default : U32)) (n / 16) = 0 := by
    unfold dg
    rw [Int.toNat_natCast, List.getElem?_replicate]
    split <;> rfl
  rw [h0, show (default : U32) = ⟨0⟩ from rfl, valL_replicate, pw_p2, Int.zero_add, Int.sub_zero, ← p2_add, show 16 * (n / 16) + n % 16 = n by omega]
theorem Num.out {G : Imm} {x : IV} {z z' : Int} (h : Num G x z) (e : z = z') : Num G x z' := e ▸ h
attribute [local irreducible] valL pw cmpZ p2
theorem num_over (G : Imm) (x y : IV) (zx zy : Int) (hx : Num G x zx) (hy : Num G y zy) (h1 : x.n ≤ 536870912) (h2 : y.n ≤ 536870912) (hy0 : zy ≠ 0) :
    Does Try.prog 99 [.agg (Cells.enc x).toArray, .agg (Cells.enc y).toArray] G [] (fun v G' Ho => ∃ q : IV, v = .tuple #[.agg (Cells.enc q).toArray, .bool (decide (zx % zy = 0))] ∧ Num G' q (if zx % zy = 0 then zx / zy else 0) ∧ Ho = []) := by
  refine Does.enter Try.func99 rfl Try.ntmps99 rfl (fun w => ?_)
  refine Wc.seq ?_
  refine Wc.region rfl ?_
  refine Wl.box 0 rfl rfl rfl (fun b1 => ?_)
  refine Wl.box 1 rfl rfl rfl (fun b2 => ?_)
  refine Wl.alloc 2 rfl T.zero43 (fun b3 => ?_)
  refine Wl.q rfl (Qy.assign rfl) ?_
  refine Wl.done ?_
  refine Ar.next ?_
  refine Wc.seq ?_
  refine Wc.region rfl ?_
  refine Wl.q rfl (Qy.loadAll 0 T.agg43 rfl rfl rfl) ?_
  refine Wl.q rfl (Qy.loadAll 1 T.agg43 rfl rfl rfl) ?_
  refine Wl.call 3 rfl T.fn103 rfl (num_divmod _ _ _ _ _ hx hy h1 h2 hy0) (tags_of trivial) (fun v1 G1 Ho1 hle1 hp => ?_)
  obtain ⟨q1, r1, rfl, hq1, hr1, rfl⟩ := hp
  replace hx := hx.up hle1
  replace hy := hy.up hle1
  refine Wl.q rfl (Qy.move rfl) ?_
  refine Wl.q rfl (Qy.extract rfl rfl) ?_
  refine Wl.q rfl (Qy.extract rfl rfl) ?_
  refine Wl.alloc 3 rfl T.zero43 (fun b4 => ?_)
  refine Wl.alloc 4 rfl T.zero43 (fun b5 => ?_)
  refine Wl.storeAll 3 T.size43 rfl rfl rfl rfl rfl rfl ?_
  refine Wl.storeAll 4 T.size43 rfl rfl rfl rfl rfl rfl ?_
  refine Wl.done ?_
  refine Ar.next ?_
  refine Wc.seq ?_
  refine Wc.seq ?_
  refine Wc.region rfl ?_
  refine Wl.q rfl (Qy.fieldAddr T.fa43_1 rfl) ?_
  refine Wl.q rfl (Qy.load 4 T.one41 rfl rfl rfl) ?_
  refine Wl.q rfl (Qy.len T.sl41 rfl) ?_
  refine Wl.q rfl (Qy.gtr rfl rfl) ?_
  refine Wl.done ?_
  refine Ar.next ?_
  refine Wc.cond rfl (fun hc1 => ?_) (fun hc1 => ?_)
  refine Wc.seq ?_
  refine Wc.region rfl ?_
  refine Wl.q rfl (Qy.build (cs := [_, _]) T.st43 rfl rfl rfl) ?_
  refine Wl.storeAll 2 T.size43 rfl rfl rfl rfl rfl rfl ?_
  refine Wl.q rfl (Qy.assign rfl) ?_
  refine Wl.done ?_
  refine Ar.next ?_
  refine Wc.ret ?_
  refine Ar.passRet ?_
  rotate_left
  refine Wc.skip ?_
  refine Ar.next ?_
  refine Wc.seq ?_
  refine Wc.region rfl ?_
  refine Wl.q rfl (Qy.loadAll 3 T.agg43 rfl rfl rfl) ?_
  refine Wl.storeAll 2 T.size43 rfl rfl rfl rfl rfl rfl ?_
  refine Wl.q rfl (Qy.assign rfl) ?_
  refine Wl.done ?_
  refine Ar.next ?_
  refine Wc.ret ?_
  rotate_left
  · refine Ar.out2 (.inr rfl) (Ho := []) rfl (.agg 2 rfl rfl T.agg43) (.tmp rfl) trivial ?_
    have h0 : ¬ zx % zy = 0 := fun e => by have := (Num.zero_iff hr1).2 e; omega
    refine ⟨⟨false, none, 0, 0⟩, by rw [decide_eq_false h0]; rfl, ?_, rfl⟩
    rw [if_neg h0]; exact Num.zero _
  · refine Ar.out2 (.inr rfl) (Ho := []) rfl (.agg 2 rfl rfl T.agg43) (.tmp rfl) trivial ?_
    have h0 : zx % zy = 0 := (Num.zero_iff hr1).1 (by omega)
    refine ⟨q1, by rw [decide_eq_true h0], ?_, rfl⟩
    rw [if_pos h0]; exact hq1
theorem c98 (G : Imm) (n : Nat) (hn : n ≤ 16777216) :
    Does Try.prog 98 [.int .i64 (n : Int)] G [] (fun v G' Ho => ∃ r : IV, v = .agg (Cells.enc r).toArray ∧ Num G' r (p2 n) ∧ Ho = []) := by
  refine Does.enter Try.func98 rfl Try.ntmps98 rfl (fun w => ?_)
  refine Wc.seq ?_
  refine Wc.region rfl ?_
  refine Wl.alloc 0 rfl T.zero43 (fun b1 => ?_)
  refine Wl.done ?_
  refine Ar.next ?_
  refine Wc.seq ?_
  refine Wc.region rfl ?_
  refine Wl.q rfl (Qy.move rfl) ?_
  refine Wl.q rfl (Qy.quoP rfl rfl (by omega)) ?_
  refine Wl.q rfl (Qy.add rfl rfl (by omega)) ?_
  refine Wl.make (α := U32) 1 rfl T.sl41 T.el91 rfl rfl (by omega) (by omega) (fun b2 => ?_)
  refine Wl.q rfl (Qy.assign rfl) ?_
  refine Wl.done ?_
  refine Ar.next ?_
  obtain ⟨N, hN⟩ : ∃ N, N = n / 16 + 1 := ⟨_, rfl⟩
  have hM : ((n : Int) / 16 + 1).toNat = N := by omega
  rw [hM]
  have hown : ∀ r : List U32, r.length = N → OwnA (some ⟨b2, 0, none⟩) N r [] := fun r hr => .inr ⟨b2, rfl, by rw [hr]; rfl, by omega, by simp only [maxLen]; omega⟩
  have hrl : (List.replicate N (default : U32)).length = N := List.length_replicate
  have hor := hown _ hrl
  refine Wc.re 3 rfl (show _ = Value.slice (some ⟨b2, 0, none⟩) (List.replicate N (default : U32)).length N by rw [List.length_replicate]) ?_
  refine Wc.seq ?_
  refine Wc.region rfl ?_
  refine Wl.q rfl (Qy.move rfl) ?_
  refine Wl.q rfl (Qy.move rfl) ?_
  refine Wl.q rfl (Qy.quoP rfl rfl (by omega)) ?_
  refine Wl.q rfl (Qy.move rfl) ?_
  refine Wl.q rfl (Qy.urem rfl rfl (by omega)) ?_
  refine Wl.q rfl (Qy.shl rfl rfl (by omega)) ?_
  refine Wl.q rfl (Qy.indexAddrO (α := U32) T.sl41 rfl rfl (by assumption) (by omega)) ?_
  refine Wl.setO (z := _) 1 T.size91 rfl rfl rfl (by assumption) (by omega) rfl (fun ho1 => ?_)
  refine Wl.done ?_
  refine Ar.next ?_
  refine Wc.seq ?_
  refine Wc.region rfl ?_
  refine Wl.q rfl (Qy.move rfl) ?_
  have e3 : (List.replicate N (default : U32)).set ((n : Int) / 16).toNat ⟨1 * 2 ^ min ((n : Int) % 16).toNat IntKind.u32.bits % 2 ^ IntKind.u32.bits⟩ = (List.replicate (n / 16 + 1) (default : U32)).set (n / 16) ⟨p2 (n % 16)⟩ := by
    have h1 : 1 * 2 ^ min ((n : Int) % 16).toNat IntKind.u32.bits % 2 ^ IntKind.u32.bits = p2 (n % 16) := shl_one
    rw [h1, hN, show ((n : Int) / 16).toNat = n / 16 by omega]
  rw [e3] at ho1 ⊢
  obtain ⟨r, hr⟩ : ∃ r, r = (List.replicate (n / 16 + 1) (default : U32)).set (n / 16) ⟨p2 (n % 16)⟩ := ⟨_, rfl⟩
  rw [← hr] at ho1 ⊢
  have hrN : r.length = N := by rw [hr, List.length_set, List.length_replicate, hN]
  have hv : valL r = p2 n := by rw [hr]; exact valL_pow n
  have hd : Digs r := by rw [hr]; exact digs_set (Digs.zeros _) _ ⟨Int.le_of_lt (p2_pos _), by have := p2_le (show n % 16 ≤ 15 by omega); rw [show p2 15 = 32768 by unfold p2; decide] at this; omega⟩
  have hcap := ho1.le
  refine Wl.freezeRow 1 rfl ho1 (fun G9 hle9 hA => ?_)
  refine Wl.re 15 rfl (show _ = Value.slice (some ⟨b2, 0, none⟩) r.length N by rw [hrN, List.length_replicate]) ?_
  refine Wl.call 2 rfl T.fn60 rfl (c60 _ _ _ _ _ (by assumption) (by omega) (by first | assumption | omega)) (tags_of trivial) (fun v1 G1 Ho1 hle1 hp => ?_)
  obtain ⟨tn1, rfl, htr1, rfl, rfl⟩ := hp
  refine Wl.storeAll 0 T.size43 rfl rfl rfl rfl rfl rfl ?_
  refine Wl.done ?_
  refine Ar.next ?_
  refine Wc.ret ?_
  refine Ar.out1 (.inr rfl) (Ho := Hp.only _ []) rfl (.agg 0 rfl rfl T.agg43) (Hp.sub_only _ _) ?_
  refine ⟨⟨false && decide (0 < tn1), subA (some ⟨b2, 0, none⟩) N 0 1, tn1, N⟩, rfl, ?_, rfl⟩
  have e := htr1.num hd hA hcap false
  rw [if_neg (by decide), hv] at e
  exact e
end Go.Proofs.Ytfleehgbpgmcnaa
