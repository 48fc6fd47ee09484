import Derived.Test.YtfleehgbpgmcnaaNf
set_option maxRecDepth 100000
set_option linter.unusedVariables false
namespace Go.Proofs.Ytfleehgbpgmcnaa.T
open Go Go.Sl
theorem fld43_1 : ∀ (w : World) (v0 v1 : Value), (Instr.field 43 (.agg #[v0, v1]) 1).run Try.prog w = .ok (#[v0, v1][1]?.getD undef) w := fun _ _ _ => by kernel_rfl
end Go.Proofs.Ytfleehgbpgmcnaa.T
namespace Go.Proofs.Ytfleehgbpgmcnaa
open Go Go.Sl

set_option maxHeartbeats 4000000
theorem drop_step {l : List U32} {i : Nat} (h : i < l.length) : valL (l.drop i) = dg l i + 65536 * valL (l.drop (i + 1)) := by
  rw [List.drop_eq_getElem_cons h, valL_cons]
  unfold dg
  rw [Int.toNat_natCast, List.getElem?_eq_getElem h]; rfl
theorem dg_set {l : List U32} {i : Nat} (h : i < l.length) (d : Int) : dg (l.set i ⟨d⟩) i = d := by
  unfold dg
  rw [Int.toNat_natCast, List.getElem?_eq_getElem (by rw [List.length_set]; exact h), List.getElem_set_self]; rfl
theorem short_next {la q : List U32} {i : Nat} {r B : Int} (hi : i < la.length) (hq : i < q.length) (hv : valL (la.drop (i + 1)) = valL (q.drop (i + 1)) * B + r) :
    valL (la.drop i) = valL ((q.set i ⟨(r * 65536 + dg la i) / B⟩).drop i) * B + (r * 65536 + dg la i) % B := by
  rw [drop_step hi, drop_step (l := q.set i _) (by rw [List.length_set]; exact hq), dg_set hq, List.drop_set_of_lt (by omega), hv]
  have h := Int.emod_add_mul_ediv (r * 65536 + dg la i) B
  rw [Int.add_mul, Int.mul_comm ((r * 65536 + dg la i) / B) B, Int.mul_assoc 65536, Int.mul_add]
  omega
theorem short_lt {r a B : Int} (hr : 0 ≤ r ∧ r < B) (ha : 0 ≤ a ∧ a < 65536) : 0 ≤ (r * 65536 + a) / B ∧ (r * 65536 + a) / B < 65536 := by
  refine ⟨Int.ediv_nonneg (by omega) (by omega), Int.ediv_lt_of_lt_mul (by omega) ?_⟩
  have h1 := Int.mul_le_mul_of_nonneg_right (show r + 1 ≤ B by omega) (show (0 : Int) ≤ 65536 by decide)
  rw [Int.mul_comm 65536 B]
  omega
theorem one_val {lb : List U32} (h : lb.length = 1) : valL lb = dg lb 0 := by
  match lb, h with
  | [d], _ => rw [valL_one]; rfl
/-- quotient and remainder of digits -/
def DivOk (G : Imm) (la lb : List U32) (v : Value) : Prop := ∃ (qa ra : Option Addr) (qc rc : Nat) (lq lr : List U32), v = .tuple #[.slice qa lq.length qc, .slice ra lr.length rc] ∧ Arr G qa lq ∧ Arr G ra lr ∧ Digs lq ∧ Top lq ∧ Digs lr ∧ Top lr ∧
  valL la = valL lq * valL lb + valL lr ∧ valL lr < valL lb ∧ lq.length ≤ qc ∧ lr.length ≤ rc ∧ lq.length ≤ la.length
attribute [local irreducible] valL pw cmpZ p2
theorem c106S (G : Imm) (a b : Option Addr) (ca cb : Nat) (la lb : List U32) (ha : Arr G a la) (hb : Arr G b lb) (da : Digs la) (db : Digs lb) (tb : Top lb) (h1 : la.length ≤ 536870912) (hl1 : lb.length = 1) :
    Does Try.prog 106 [.slice a la.length ca, .slice b lb.length cb] G [] (fun v G' Ho => DivOk G' la lb v ∧ Ho = []) := by
  have hB : 0 < dg lb 0 := by
    rw [← one_val hl1]; exact top_pos db tb (fun e => by rw [e] at hl1; simp at hl1)
  have hB2 := dg_lt db (show 0 < lb.length by omega)
  have hb0 : (lb[((0 : Nat) : Int).toNat]?.getD default).v = dg lb 0 := rfl
  refine Does.enter Try.func106 rfl Try.ntmps106 rfl (fun w => ?_)
  refine Wc.seq ?_
  refine Wc.region rfl ?_
  refine Wl.q rfl (Qy.assign rfl) ?_
  refine Wl.q rfl (Qy.assign rfl) ?_
  refine Wl.done ?_
  refine Ar.next ?_
  refine Wc.seq ?_
  refine Wc.seq ?_
  refine Wc.region rfl ?_
  refine Wl.q rfl (Qy.move rfl) ?_
  refine Wl.q rfl (Qy.len T.sl41 rfl) ?_
  refine Wl.q rfl (Qy.eql rfl rfl) ?_
  refine Wl.done ?_
  refine Ar.next ?_
  refine Wc.condP rfl (by first | assumption | omega) ?_
  refine Wc.seq ?_
  refine Wc.region rfl ?_
  refine Wl.q rfl (Qy.move rfl) ?_
  refine Wl.q rfl (Qy.len T.sl41 rfl) ?_
  refine Wl.make (α := U32) 0 rfl T.sl41 T.el91 rfl rfl (by omega) (by omega) (fun b1 => ?_)
  refine Wl.q rfl (Qy.assign rfl) ?_
  refine Wl.done ?_
  refine Ar.next ?_
  refine Wc.seq ?_
  refine Wc.region rfl ?_
  refine Wl.q rfl (Qy.assign rfl) ?_
  refine Wl.done ?_
  refine Ar.next ?_
  refine Wc.seq ?_
  refine Wc.seq ?_
  refine Wc.region rfl ?_
  refine Wl.q rfl (Qy.move rfl) ?_
  refine Wl.q rfl (Qy.len T.sl41 rfl) ?_
  refine Wl.q rfl (Qy.sub rfl rfl (by omega)) ?_
  refine Wl.q rfl (Qy.assign rfl) ?_
  refine Wl.done ?_
  refine Ar.next ?_
  refine Wc.block ?_
  obtain ⟨N, hN⟩ : ∃ N, N = la.length := ⟨_, rfl⟩
  have hM : (la.length : Int).toNat = N := by omega
  rw [hM]
  have hown : ∀ r : List U32, r.length = N → OwnA (some ⟨b1, 0, none⟩) N r [] := fun r hr => .inr ⟨b1, rfl, by rw [hr]; rfl, by omega, by simp only [maxLen]; omega⟩
  refine Wc.re 6 rfl (show _ = Value.slice (some ⟨b1, 0, none⟩) (List.replicate N (default : U32)).length N by rw [List.length_replicate]) ?_
  refine Wc.loop (ι := Nat × Int × List U32) (fun (k, r, q) => ([(8, .int .i64 ((k : Int) - 1)), (7, .int .u64 r), (6, .slice (some ⟨b1, 0, none⟩) q.length N), (5, Go.Value.slice Option.none 0 0), (4, Go.Value.slice Option.none 0 0), (0, Go.Value.slice a (List.length la) ca), (1, Go.Value.slice b (List.length lb) cb)], [(0, some b1, Row 91 q [])])) (fun (k, r, q) => k ≤ la.length ∧ q.length = N ∧ Digs q ∧ 0 ≤ r ∧ r < dg lb 0 ∧ valL (la.drop k) = valL (q.drop k) * dg lb 0 + r) (fun (k, r, q) => k) ((la.length, 0, List.replicate N (default : U32))) (⟨Nat.le_refl _, List.length_replicate, Digs.zeros N, by decide, hB, by rw [List.drop_eq_nil_of_le (Nat.le_refl _), List.drop_eq_nil_of_le (by rw [List.length_replicate]; omega), valL_nil, Int.zero_mul]; rfl⟩) ⟨rfl, rfl, rfl, rfl, rfl, rfl, rfl, trivial⟩ ⟨rfl, trivial⟩ (fun ⟨k, r, q⟩ => fun (hk : k ≤ la.length ∧ q.length = N ∧ Digs q ∧ 0 ≤ r ∧ r < dg lb 0 ∧ valL (la.drop k) = valL (q.drop k) * dg lb 0 + r) => ?_)
  obtain ⟨hk1, hqN, hdq, hr0, hr1, hv⟩ := hk
  have hoq := hown q hqN
  rcases Nat.eq_zero_or_pos k with rfl | hpos
  · rw [List.drop_zero, List.drop_zero] at hv
    have hcap := hoq.le
    refine Wc.seq ?_
    refine Wc.seq ?_
    refine Wc.region rfl ?_
    refine Wl.q rfl (Qy.move rfl) ?_
    refine Wl.q rfl (Qy.geq rfl rfl) ?_
    refine Wl.done ?_
    refine Ar.next ?_
    refine Wc.condN rfl (by first | assumption | omega) ?_
    refine Wc.exit ?_
    refine Ar.passExit ?_
    refine Ar.passExit ?_
    refine Ar.here ?_
    refine Ar.next ?_
    refine Wc.seq ?_
    refine Wc.region rfl ?_
    refine Wl.q rfl (Qy.move rfl) ?_
    refine Wl.freezeRow 0 rfl hoq (fun G8 hle8 hA => ?_)
    refine Wl.call 1 rfl T.fn60 rfl (c60 _ _ _ _ _ (by assumption) (by first | omega | (simp only [List.length_cons, List.length_nil]; omega)) (by first | assumption | exact Nat.le_refl _)) (tags_of trivial) (fun v1 G1 Ho1 hle1 hp => ?_)
    obtain ⟨tn1, rfl, htr1, rfl, rfl⟩ := hp
    refine Wl.q rfl (Qy.fieldR T.fld43_1 rfl rfl) ?_
    refine Wl.q rfl (Qy.move rfl) ?_
    refine Wl.q rfl (Qy.conv32 rfl T.u91 rfl (by omega)) ?_
    refine Wl.lit (α := U32) 1 [⟨r⟩] rfl T.sl41 T.el91 rfl rfl rfl rfl rfl (fun b2 => ?_)
    have hdr : Digs [(⟨r⟩ : U32)] := Digs.one (by omega)
    refine Wl.freezeRow 1 rfl (OwnA.made (xs := [(⟨r⟩ : U32)]) (by simp [maxLen])) (fun G9 hle9 hA2 => ?_)
    replace hA := hA.up hle9
    refine Wl.call 2 rfl T.fn60 rfl (c60 _ _ _ _ _ (by assumption) (by first | omega | (simp only [List.length_cons, List.length_nil]; omega)) (by first | assumption | exact Nat.le_refl _)) (tags_of trivial) (fun v2 G2 Ho2 hle2 hp => ?_)
    obtain ⟨tn2, rfl, htr2, rfl, rfl⟩ := hp
    refine Wl.q rfl (Qy.fieldR T.fld43_1 rfl rfl) ?_
    refine Wl.q rfl (Qy.assign rfl) ?_
    refine Wl.q rfl (Qy.assign rfl) ?_
    refine Wl.done ?_
    refine Ar.next ?_
    refine Wc.ret ?_
    refine Ar.passRet ?_
    refine Ar.out2 (.inr rfl) (Ho := []) rfl (.tmp rfl) (.tmp rfl) trivial ?_
    refine ⟨⟨subA (some ⟨b1, 0, none⟩) N 0 1, subA (some ⟨b2, 0, none⟩) 1 0 1, N, 1, q.take tn1, [(⟨r⟩ : U32)].take tn2, ?_, arr_sub hA _, arr_sub hA2 _, hdq.take _, htr1.top, hdr.take _, htr2.top, ?_, ?_, ?_, ?_, ?_⟩, rfl⟩
    · rw [htr1.len, htr2.len]; rfl
    · rw [htr1.val, htr2.val, valL_one, one_val hl1]; exact hv
    · rw [htr2.val, valL_one, one_val hl1]; exact hr1
    · rw [htr1.len]; exact Nat.le_trans htr1.1 hcap
    · rw [htr2.len]; exact htr2.1
    · rw [htr1.len, ← hN, ← hqN]; exact htr1.1
  · obtain ⟨i, rfl⟩ : ∃ i, k = i + 1 := ⟨k - 1, by omega⟩
    have hai := dg_lt da (show i < la.length by omega)
    have ei : (((i + 1 : Nat) : Int) - 1).toNat = i := by omega
    have eA : (la[(((i + 1 : Nat) : Int) - 1).toNat]?.getD default).v = dg la i := by unfold dg; rw [ei, Int.toNat_natCast]
    have hsl := short_lt ⟨hr0, hr1⟩ hai
    have hb1 : 0 < (lb[(0 : Int).toNat]?.getD default).v := hB
    have hb2 : (lb[(0 : Int).toNat]?.getD default).v < 65536 := hB2.2
    have hsl' : 0 ≤ (r * 65536 + (la[(((i + 1 : Nat) : Int) - 1).toNat]?.getD default).v) / (lb[(0 : Int).toNat]?.getD default).v ∧ (r * 65536 + (la[(((i + 1 : Nat) : Int) - 1).toNat]?.getD default).v) / (lb[(0 : Int).toNat]?.getD default).v ≤ 65535 := by
      rw [eA]
      exact ⟨hsl.1, by have := hsl.2; show _ / dg lb 0 ≤ _; omega⟩
    have hrm : 0 ≤ (r * 65536 + dg la i) % dg lb 0 ∧ (r * 65536 + dg la i) % dg lb 0 < dg lb 0 := ⟨Int.emod_nonneg _ (by omega), Int.emod_lt_of_pos _ hB⟩
    refine Wc.seq ?_
    refine Wc.seq ?_
    refine Wc.region rfl ?_
    refine Wl.q rfl (Qy.move rfl) ?_
    refine Wl.q rfl (Qy.geq rfl rfl) ?_
    refine Wl.done ?_
    refine Ar.next ?_
    refine Wc.condP rfl (by first | assumption | omega) ?_
    refine Wc.skip ?_
    refine Ar.next ?_
    refine Wc.seq ?_
    refine Wc.block ?_
    refine Wc.seq ?_
    refine Wc.region rfl ?_
    refine Wl.q rfl (Qy.move rfl) ?_
    refine Wl.q rfl (Qy.umul64 rfl rfl (by first | assumption | omega)) ?_
    refine Wl.q rfl (Qy.move rfl) ?_
    refine Wl.q rfl (Qy.move rfl) ?_
    refine Wl.q rfl (Qy.at (α := U32) T.sl41 rfl rfl (by assumption) (by omega)) ?_
    refine Wl.q rfl (Qy.loadG T.one91 rfl (Arr.cell (by assumption) (by omega) 0 rfl rfl)) ?_
    refine Wl.q rfl (Qy.conv64 rfl T.u90 rfl (by omega)) ?_
    refine Wl.q rfl (Qy.uadd64 rfl rfl (by omega)) ?_
    refine Wl.q rfl (Qy.assign rfl) ?_
    refine Wl.done ?_
    refine Ar.next ?_
    refine Wc.seq ?_
    refine Wc.region rfl ?_
    refine Wl.q rfl (Qy.move rfl) ?_
    refine Wl.q rfl (Qy.move rfl) ?_
    refine Wl.q rfl (Qy.move rfl) ?_
    refine Wl.q rfl (Qy.move rfl) ?_
    refine Wl.q rfl (Qy.at (α := U32) T.sl41 rfl rfl (by assumption) (by omega)) ?_
    refine Wl.q rfl (Qy.loadG T.one91 rfl (Arr.cell (by assumption) (by omega) 0 rfl rfl)) ?_
    refine Wl.q rfl (Qy.conv64 rfl T.u90 rfl (by omega)) ?_
    refine Wl.q rfl (Qy.uquo64 rfl rfl (by omega)) ?_
    refine Wl.q rfl (Qy.conv32 rfl T.u91 rfl (by omega)) ?_
    refine Wl.q rfl (Qy.indexAddrO (α := U32) T.sl41 rfl rfl (by assumption) (by omega)) ?_
    refine Wl.setO (z := _) 0 T.size91 rfl rfl rfl (by assumption) (by omega) rfl (fun ho1 => ?_)
    refine Wl.done ?_
    refine Ar.next ?_
    refine Wc.region rfl ?_
    refine Wl.q rfl (Qy.move rfl) ?_
    refine Wl.q rfl (Qy.move rfl) ?_
    refine Wl.q rfl (Qy.at (α := U32) T.sl41 rfl rfl (by assumption) (by omega)) ?_
    refine Wl.q rfl (Qy.loadG T.one91 rfl (Arr.cell (by assumption) (by omega) 0 rfl rfl)) ?_
    refine Wl.q rfl (Qy.conv64 rfl T.u90 rfl (by omega)) ?_
    refine Wl.q rfl (Qy.urem rfl rfl (by omega)) ?_
    refine Wl.q rfl (Qy.assign rfl) ?_
    refine Wl.done ?_
    refine Ar.outNormal ?_
    refine Ar.next ?_
    refine Wc.region rfl ?_
    refine Wl.q rfl (Qy.move rfl) ?_
    refine Wl.q rfl (Qy.sub rfl rfl (by omega)) ?_
    refine Wl.q rfl (Qy.assign rfl) ?_
    refine Wl.done ?_
    rw [eA]
    refine Ar.re 8 rfl (show _ = Value.int .i64 ((i : Int) - 1) by congr 1; omega) ?_
    refine Ar.reH 0 (Row 91 (q.set i ⟨(r * 65536 + dg la i) / dg lb 0⟩) []) rfl (by rw [ei]; rfl) ?_
    refine Ar.re 6 rfl (show _ = Value.slice (some ⟨b1, 0, none⟩) (q.set i ⟨(r * 65536 + dg la i) / dg lb 0⟩).length N by rw [List.length_set]) ?_
    refine Ar.again ((i, (r * 65536 + dg la i) % dg lb 0, q.set i ⟨(r * 65536 + dg la i) / dg lb 0⟩)) ?_ ?_ rfl ⟨rfl, rfl, rfl, rfl, rfl, rfl, rfl, trivial⟩ ⟨rfl, trivial⟩
    · exact ⟨by omega, by rw [List.length_set]; exact hqN, digs_set hdq _ hsl, hrm.1, hrm.2, short_next (by omega) (by omega) hv⟩
    · show i < i + 1
      omega
end Go.Proofs.Ytfleehgbpgmcnaa
