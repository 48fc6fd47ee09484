/- Parts of the proof (part 3): what the rows' text needs of the texts that lead to it. -/
import Derived.Test.YtbppmiimeccclaaDoorMRb
set_option maxRecDepth 100000
namespace Go.Proofs.YtbppmiimeccclaaDoor.T
open Go Go.Sl
theorem ar175 : ArrayOf Tryd.prog 175 64 1 (List.replicate 64 (.int .u8 0)) := ArrayOf.of 5 (by kernel_rfl) (by kernel_rfl) (by kernel_rfl)
end Go.Proofs.YtbppmiimeccclaaDoor.T
namespace Go.Proofs.YtbppmiimeccclaaDoor
open Go Go.Sl
set_option maxRecDepth 100000
set_option maxHeartbeats 2000000
def powC (c : Int) : Int := if c = 2 then 1 else if c = 4 then 2 else if c = 8 then 3 else if c = 16 then 4 else if c = 32 then 5 else if c = 64 then 6 else if c = 128 then 7 else if c = 256 then 8 else if c = 512 then 9 else 0
def tab64 : List Value := [0, 1, 56, 2, 57, 49, 28, 3, 61, 58, 42, 50, 38, 29, 17, 4, 62, 47, 59, 36, 45, 43, 51, 22, 53, 39, 33, 30, 24, 18, 12, 5, 63, 55, 48, 27, 60, 41, 37, 16, 46, 35, 44, 21, 52, 32, 23, 11, 54, 26, 40, 15, 34, 20, 31, 10, 25, 14, 19, 9, 13, 8, 7, 6].map fun n => .int .u8 n
def TabOk (G : Imm) : Prop := ∀ k v, tab64[k]? = some v → G.cell 1 k = some v
theorem TabOk.up {G G' : Imm} (h : TabOk G) (hl : G.le G') : TabOk G' := fun k v hv => Imm.cell_le hl (h k v hv)
theorem TabOk.cell {G : Imm} (h : TabOk G) (k : Nat) (v : Value) (hv : tab64[k]? = some v) : G.cell 1 k = some v := h k v hv
theorem pow_cases {c : Int} (h : powC c ≠ 0) : c = 2 ∨ c = 4 ∨ c = 8 ∨ c = 16 ∨ c = 32 ∨ c = 64 ∨ c = 128 ∨ c = 256 ∨ c = 512 := by
 unfold powC at h
 repeat' split at h
 all_goals omega
theorem pow_bits : ∀ k : Fin 511, (bits .and .i64 ((k.val : Int) + 2) ((k.val : Int) + 2 - 1) = 0) ↔ powC ((k.val : Int) + 2) ≠ 0 := by decide +kernel
theorem pow_bits' {c : Int} (h : 2 ≤ c ∧ c ≤ 512) : bits .and .i64 c (c - 1) = 0 ↔ powC c ≠ 0 := by
 have := pow_bits ⟨(c - 2).toNat, by omega⟩
 have e : (((c - 2).toNat : Nat) : Int) + 2 = c := by omega
 simpa only [e] using this
theorem pow_small {c : Int} (h : c < 2) : powC c = 0 := by
 unfold powC
 repeat' split
 all_goals omega
theorem c108 (G : Imm) (hT : TabOk G) (c : Int) (h : powC c ≠ 0) : Does Tryd.prog 108 [.int .u64 c] G [] (fun v G' Ho => v = .int .i64 (powC c) ∧ G' = G ∧ Ho = []) := by
 refine Does.enter Tryd.func108 rfl Tryd.ntmps108 rfl (fun w => ?_)
 rcases pow_cases h with rfl | rfl | rfl | rfl | rfl | rfl | rfl | rfl | rfl
 · have hcell := hT.cell 1 (.int .u8 1) rfl
   refine Wc.seq (Wc.region rfl (Wl.q rfl (Qy.assign rfl) (Wl.done (Ar.next (Wc.seq (Wc.seq (Wc.region rfl (Wl.q rfl (Qy.move rfl) (Wl.q rfl (Qy.eql rfl rfl) (Wl.done (Ar.next (Wc.condN rfl (by first | assumption | omega) ?_))))))))))))
   refine Wc.skip (Ar.next (Wc.seq (Wc.region rfl (Wl.q rfl (Qy.move rfl) (Wl.q rfl (Qy.move rfl) (Wl.q rfl (Qy.negW rfl) ?_))))))
   refine Wl.q rfl (Qy.andW rfl rfl) ?_
   refine Wl.q rfl (Qy.mulW rfl rfl) ?_
   refine Wl.q rfl (Qy.shr rfl rfl (by omega)) ?_
   refine Wl.re 10 rfl (show _ = Value.int .u64 1 by kernel_rfl) ?_
   refine Wl.q rfl (Qy.indexAddrA 1 T.ar175 rfl rfl rfl rfl) ?_
   refine Wl.q rfl (Qy.loadG T.one5 rfl (by assumption)) ?_
   refine Wl.q rfl (Qy.conv rfl T.u3 rfl) ?_
   refine Wl.q rfl (Qy.assign rfl) (Wl.done (Ar.next (Wc.ret ?_)))
   refine Ar.out1 (.inr rfl) (Ho := Hp.only _ []) rfl (.tmp rfl) (Hp.sub_only _ _) ?_
   exact ⟨rfl, rfl, rfl⟩
 · have hcell := hT.cell 3 (.int .u8 2) rfl
   refine Wc.seq (Wc.region rfl (Wl.q rfl (Qy.assign rfl) (Wl.done (Ar.next (Wc.seq (Wc.seq (Wc.region rfl (Wl.q rfl (Qy.move rfl) (Wl.q rfl (Qy.eql rfl rfl) (Wl.done (Ar.next (Wc.condN rfl (by first | assumption | omega) ?_))))))))))))
   refine Wc.skip (Ar.next (Wc.seq (Wc.region rfl (Wl.q rfl (Qy.move rfl) (Wl.q rfl (Qy.move rfl) (Wl.q rfl (Qy.negW rfl) ?_))))))
   refine Wl.q rfl (Qy.andW rfl rfl) ?_
   refine Wl.q rfl (Qy.mulW rfl rfl) ?_
   refine Wl.q rfl (Qy.shr rfl rfl (by omega)) ?_
   refine Wl.re 10 rfl (show _ = Value.int .u64 3 by kernel_rfl) ?_
   refine Wl.q rfl (Qy.indexAddrA 3 T.ar175 rfl rfl rfl rfl) ?_
   refine Wl.q rfl (Qy.loadG T.one5 rfl (by assumption)) ?_
   refine Wl.q rfl (Qy.conv rfl T.u3 rfl) ?_
   refine Wl.q rfl (Qy.assign rfl) (Wl.done (Ar.next (Wc.ret ?_)))
   refine Ar.out1 (.inr rfl) (Ho := Hp.only _ []) rfl (.tmp rfl) (Hp.sub_only _ _) ?_
   exact ⟨rfl, rfl, rfl⟩
 · have hcell := hT.cell 7 (.int .u8 3) rfl
   refine Wc.seq (Wc.region rfl (Wl.q rfl (Qy.assign rfl) (Wl.done (Ar.next (Wc.seq (Wc.seq (Wc.region rfl (Wl.q rfl (Qy.move rfl) (Wl.q rfl (Qy.eql rfl rfl) (Wl.done (Ar.next (Wc.condN rfl (by first | assumption | omega) ?_))))))))))))
   refine Wc.skip (Ar.next (Wc.seq (Wc.region rfl (Wl.q rfl (Qy.move rfl) (Wl.q rfl (Qy.move rfl) (Wl.q rfl (Qy.negW rfl) ?_))))))
   refine Wl.q rfl (Qy.andW rfl rfl) ?_
   refine Wl.q rfl (Qy.mulW rfl rfl) ?_
   refine Wl.q rfl (Qy.shr rfl rfl (by omega)) ?_
   refine Wl.re 10 rfl (show _ = Value.int .u64 7 by kernel_rfl) ?_
   refine Wl.q rfl (Qy.indexAddrA 7 T.ar175 rfl rfl rfl rfl) ?_
   refine Wl.q rfl (Qy.loadG T.one5 rfl (by assumption)) ?_
   refine Wl.q rfl (Qy.conv rfl T.u3 rfl) ?_
   refine Wl.q rfl (Qy.assign rfl) (Wl.done (Ar.next (Wc.ret ?_)))
   refine Ar.out1 (.inr rfl) (Ho := Hp.only _ []) rfl (.tmp rfl) (Hp.sub_only _ _) ?_
   exact ⟨rfl, rfl, rfl⟩
 · have hcell := hT.cell 15 (.int .u8 4) rfl
   refine Wc.seq (Wc.region rfl (Wl.q rfl (Qy.assign rfl) (Wl.done (Ar.next (Wc.seq (Wc.seq (Wc.region rfl (Wl.q rfl (Qy.move rfl) (Wl.q rfl (Qy.eql rfl rfl) (Wl.done (Ar.next (Wc.condN rfl (by first | assumption | omega) ?_))))))))))))
   refine Wc.skip (Ar.next (Wc.seq (Wc.region rfl (Wl.q rfl (Qy.move rfl) (Wl.q rfl (Qy.move rfl) (Wl.q rfl (Qy.negW rfl) ?_))))))
   refine Wl.q rfl (Qy.andW rfl rfl) ?_
   refine Wl.q rfl (Qy.mulW rfl rfl) ?_
   refine Wl.q rfl (Qy.shr rfl rfl (by omega)) ?_
   refine Wl.re 10 rfl (show _ = Value.int .u64 15 by kernel_rfl) ?_
   refine Wl.q rfl (Qy.indexAddrA 15 T.ar175 rfl rfl rfl rfl) ?_
   refine Wl.q rfl (Qy.loadG T.one5 rfl (by assumption)) ?_
   refine Wl.q rfl (Qy.conv rfl T.u3 rfl) ?_
   refine Wl.q rfl (Qy.assign rfl) (Wl.done (Ar.next (Wc.ret ?_)))
   refine Ar.out1 (.inr rfl) (Ho := Hp.only _ []) rfl (.tmp rfl) (Hp.sub_only _ _) ?_
   exact ⟨rfl, rfl, rfl⟩
 · have hcell := hT.cell 31 (.int .u8 5) rfl
   refine Wc.seq (Wc.region rfl (Wl.q rfl (Qy.assign rfl) (Wl.done (Ar.next (Wc.seq (Wc.seq (Wc.region rfl (Wl.q rfl (Qy.move rfl) (Wl.q rfl (Qy.eql rfl rfl) (Wl.done (Ar.next (Wc.condN rfl (by first | assumption | omega) ?_))))))))))))
   refine Wc.skip (Ar.next (Wc.seq (Wc.region rfl (Wl.q rfl (Qy.move rfl) (Wl.q rfl (Qy.move rfl) (Wl.q rfl (Qy.negW rfl) ?_))))))
   refine Wl.q rfl (Qy.andW rfl rfl) ?_
   refine Wl.q rfl (Qy.mulW rfl rfl) ?_
   refine Wl.q rfl (Qy.shr rfl rfl (by omega)) ?_
   refine Wl.re 10 rfl (show _ = Value.int .u64 31 by kernel_rfl) ?_
   refine Wl.q rfl (Qy.indexAddrA 31 T.ar175 rfl rfl rfl rfl) ?_
   refine Wl.q rfl (Qy.loadG T.one5 rfl (by assumption)) ?_
   refine Wl.q rfl (Qy.conv rfl T.u3 rfl) ?_
   refine Wl.q rfl (Qy.assign rfl) (Wl.done (Ar.next (Wc.ret ?_)))
   refine Ar.out1 (.inr rfl) (Ho := Hp.only _ []) rfl (.tmp rfl) (Hp.sub_only _ _) ?_
   exact ⟨rfl, rfl, rfl⟩
 · have hcell := hT.cell 63 (.int .u8 6) rfl
   refine Wc.seq (Wc.region rfl (Wl.q rfl (Qy.assign rfl) (Wl.done (Ar.next (Wc.seq (Wc.seq (Wc.region rfl (Wl.q rfl (Qy.move rfl) (Wl.q rfl (Qy.eql rfl rfl) (Wl.done (Ar.next (Wc.condN rfl (by first | assumption | omega) ?_))))))))))))
   refine Wc.skip (Ar.next (Wc.seq (Wc.region rfl (Wl.q rfl (Qy.move rfl) (Wl.q rfl (Qy.move rfl) (Wl.q rfl (Qy.negW rfl) ?_))))))
   refine Wl.q rfl (Qy.andW rfl rfl) ?_
   refine Wl.q rfl (Qy.mulW rfl rfl) ?_
   refine Wl.q rfl (Qy.shr rfl rfl (by omega)) ?_
   refine Wl.re 10 rfl (show _ = Value.int .u64 63 by kernel_rfl) ?_
   refine Wl.q rfl (Qy.indexAddrA 63 T.ar175 rfl rfl rfl rfl) ?_
   refine Wl.q rfl (Qy.loadG T.one5 rfl (by assumption)) ?_
   refine Wl.q rfl (Qy.conv rfl T.u3 rfl) ?_
   refine Wl.q rfl (Qy.assign rfl) (Wl.done (Ar.next (Wc.ret ?_)))
   refine Ar.out1 (.inr rfl) (Ho := Hp.only _ []) rfl (.tmp rfl) (Hp.sub_only _ _) ?_
   exact ⟨rfl, rfl, rfl⟩
 · have hcell := hT.cell 62 (.int .u8 7) rfl
   refine Wc.seq (Wc.region rfl (Wl.q rfl (Qy.assign rfl) (Wl.done (Ar.next (Wc.seq (Wc.seq (Wc.region rfl (Wl.q rfl (Qy.move rfl) (Wl.q rfl (Qy.eql rfl rfl) (Wl.done (Ar.next (Wc.condN rfl (by first | assumption | omega) ?_))))))))))))
   refine Wc.skip (Ar.next (Wc.seq (Wc.region rfl (Wl.q rfl (Qy.move rfl) (Wl.q rfl (Qy.move rfl) (Wl.q rfl (Qy.negW rfl) ?_))))))
   refine Wl.q rfl (Qy.andW rfl rfl) ?_
   refine Wl.q rfl (Qy.mulW rfl rfl) ?_
   refine Wl.q rfl (Qy.shr rfl rfl (by omega)) ?_
   refine Wl.re 10 rfl (show _ = Value.int .u64 62 by kernel_rfl) ?_
   refine Wl.q rfl (Qy.indexAddrA 62 T.ar175 rfl rfl rfl rfl) ?_
   refine Wl.q rfl (Qy.loadG T.one5 rfl (by assumption)) ?_
   refine Wl.q rfl (Qy.conv rfl T.u3 rfl) ?_
   refine Wl.q rfl (Qy.assign rfl) (Wl.done (Ar.next (Wc.ret ?_)))
   refine Ar.out1 (.inr rfl) (Ho := Hp.only _ []) rfl (.tmp rfl) (Hp.sub_only _ _) ?_
   exact ⟨rfl, rfl, rfl⟩
 · have hcell := hT.cell 61 (.int .u8 8) rfl
   refine Wc.seq (Wc.region rfl (Wl.q rfl (Qy.assign rfl) (Wl.done (Ar.next (Wc.seq (Wc.seq (Wc.region rfl (Wl.q rfl (Qy.move rfl) (Wl.q rfl (Qy.eql rfl rfl) (Wl.done (Ar.next (Wc.condN rfl (by first | assumption | omega) ?_))))))))))))
   refine Wc.skip (Ar.next (Wc.seq (Wc.region rfl (Wl.q rfl (Qy.move rfl) (Wl.q rfl (Qy.move rfl) (Wl.q rfl (Qy.negW rfl) ?_))))))
   refine Wl.q rfl (Qy.andW rfl rfl) ?_
   refine Wl.q rfl (Qy.mulW rfl rfl) ?_
   refine Wl.q rfl (Qy.shr rfl rfl (by omega)) ?_
   refine Wl.re 10 rfl (show _ = Value.int .u64 61 by kernel_rfl) ?_
   refine Wl.q rfl (Qy.indexAddrA 61 T.ar175 rfl rfl rfl rfl) ?_
   refine Wl.q rfl (Qy.loadG T.one5 rfl (by assumption)) ?_
   refine Wl.q rfl (Qy.conv rfl T.u3 rfl) ?_
   refine Wl.q rfl (Qy.assign rfl) (Wl.done (Ar.next (Wc.ret ?_)))
   refine Ar.out1 (.inr rfl) (Ho := Hp.only _ []) rfl (.tmp rfl) (Hp.sub_only _ _) ?_
   exact ⟨rfl, rfl, rfl⟩
 · have hcell := hT.cell 59 (.int .u8 9) rfl
   refine Wc.seq (Wc.region rfl (Wl.q rfl (Qy.assign rfl) (Wl.done (Ar.next (Wc.seq (Wc.seq (Wc.region rfl (Wl.q rfl (Qy.move rfl) (Wl.q rfl (Qy.eql rfl rfl) (Wl.done (Ar.next (Wc.condN rfl (by first | assumption | omega) ?_))))))))))))
   refine Wc.skip (Ar.next (Wc.seq (Wc.region rfl (Wl.q rfl (Qy.move rfl) (Wl.q rfl (Qy.move rfl) (Wl.q rfl (Qy.negW rfl) ?_))))))
   refine Wl.q rfl (Qy.andW rfl rfl) ?_
   refine Wl.q rfl (Qy.mulW rfl rfl) ?_
   refine Wl.q rfl (Qy.shr rfl rfl (by omega)) ?_
   refine Wl.re 10 rfl (show _ = Value.int .u64 59 by kernel_rfl) ?_
   refine Wl.q rfl (Qy.indexAddrA 59 T.ar175 rfl rfl rfl rfl) ?_
   refine Wl.q rfl (Qy.loadG T.one5 rfl (by assumption)) ?_
   refine Wl.q rfl (Qy.conv rfl T.u3 rfl) ?_
   refine Wl.q rfl (Qy.assign rfl) (Wl.done (Ar.next (Wc.ret ?_)))
   refine Ar.out1 (.inr rfl) (Ho := Hp.only _ []) rfl (.tmp rfl) (Hp.sub_only _ _) ?_
   exact ⟨rfl, rfl, rfl⟩
theorem c86 (G : Imm) (hT : TabOk G) (c : Int) (h : powC c ≠ 0) : Does Tryd.prog 86 [.int .u64 c] G [] (fun v G' Ho => v = .int .i64 (powC c) ∧ G' = G ∧ Ho = []) := by
 refine Does.enter Tryd.func86 rfl Tryd.ntmps86 rfl (fun w => ?_)
 refine Wc.seq (Wc.region rfl (Wl.q rfl (Qy.assign rfl) (Wl.done (Ar.next (Wc.seq (Wc.condF rfl ?_))))))
 refine Wc.skip (Ar.next (Wc.seq (Wc.region rfl (Wl.q rfl (Qy.move rfl) ?_))))
 refine Wl.call0 rfl T.fn108 rfl (c108 _ (by assumption) _ (by assumption)) ?_
 refine Wl.q rfl (Qy.assign rfl) (Wl.done (Ar.next (Wc.ret ?_)))
 refine Ar.out1 (.inr rfl) (Ho := Hp.only _ []) rfl (.tmp rfl) (Hp.sub_only _ _) ?_
 exact ⟨rfl, rfl, rfl⟩
theorem c60 (G : Imm) (hT : TabOk G) (c : Int) (hb : -512 ≤ c ∧ c ≤ 512) : Does Tryd.prog 60 [.int .i64 c] G [] (fun v G' Ho => v = .tuple #[.int .i64 (powC c), .bool (decide (powC c ≠ 0))] ∧ G' = G ∧ Ho = []) := by
 refine Does.enter Tryd.func60 rfl Tryd.ntmps60 rfl (fun w => ?_)
 refine Wc.seq (Wc.region rfl (Wl.q rfl (Qy.assign rfl) (Wl.q rfl (Qy.assign rfl) (Wl.done (Ar.next (Wc.seq (Wc.seq (Wc.region rfl (Wl.q rfl (Qy.move rfl) (Wl.q rfl (Qy.lss rfl rfl) (Wl.q rfl (Qy.move rfl) ?_)))))))))))
 apply Wl.joinOr 6 6 12 rfl
 intro hg1
 refine Wl.want rfl rfl (Wl.q rfl (Qy.move rfl) (Wl.want rfl rfl (Wl.q rfl (Qy.move rfl) (Wl.want rfl rfl (Wl.q rfl (Qy.sub rfl rfl (by omega)) ?_)))))
 refine Wl.want rfl rfl (Wl.q rfl (Qy.andW rfl rfl) ?_)
 refine Wl.want rfl rfl (Wl.q rfl (Qy.neq rfl rfl) (Wl.q rfl (Qy.pick rfl rfl) ?_))
 exact Wl.back 6 0 rfl rfl rfl rfl rfl
 intro hg1
 refine Wl.pass rfl rfl rfl (Wl.pass rfl rfl rfl (Wl.pass rfl rfl rfl (Wl.pass rfl rfl rfl (Wl.pass rfl rfl rfl (Wl.q rfl (Qy.pick rfl rfl) ?_)))))
 exact Wl.back 6 0 rfl rfl rfl rfl rfl
 refine Wl.done (Ar.next ?_)
 refine Wc.cond rfl (fun hc1 => ?_) (fun hc1 => ?_)
 refine Wc.seq (Wc.region rfl (Wl.q rfl (Qy.assign rfl) (Wl.q rfl (Qy.assign rfl) (Wl.done (Ar.next (Wc.ret (Ar.passRet ?_)))))))
 refine Ar.out2 (.inr rfl) (Ho := Hp.only _ []) rfl (.tmp rfl) (.tmp rfl) (Hp.sub_only _ _) ?_
 rotate_left
 refine Wc.skip (Ar.next (Wc.seq (Wc.region rfl (Wl.q rfl (Qy.move rfl) (Wl.q rfl (Qy.conv rfl T.u129 rfl) ?_)))))
 rotate_left
 · have hp : powC c = 0 := by
    rcases hc1 with h | h
    · exact pow_small h
    · rcases Int.lt_or_le c 2 with h2 | h2
      · exact pow_small h2
      · exact Classical.byContradiction fun hn => h ((pow_bits' ⟨h2, hb.2⟩).2 hn)
   rw [hp]; exact ⟨rfl, rfl, rfl⟩
 · simp only [not_or, ne_eq, Decidable.not_not] at hc1
   have hp : powC c ≠ 0 := (pow_bits' ⟨by omega, hb.2⟩).1 hc1.2
   have hw : IntKind.u64.wrap c = c := by rcases pow_cases hp with rfl | rfl | rfl | rfl | rfl | rfl | rfl | rfl | rfl <;> rfl
   refine Wl.re 14 rfl (show _ = Value.int .u64 c by rw [hw]) ?_
   refine Wl.call0 rfl T.fn86 rfl (c86 _ (by assumption) _ (by assumption)) ?_
   refine Wl.q rfl (Qy.assign rfl) (Wl.q rfl (Qy.assign rfl) (Wl.done (Ar.next (Wc.ret ?_))))
   refine Ar.out2 (.inr rfl) (Ho := Hp.only _ []) rfl (.tmp rfl) (.tmp rfl) (Hp.sub_only _ _) ?_
   exact ⟨by simp [hp], rfl, rfl⟩
theorem c61 (G : Imm) (op to a c : Int) : Does Tryd.prog 61 [.int .i64 op, .int .i64 to, .int .i64 a, .int .i64 c] G [] (fun v G' Ho => v = .agg (Cells.enc (⟨op, to, a, 0, c⟩ : Sl.Instr)).toArray ∧ G' = G ∧ Ho = []) := by
 refine Does.enter Tryd.func61 rfl Tryd.ntmps61 rfl (fun w => ?_)
 refine Wc.seq (Wc.region rfl ?_)
 refine Wl.alloc 0 rfl T.zero55 (fun b1 => ?_)
 refine Wl.done (Ar.next (Wc.seq (Wc.region rfl (Wl.q rfl (Qy.move rfl) (Wl.q rfl (Qy.move rfl) (Wl.q rfl (Qy.move rfl) (Wl.q rfl (Qy.move rfl) (Wl.q rfl (Qy.build (cs := [_, _, _, _, _]) T.st55 rfl rfl rfl) ?_))))))))
 refine Wl.storeAll 0 T.size55 rfl rfl rfl rfl rfl rfl ?_
 refine Wl.done (Ar.next (Wc.ret ?_))
 refine Ar.out1 (.inr rfl) (Ho := Hp.only _ []) rfl (.agg 0 rfl rfl T.agg55) (Hp.sub_only _ _) ?_
 exact ⟨rfl, rfl, rfl⟩
theorem c87 (G : Imm) (c : Int) : Does Tryd.prog 87 [.int .i64 c] G [] (fun v G' Ho => v = .bool (decide (-512 ≤ c ∧ c ≤ 512)) ∧ G' = G ∧ Ho = []) := by
 refine Does.enter Tryd.func87 rfl Tryd.ntmps87 rfl (fun w => ?_)
 refine Wc.seq (Wc.region rfl (Wl.q rfl (Qy.assign rfl) (Wl.done (Ar.next (Wc.seq (Wc.region rfl (Wl.q rfl (Qy.move rfl) (Wl.q rfl (Qy.geq rfl rfl) (Wl.q rfl (Qy.move rfl) ?_)))))))))
 apply Wl.joinAnd 3 5 8 rfl
 intro hg1
 refine Wl.want rfl rfl (Wl.q rfl (Qy.move rfl) (Wl.want rfl rfl (Wl.q rfl (Qy.leq rfl rfl) (Wl.q rfl (Qy.pick rfl rfl) ?_))))
 exact Wl.back 3 0 rfl rfl rfl rfl rfl
 intro hg1
 refine Wl.pass rfl rfl rfl (Wl.pass rfl rfl rfl (Wl.q rfl (Qy.pick rfl rfl) ?_))
 exact Wl.back 3 0 rfl rfl rfl rfl rfl
 refine Wl.q rfl (Qy.assign rfl) (Wl.done (Ar.next (Wc.ret ?_)))
 refine Ar.out1 (.inr rfl) (Ho := Hp.only _ []) rfl (.tmp rfl) (Hp.sub_only _ _) ?_
 exact ⟨rfl, rfl, rfl⟩
def plainP (i : Sl.Instr) : Sl.Instr :=
 if i.op = 3 then (if i.a = i.b then ⟨7, i.to, i.a, 0, 1⟩ else i)
 else if i.op = 5 ∨ i.op = 6 then
  (if i.c = 1 then ⟨1, i.to, i.a, 0, 0⟩ else if i.c = -1 then ⟨2, i.to, i.a, 0, 0⟩ else if powC i.c ≠ 0 then (if i.op = 5 then ⟨7, i.to, i.a, 0, powC i.c⟩ else ⟨8, i.to, i.a, 0, powC i.c⟩) else i)
 else i
theorem c30 (G : Imm) (hT : TabOk G) (i : Sl.Instr) (hb : -512 ≤ i.c ∧ i.c ≤ 512) : Does Tryd.prog 30 [.agg (Cells.enc i).toArray] G [] (fun v G' Ho => v = .agg (Cells.enc (plainP i)).toArray ∧ G' = G ∧ Ho = []) := by
 refine Does.enter Tryd.func30 rfl Tryd.ntmps30 rfl (fun w => ?_)
 refine Wc.seq (Wc.region rfl ?_)
 refine Wl.box 0 rfl rfl rfl (fun b1 => ?_)
 refine Wl.alloc 1 rfl T.zero55 (fun b2 => ?_)
 refine Wl.done (Ar.next (Wc.seq (Wc.region rfl (Wl.q rfl (Qy.fieldAddr T.fa55_4 rfl) (Wl.q rfl (Qy.load 0 T.one3 rfl rfl rfl) ?_)))))
 refine Wl.call0 rfl T.fn60 rfl (c60 _ (by assumption) _ (by omega)) ?_
 refine Wl.q rfl (Qy.move rfl) (Wl.q rfl (Qy.extract rfl rfl) (Wl.q rfl (Qy.extract rfl rfl) (Wl.q rfl (Qy.assign rfl) (Wl.q rfl (Qy.assign rfl) (Wl.done (Ar.next (Wc.seq (Wc.seq (Wc.region rfl (Wl.q rfl (Qy.fieldAddr T.fa55_0 rfl) (Wl.q rfl (Qy.load 0 T.one3 rfl rfl rfl) ?_)))))))))))
 refine Wl.done (Ar.next (Wc.block (Wc.seq (Wc.region rfl (Wl.q rfl (Qy.eql rfl rfl) (Wl.q rfl (Qy.assign rfl) (Wl.done (Ar.next ?_))))))))
 refine Wc.cond rfl (fun hc1 => ?_) (fun hc1 => ?_)
 refine Wc.seq (Wc.region rfl (Wl.q rfl (Qy.fieldAddr T.fa55_2 rfl) (Wl.q rfl (Qy.load 0 T.one3 rfl rfl rfl) (Wl.q rfl (Qy.fieldAddr T.fa55_3 rfl) (Wl.q rfl (Qy.load 0 T.one3 rfl rfl rfl) (Wl.q rfl (Qy.eql rfl rfl) (Wl.done (Ar.next ?_))))))))
 refine Wc.cond rfl (fun hc2 => ?_) (fun hc2 => ?_)
 refine Wc.seq (Wc.region rfl (Wl.q rfl (Qy.fieldAddr T.fa55_1 rfl) (Wl.q rfl (Qy.load 0 T.one3 rfl rfl rfl) (Wl.q rfl (Qy.fieldAddr T.fa55_2 rfl) (Wl.q rfl (Qy.load 0 T.one3 rfl rfl rfl) ?_)))))
 refine Wl.call0 rfl T.fn61 rfl (c61 _ _ _ _ _) ?_
 refine Wl.storeAll 1 T.size55 rfl rfl rfl rfl rfl rfl ?_
 refine Wl.done (Ar.next (Wc.ret ?_))
 refine Ar.outRet ?_
 refine Ar.passRet ?_
 refine Ar.out1 (.inr rfl) (Ho := Hp.only _ []) rfl (.agg 1 rfl rfl T.agg55) (Hp.sub_only _ _) ?_
 rotate_left
 refine Wc.skip ?_
 refine Ar.outNormal ?_
 refine Ar.next (Wc.seq (Wc.region rfl (Wl.q rfl (Qy.loadAll 0 T.agg55 rfl rfl rfl) ?_)))
 refine Wl.storeAll 1 T.size55 rfl rfl rfl rfl rfl rfl ?_
 refine Wl.done (Ar.next (Wc.ret ?_))
 refine Ar.out1 (.inr rfl) (Ho := Hp.only _ []) rfl (.agg 1 rfl rfl T.agg55) (Hp.sub_only _ _) ?_
 rotate_left
 refine Wc.seq (Wc.seq (Wc.region rfl (Wl.q rfl (Qy.eql rfl rfl) (Wl.q rfl (Qy.assign rfl) (Wl.done (Ar.next ?_))))))
 refine Wc.cond rfl (fun hc2 => ?_) (fun hc2 => ?_)
 refine Wc.skip (Ar.next (Wc.condP rfl (by first | assumption | omega) ?_))
 refine Wc.block (Wc.seq (Wc.region rfl (Wl.q rfl (Qy.fieldAddr T.fa55_4 rfl) (Wl.q rfl (Qy.load 0 T.one3 rfl rfl rfl) (Wl.q rfl (Qy.eql rfl rfl) (Wl.q rfl (Qy.assign rfl) (Wl.done (Ar.next ?_))))))))
 refine Wc.cond rfl (fun hc3 => ?_) (fun hc3 => ?_)
 refine Wc.seq (Wc.region rfl (Wl.q rfl (Qy.fieldAddr T.fa55_1 rfl) (Wl.q rfl (Qy.load 0 T.one3 rfl rfl rfl) (Wl.q rfl (Qy.fieldAddr T.fa55_2 rfl) (Wl.q rfl (Qy.load 0 T.one3 rfl rfl rfl) ?_)))))
 refine Wl.call0 rfl T.fn61 rfl (c61 _ _ _ _ _) ?_
 refine Wl.storeAll 1 T.size55 rfl rfl rfl rfl rfl rfl ?_
 refine Wl.done (Ar.next (Wc.ret ?_))
 refine Ar.outRet ?_
 refine Ar.outRet ?_
 refine Ar.passRet ?_
 refine Ar.out1 (.inr rfl) (Ho := Hp.only _ []) rfl (.agg 1 rfl rfl T.agg55) (Hp.sub_only _ _) ?_
 rotate_left
 refine Wc.seq (Wc.region rfl (Wl.q rfl (Qy.fieldAddr T.fa55_4 rfl) (Wl.q rfl (Qy.load 0 T.one3 rfl rfl rfl) (Wl.q rfl (Qy.eql rfl rfl) (Wl.q rfl (Qy.assign rfl) (Wl.done (Ar.next ?_)))))))
 refine Wc.cond rfl (fun hc4 => ?_) (fun hc4 => ?_)
 refine Wc.seq (Wc.region rfl (Wl.q rfl (Qy.fieldAddr T.fa55_1 rfl) (Wl.q rfl (Qy.load 0 T.one3 rfl rfl rfl) (Wl.q rfl (Qy.fieldAddr T.fa55_2 rfl) (Wl.q rfl (Qy.load 0 T.one3 rfl rfl rfl) ?_)))))
 refine Wl.call0 rfl T.fn61 rfl (c61 _ _ _ _ _) ?_
 refine Wl.storeAll 1 T.size55 rfl rfl rfl rfl rfl rfl ?_
 refine Wl.done (Ar.next (Wc.ret ?_))
 refine Ar.outRet ?_
 refine Ar.outRet ?_
 refine Ar.passRet ?_
 refine Ar.out1 (.inr rfl) (Ho := Hp.only _ []) rfl (.agg 1 rfl rfl T.agg55) (Hp.sub_only _ _) ?_
 rotate_left
 refine Wc.seq (Wc.region rfl (Wl.q rfl (Qy.move rfl) (Wl.q rfl (Qy.move rfl) ?_)))
 apply Wl.joinAnd 4 48 52 rfl
 intro hg1
 refine Wl.want rfl rfl (Wl.q rfl (Qy.fieldAddr T.fa55_0 rfl) (Wl.want rfl rfl (Wl.q rfl (Qy.load 0 T.one3 rfl rfl rfl) (Wl.want rfl rfl (Wl.q rfl (Qy.eql rfl rfl) (Wl.q rfl (Qy.pick rfl rfl) ?_))))))
 exact Wl.back 4 0 rfl rfl rfl rfl rfl
 intro hg1
 refine Wl.pass rfl rfl rfl (Wl.pass rfl rfl rfl (Wl.pass rfl rfl rfl (Wl.q rfl (Qy.pick rfl rfl) ?_)))
 exact Wl.back 4 0 rfl rfl rfl rfl rfl
 refine Wl.q rfl (Qy.assign rfl) (Wl.done (Ar.next ?_))
 refine Wc.cond rfl (fun hc5 => ?_) (fun hc5 => ?_)
 refine Wc.seq (Wc.region rfl (Wl.q rfl (Qy.fieldAddr T.fa55_1 rfl) (Wl.q rfl (Qy.load 0 T.one3 rfl rfl rfl) (Wl.q rfl (Qy.fieldAddr T.fa55_2 rfl) (Wl.q rfl (Qy.load 0 T.one3 rfl rfl rfl) (Wl.q rfl (Qy.move rfl) ?_))))))
 refine Wl.call0 rfl T.fn61 rfl (c61 _ _ _ _ _) ?_
 refine Wl.storeAll 1 T.size55 rfl rfl rfl rfl rfl rfl ?_
 refine Wl.done (Ar.next (Wc.ret ?_))
 refine Ar.outRet ?_
 refine Ar.outRet ?_
 refine Ar.passRet ?_
 refine Ar.out1 (.inr rfl) (Ho := Hp.only _ []) rfl (.agg 1 rfl rfl T.agg55) (Hp.sub_only _ _) ?_
 rotate_left
 refine Wc.seq (Wc.region rfl (Wl.q rfl (Qy.move rfl) (Wl.q rfl (Qy.assign rfl) (Wl.done (Ar.next (Wc.condN rfl (by first | assumption | omega) ?_))))))
 refine Wc.skip ?_
 refine Ar.outNormal ?_
 refine Ar.outNormal ?_
 refine Ar.next (Wc.seq (Wc.region rfl (Wl.q rfl (Qy.loadAll 0 T.agg55 rfl rfl rfl) ?_)))
 refine Wl.storeAll 1 T.size55 rfl rfl rfl rfl rfl rfl ?_
 refine Wl.done (Ar.next (Wc.ret ?_))
 refine Ar.out1 (.inr rfl) (Ho := Hp.only _ []) rfl (.agg 1 rfl rfl T.agg55) (Hp.sub_only _ _) ?_
 rotate_left
 refine Wc.region rfl (Wl.q rfl (Qy.eql rfl rfl) (Wl.q rfl (Qy.assign rfl) (Wl.done (Ar.next ?_))))
 refine Wc.cond rfl (fun hc3 => ?_) (fun hc3 => ?_)
 refine Wc.block (Wc.seq (Wc.region rfl (Wl.q rfl (Qy.fieldAddr T.fa55_4 rfl) (Wl.q rfl (Qy.load 0 T.one3 rfl rfl rfl) (Wl.q rfl (Qy.eql rfl rfl) (Wl.q rfl (Qy.assign rfl) (Wl.done (Ar.next ?_))))))))
 refine Wc.cond rfl (fun hc4 => ?_) (fun hc4 => ?_)
 refine Wc.seq (Wc.region rfl (Wl.q rfl (Qy.fieldAddr T.fa55_1 rfl) (Wl.q rfl (Qy.load 0 T.one3 rfl rfl rfl) (Wl.q rfl (Qy.fieldAddr T.fa55_2 rfl) (Wl.q rfl (Qy.load 0 T.one3 rfl rfl rfl) ?_)))))
 refine Wl.call0 rfl T.fn61 rfl (c61 _ _ _ _ _) ?_
 refine Wl.storeAll 1 T.size55 rfl rfl rfl rfl rfl rfl ?_
 refine Wl.done (Ar.next (Wc.ret ?_))
 refine Ar.outRet ?_
 refine Ar.outRet ?_
 refine Ar.passRet ?_
 refine Ar.out1 (.inr rfl) (Ho := Hp.only _ []) rfl (.agg 1 rfl rfl T.agg55) (Hp.sub_only _ _) ?_
 rotate_left
 refine Wc.seq (Wc.region rfl (Wl.q rfl (Qy.fieldAddr T.fa55_4 rfl) (Wl.q rfl (Qy.load 0 T.one3 rfl rfl rfl) (Wl.q rfl (Qy.eql rfl rfl) (Wl.q rfl (Qy.assign rfl) (Wl.done (Ar.next ?_)))))))
 refine Wc.cond rfl (fun hc5 => ?_) (fun hc5 => ?_)
 refine Wc.seq (Wc.region rfl (Wl.q rfl (Qy.fieldAddr T.fa55_1 rfl) (Wl.q rfl (Qy.load 0 T.one3 rfl rfl rfl) (Wl.q rfl (Qy.fieldAddr T.fa55_2 rfl) (Wl.q rfl (Qy.load 0 T.one3 rfl rfl rfl) ?_)))))
 refine Wl.call0 rfl T.fn61 rfl (c61 _ _ _ _ _) ?_
 refine Wl.storeAll 1 T.size55 rfl rfl rfl rfl rfl rfl ?_
 refine Wl.done (Ar.next (Wc.ret ?_))
 refine Ar.outRet ?_
 refine Ar.outRet ?_
 refine Ar.passRet ?_
 refine Ar.out1 (.inr rfl) (Ho := Hp.only _ []) rfl (.agg 1 rfl rfl T.agg55) (Hp.sub_only _ _) ?_
 rotate_left
 refine Wc.seq (Wc.region rfl (Wl.q rfl (Qy.move rfl) (Wl.q rfl (Qy.move rfl) ?_)))
 apply Wl.joinAnd 4 48 52 rfl
 intro hg1
 refine Wl.want rfl rfl (Wl.q rfl (Qy.fieldAddr T.fa55_0 rfl) (Wl.want rfl rfl (Wl.q rfl (Qy.load 0 T.one3 rfl rfl rfl) (Wl.want rfl rfl (Wl.q rfl (Qy.eql rfl rfl) (Wl.q rfl (Qy.pick rfl rfl) ?_))))))
 exact Wl.back 4 0 rfl rfl rfl rfl rfl
 intro hg1
 refine Wl.pass rfl rfl rfl (Wl.pass rfl rfl rfl (Wl.pass rfl rfl rfl (Wl.q rfl (Qy.pick rfl rfl) ?_)))
 exact Wl.back 4 0 rfl rfl rfl rfl rfl
 refine Wl.q rfl (Qy.assign rfl) (Wl.done (Ar.next (Wc.condN rfl (by first | assumption | omega) ?_)))
 refine Wc.seq (Wc.region rfl (Wl.q rfl (Qy.move rfl) (Wl.q rfl (Qy.assign rfl) (Wl.done (Ar.next ?_)))))
 refine Wc.cond rfl (fun hc6 => ?_) (fun hc6 => ?_)
 refine Wc.seq (Wc.region rfl (Wl.q rfl (Qy.fieldAddr T.fa55_1 rfl) (Wl.q rfl (Qy.load 0 T.one3 rfl rfl rfl) (Wl.q rfl (Qy.fieldAddr T.fa55_2 rfl) (Wl.q rfl (Qy.load 0 T.one3 rfl rfl rfl) (Wl.q rfl (Qy.move rfl) ?_))))))
 refine Wl.call0 rfl T.fn61 rfl (c61 _ _ _ _ _) ?_
 refine Wl.storeAll 1 T.size55 rfl rfl rfl rfl rfl rfl ?_
 refine Wl.done (Ar.next (Wc.ret ?_))
 refine Ar.outRet ?_
 refine Ar.outRet ?_
 refine Ar.passRet ?_
 refine Ar.out1 (.inr rfl) (Ho := Hp.only _ []) rfl (.agg 1 rfl rfl T.agg55) (Hp.sub_only _ _) ?_
 rotate_left
 refine Wc.skip ?_
 refine Ar.outNormal ?_
 refine Ar.outNormal ?_
 refine Ar.next (Wc.seq (Wc.region rfl (Wl.q rfl (Qy.loadAll 0 T.agg55 rfl rfl rfl) ?_)))
 refine Wl.storeAll 1 T.size55 rfl rfl rfl rfl rfl rfl ?_
 refine Wl.done (Ar.next (Wc.ret ?_))
 refine Ar.out1 (.inr rfl) (Ho := Hp.only _ []) rfl (.agg 1 rfl rfl T.agg55) (Hp.sub_only _ _) ?_
 rotate_left
 refine Wc.skip ?_
 refine Ar.outNormal ?_
 refine Ar.next (Wc.seq (Wc.region rfl (Wl.q rfl (Qy.loadAll 0 T.agg55 rfl rfl rfl) ?_)))
 refine Wl.storeAll 1 T.size55 rfl rfl rfl rfl rfl rfl ?_
 refine Wl.done (Ar.next (Wc.ret ?_))
 refine Ar.out1 (.inr rfl) (Ho := Hp.only _ []) rfl (.agg 1 rfl rfl T.agg55) (Hp.sub_only _ _) ?_
 rotate_left
 all_goals refine ⟨?_, rfl, rfl⟩
 all_goals simp_all [plainP]
def fitsP (c : Int) : Prop := -512 ≤ c ∧ c ≤ 512
instance (c : Int) : Decidable (fitsP c) := inferInstanceAs (Decidable (_ ∧ _))
def togP (f c s d : Int) : Int × Int × Bool :=
 if f = 1 then (s, d, true)
 else if f = 2 then (if s = 1 then (2, 0, true) else if s = 2 then (1, 0, true) else if s = 5 ∨ s = 6 then (s, -d, true) else (0, 0, false))
 else if f = 5 then (if s = 2 then (5, -c, true) else if s = 5 ∧ -512 ≤ c * d ∧ c * d ≤ 512 then (5, c * d, true) else if s = 6 ∧ c.tmod d = 0 then (5, c.tdiv d, true) else if s = 6 ∧ d.tmod c = 0 then (6, d.tdiv c, true) else (0, 0, false))
 else if f = 6 then (if s = 2 then (6, -c, true) else if s = 6 ∧ -512 ≤ c * d ∧ c * d ≤ 512 then (6, c * d, true) else (0, 0, false))
 else if f = 7 then (if s = 7 ∧ c + d ≤ 64 then (7, c + d, true) else if s ≠ 8 then (0, 0, false) else if c = d then (1, 0, true) else if d < c then (7, c - d, true) else (8, d - c, true))
 else if f = 8 then (if s = 8 ∧ c + d ≤ 64 then (8, c + d, true) else (0, 0, false))
 else (0, 0, false)
theorem const_fits {op c : Int} (h : constOk op c = true) : -512 ≤ c ∧ c ≤ 512 := by
 unfold constOk at h
 repeat' split at h
 all_goals simp only [decide_eq_true_eq] at h
 all_goals omega
theorem const_zero {op c : Int} (h : constOk op c = true) (ho : op = 5 ∨ op = 6) : c ≠ 0 := by
 unfold constOk at h
 rw [if_pos ho, decide_eq_true_eq] at h
 exact h.1
theorem mul_small {c d : Int} (hc : -512 ≤ c ∧ c ≤ 512) (hd : -512 ≤ d ∧ d ≤ 512) : -9223372036854775808 ≤ c * d ∧ c * d ≤ 9223372036854775807 := by
 have h1 : c.natAbs ≤ 512 := by omega
 have h2 : d.natAbs ≤ 512 := by omega
 have h3 : (c * d).natAbs ≤ 512 * 512 := by rw [Int.natAbs_mul]; exact Nat.mul_le_mul h1 h2
 omega
theorem div_small {c d : Int} (hc : -512 ≤ c ∧ c ≤ 512) : -512 ≤ c.tdiv d ∧ c.tdiv d ≤ 512 := by
 have h3 : (c.tdiv d).natAbs ≤ c.natAbs := by rw [Int.natAbs_tdiv]; exact Nat.div_le_self _ _
 omega
theorem c62 (G : Imm) (f c s d : Int) (hc : constOk f c = true) (hd : constOk s d = true) : Does Tryd.prog 62 [.int .i64 f, .int .i64 c, .int .i64 s, .int .i64 d] G [] (fun v G' Ho => v = .tuple #[.int .i64 (togP f c s d).1, .int .i64 (togP f c s d).2.1, .bool (togP f c s d).2.2] ∧ G' = G ∧ Ho = []) := by
 have hc2 := const_fits hc
 have hd2 := const_fits hd
 have hm := mul_small hc2 hd2
 have hq1 := div_small (d := d) hc2
 have hq2 := div_small (d := c) hd2
 have hcz := const_zero hc
 have hdz := const_zero hd
 refine Does.enter Tryd.func62 rfl Tryd.ntmps62 rfl (fun w => ?_)
 refine Wc.seq (Wc.region rfl (Wl.q rfl (Qy.assign rfl) (Wl.q rfl (Qy.assign rfl) (Wl.q rfl (Qy.assign rfl) (Wl.done (Ar.next (Wc.seq (Wc.seq (Wc.region rfl (Wl.q rfl (Qy.move rfl) (Wl.done (Ar.next (Wc.block (Wc.seq (Wc.region rfl (Wl.q rfl (Qy.eql rfl rfl) (Wl.q rfl (Qy.assign rfl) ?_)))))))))))))))))
 refine Wl.done (Ar.next ?_)
 refine Wc.cond rfl (fun hc1 => ?_) (fun hc1 => ?_)
 refine Wc.seq (Wc.region rfl (Wl.q rfl (Qy.move rfl) (Wl.q rfl (Qy.move rfl) (Wl.q rfl (Qy.assign rfl) (Wl.q rfl (Qy.assign rfl) (Wl.q rfl (Qy.assign rfl) (Wl.done (Ar.next (Wc.ret ?_)))))))))
 refine Ar.outRet ?_
 refine Ar.passRet ?_
 refine Ar.out3 (.inr rfl) (Ho := Hp.only _ []) rfl (.tmp rfl) (.tmp rfl) (.tmp rfl) (Hp.sub_only _ _) ?_
 rotate_left
 refine Wc.seq (Wc.region rfl (Wl.q rfl (Qy.eql rfl rfl) (Wl.q rfl (Qy.assign rfl) (Wl.done (Ar.next ?_)))))
 refine Wc.cond rfl (fun hc3 => ?_) (fun hc3 => ?_)
 refine Wc.seq (Wc.region rfl (Wl.q rfl (Qy.move rfl) (Wl.done (Ar.next (Wc.block (Wc.seq (Wc.region rfl (Wl.q rfl (Qy.eql rfl rfl) (Wl.q rfl (Qy.assign rfl) (Wl.done (Ar.next ?_)))))))))))
 refine Wc.cond rfl (fun hc4 => ?_) (fun hc4 => ?_)
 refine Wc.seq (Wc.region rfl (Wl.q rfl (Qy.assign rfl) (Wl.q rfl (Qy.assign rfl) (Wl.q rfl (Qy.assign rfl) (Wl.done (Ar.next (Wc.ret ?_)))))))
 refine Ar.outRet ?_
 refine Ar.outRet ?_
 refine Ar.passRet ?_
 refine Ar.out3 (.inr rfl) (Ho := Hp.only _ []) rfl (.tmp rfl) (.tmp rfl) (.tmp rfl) (Hp.sub_only _ _) ?_
 rotate_left
 refine Wc.seq (Wc.region rfl (Wl.q rfl (Qy.eql rfl rfl) (Wl.q rfl (Qy.assign rfl) (Wl.done (Ar.next ?_)))))
 refine Wc.cond rfl (fun hc5 => ?_) (fun hc5 => ?_)
 refine Wc.seq (Wc.region rfl (Wl.q rfl (Qy.assign rfl) (Wl.q rfl (Qy.assign rfl) (Wl.q rfl (Qy.assign rfl) (Wl.done (Ar.next (Wc.ret ?_)))))))
 refine Ar.outRet ?_
 refine Ar.outRet ?_
 refine Ar.passRet ?_
 refine Ar.out3 (.inr rfl) (Ho := Hp.only _ []) rfl (.tmp rfl) (.tmp rfl) (.tmp rfl) (Hp.sub_only _ _) ?_
 rotate_left
 refine Wc.seq (Wc.seq (Wc.region rfl (Wl.q rfl (Qy.eql rfl rfl) (Wl.q rfl (Qy.assign rfl) (Wl.done (Ar.next ?_))))))
 refine Wc.cond rfl (fun hc6 => ?_) (fun hc6 => ?_)
 refine Wc.skip (Ar.next (Wc.condP rfl (by first | assumption | omega) ?_))
 refine Wc.seq (Wc.region rfl (Wl.q rfl (Qy.move rfl) (Wl.q rfl (Qy.move rfl) (Wl.q rfl (Qy.neg rfl (by omega)) ?_))))
 refine Wl.q rfl (Qy.assign rfl) (Wl.q rfl (Qy.assign rfl) (Wl.q rfl (Qy.assign rfl) (Wl.done (Ar.next (Wc.ret ?_)))))
 refine Ar.outRet ?_
 refine Ar.outRet ?_
 refine Ar.passRet ?_
 refine Ar.out3 (.inr rfl) (Ho := Hp.only _ []) rfl (.tmp rfl) (.tmp rfl) (.tmp rfl) (Hp.sub_only _ _) ?_
 rotate_left
 refine Wc.region rfl (Wl.q rfl (Qy.eql rfl rfl) (Wl.q rfl (Qy.assign rfl) (Wl.done (Ar.next ?_))))
 refine Wc.cond rfl (fun hc7 => ?_) (fun hc7 => ?_)
 refine Wc.seq (Wc.region rfl (Wl.q rfl (Qy.move rfl) (Wl.q rfl (Qy.move rfl) (Wl.q rfl (Qy.neg rfl (by omega)) ?_))))
 refine Wl.q rfl (Qy.assign rfl) (Wl.q rfl (Qy.assign rfl) (Wl.q rfl (Qy.assign rfl) (Wl.done (Ar.next (Wc.ret ?_)))))
 refine Ar.outRet ?_
 refine Ar.outRet ?_
 refine Ar.passRet ?_
 refine Ar.out3 (.inr rfl) (Ho := Hp.only _ []) rfl (.tmp rfl) (.tmp rfl) (.tmp rfl) (Hp.sub_only _ _) ?_
 rotate_left
 refine Wc.skip ?_
 refine Ar.outNormal ?_
 refine Ar.outNormal ?_
 refine Ar.next (Wc.seq (Wc.region rfl (Wl.q rfl (Qy.assign rfl) (Wl.q rfl (Qy.assign rfl) (Wl.q rfl (Qy.assign rfl) (Wl.done (Ar.next (Wc.ret ?_))))))))
 refine Ar.out3 (.inr rfl) (Ho := Hp.only _ []) rfl (.tmp rfl) (.tmp rfl) (.tmp rfl) (Hp.sub_only _ _) ?_
 rotate_left
 refine Wc.seq (Wc.region rfl (Wl.q rfl (Qy.eql rfl rfl) (Wl.q rfl (Qy.assign rfl) (Wl.done (Ar.next ?_)))))
 refine Wc.cond rfl (fun hc4 => ?_) (fun hc4 => ?_)
 refine Wc.block (Wc.seq (Wc.region rfl (Wl.q rfl (Qy.move rfl) (Wl.q rfl (Qy.eql rfl rfl) (Wl.q rfl (Qy.assign rfl) (Wl.done (Ar.next ?_)))))))
 refine Wc.cond rfl (fun hc5 => ?_) (fun hc5 => ?_)
 refine Wc.seq (Wc.region rfl (Wl.q rfl (Qy.move rfl) (Wl.q rfl (Qy.neg rfl (by omega)) ?_)))
 refine Wl.q rfl (Qy.assign rfl) (Wl.q rfl (Qy.assign rfl) (Wl.q rfl (Qy.assign rfl) (Wl.done (Ar.next (Wc.ret ?_)))))
 refine Ar.outRet ?_
 refine Ar.outRet ?_
 refine Ar.passRet ?_
 refine Ar.out3 (.inr rfl) (Ho := Hp.only _ []) rfl (.tmp rfl) (.tmp rfl) (.tmp rfl) (Hp.sub_only _ _) ?_
 rotate_left
 refine Wc.seq (Wc.region rfl (Wl.q rfl (Qy.move rfl) (Wl.q rfl (Qy.eql rfl rfl) (Wl.q rfl (Qy.move rfl) ?_))))
 apply Wl.joinAnd 5 39 44 rfl
 intro hg1
 refine Wl.want rfl rfl (Wl.q rfl (Qy.move rfl) (Wl.want rfl rfl (Wl.q rfl (Qy.move rfl) (Wl.want rfl rfl (Wl.q rfl (Qy.mul rfl rfl (by omega)) ?_)))))
 refine Wl.want rfl rfl ?_
 refine Wl.call0 rfl T.fn87 rfl (c87 _ _) ?_
 refine Wl.q rfl (Qy.pick rfl rfl) ?_
 exact Wl.back 5 0 rfl rfl rfl rfl rfl
 intro hg1
 refine Wl.pass rfl rfl rfl (Wl.pass rfl rfl rfl (Wl.pass rfl rfl rfl (Wl.pass rfl rfl rfl (Wl.q rfl (Qy.pick rfl rfl) ?_))))
 exact Wl.back 5 0 rfl rfl rfl rfl rfl
 refine Wl.q rfl (Qy.assign rfl) (Wl.done (Ar.next ?_))
 refine Wc.cond rfl (fun hc6 => ?_) (fun hc6 => ?_)
 refine Wc.seq (Wc.region rfl (Wl.q rfl (Qy.move rfl) (Wl.q rfl (Qy.move rfl) (Wl.q rfl (Qy.mul rfl rfl (by omega)) ?_))))
 refine Wl.q rfl (Qy.assign rfl) (Wl.q rfl (Qy.assign rfl) (Wl.q rfl (Qy.assign rfl) (Wl.done (Ar.next (Wc.ret ?_)))))
 refine Ar.outRet ?_
 refine Ar.outRet ?_
 refine Ar.passRet ?_
 refine Ar.out3 (.inr rfl) (Ho := Hp.only _ []) rfl (.tmp rfl) (.tmp rfl) (.tmp rfl) (Hp.sub_only _ _) ?_
 rotate_left
 refine Wc.seq (Wc.region rfl (Wl.q rfl (Qy.move rfl) (Wl.q rfl (Qy.eql rfl rfl) (Wl.q rfl (Qy.move rfl) ?_))))
 apply Wl.joinAnd 5 51 56 rfl
 intro hg1
 refine Wl.want rfl rfl (Wl.q rfl (Qy.move rfl) (Wl.want rfl rfl (Wl.q rfl (Qy.move rfl) (Wl.want rfl rfl (Wl.q rfl (Qy.rem rfl rfl (by omega)) ?_)))))
 refine Wl.want rfl rfl (Wl.q rfl (Qy.eql rfl rfl) (Wl.q rfl (Qy.pick rfl rfl) ?_))
 exact Wl.back 5 0 rfl rfl rfl rfl rfl
 intro hg1
 refine Wl.pass rfl rfl rfl (Wl.pass rfl rfl rfl (Wl.pass rfl rfl rfl (Wl.pass rfl rfl rfl (Wl.q rfl (Qy.pick rfl rfl) ?_))))
 exact Wl.back 5 0 rfl rfl rfl rfl rfl
 refine Wl.q rfl (Qy.assign rfl) (Wl.done (Ar.next ?_))
 refine Wc.cond rfl (fun hc7 => ?_) (fun hc7 => ?_)
 refine Wc.seq (Wc.draw [] [] T.mixed rfl ?_)
 refine Gm.q 0 [] (by kernel_rfl) rfl rfl (Qy.move rfl) (Gm.q 1 [] (by kernel_rfl) rfl rfl (Qy.move rfl) (Gm.q 2 [] (by kernel_rfl) rfl rfl (Qy.quo rfl rfl (by omega) (by omega)) ?_))
 refine Gm.q 3 [] (by kernel_rfl) rfl rfl (Qy.assign rfl) (Gm.q 4 [] (by kernel_rfl) rfl rfl (Qy.assign rfl) (Gm.q 5 [] (by kernel_rfl) rfl rfl (Qy.assign rfl) (Gm.doneA (by kernel_rfl) trivial (by first | exact Imm.le_refl _ | assumption) ?_)))
 refine Ar.next (Wc.ret ?_)
 refine Ar.outRet ?_
 refine Ar.outRet ?_
 refine Ar.passRet ?_
 refine Ar.out3 (.inr rfl) (Ho := Hp.only _ []) rfl (.tmp rfl) (.tmp rfl) (.tmp rfl) (Hp.sub_only _ _) ?_
 rotate_left
 refine Wc.seq (Wc.region rfl (Wl.q rfl (Qy.move rfl) (Wl.q rfl (Qy.eql rfl rfl) (Wl.q rfl (Qy.move rfl) ?_))))
 apply Wl.joinAnd 5 63 68 rfl
 intro hg1
 refine Wl.want rfl rfl (Wl.q rfl (Qy.move rfl) (Wl.want rfl rfl (Wl.q rfl (Qy.move rfl) (Wl.want rfl rfl (Wl.q rfl (Qy.rem rfl rfl (by omega)) ?_)))))
 refine Wl.want rfl rfl (Wl.q rfl (Qy.eql rfl rfl) (Wl.q rfl (Qy.pick rfl rfl) ?_))
 exact Wl.back 5 0 rfl rfl rfl rfl rfl
 intro hg1
 refine Wl.pass rfl rfl rfl (Wl.pass rfl rfl rfl (Wl.pass rfl rfl rfl (Wl.pass rfl rfl rfl (Wl.q rfl (Qy.pick rfl rfl) ?_))))
 exact Wl.back 5 0 rfl rfl rfl rfl rfl
 refine Wl.q rfl (Qy.assign rfl) (Wl.done (Ar.next ?_))
 refine Wc.cond rfl (fun hc8 => ?_) (fun hc8 => ?_)
 refine Wc.seq (Wc.draw [] [] T.mixed rfl ?_)
 refine Gm.q 0 [] (by kernel_rfl) rfl rfl (Qy.move rfl) (Gm.q 1 [] (by kernel_rfl) rfl rfl (Qy.move rfl) (Gm.q 2 [] (by kernel_rfl) rfl rfl (Qy.quo rfl rfl (by omega) (by omega)) ?_))
 refine Gm.q 3 [] (by kernel_rfl) rfl rfl (Qy.assign rfl) (Gm.q 4 [] (by kernel_rfl) rfl rfl (Qy.assign rfl) (Gm.q 5 [] (by kernel_rfl) rfl rfl (Qy.assign rfl) (Gm.doneA (by kernel_rfl) trivial (by first | exact Imm.le_refl _ | assumption) ?_)))
 refine Ar.next (Wc.ret ?_)
 refine Ar.outRet ?_
 refine Ar.outRet ?_
 refine Ar.passRet ?_
 refine Ar.out3 (.inr rfl) (Ho := Hp.only _ []) rfl (.tmp rfl) (.tmp rfl) (.tmp rfl) (Hp.sub_only _ _) ?_
 rotate_left
 refine Wc.skip ?_
 refine Ar.outNormal ?_
 refine Ar.outNormal ?_
 refine Ar.next (Wc.seq (Wc.region rfl (Wl.q rfl (Qy.assign rfl) (Wl.q rfl (Qy.assign rfl) (Wl.q rfl (Qy.assign rfl) (Wl.done (Ar.next (Wc.ret ?_))))))))
 refine Ar.out3 (.inr rfl) (Ho := Hp.only _ []) rfl (.tmp rfl) (.tmp rfl) (.tmp rfl) (Hp.sub_only _ _) ?_
 rotate_left
 refine Wc.seq (Wc.region rfl (Wl.q rfl (Qy.eql rfl rfl) (Wl.q rfl (Qy.assign rfl) (Wl.done (Ar.next ?_)))))
 refine Wc.cond rfl (fun hc5 => ?_) (fun hc5 => ?_)
 refine Wc.block (Wc.seq (Wc.region rfl (Wl.q rfl (Qy.move rfl) (Wl.q rfl (Qy.eql rfl rfl) (Wl.q rfl (Qy.assign rfl) (Wl.done (Ar.next ?_)))))))
 refine Wc.cond rfl (fun hc6 => ?_) (fun hc6 => ?_)
 refine Wc.seq (Wc.region rfl (Wl.q rfl (Qy.move rfl) (Wl.q rfl (Qy.neg rfl (by omega)) ?_)))
 refine Wl.q rfl (Qy.assign rfl) (Wl.q rfl (Qy.assign rfl) (Wl.q rfl (Qy.assign rfl) (Wl.done (Ar.next (Wc.ret ?_)))))
 refine Ar.outRet ?_
 refine Ar.outRet ?_
 refine Ar.passRet ?_
 refine Ar.out3 (.inr rfl) (Ho := Hp.only _ []) rfl (.tmp rfl) (.tmp rfl) (.tmp rfl) (Hp.sub_only _ _) ?_
 rotate_left
 refine Wc.seq (Wc.region rfl (Wl.q rfl (Qy.move rfl) (Wl.q rfl (Qy.eql rfl rfl) (Wl.q rfl (Qy.move rfl) ?_))))
 apply Wl.joinAnd 5 82 87 rfl
 intro hg1
 refine Wl.want rfl rfl (Wl.q rfl (Qy.move rfl) (Wl.want rfl rfl (Wl.q rfl (Qy.move rfl) (Wl.want rfl rfl (Wl.q rfl (Qy.mul rfl rfl (by omega)) ?_)))))
 refine Wl.want rfl rfl ?_
 refine Wl.call0 rfl T.fn87 rfl (c87 _ _) ?_
 refine Wl.q rfl (Qy.pick rfl rfl) ?_
 exact Wl.back 5 0 rfl rfl rfl rfl rfl
 intro hg1
 refine Wl.pass rfl rfl rfl (Wl.pass rfl rfl rfl (Wl.pass rfl rfl rfl (Wl.pass rfl rfl rfl (Wl.q rfl (Qy.pick rfl rfl) ?_))))
 exact Wl.back 5 0 rfl rfl rfl rfl rfl
 refine Wl.q rfl (Qy.assign rfl) (Wl.done (Ar.next ?_))
 refine Wc.cond rfl (fun hc7 => ?_) (fun hc7 => ?_)
 refine Wc.seq (Wc.region rfl (Wl.q rfl (Qy.move rfl) (Wl.q rfl (Qy.move rfl) (Wl.q rfl (Qy.mul rfl rfl (by omega)) ?_))))
 refine Wl.q rfl (Qy.assign rfl) (Wl.q rfl (Qy.assign rfl) (Wl.q rfl (Qy.assign rfl) (Wl.done (Ar.next (Wc.ret ?_)))))
 refine Ar.outRet ?_
 refine Ar.outRet ?_
 refine Ar.passRet ?_
 refine Ar.out3 (.inr rfl) (Ho := Hp.only _ []) rfl (.tmp rfl) (.tmp rfl) (.tmp rfl) (Hp.sub_only _ _) ?_
 rotate_left
 refine Wc.skip ?_
 refine Ar.outNormal ?_
 refine Ar.outNormal ?_
 refine Ar.next (Wc.seq (Wc.region rfl (Wl.q rfl (Qy.assign rfl) (Wl.q rfl (Qy.assign rfl) (Wl.q rfl (Qy.assign rfl) (Wl.done (Ar.next (Wc.ret ?_))))))))
 refine Ar.out3 (.inr rfl) (Ho := Hp.only _ []) rfl (.tmp rfl) (.tmp rfl) (.tmp rfl) (Hp.sub_only _ _) ?_
 rotate_left
 refine Wc.seq (Wc.region rfl (Wl.q rfl (Qy.eql rfl rfl) (Wl.q rfl (Qy.assign rfl) (Wl.done (Ar.next ?_)))))
 refine Wc.cond rfl (fun hc6 => ?_) (fun hc6 => ?_)
 refine Wc.block (Wc.seq (Wc.region rfl (Wl.q rfl (Qy.move rfl) (Wl.q rfl (Qy.eql rfl rfl) (Wl.q rfl (Qy.move rfl) ?_)))))
 apply Wl.joinAnd 5 99 104 rfl
 intro hg1
 refine Wl.want rfl rfl (Wl.q rfl (Qy.move rfl) (Wl.want rfl rfl (Wl.q rfl (Qy.move rfl) (Wl.want rfl rfl (Wl.q rfl (Qy.add rfl rfl (by omega)) ?_)))))
 refine Wl.want rfl rfl (Wl.q rfl (Qy.leq rfl rfl) (Wl.q rfl (Qy.pick rfl rfl) ?_))
 exact Wl.back 5 0 rfl rfl rfl rfl rfl
 intro hg1
 refine Wl.pass rfl rfl rfl (Wl.pass rfl rfl rfl (Wl.pass rfl rfl rfl (Wl.pass rfl rfl rfl (Wl.q rfl (Qy.pick rfl rfl) ?_))))
 exact Wl.back 5 0 rfl rfl rfl rfl rfl
 refine Wl.q rfl (Qy.assign rfl) (Wl.done (Ar.next ?_))
 refine Wc.cond rfl (fun hc7 => ?_) (fun hc7 => ?_)
 refine Wc.seq (Wc.region rfl (Wl.q rfl (Qy.move rfl) (Wl.q rfl (Qy.move rfl) (Wl.q rfl (Qy.add rfl rfl (by omega)) ?_))))
 refine Wl.q rfl (Qy.assign rfl) (Wl.q rfl (Qy.assign rfl) (Wl.q rfl (Qy.assign rfl) (Wl.done (Ar.next (Wc.ret ?_)))))
 refine Ar.outRet ?_
 refine Ar.outRet ?_
 refine Ar.passRet ?_
 refine Ar.out3 (.inr rfl) (Ho := Hp.only _ []) rfl (.tmp rfl) (.tmp rfl) (.tmp rfl) (Hp.sub_only _ _) ?_
 rotate_left
 refine Wc.seq (Wc.region rfl (Wl.q rfl (Qy.move rfl) (Wl.q rfl (Qy.neq rfl rfl) (Wl.q rfl (Qy.assign rfl) (Wl.done (Ar.next ?_))))))
 refine Wc.cond rfl (fun hc8 => ?_) (fun hc8 => ?_)
 refine Wc.skip ?_
 refine Ar.outNormal ?_
 refine Ar.outNormal ?_
 refine Ar.next (Wc.seq (Wc.region rfl (Wl.q rfl (Qy.assign rfl) (Wl.q rfl (Qy.assign rfl) (Wl.q rfl (Qy.assign rfl) (Wl.done (Ar.next (Wc.ret ?_))))))))
 refine Ar.out3 (.inr rfl) (Ho := Hp.only _ []) rfl (.tmp rfl) (.tmp rfl) (.tmp rfl) (Hp.sub_only _ _) ?_
 rotate_left
 refine Wc.seq (Wc.region rfl (Wl.q rfl (Qy.move rfl) (Wl.q rfl (Qy.move rfl) (Wl.q rfl (Qy.eql rfl rfl) (Wl.q rfl (Qy.assign rfl) (Wl.done (Ar.next ?_)))))))
 refine Wc.cond rfl (fun hc9 => ?_) (fun hc9 => ?_)
 refine Wc.seq (Wc.region rfl (Wl.q rfl (Qy.assign rfl) (Wl.q rfl (Qy.assign rfl) (Wl.q rfl (Qy.assign rfl) (Wl.done (Ar.next (Wc.ret ?_)))))))
 refine Ar.outRet ?_
 refine Ar.outRet ?_
 refine Ar.passRet ?_
 refine Ar.out3 (.inr rfl) (Ho := Hp.only _ []) rfl (.tmp rfl) (.tmp rfl) (.tmp rfl) (Hp.sub_only _ _) ?_
 rotate_left
 refine Wc.seq (Wc.region rfl (Wl.q rfl (Qy.move rfl) (Wl.q rfl (Qy.move rfl) (Wl.q rfl (Qy.gtr rfl rfl) (Wl.q rfl (Qy.assign rfl) (Wl.done (Ar.next ?_)))))))
 refine Wc.cond rfl (fun hc10 => ?_) (fun hc10 => ?_)
 refine Wc.seq (Wc.region rfl (Wl.q rfl (Qy.move rfl) (Wl.q rfl (Qy.move rfl) (Wl.q rfl (Qy.sub rfl rfl (by omega)) ?_))))
 refine Wl.q rfl (Qy.assign rfl) (Wl.q rfl (Qy.assign rfl) (Wl.q rfl (Qy.assign rfl) (Wl.done (Ar.next (Wc.ret ?_)))))
 refine Ar.outRet ?_
 refine Ar.outRet ?_
 refine Ar.passRet ?_
 refine Ar.out3 (.inr rfl) (Ho := Hp.only _ []) rfl (.tmp rfl) (.tmp rfl) (.tmp rfl) (Hp.sub_only _ _) ?_
 rotate_left
 refine Wc.seq (Wc.region rfl (Wl.q rfl (Qy.move rfl) (Wl.q rfl (Qy.move rfl) (Wl.q rfl (Qy.sub rfl rfl (by omega)) ?_))))
 refine Wl.q rfl (Qy.assign rfl) (Wl.q rfl (Qy.assign rfl) (Wl.q rfl (Qy.assign rfl) (Wl.done (Ar.next (Wc.ret ?_)))))
 refine Ar.outRet ?_
 refine Ar.outRet ?_
 refine Ar.passRet ?_
 refine Ar.out3 (.inr rfl) (Ho := Hp.only _ []) rfl (.tmp rfl) (.tmp rfl) (.tmp rfl) (Hp.sub_only _ _) ?_
 rotate_left
 refine Wc.seq (Wc.region rfl (Wl.q rfl (Qy.eql rfl rfl) (Wl.q rfl (Qy.assign rfl) (Wl.done (Ar.next ?_)))))
 refine Wc.cond rfl (fun hc7 => ?_) (fun hc7 => ?_)
 refine Wc.seq (Wc.region rfl (Wl.q rfl (Qy.move rfl) (Wl.q rfl (Qy.eql rfl rfl) (Wl.q rfl (Qy.move rfl) ?_))))
 apply Wl.joinAnd 5 126 131 rfl
 intro hg1
 refine Wl.want rfl rfl (Wl.q rfl (Qy.move rfl) (Wl.want rfl rfl (Wl.q rfl (Qy.move rfl) (Wl.want rfl rfl (Wl.q rfl (Qy.add rfl rfl (by omega)) ?_)))))
 refine Wl.want rfl rfl (Wl.q rfl (Qy.leq rfl rfl) (Wl.q rfl (Qy.pick rfl rfl) ?_))
 exact Wl.back 5 0 rfl rfl rfl rfl rfl
 intro hg1
 refine Wl.pass rfl rfl rfl (Wl.pass rfl rfl rfl (Wl.pass rfl rfl rfl (Wl.pass rfl rfl rfl (Wl.q rfl (Qy.pick rfl rfl) ?_))))
 exact Wl.back 5 0 rfl rfl rfl rfl rfl
 refine Wl.done (Ar.next ?_)
 refine Wc.cond rfl (fun hc8 => ?_) (fun hc8 => ?_)
 refine Wc.seq (Wc.region rfl (Wl.q rfl (Qy.move rfl) (Wl.q rfl (Qy.move rfl) (Wl.q rfl (Qy.add rfl rfl (by omega)) ?_))))
 refine Wl.q rfl (Qy.assign rfl) (Wl.q rfl (Qy.assign rfl) (Wl.q rfl (Qy.assign rfl) (Wl.done (Ar.next (Wc.ret ?_)))))
 refine Ar.outRet ?_
 refine Ar.passRet ?_
 refine Ar.out3 (.inr rfl) (Ho := Hp.only _ []) rfl (.tmp rfl) (.tmp rfl) (.tmp rfl) (Hp.sub_only _ _) ?_
 rotate_left
 refine Wc.skip ?_
 refine Ar.outNormal ?_
 refine Ar.next (Wc.seq (Wc.region rfl (Wl.q rfl (Qy.assign rfl) (Wl.q rfl (Qy.assign rfl) (Wl.q rfl (Qy.assign rfl) (Wl.done (Ar.next (Wc.ret ?_))))))))
 refine Ar.out3 (.inr rfl) (Ho := Hp.only _ []) rfl (.tmp rfl) (.tmp rfl) (.tmp rfl) (Hp.sub_only _ _) ?_
 rotate_left
 refine Wc.skip ?_
 refine Ar.outNormal ?_
 refine Ar.next (Wc.seq (Wc.region rfl (Wl.q rfl (Qy.assign rfl) (Wl.q rfl (Qy.assign rfl) (Wl.q rfl (Qy.assign rfl) (Wl.done (Ar.next (Wc.ret ?_))))))))
 refine Ar.out3 (.inr rfl) (Ho := Hp.only _ []) rfl (.tmp rfl) (.tmp rfl) (.tmp rfl) (Hp.sub_only _ _) ?_
 rotate_left
 all_goals refine ⟨?_, rfl, rfl⟩
 all_goals clear hc hd hm hq1 hq2 hcz hdz hc2 hd2
 all_goals simp_all [togP]
 all_goals repeat' split
 all_goals first
  | exact ⟨rfl, rfl, rfl⟩
  | (rename_i h; exfalso; omega)
  | (rename_i h; exfalso; first | exact hc7 h.1 h.2 | exact hc8 h.1 h.2)
theorem pow_range (c : Int) : 0 ≤ powC c ∧ powC c ≤ 9 := by
 unfold powC
 repeat' split
 all_goals omega
theorem plain_const {i : Sl.Instr} (h : constOk i.op i.c = true) : constOk (plainP i).op (plainP i).c = true := by
 have hp := pow_range i.c
 unfold plainP
 repeat' split
 all_goals first | exact h | (simp [constOk]; try omega)
theorem const_shift {op c : Int} (h : constOk op c = true) (ho : op = 7 ∨ op = 8) : 1 ≤ c ∧ c ≤ 64 := by
 unfold constOk at h
 rw [if_neg (by omega), if_pos ho, decide_eq_true_eq] at h
 exact h
theorem div_ne {c d : Int} (hc : c ≠ 0) (h : c.tmod d = 0) : c.tdiv d ≠ 0 := by
 intro h0
 have e := Int.mul_tdiv_add_tmod c d
 rw [h0, h, Int.mul_zero] at e
 omega
theorem const_md {op c : Int} (ho : op = 5 ∨ op = 6) (h0 : c ≠ 0) (h : -512 ≤ c ∧ c ≤ 512) : constOk op c = true := by
 unfold constOk; rw [if_pos ho, decide_eq_true_eq]; exact ⟨h0, h⟩
theorem const_sh {op c : Int} (ho : op = 7 ∨ op = 8) (h : 1 ≤ c ∧ c ≤ 64) : constOk op c = true := by
 unfold constOk; rw [if_neg (by omega), if_pos ho, decide_eq_true_eq]; exact h
theorem tog_const {f c s d : Int} (hc : constOk f c = true) (hd : constOk s d = true) : constOk (togP f c s d).1 (togP f c s d).2.1 = true ∨ (togP f c s d).2.2 = false := by
 have hc2 := const_fits hc
 have hd2 := const_fits hd
 have hq1 := div_small (d := d) hc2
 have hq2 := div_small (d := c) hd2
 have hcz := const_zero hc
 have hdz := const_zero hd
 have hcs := const_shift hc
 have hds := const_shift hd
 unfold togP
 by_cases h1 : f = 1
 · rw [if_pos h1]; exact .inl hd
 rw [if_neg h1]
 by_cases h2 : f = 2
 · rw [if_pos h2]
   split
   · exact .inl rfl
   split
   · exact .inl rfl
   split
   · rename_i h; exact .inl (const_md h (by have := hdz h; show -d ≠ 0; omega) (by show -512 ≤ -d ∧ -d ≤ 512; omega))
   · exact .inr rfl
 rw [if_neg h2]
 by_cases h5 : f = 5
 · have hc0 := hcz (.inl h5)
   rw [if_pos h5]
   split
   · exact .inl (const_md (.inl rfl) (by show -c ≠ 0; omega) (by show -512 ≤ -c ∧ -c ≤ 512; omega))
   split
   · rename_i h; exact .inl (const_md (.inl rfl) (Int.mul_ne_zero hc0 (hdz (.inl h.1))) h.2)
   split
   · rename_i h; exact .inl (const_md (.inl rfl) (div_ne hc0 h.2) hq1)
   split
   · rename_i h; exact .inl (const_md (.inr rfl) (div_ne (hdz (.inr h.1)) h.2) hq2)
   · exact .inr rfl
 rw [if_neg h5]
 by_cases h6 : f = 6
 · have hc0 := hcz (.inr h6)
   rw [if_pos h6]
   split
   · exact .inl (const_md (.inr rfl) (by show -c ≠ 0; omega) (by show -512 ≤ -c ∧ -c ≤ 512; omega))
   split
   · rename_i h; exact .inl (const_md (.inr rfl) (Int.mul_ne_zero hc0 (hdz (.inr h.1))) h.2)
   · exact .inr rfl
 rw [if_neg h6]
 by_cases h7 : f = 7
 · have h3 := hcs (.inl h7)
   rw [if_pos h7]
   split
   · rename_i h; have h4 := hds (.inl h.1); exact .inl (const_sh (.inl rfl) (by show 1 ≤ c + d ∧ c + d ≤ 64; omega))
   split
   · exact .inr rfl
   rename_i h8
   have h4 := hds (.inr (by omega))
   split
   · exact .inl rfl
   split
   · exact .inl (const_sh (.inl rfl) (by show 1 ≤ c - d ∧ c - d ≤ 64; omega))
   · exact .inl (const_sh (.inr rfl) (by show 1 ≤ d - c ∧ d - c ≤ 64; omega))
 rw [if_neg h7]
 by_cases h8 : f = 8
 · have h3 := hcs (.inr h8)
   rw [if_pos h8]
   split
   · rename_i h; have h4 := hds (.inr h.1); exact .inl (const_sh (.inr rfl) (by show 1 ≤ c + d ∧ c + d ≤ 64; omega))
   · exact .inr rfl
 rw [if_neg h8]; exact .inr rfl
end Go.Proofs.YtbppmiimeccclaaDoor
namespace Go.Proofs.YtbppmiimeccclaaDoor
open Go Go.Sl Go.ChangeShapes Go.WideShapes Go.RowKit Go.Joins
set_option linter.unusedVariables false
set_option maxRecDepth 100000
abbrev laidL : List (String × DataW Unit) := [("math/bits.deBruijn32tab", Rows.laid_math_bits_deBruijn32tab), ("math/bits.deBruijn64tab", Rows.laid_math_bits_deBruijn64tab)]
def nums64 : List Int := [0, 1, 56, 2, 57, 49, 28, 3, 61, 58, 42, 50, 38, 29, 17, 4, 62, 47, 59, 36, 45, 43, 51, 22, 53, 39, 33, 30, 24, 18, 12, 5, 63, 55, 48, 27, 60, 41, 37, 16, 46, 35, 44, 21, 52, 32, 23, 11, 54, 26, 40, 15, 34, 20, 31, 10, 25, 14, 19, 9, 13, 8, 7, 6]
theorem gTab : Tryd.prog.globalNamed "math/bits.deBruijn64tab" = some 1 := by kernel_rfl
theorem gTabType : (Tryd.prog.globals[1]?).map (·.type) = some 175 := by kernel_rfl
theorem und175 : Tryd.prog.underlying 175 = some (.array 64 5) := by kernel_rfl
theorem und5 : Tryd.prog.underlying 5 = some (.int .u8) := by kernel_rfl
theorem cells175 : Tryd.prog.cellsOf 175 = 64 := by kernel_rfl
theorem cells5 : Tryd.prog.cellsOf 5 = 1 := by kernel_rfl
theorem table {W : World} (h : laidMetH Tryd.prog laidL W) : Lib.TabIs Tryd.prog W "math/bits.deBruijn64tab" .u8 nums64 := by
 have h1 := h.filter (fun x => x.1 == "math/bits.deBruijn64tab")
 have e : laidL.filter (fun x => x.1 == "math/bits.deBruijn64tab") = [("math/bits.deBruijn64tab", Rows.laid_math_bits_deBruijn64tab)] := by kernel_rfl
 rw [e] at h1
 exact Lib.tabIs_of_head (rest := []) gTab gTabType und175 und5 cells5 cells175 h1
theorem tab_ok {W : World} (h : laidMetH Tryd.prog laidL W) : TabOk (heapG W) := fun k v hv => by
 have hk : k < nums64.length := by
  have := (List.getElem?_eq_some_iff.1 hv).1
  simpa [tab64, nums64] using this
 have h1 := (table h).cell gTab k hk
 have h2 := cell_heapG h1
 rw [h2]
 have e : tab64 = nums64.map fun n => .int .u8 n := rfl
 rw [e, List.getElem?_map, List.getElem?_eq_getElem hk] at hv
 rw [← hv, List.getD_eq_getElem?_getD, List.getElem?_eq_getElem hk]; rfl
def refill (cs : Array Value) : Obj → Obj
 | .cells _ t frozen => .cells cs t frozen
 | o => o
noncomputable def laidWorld (os : Os) : World :=
 { World.holding Tryd.prog os ⟨#[], #[], []⟩ with heap := ((World.holding Tryd.prog os ⟨#[], #[], []⟩).heap.modify 0 (refill #[.int .u8 0, .int .u8 1, .int .u8 28, .int .u8 2, .int .u8 29, .int .u8 14, .int .u8 24, .int .u8 3, .int .u8 30, .int .u8 22, .int .u8 20, .int .u8 15, .int .u8 25, .int .u8 17, .int .u8 4, .int .u8 8, .int .u8 31, .int .u8 27, .int .u8 13, .int .u8 23, .int .u8 21, .int .u8 19, .int .u8 16, .int .u8 7, .int .u8 26, .int .u8 12, .int .u8 18, .int .u8 6, .int .u8 11, .int .u8 5, .int .u8 10, .int .u8 9])).modify 1 (refill tab64.toArray) }
end Go.Proofs.YtbppmiimeccclaaDoor
set_option linter.unusedVariables false
namespace Go.Sl
open Go
section
variable {P : Program} {e : Env} {H : Hp} {G : Imm} {ty : TypeId} {t t' : TypeId} {x y : Operand} {m n : Int}
theorem Qy.uadd32 (hx : e.ev x = some (.int .u32 m)) (hy : e.ev y = some (.int .u32 n)) (hb : 0 ≤ m + n ∧ m + n ≤ 4294967295) : Qy P (.binOp .add t x y t') ty e H G (.int .u32 (m + n)) := by
 have := Qy.addW (P := P) (H := H) (G := G) (ty := ty) (t := t) (t' := t') hx hy; rwa [IntWalk.u32_in _ hb] at this
theorem Qy.uadd64 (hx : e.ev x = some (.int .u64 m)) (hy : e.ev y = some (.int .u64 n)) (hb : 0 ≤ m + n ∧ m + n ≤ 18446744073709551615) : Qy P (.binOp .add t x y t') ty e H G (.int .u64 (m + n)) := by
 have := Qy.addW (P := P) (H := H) (G := G) (ty := ty) (t := t) (t' := t') hx hy; rwa [IntWalk.u64_in _ hb] at this
theorem Qy.usub32 (hx : e.ev x = some (.int .u32 m)) (hy : e.ev y = some (.int .u32 n)) (hb : 0 ≤ m - n ∧ m - n ≤ 4294967295) : Qy P (.binOp .sub t x y t') ty e H G (.int .u32 (m - n)) := by
 have := Qy.subW (P := P) (H := H) (G := G) (ty := ty) (t := t) (t' := t') hx hy; rwa [IntWalk.u32_in _ hb] at this
theorem Qy.umul32 (hx : e.ev x = some (.int .u32 m)) (hy : e.ev y = some (.int .u32 n)) (hb : 0 ≤ m * n ∧ m * n ≤ 4294967295) : Qy P (.binOp .mul t x y t') ty e H G (.int .u32 (m * n)) := by
 have := Qy.mulW (P := P) (H := H) (G := G) (ty := ty) (t := t) (t' := t') hx hy; rwa [IntWalk.u32_in _ hb] at this
theorem Qy.umul64 (hx : e.ev x = some (.int .u64 m)) (hy : e.ev y = some (.int .u64 n)) (hb : 0 ≤ m * n ∧ m * n ≤ 18446744073709551615) : Qy P (.binOp .mul t x y t') ty e H G (.int .u64 (m * n)) := by
 have := Qy.mulW (P := P) (H := H) (G := G) (ty := ty) (t := t) (t' := t') hx hy; rwa [IntWalk.u64_in _ hb] at this
theorem tdiv_pos {m n : Int} (h : 0 ≤ m) : m.tdiv n = m / n := Int.tdiv_eq_ediv_of_nonneg h
theorem tmod_pos {m n : Int} (h : 0 ≤ m) : m.tmod n = m % n := Int.tmod_eq_emod_of_nonneg h
theorem div_le {m n : Int} (h : 0 ≤ m) (hn : 0 < n) : 0 ≤ m / n ∧ m / n ≤ m := ⟨Int.ediv_nonneg h (Int.le_of_lt hn), Int.ediv_le_self _ h⟩
theorem Qy.uquo32 (hx : e.ev x = some (.int .u32 m)) (hy : e.ev y = some (.int .u32 n)) (hb : 0 ≤ m ∧ m ≤ 4294967295 ∧ 0 < n) : Qy P (.binOp .quo t x y t') ty e H G (.int .u32 (m / n)) := by
 have := Qy.quoW (P := P) (H := H) (G := G) (ty := ty) (t := t) (t' := t') hx hy (by omega)
 have h1 := div_le hb.1 hb.2.2
 rwa [tdiv_pos hb.1, IntWalk.u32_in _ ⟨h1.1, Int.le_trans h1.2 hb.2.1⟩] at this
theorem Qy.uquo64 (hx : e.ev x = some (.int .u64 m)) (hy : e.ev y = some (.int .u64 n)) (hb : 0 ≤ m ∧ m ≤ 18446744073709551615 ∧ 0 < n) : Qy P (.binOp .quo t x y t') ty e H G (.int .u64 (m / n)) := by
 have := Qy.quoW (P := P) (H := H) (G := G) (ty := ty) (t := t) (t' := t') hx hy (by omega)
 have h1 := div_le hb.1 hb.2.2
 rwa [tdiv_pos hb.1, IntWalk.u64_in _ ⟨h1.1, Int.le_trans h1.2 hb.2.1⟩] at this
theorem Qy.quoP (hx : e.ev x = some (.int .i64 m)) (hy : e.ev y = some (.int .i64 n)) (hb : 0 ≤ m ∧ m ≤ 9223372036854775807 ∧ 0 < n) : Qy P (.binOp .quo t x y t') ty e H G (.int .i64 (m / n)) := by
 have h1 := div_le hb.1 hb.2.2
 have h2 : m.tdiv n = m / n := tdiv_pos hb.1
 have := Qy.quo (P := P) (H := H) (G := G) (ty := ty) (t := t) (t' := t') hx hy (by omega) (by rw [h2]; exact ⟨by omega, by omega⟩)
 rwa [h2] at this
theorem Qy.urem {k : IntKind} (hx : e.ev x = some (.int k m)) (hy : e.ev y = some (.int k n)) (hb : 0 ≤ m ∧ 0 < n) : Qy P (.binOp .rem t x y t') ty e H G (.int k (m % n)) := by
 have := Qy.rem (P := P) (H := H) (G := G) (ty := ty) (t := t) (t' := t') hx hy (by omega)
 rwa [tmod_pos hb.1] at this
theorem Qy.conv32 {s : TypeId} {k : IntKind} (hs : (P.underlying s).isSome = true) (ht : P.underlying t = some (.int .u32)) (hx : e.ev x = some (.int k m)) (hb : 0 ≤ m ∧ m ≤ 4294967295) : Qy P (.convert s t x) ty e H G (.int .u32 m) := by
 have := Qy.conv (P := P) (H := H) (G := G) (ty := ty) hs ht hx
 rwa [IntWalk.u32_in _ hb] at this
theorem Qy.conv64 {s : TypeId} {k : IntKind} (hs : (P.underlying s).isSome = true) (ht : P.underlying t = some (.int .u64)) (hx : e.ev x = some (.int k m)) (hb : 0 ≤ m ∧ m ≤ 18446744073709551615) : Qy P (.convert s t x) ty e H G (.int .u64 m) := by
 have := Qy.conv (P := P) (H := H) (G := G) (ty := ty) hs ht hx
 rwa [IntWalk.u64_in _ hb] at this
end
theorem Qy.fieldR {P : Program} {e : Env} {H : Hp} {G : Imm} {ty T : TypeId} {x : Operand} {i : Nat} {v0 v1 v : Value} (h : ∀ (w : World) (v0 v1 : Value), (Instr.field T (.agg #[v0, v1]) i).run P w = .ok (#[v0, v1][i]?.getD undef) w)
 (hx : e.ev x = some (.agg #[v0, v1])) (hv : #[v0, v1][i]?.getD undef = v) : Qy P (.field T x i) ty e H G v := fun a w _ _ _ _ hh => by
 subst hv
 simp [execOp, hh.eval hx, h]
theorem bits_and_u32_nat (a b : Nat) (ha : a < 4294967296) (hb : b < 4294967296) : bits .and .u32 (a : Int) (b : Int) = ((a &&& b : Nat) : Int) := by
 have hx : a &&& b < 2 ^ 32 := Nat.and_lt_two_pow _ (by omega)
 have h1 : (BitVec.ofInt 32 (a : Int)).toNat = a := by
  rw [BitVec.ofInt_natCast, BitVec.toNat_ofNat]; exact Nat.mod_eq_of_lt (by omega)
 have h2 : (BitVec.ofInt 32 (b : Int)).toNat = b := by
  rw [BitVec.ofInt_natCast, BitVec.toNat_ofNat]; exact Nat.mod_eq_of_lt (by omega)
 show IntKind.u32.wrap ((BitVec.ofInt 32 (a : Int) &&& BitVec.ofInt 32 (b : Int)).toNat : Int) = _
 rw [BitVec.toNat_and, h1, h2, IntKind.wrap_u32]
 omega
theorem bits_or_u32_nat (a b : Nat) (ha : a < 4294967296) (hb : b < 4294967296) : bits .or .u32 (a : Int) (b : Int) = ((a ||| b : Nat) : Int) := by
 have hx : a ||| b < 2 ^ 32 := Nat.or_lt_two_pow (by omega) (by omega)
 have h1 : (BitVec.ofInt 32 (a : Int)).toNat = a := by
  rw [BitVec.ofInt_natCast, BitVec.toNat_ofNat]; exact Nat.mod_eq_of_lt (by omega)
 have h2 : (BitVec.ofInt 32 (b : Int)).toNat = b := by
  rw [BitVec.ofInt_natCast, BitVec.toNat_ofNat]; exact Nat.mod_eq_of_lt (by omega)
 show IntKind.u32.wrap ((BitVec.ofInt 32 (a : Int) ||| BitVec.ofInt 32 (b : Int)).toNat : Int) = _
 rw [BitVec.toNat_or, h1, h2, IntKind.wrap_u32]
 omega
theorem and_one_u32 (x : Int) (h : 0 ≤ x ∧ x < 4294967296) : bits .and .u32 x 1 = x % 2 := by
 have h1 := bits_and_u32_nat x.toNat 1 (by omega) (by omega)
 rw [Nat.and_one_is_mod, Int.toNat_of_nonneg h.1] at h1
 have h2 : ((x.toNat % 2 : Nat) : Int) = x % 2 := by omega
 exact h1.trans h2
theorem or_bit_u32 (x : Int) (s : Nat) (hx : 0 ≤ x ∧ x < 65536) (hs : s < 16) (hz : x % ((2 ^ (s + 1) : Nat) : Int) = 0) : bits .or .u32 x ((2 ^ s : Nat) : Int) = x + ((2 ^ s : Nat) : Int) := by
 have hp : 2 ^ s < 4294967296 := Nat.lt_of_lt_of_le (Nat.pow_lt_pow_right (by decide) hs) (by decide)
 have h1 := bits_or_u32_nat x.toNat (2 ^ s) (by omega) hp
 rw [Int.toNat_of_nonneg hx.1] at h1
 rw [h1]
 have hz' : x.toNat % 2 ^ (s + 1) = 0 := by
  have h2 : ((x.toNat % 2 ^ (s + 1) : Nat) : Int) = 0 := by rw [Int.natCast_emod, Int.toNat_of_nonneg hx.1]; exact hz
  exact Int.ofNat_eq_zero.1 h2
 have h3 := Nat.div_add_mod x.toNat (2 ^ (s + 1))
 rw [hz', Nat.add_zero] at h3
 have h4 := Nat.two_pow_add_eq_or_of_lt (b := 2 ^ s) (i := s + 1) (Nat.pow_lt_pow_right (by decide) (Nat.lt_succ_self s)) (x.toNat / 2 ^ (s + 1))
 rw [h3] at h4
 rw [← h4, Int.natCast_add, Int.toNat_of_nonneg hx.1]
structure IV where
 neg : Bool
 a : Option Addr
 n : Nat
 c : Nat
instance : Inhabited IV := ⟨⟨false, none, 0, 0⟩⟩
instance : Cells IV := ⟨2, fun x => [.bool x.neg, .slice x.a x.n x.c], fun _ => rfl, fun _ => rfl⟩
structure SV where
 a : Option Addr
 n : Nat
 c : Nat
instance : Inhabited SV := ⟨⟨none, 0, 0⟩⟩
instance : Cells SV := ⟨1, fun x => [.slice x.a x.n x.c], fun _ => rfl, fun _ => rfl⟩
end Go.Sl
set_option linter.unusedVariables false
namespace Go.Sl
open Go
def Digs (l : List U32) : Prop := ∀ d ∈ l, 0 ≤ d.v ∧ d.v < 65536
def valL : List U32 → Int
 | [] => 0
 | d :: l => d.v + 65536 * valL l
def pw (n : Nat) : Int := ((65536 ^ n : Nat) : Int)
theorem pw_zero : pw 0 = 1 := rfl
theorem pw_succ (n : Nat) : pw (n + 1) = 65536 * pw n := by unfold pw; rw [Nat.pow_succ, Nat.mul_comm, Int.natCast_mul]; rfl
theorem pw_pos (n : Nat) : 0 < pw n := by unfold pw; exact Int.ofNat_lt.2 (Nat.pow_pos (by decide))
theorem pw_add (m n : Nat) : pw (m + n) = pw m * pw n := by unfold pw; rw [Nat.pow_add, Int.natCast_mul]
theorem pw_le {m n : Nat} (h : m ≤ n) : pw m ≤ pw n := by unfold pw; exact Int.ofNat_le.2 (Nat.pow_le_pow_right (by decide) h)
theorem valL_nil : valL [] = 0 := rfl
theorem valL_cons (d : U32) (l : List U32) : valL (d :: l) = d.v + 65536 * valL l := rfl
theorem Digs.nil : Digs [] := fun d h => by simp at h
theorem Digs.tail {d : U32} {l : List U32} (h : Digs (d :: l)) : Digs l := fun x hx => h x (List.mem_cons_of_mem _ hx)
theorem Digs.head {d : U32} {l : List U32} (h : Digs (d :: l)) : 0 ≤ d.v ∧ d.v < 65536 := h d List.mem_cons_self
theorem Digs.append {l m : List U32} (h : Digs l) (h' : Digs m) : Digs (l ++ m) := fun x hx => by
 rcases List.mem_append.1 hx with h1 | h1
 · exact h x h1
 · exact h' x h1
theorem Digs.one {d : Int} (h : 0 ≤ d ∧ d < 65536) : Digs [⟨d⟩] := fun x hx => by
 have : x = ⟨d⟩ := by simpa using hx
 subst this; exact h
theorem Digs.take {l : List U32} (h : Digs l) (n : Nat) : Digs (l.take n) := fun x hx => h x (List.mem_of_mem_take hx)
theorem Digs.at {l : List U32} (h : Digs l) {m : Int} (hm : 0 ≤ m ∧ m < l.length) : 0 ≤ (l[m.toNat]?.getD default).v ∧ (l[m.toNat]?.getD default).v < 65536 := by
 have hl : m.toNat < l.length := by omega
 rw [List.getElem?_eq_getElem hl]; exact h _ (List.getElem_mem hl)
theorem valL_nonneg : ∀ {l : List U32}, Digs l → 0 ≤ valL l
 | [], _ => Int.le_refl 0
 | d :: l, h => by
   have h1 := valL_nonneg h.tail
   have h2 := h.head
   rw [valL_cons]; omega
theorem valL_lt : ∀ {l : List U32}, Digs l → valL l < pw l.length
 | [], _ => by decide
 | d :: l, h => by
   have h1 := valL_lt h.tail
   have h2 := h.head
   rw [valL_cons, List.length_cons, pw_succ]; omega
theorem valL_append : ∀ (l m : List U32), valL (l ++ m) = valL l + pw l.length * valL m
 | [], m => by rw [List.nil_append, valL_nil, List.length_nil, pw_zero]; omega
 | d :: l, m => by
   rw [List.cons_append, valL_cons, valL_cons, valL_append l m, List.length_cons, pw_succ, Int.mul_add, ← Int.mul_assoc]; omega
theorem valL_one (d : U32) : valL [d] = d.v := by rw [valL_cons, valL_nil]; omega
theorem valL_snoc (l : List U32) (d : U32) : valL (l ++ [d]) = valL l + pw l.length * d.v := by rw [valL_append, valL_one]
theorem valL_take_succ {l : List U32} {k : Nat} (h : k < l.length) : valL (l.take (k + 1)) = valL (l.take k) + pw k * (l[((k : Nat) : Int).toNat]?.getD default).v := by
 rw [List.take_add_one, Int.toNat_natCast, List.getElem?_eq_getElem h]
 simp only [Option.toList_some, Option.getD_some]
 rw [valL_snoc, List.length_take, Nat.min_eq_left (Nat.le_of_lt h)]
theorem take_all {α : Type} {l : List α} {k : Nat} (h : l.length ≤ k) : l.take k = l := List.take_of_length_le h
theorem valL_replicate (n : Nat) : valL (List.replicate n ⟨0⟩) = 0 := by
 induction n with
 | zero => rfl
 | succ n ih => rw [List.replicate_succ, valL_cons, ih]; rfl
theorem Digs.zeros (n : Nat) : Digs (List.replicate n ⟨0⟩) := fun x hx => by
 have := List.eq_of_mem_replicate hx
 subst this; exact ⟨by decide, by decide⟩
theorem valL_trim {l : List U32} {n : Nat} (h : ∀ j, n ≤ j → j < l.length → (l[j]?.getD default).v = 0) : valL (l.take n) = valL l := by
 rcases Nat.lt_or_ge n l.length with hn | hn
 · have e : l = l.take n ++ l.drop n := (List.take_append_drop n l).symm
   have hz : ∀ (m : List U32), (∀ j, j < m.length → (m[j]?.getD default).v = 0) → valL m = 0 := by
    intro m
    induction m with
    | nil => intro _; rfl
    | cons d m ih =>
      intro h0
      have h1 := h0 0 (by simp)
      simp only [List.getElem?_cons_zero, Option.getD_some] at h1
      rw [valL_cons, h1, ih fun j hj => by have := h0 (j + 1) (by simpa using hj); simpa using this]; rfl
   have h2 : valL (l.drop n) = 0 := hz _ fun j hj => by
    rw [List.getElem?_drop]
    exact h (n + j) (by omega) (by rw [List.length_drop] at hj; omega)
   have h3 : valL l = valL (l.take n ++ l.drop n) := by rw [List.take_append_drop]
   rw [h3, valL_append, h2]; omega
 · rw [take_all hn]
def Top (l : List U32) : Prop := l = [] ∨ (l[l.length - 1]?.getD default).v ≠ 0
theorem Top.nil : Top [] := .inl rfl
theorem top_ge {l : List U32} (hd : Digs l) (ht : Top l) (h0 : l ≠ []) : pw (l.length - 1) ≤ valL l := by
 have hl : 0 < l.length := List.length_pos_iff.2 h0
 have h1 : (l[l.length - 1]?.getD default).v ≠ 0 := by
  rcases ht with h | h
  · exact absurd h h0
  · exact h
 have h2 := valL_take_succ (l := l) (k := l.length - 1) (by omega)
 rw [Nat.sub_add_cancel hl, take_all (Nat.le_refl _), Int.toNat_natCast] at h2
 have h3 := valL_nonneg (hd.take (l.length - 1))
 have h4 : (1 : Int) ≤ (l[l.length - 1]?.getD default).v := by
  have := hd.at (m := ((l.length - 1 : Nat) : Int)) (by omega)
  rw [Int.toNat_natCast] at this
  omega
 have h5 := Int.mul_le_mul_of_nonneg_left h4 (Int.le_of_lt (pw_pos (l.length - 1)))
 omega
theorem top_len {l : List U32} (hd : Digs l) (ht : Top l) {m : Nat} (h : valL l < pw m) : l.length ≤ m := by
 by_cases h0 : l = []
 · subst h0; exact Nat.zero_le _
 · have h1 := top_ge hd ht h0
   rcases Nat.lt_or_ge m l.length with h2 | h2
   · have h3 := pw_le (show m ≤ l.length - 1 by omega)
     omega
   · exact h2
theorem top_pos {l : List U32} (hd : Digs l) (ht : Top l) (h0 : l ≠ []) : 0 < valL l := Int.lt_of_lt_of_le (pw_pos _) (top_ge hd ht h0)
theorem top_lt_len {l m : List U32} (hl : Digs l) (hm : Digs m) (tm : Top m) (h : l.length < m.length) : valL l < valL m := by
 have h1 := valL_lt hl
 have h2 := top_ge hm tm (fun e => by rw [e] at h; simp at h)
 have h3 := pw_le (show l.length ≤ m.length - 1 by omega)
 omega
structure IsInt (neg : Bool) (l : List U32) (z : Int) : Prop where
 digs : Digs l
 top : Top l
 sign : l = [] → neg = false
 val : z = if neg = true then -valL l else valL l
theorem IsInt.abs {neg : Bool} {l : List U32} {z : Int} (h : IsInt neg l z) : valL l = z.natAbs := by
 have h1 := valL_nonneg h.digs
 have h2 := h.val
 split at h2 <;> omega
theorem IsInt.neg_iff {neg : Bool} {l : List U32} {z : Int} (h : IsInt neg l z) : neg = decide (z < 0) := by
 have h2 := h.val
 by_cases h0 : l = []
 · have h3 := h.sign h0
   subst h0
   rw [h3] at h2 ⊢
   rw [valL_nil] at h2
   have : ¬ z < 0 := by simp at h2; omega
   simp [this]
 · have h1 := top_pos h.digs h.top h0
   cases neg with
   | true =>
     rw [if_pos rfl] at h2
     have : z < 0 := by omega
     simp [this]
   | false =>
     rw [if_neg (by decide)] at h2
     have : ¬ z < 0 := by omega
     simp [this]
theorem IsInt.zero_iff {neg : Bool} {l : List U32} {z : Int} (h : IsInt neg l z) : l.length = 0 ↔ z = 0 := by
 have h2 := h.val
 constructor
 · intro h0
   have h0 := List.eq_nil_of_length_eq_zero h0
   subst h0
   rw [valL_nil] at h2
   split at h2 <;> omega
 · intro hz
   by_cases h0 : l = []
   · rw [h0]; rfl
   · have h1 := top_pos h.digs h.top h0
     split at h2 <;> omega
theorem IsInt.len {neg : Bool} {l : List U32} {z : Int} (h : IsInt neg l z) {m : Nat} (hz : (z.natAbs : Int) < pw m) : l.length ≤ m := by
 refine top_len h.digs h.top ?_
 rw [h.abs]; exact hz
def Num (G : Imm) (x : IV) (z : Int) : Prop := ∃ l : List U32, l.length = x.n ∧ x.n ≤ x.c ∧ Arr G x.a l ∧ IsInt x.neg l z
theorem Num.up {G G' : Imm} {x : IV} {z : Int} (h : Num G x z) (hl : G.le G') : Num G' x z := by
 obtain ⟨l, h1, h0, h2, h3⟩ := h
 exact ⟨l, h1, h0, h2.up hl, h3⟩
theorem Num.zero (G : Imm) : Num G ⟨false, none, 0, 0⟩ 0 := ⟨[], rfl, Nat.le_refl _, Arr.nil G, ⟨Digs.nil, Top.nil, fun _ => rfl, rfl⟩⟩
end Go.Sl
set_option maxRecDepth 100000
namespace Go.Sl
open Go
section
variable {P : Program} {B : Bs} {D : List Deferred}
theorem Wc.loopG {ι : Type} {r : Option Nat} {c : Code} {Q : Exit → Act → World → Prop} {e : Env} {H : Hp} {G : Imm} (I : ι → Env × Hp) (g : ι → Imm) (φ : ι → Prop) (μ : ι → Nat) (i0 : ι) (h0 : φ i0) (hg : G = g i0)
 (he : e.sub (I i0).1) (hH : H.sub (I i0).2)
 (hb : ∀ i, φ i → Wc r P c B ⟨(I i).1, D, (I i).2, g i⟩ (Exit.then (Again B (fun i => ⟨(I i).1, D, (I i).2, g i⟩) φ μ (μ i)) Q)) : Wc r P (.loop c) B ⟨e, D, H, G⟩ Q :=
 Wc.loopS (fun i => ⟨(I i).1, D, (I i).2, g i⟩) φ μ i0 h0 (fun _ _ h => by rw [hg] at h; exact h.sub he hH) hb
end
def Nums (G : Imm) (l : List IV) (zs : List Int) : Prop := l.length = zs.length ∧ ∀ i : Nat, i < l.length → Num G (l[i]?.getD default) (zs[i]?.getD 0)
theorem Nums.up {G G' : Imm} {l : List IV} {zs : List Int} (h : Nums G l zs) (hl : G.le G') : Nums G' l zs := ⟨h.1, fun i hi => (h.2 i hi).up hl⟩
theorem Nums.nil (G : Imm) : Nums G [] [] := ⟨rfl, fun i hi => by simp at hi⟩
theorem Nums.at {G : Imm} {l : List IV} {zs : List Int} (h : Nums G l zs) {m : Int} (hm : 0 ≤ m ∧ m < l.length) : Num G (l[m.toNat]?.getD default) (zs[m.toNat]?.getD 0) := h.2 _ (by omega)
theorem Nums.snoc {G : Imm} {l : List IV} {zs : List Int} (h : Nums G l zs) {x : IV} {z : Int} (hx : Num G x z) : Nums G (l ++ [x]) (zs ++ [z]) := by
 refine ⟨by simp [h.1], fun i hi => ?_⟩
 rw [List.length_append, List.length_singleton] at hi
 by_cases hc : i < l.length
 · rw [List.getElem?_append_left hc, List.getElem?_append_left (by rw [← h.1]; exact hc)]
   exact h.2 i hc
 · have e : i = l.length := by omega
   subst e
   rw [List.getElem?_concat_length, h.1, List.getElem?_concat_length]
   exact hx
def Below (m : Nat) (zs : List Int) : Prop := ∀ z ∈ zs, (z.natAbs : Int) < pw m
theorem Below.at {m : Nat} {zs : List Int} (h : Below m zs) (i : Nat) : ((zs[i]?.getD 0).natAbs : Int) < pw m := by
 cases hx : zs[i]? with
 | none => exact pw_pos m
 | some z => exact h z (List.mem_of_getElem? hx)
theorem Below.mono {m k : Nat} {zs : List Int} (h : Below m zs) (hk : m ≤ k) : Below k zs := fun z hz => Int.lt_of_lt_of_le (h z hz) (pw_le hk)
end Go.Sl
set_option linter.unusedVariables false
namespace Go.Sl
open Go
def Lims (l : List U32) : Prop := ∀ d ∈ l, 0 ≤ d.v ∧ d.v < 4294967296
def valB : List U32 → Int
 | [] => 0
 | d :: l => d.v + 4294967296 * valB l
def pb (n : Nat) : Int := ((4294967296 ^ n : Nat) : Int)
theorem pb_zero : pb 0 = 1 := rfl
theorem pb_succ (n : Nat) : pb (n + 1) = 4294967296 * pb n := by unfold pb; rw [Nat.pow_succ, Nat.mul_comm, Int.natCast_mul]; rfl
theorem pb_pos (n : Nat) : 0 < pb n := by unfold pb; exact Int.ofNat_lt.2 (Nat.pow_pos (by decide))
theorem pb_le {m n : Nat} (h : m ≤ n) : pb m ≤ pb n := by unfold pb; exact Int.ofNat_le.2 (Nat.pow_le_pow_right (by decide) h)
theorem valB_nil : valB [] = 0 := rfl
theorem valB_cons (d : U32) (l : List U32) : valB (d :: l) = d.v + 4294967296 * valB l := rfl
theorem Lims.nil : Lims [] := fun d h => by simp at h
theorem Lims.tail {d : U32} {l : List U32} (h : Lims (d :: l)) : Lims l := fun x hx => h x (List.mem_cons_of_mem _ hx)
theorem Lims.head {d : U32} {l : List U32} (h : Lims (d :: l)) : 0 ≤ d.v ∧ d.v < 4294967296 := h d List.mem_cons_self
theorem Lims.append {l m : List U32} (h : Lims l) (h' : Lims m) : Lims (l ++ m) := fun x hx => by
 rcases List.mem_append.1 hx with h1 | h1
 · exact h x h1
 · exact h' x h1
theorem Lims.one {d : Int} (h : 0 ≤ d ∧ d < 4294967296) : Lims [⟨d⟩] := fun x hx => by
 have : x = ⟨d⟩ := by simpa using hx
 subst this; exact h
theorem Lims.take {l : List U32} (h : Lims l) (n : Nat) : Lims (l.take n) := fun x hx => h x (List.mem_of_mem_take hx)
theorem Lims.at {l : List U32} (h : Lims l) {m : Int} (hm : 0 ≤ m ∧ m < l.length) : 0 ≤ (l[m.toNat]?.getD default).v ∧ (l[m.toNat]?.getD default).v < 4294967296 := by
 have hl : m.toNat < l.length := by omega
 rw [List.getElem?_eq_getElem hl]; exact h _ (List.getElem_mem hl)
theorem valB_nonneg : ∀ {l : List U32}, Lims l → 0 ≤ valB l
 | [], _ => Int.le_refl 0
 | d :: l, h => by
   have h1 := valB_nonneg h.tail
   have h2 := h.head
   rw [valB_cons]; omega
theorem valB_lt : ∀ {l : List U32}, Lims l → valB l < pb l.length
 | [], _ => by decide
 | d :: l, h => by
   have h1 := valB_lt h.tail
   have h2 := h.head
   rw [valB_cons, List.length_cons, pb_succ]; omega
theorem valB_append : ∀ (l m : List U32), valB (l ++ m) = valB l + pb l.length * valB m
 | [], m => by rw [List.nil_append, valB_nil, List.length_nil, pb_zero]; omega
 | d :: l, m => by
   rw [List.cons_append, valB_cons, valB_cons, valB_append l m, List.length_cons, pb_succ, Int.mul_add, ← Int.mul_assoc]; omega
theorem valB_one (d : U32) : valB [d] = d.v := by rw [valB_cons, valB_nil]; omega
theorem valB_snoc (l : List U32) (d : U32) : valB (l ++ [d]) = valB l + pb l.length * d.v := by rw [valB_append, valB_one]
theorem valB_take_succ {l : List U32} {k : Nat} (h : k < l.length) : valB (l.take (k + 1)) = valB (l.take k) + pb k * (l[((k : Nat) : Int).toNat]?.getD default).v := by
 rw [List.take_add_one, Int.toNat_natCast, List.getElem?_eq_getElem h]
 simp only [Option.toList_some, Option.getD_some]
 rw [valB_snoc, List.length_take, Nat.min_eq_left (Nat.le_of_lt h)]
theorem Lims.zeros (n : Nat) : Lims (List.replicate n ⟨0⟩) := fun x hx => by
 have := List.eq_of_mem_replicate hx
 subst this; exact ⟨by decide, by decide⟩
theorem valB_trim {l : List U32} {n : Nat} (h : ∀ j, n ≤ j → j < l.length → (l[j]?.getD default).v = 0) : valB (l.take n) = valB l := by
 rcases Nat.lt_or_ge n l.length with hn | hn
 · have e : l = l.take n ++ l.drop n := (List.take_append_drop n l).symm
   have hz : ∀ (m : List U32), (∀ j, j < m.length → (m[j]?.getD default).v = 0) → valB m = 0 := by
    intro m
    induction m with
    | nil => intro _; rfl
    | cons d m ih =>
      intro h0
      have h1 := h0 0 (by simp)
      simp only [List.getElem?_cons_zero, Option.getD_some] at h1
      rw [valB_cons, h1, ih fun j hj => by have := h0 (j + 1) (by simpa using hj); simpa using this]; rfl
   have h2 : valB (l.drop n) = 0 := hz _ fun j hj => by
    rw [List.getElem?_drop]
    exact h (n + j) (by omega) (by rw [List.length_drop] at hj; omega)
   have h3 : valB l = valB (l.take n ++ l.drop n) := by rw [List.take_append_drop]
   rw [h3, valB_append, h2]; omega
 · rw [take_all hn]
theorem ltop_ge {l : List U32} (hd : Lims l) (ht : Top l) (h0 : l ≠ []) : pb (l.length - 1) ≤ valB l := by
 have hl : 0 < l.length := List.length_pos_iff.2 h0
 have h1 : (l[l.length - 1]?.getD default).v ≠ 0 := by
  rcases ht with h | h
  · exact absurd h h0
  · exact h
 have h2 := valB_take_succ (l := l) (k := l.length - 1) (by omega)
 rw [Nat.sub_add_cancel hl, take_all (Nat.le_refl _), Int.toNat_natCast] at h2
 have h3 := valB_nonneg (hd.take (l.length - 1))
 have h4 : (1 : Int) ≤ (l[l.length - 1]?.getD default).v := by
  have := hd.at (m := ((l.length - 1 : Nat) : Int)) (by omega)
  rw [Int.toNat_natCast] at this
  omega
 have h5 := Int.mul_le_mul_of_nonneg_left h4 (Int.le_of_lt (pb_pos (l.length - 1)))
 omega
theorem ltop_len {l : List U32} (hd : Lims l) (ht : Top l) {m : Nat} (h : valB l < pb m) : l.length ≤ m := by
 by_cases h0 : l = []
 · subst h0; exact Nat.zero_le _
 · have h1 := ltop_ge hd ht h0
   rcases Nat.lt_or_ge m l.length with h2 | h2
   · have h3 := pb_le (show m ≤ l.length - 1 by omega)
     omega
   · exact h2
theorem ltop_pos {l : List U32} (hd : Lims l) (ht : Top l) (h0 : l ≠ []) : 0 < valB l := Int.lt_of_lt_of_le (pb_pos _) (ltop_ge hd ht h0)
structure IsBig (neg : Bool) (l : List U32) (z : Int) : Prop where
 digs : Lims l
 top : Top l
 sign : l = [] → neg = false
 val : z = if neg = true then -valB l else valB l
theorem IsBig.abs {neg : Bool} {l : List U32} {z : Int} (h : IsBig neg l z) : valB l = z.natAbs := by
 have h1 := valB_nonneg h.digs
 have h2 := h.val
 split at h2 <;> omega
theorem IsBig.neg_iff {neg : Bool} {l : List U32} {z : Int} (h : IsBig neg l z) : neg = decide (z < 0) := by
 have h2 := h.val
 by_cases h0 : l = []
 · have h3 := h.sign h0
   subst h0
   rw [h3] at h2 ⊢
   rw [valB_nil] at h2
   have : ¬ z < 0 := by simp at h2; omega
   simp [this]
 · have h1 := ltop_pos h.digs h.top h0
   cases neg with
   | true =>
     rw [if_pos rfl] at h2
     have : z < 0 := by omega
     simp [this]
   | false =>
     rw [if_neg (by decide)] at h2
     have : ¬ z < 0 := by omega
     simp [this]
theorem IsBig.zero_iff {neg : Bool} {l : List U32} {z : Int} (h : IsBig neg l z) : l.length = 0 ↔ z = 0 := by
 have h2 := h.val
 constructor
 · intro h0
   have h0 := List.eq_nil_of_length_eq_zero h0
   subst h0
   rw [valB_nil] at h2
   split at h2 <;> omega
 · intro hz
   by_cases h0 : l = []
   · rw [h0]; rfl
   · have h1 := ltop_pos h.digs h.top h0
     split at h2 <;> omega
theorem IsBig.len {neg : Bool} {l : List U32} {z : Int} (h : IsBig neg l z) {m : Nat} (hz : (z.natAbs : Int) < pb m) : l.length ≤ m := by
 refine ltop_len h.digs h.top ?_
 rw [h.abs]; exact hz
def Big (G : Imm) (x : IV) (z : Int) : Prop := ∃ l : List U32, l.length = x.n ∧ x.n ≤ x.c ∧ Arr G x.a l ∧ IsBig x.neg l z
theorem Big.up {G G' : Imm} {x : IV} {z : Int} (h : Big G x z) (hl : G.le G') : Big G' x z := by
 obtain ⟨l, h1, h0, h2, h3⟩ := h
 exact ⟨l, h1, h0, h2.up hl, h3⟩
theorem Big.zero (G : Imm) : Big G ⟨false, none, 0, 0⟩ 0 := ⟨[], rfl, Nat.le_refl _, Arr.nil G, ⟨Lims.nil, Top.nil, fun _ => rfl, rfl⟩⟩
end Go.Sl
set_option linter.unusedVariables false
namespace Go.Sl
open Go
def Trim (l : List U32) (n : Nat) : Prop := n ≤ l.length ∧ (∀ j, n ≤ j → j < l.length → (l[j]?.getD default).v = 0) ∧ (n = 0 ∨ (l[n - 1]?.getD default).v ≠ 0)
theorem Trim.val {l : List U32} {n : Nat} (h : Trim l n) : valB (l.take n) = valB l := valB_trim h.2.1
theorem Trim.top {l : List U32} {n : Nat} (h : Trim l n) : Top (l.take n) := by
 obtain ⟨h1, h2, h3⟩ := h
 rcases h3 with h3 | h3
 · subst h3; exact .inl rfl
 · by_cases h0 : n = 0
   · subst h0; exact .inl rfl
   · refine .inr ?_
     rw [List.length_take, Nat.min_eq_left h1, List.getElem?_take, if_pos (by omega)]
     exact h3
theorem Trim.len {l : List U32} {n : Nat} (h : Trim l n) : (l.take n).length = n := by rw [List.length_take, Nat.min_eq_left h.1]
theorem Trim.pos {l : List U32} {n : Nat} (h : Trim l n) (hd : Lims l) : 0 < n ↔ 0 < valB l := by
 rw [← h.val]
 constructor
 · intro h0
   exact ltop_pos (hd.take n) h.top (fun e => by have := h.len; rw [e] at this; simp at this; omega)
 · intro h0
   rcases Nat.eq_zero_or_pos n with h1 | h1
   · rw [h1, List.take_zero, valB_nil] at h0; omega
   · exact h1
end Go.Sl
set_option maxRecDepth 100000
set_option linter.unusedVariables false
namespace Go.Proofs.YtbppmiimeccclaaDoor
open Go Go.Sl
set_option maxHeartbeats 4000000
def cmpZ (x y : Int) : Int := if x < y then -1 else if y < x then 1 else 0
theorem cmpZ_lt {x y : Int} (h : x < y) : cmpZ x y = -1 := if_pos h
theorem cmpZ_gt {x y : Int} (h : y < x) : cmpZ x y = 1 := by unfold cmpZ; rw [if_neg (by omega), if_pos h]
theorem cmpZ_eq {x y : Int} (h : x = y) : cmpZ x y = 0 := by unfold cmpZ; rw [if_neg (by omega), if_neg (by omega)]
theorem cmpZ_congr {x y u v : Int} (h1 : x < y ↔ u < v) (h2 : y < x ↔ v < u) : cmpZ x y = cmpZ u v := by unfold cmpZ; simp only [h1, h2]
theorem trim_val {l m : List U32} (he : m = l.take m.length) (ht : Trim l m.length) : valB m = valB l := by rw [he]; exact ht.val
theorem trim_top {l m : List U32} (he : m = l.take m.length) (ht : Trim l m.length) : Top m := by rw [he]; exact ht.top
theorem trim_lims {l m : List U32} (he : m = l.take m.length) (hd : Lims l) : Lims m := by rw [he]; exact hd.take _
attribute [local irreducible] valB pb cmpZ
end Go.Proofs.YtbppmiimeccclaaDoor
set_option maxRecDepth 100000
set_option linter.unusedVariables false
namespace Go.Proofs.YtbppmiimeccclaaDoor
open Go Go.Sl
set_option maxHeartbeats 4000000
def Nat32 (G : Imm) (v : Value) (z : Int) (n : Nat) : Prop := ∃ (b : Option Addr) (m : List U32), v = .slice b m.length m.length ∧ Arr G b m ∧ Lims m ∧ Top m ∧ valB m = z ∧ m.length ≤ n
theorem Nat32.of {G : Imm} {b : Option Addr} {l m : List U32} {z : Int} {n : Nat} (h : Arr G b m) (he : m = l.take m.length) (ht : Trim l m.length) (hd : Lims l) (hz : valB l = z) (hn : m.length ≤ n) : Nat32 G (.slice b m.length m.length) z n :=
 ⟨b, m, rfl, h, trim_lims he hd, trim_top he ht, (trim_val he ht).trans hz, hn⟩
attribute [local irreducible] valB pb cmpZ
end Go.Proofs.YtbppmiimeccclaaDoor
set_option maxRecDepth 100000
set_option linter.unusedVariables false
namespace Go.Proofs.YtbppmiimeccclaaDoor
open Go Go.Sl
set_option maxHeartbeats 4000000
theorem IsBig.make {neg : Bool} {m : List U32} (hd : Lims m) (ht : Top m) : IsBig (neg && decide (0 < m.length)) m (if neg = true then -valB m else valB m) := by
 refine ⟨hd, ht, fun e => by rw [e]; simp, ?_⟩
 by_cases h : 0 < m.length
 · simp [h]
 · have e : m = [] := List.eq_nil_of_length_eq_zero (by omega)
   rw [e]; simp [valB_nil]
theorem Big.make {G : Imm} {b : Option Addr} {c : Nat} {m : List U32} (neg : Bool) (hA : Arr G b m) (hd : Lims m) (ht : Top m) (hc : m.length ≤ c) {z : Int} (hz : z = if neg = true then -valB m else valB m) : Big G ⟨neg && decide (0 < m.length), b, m.length, c⟩ z :=
 ⟨m, rfl, hc, hA, hz ▸ IsBig.make hd ht⟩
theorem Big.len {G : Imm} {x : IV} {z : Int} (h : Big G x z) {m : Nat} (hz : (z.natAbs : Int) < pb m) : x.n ≤ m := by
 obtain ⟨l, h1, _, _, h4⟩ := h
 rw [← h1]; exact h4.len hz
theorem Big.zero_iff {G : Imm} {x : IV} {z : Int} (h : Big G x z) : x.n = 0 ↔ z = 0 := by
 obtain ⟨l, h1, _, _, h4⟩ := h
 rw [← h1]; exact h4.zero_iff
theorem Big.out {G : Imm} {x : IV} {z z' : Int} (h : Big G x z) (e : z = z') : Big G x z' := e ▸ h
def sgZ (z : Int) : Int := if z = 0 then 0 else if z < 0 then -1 else 1
theorem sgZ_lt {z : Int} (h : z < 0) : sgZ z = -1 := by unfold sgZ; rw [if_neg (by omega), if_pos h]
theorem sgZ_gt {z : Int} (h : 0 < z) : sgZ z = 1 := by unfold sgZ; rw [if_neg (by omega), if_neg (by omega)]
theorem sgZ_eq {z : Int} (h : z = 0) : sgZ z = 0 := by unfold sgZ; rw [if_pos h]
attribute [local irreducible] valB pb cmpZ lstWp
end Go.Proofs.YtbppmiimeccclaaDoor
set_option maxRecDepth 100000
set_option linter.unusedVariables false
namespace Go.Proofs.YtbppmiimeccclaaDoor
open Go Go.Sl
set_option maxHeartbeats 4000000
theorem wrap_neg {n : Int} (h : -9223372036854775808 ≤ n ∧ n < 0) : IntKind.u64.wrap (0 - IntKind.u64.wrap n) = -n := by
 rw [IntKind.wrap_u64, IntKind.wrap_u64]; omega
theorem Big.lt {G : Imm} {x : IV} {z : Int} (h : Big G x z) : (z.natAbs : Int) < pb x.n := by
 obtain ⟨l, h1, _, _, h4⟩ := h
 rw [← h4.abs, ← h1]; exact valB_lt h4.digs
attribute [local irreducible] valB pb cmpZ lstWp
end Go.Proofs.YtbppmiimeccclaaDoor
set_option linter.unusedVariables false
namespace Go.Sl
open Go
section
variable {B : Bs} {e : Env} {D : List Deferred} {H : Hp} {G : Imm}
theorem retagH {a : Act} {w : World} (hh : Hold B ⟨e, D, H, G⟩ a w) (t t' : Nat) {k : Option Nat} {o : Obj} (ht : H.get t = some (k, o)) (hn : t ≠ t') (hk : H.get t' = none ∨ True) : Hold B ⟨e, D, (t', k, o) :: (t, none, o) :: H, G⟩ a w := by
 have key : ∀ i b o', Hp.get ((t', k, o) :: (t, none, o) :: H) i = some (some b, o') → (i = t' ∧ H.get t = some (some b, o')) ∨ (i ≠ t' ∧ i ≠ t ∧ H.get i = some (some b, o')) := fun i b o' hx => by
  rw [Hp.get_cons] at hx
  split at hx
  · rename_i hi; left; refine ⟨hi.symm, ?_⟩; rw [ht]; exact hx
  · rename_i hi
    rw [Hp.get_cons] at hx
    split at hx
    · simp at hx
    · rename_i hi2; exact .inr ⟨fun h => hi h.symm, fun h => hi2 h.symm, hx⟩
 refine ⟨hh.size, hh.defers, hh.env, ⟨?_, ?_, hh.mem.imm, ?_⟩, hh.upd, ?_, hh.le, hh.new⟩
 · intro i b o' hx
   rcases key i b o' hx with ⟨_, h⟩ | ⟨_, _, h⟩
   · exact hh.mem.own _ b o' h
   · exact hh.mem.own _ b o' h
 · intro i i' b o1 o2 hx hy
   rcases key i b o1 hx with ⟨h1, h2⟩ | ⟨h1, h1', h2⟩ <;> rcases key i' b o2 hy with ⟨h3, h4⟩ | ⟨h3, h3', h4⟩
   · rw [h1, h3]
   · exact absurd (hh.mem.one _ _ b _ _ h2 h4).symm h3'
   · exact absurd (hh.mem.one _ _ b _ _ h2 h4) h1'
   · exact hh.mem.one _ _ b _ _ h2 h4
 · intro i b o' hx
   rcases key i b o' hx with ⟨_, h⟩ | ⟨_, _, h⟩
   · exact hh.mem.off _ b o' h
   · exact hh.mem.off _ b o' h
 · intro i b o' hx
   rcases key i b o' hx with ⟨_, h⟩ | ⟨_, _, h⟩
   · exact hh.mine _ b o' h
   · exact hh.mine _ b o' h
theorem Ar.retag {x : Exit} {Q : Exit → Act → World → Prop} (t t' : Nat) {k : Option Nat} {o : Obj} (ht : H.get t = some (k, o)) (hn : Nat.beq t t' = false) (h : Ar Q x B ⟨e, D, (t', k, o) :: (t, none, o) :: H, G⟩) : Ar Q x B ⟨e, D, H, G⟩ :=
 fun a w hh => h a w (retagH hh t t' ht (fun e => by subst e; simp at hn) (.inr trivial))
end
end Go.Sl
set_option maxRecDepth 100000
set_option linter.unusedVariables false
namespace Go.Proofs.YtbppmiimeccclaaDoor
open Go Go.Sl
set_option maxHeartbeats 4000000
theorem sgZ_bd (z : Int) : -1 ≤ sgZ z ∧ sgZ z ≤ 1 := by unfold sgZ; split; exact ⟨by omega, by omega⟩; split <;> exact ⟨by omega, by omega⟩
theorem sgZ_bd9 (z : Int) : -9223372036854775808 ≤ sgZ z ∧ sgZ z ≤ 9223372036854775807 := by have := sgZ_bd z; omega
theorem sgZ_mul (z : Int) : sgZ z * z = z.natAbs := by
 unfold sgZ
 split
 · omega
 · split <;> omega
theorem ediv_of {x y q r : Int} (hy : y ≠ 0) (h : x = q * y + r) (h0 : 0 ≤ r) (h1 : r < y.natAbs) : q = x / y ∧ r = x % y := by
 rcases Int.lt_or_gt_of_ne hy with hn | hp
 · have := (Int.ediv_emod_unique' (a := x) (b := y) (r := r) (q := q) hn).2 ⟨by rw [Int.mul_comm y q]; omega, h0, by omega⟩
   exact ⟨this.1.symm, this.2.symm⟩
 · have := (Int.ediv_emod_unique (a := x) (b := y) (r := r) (q := q) hp).2 ⟨by rw [Int.mul_comm y q]; omega, h0, by omega⟩
   exact ⟨this.1.symm, this.2.symm⟩
theorem dm_plain {n1 n2 : Bool} {x y la lb lq lr : Int} (hx : x = if n1 = true then -la else la) (hy : y = if n2 = true then -lb else lb) (hv : la = lq * lb + lr) :
 x = (if decide (n1 ≠ n2) = true then -lq else lq) * y + (if n1 = true then -lr else lr) := by
 subst hx hy hv
 cases n1 <;> cases n2 <;> simp [Int.neg_mul, Int.mul_neg, Int.neg_add]
theorem dm_next {x y q r : Int} (h : x = q * y + r) : x = (q - sgZ y) * y + (r + y.natAbs) := by
 have := sgZ_mul y
 rw [Int.sub_mul, this]; omega
attribute [local irreducible] valB pb cmpZ lstWp
end Go.Proofs.YtbppmiimeccclaaDoor
namespace Go.Proofs.YtbppmiimeccclaaDoor
open Go Go.Sl
set_option maxRecDepth 100000
set_option maxHeartbeats 2000000
theorem mget_push {xs : List (K4 × Int)} {k : K4} {v : Int} (h : mget xs k = none) : mget (xs ++ [(k, v)]) k = some v := by
 rw [← mput_none xs k v h, mget_mput, if_pos rfl]
theorem c52 (G : Imm) (t : Tab) (bt bk bf : Nat) (a : Option Addr) (c : Nat) (junk : List Value) (n : Int) (i : Sl.Instr) (ho : OwnA a c t.held junk) (hl : t.held.length ≤ 128) (hm : mayOk i t.held.length = true)
 (hkf : ∀ k, mget t.known k = none → mget t.first k = none) (hn : 0 ≤ t.next ∧ t.next ≤ 1000000) :
 Does Tryd.prog 52 [.pointer (some ⟨bt, 0, none⟩), .int .i64 n, .agg (Cells.enc i).toArray] G (TabH t bt bk bf a c junk)
  (fun r G' Ho => r = .tuple #[.int .i64 (reckonP t n i).1.1, .int .i64 (reckonP t n i).1.2] ∧ G' = G ∧ Ho = TabH (reckonP t n i).2 bt bk bf a c junk) := by
 have hm' := hm
 rw [mayOk_iff] at hm'
 obtain ⟨⟨hop1, hop2, hto1, hto2, ha1, ha2⟩, -⟩ := hm'
 refine Does.enter Tryd.func52 rfl Tryd.ntmps52 rfl (fun w => ?_)
 rcases hk0 : mget t.known (keyOf t.held i) with _ | v
 · have hf0 := hkf _ hk0
   refine Wc.seq (Wc.region rfl ?_)
   refine Wl.box 4 rfl rfl rfl (fun b1 => ?_)
   refine Wl.q rfl (Qy.assign rfl) (Wl.q rfl (Qy.assign rfl) (Wl.done (Ar.next (Wc.seq (Wc.seq (Wc.region rfl (Wl.q rfl (Qy.fieldAddr T.fa55_0 rfl) (Wl.q rfl (Qy.load 4 T.one3 rfl rfl rfl) (Wl.q rfl (Qy.eql rfl rfl) (Wl.done (Ar.next ?_)))))))))))
   refine Wc.cond rfl (fun hc1 => ?_) (fun hc1 => ?_)
   refine Wc.seq (Wc.draw [3, 2, 1, 0, 4] [] T.mixed rfl ?_)
   refine Gm.q 0 [] (by kernel_rfl) rfl rfl (Qy.move rfl) (Gm.q 1 [] (by kernel_rfl) rfl rfl (Qy.nilCheck rfl) ?_)
   refine Gm.q 2 [] (by kernel_rfl) rfl rfl (Qy.fieldAddr T.fa110_0 rfl) (Gm.q 3 [0] (by kernel_rfl) rfl rfl (Qy.load 0 T.one23 rfl rfl rfl) (Gm.q 4 [] (by kernel_rfl) rfl rfl (Qy.fieldAddr T.fa55_2 rfl) (Gm.q 5 [4] (by kernel_rfl) rfl rfl (Qy.load 4 T.one3 rfl rfl rfl) ?_)))
   refine Gm.q 6 [] (by kernel_rfl) rfl rfl (Qy.indexAddrO (α := Int) T.sl23 rfl rfl (by assumption) (by omega)) ?_
   refine Gm.q 7 [1, 0] (by kernel_rfl) rfl rfl (Qy.loadO 1 0 T.one3 rfl rfl (by assumption) (by omega) rfl rfl) ?_
   refine Gm.q 8 [] (by kernel_rfl) rfl rfl (Qy.assign rfl) (Gm.q 9 [] (by kernel_rfl) rfl rfl (Qy.assign rfl) (Gm.doneA (by kernel_rfl) ⟨rfl, rfl, rfl, rfl, rfl, trivial⟩ (by first | exact Imm.le_refl _ | assumption) ?_))
   refine Ar.next (Wc.ret (Ar.passRet ?_))
   refine Ar.out2 (.inr rfl) (Ho := Hp.only _ [0, 1, 2, 3]) rfl (.tmp rfl) (.tmp rfl) (Hp.sub_only _ _) ?_
   rotate_left
   refine Wc.skip (Ar.next (Wc.seq (Wc.region rfl (Wl.q rfl (Qy.move rfl) (Wl.q rfl (Qy.loadAll 4 T.agg55 rfl rfl rfl) ?_)))))
   refine Wl.call1 0 rfl T.fn81 rfl (c81 _ _ _ _ _ _ _ _ _ (by assumption) (by omega) (by assumption)) (tags_of ⟨rfl, rfl, rfl, rfl, trivial⟩) ?_
   refine Wl.alloc 5 rfl T.zero138 (fun b2 => ?_)
   refine Wl.storeAll 5 T.size138 rfl rfl rfl rfl rfl rfl ?_
   refine Wl.done (Ar.next (Wc.seq (Wc.seq (Wc.draw [3, 2, 1, 0, 4, 5] [] T.mixed rfl ?_))))
   refine Gm.q 0 [] (by kernel_rfl) rfl rfl (Qy.move rfl) (Gm.q 1 [] (by kernel_rfl) rfl rfl (Qy.nilCheck rfl) ?_)
   refine Gm.q 2 [] (by kernel_rfl) rfl rfl (Qy.fieldAddr T.fa110_1 rfl) (Gm.q 3 [0] (by kernel_rfl) rfl rfl (Qy.load 0 T.one108 rfl rfl rfl) (Gm.q 4 [5] (by kernel_rfl) rfl rfl (Qy.loadAll 5 T.agg138 rfl rfl rfl) (Gm.q 5 [2] (by kernel_rfl) rfl rfl (Qy.lookup2 2 T.mp108 rfl rfl rfl) ?_)))
   refine Gm.q 6 [] (by kernel_rfl) rfl rfl (Qy.move rfl) (Gm.q 7 [] (by kernel_rfl) rfl rfl (Qy.extract rfl rfl) (Gm.q 8 [] (by kernel_rfl) rfl rfl (Qy.extract rfl rfl) (Gm.q 9 [] (by kernel_rfl) rfl rfl (Qy.assign rfl) (Gm.q 10 [] (by kernel_rfl) rfl rfl (Qy.assign rfl) ?_))))
   refine Gm.doneA (by kernel_rfl) ⟨rfl, rfl, rfl, rfl, rfl, rfl, trivial⟩ (by first | exact Imm.le_refl _ | assumption) ?_
   refine Ar.next (Wc.seq (Wc.region rfl (Wl.q rfl (Qy.move rfl) (Wl.q rfl (Qy.not rfl) (Wl.done (Ar.next (Wc.ite rfl (fun hc2 => ?_) (fun hc2 => ?_))))))))
   refine Wc.seq (Wc.draw [3, 2, 1, 0, 4, 5] [(2, 20), (3, 20), (2, 18), (3, 18), (2, 17), (3, 17), (2, 15), (3, 15)] T.mixed rfl ?_)
   refine Gm.q 0 [] (by kernel_rfl) rfl rfl (Qy.move rfl) (Gm.q 1 [] (by kernel_rfl) rfl rfl (Qy.nilCheck rfl) ?_)
   refine Gm.q 2 [] (by kernel_rfl) rfl rfl (Qy.fieldAddr T.fa110_1 rfl) (Gm.q 3 [0] (by kernel_rfl) rfl rfl (Qy.load 0 T.one108 rfl rfl rfl) (Gm.q 4 [5] (by kernel_rfl) rfl rfl (Qy.loadAll 5 T.agg138 rfl rfl rfl) (Gm.q 5 [] (by kernel_rfl) rfl rfl (Qy.move rfl) (Gm.q 6 [] (by kernel_rfl) rfl rfl (Qy.nilCheck rfl) ?_))))
   refine Gm.q 7 [] (by kernel_rfl) rfl rfl (Qy.fieldAddr T.fa110_2 rfl) (Gm.q 8 [0] (by kernel_rfl) rfl rfl (Qy.load 0 T.one108 rfl rfl rfl) (Gm.q 9 [5] (by kernel_rfl) rfl rfl (Qy.loadAll 5 T.agg138 rfl rfl rfl) (Gm.q 10 [] (by kernel_rfl) rfl rfl (Qy.move rfl) ?_)))
   refine Gm.q 11 [] (by kernel_rfl) rfl rfl (Qy.nilCheck rfl) ?_
   refine Gm.q 12 [] (by kernel_rfl) rfl rfl (Qy.fieldAddr T.fa110_3 rfl) (Gm.q 13 [0] (by kernel_rfl) rfl rfl (Qy.load 0 T.one3 rfl rfl rfl) (Gm.q 14 [] (by kernel_rfl) rfl rfl (Qy.move rfl) (Gm.one 15 ⟨rfl, rfl, rfl, rfl, rfl, rfl, trivial⟩ (by first | exact Imm.le_refl _ | assumption) (by kernel_rfl) rfl ?_)))
   refine Wl.mapEntry 2 rfl T.mp108 rfl rfl rfl (by assumption) ?_
   refine Wl.on0 ?_
   refine Gm.q 16 [] (by kernel_rfl) rfl rfl (Qy.extract rfl rfl) (Gm.one 17 ⟨rfl, rfl, rfl, rfl, trivial⟩ (by first | exact Imm.le_refl _ | assumption) (by kernel_rfl) rfl ?_)
   refine Wl.entryStore 2 rfl rfl rfl rfl ?_
   refine Wl.on0 ?_
   refine Gm.one 18 ⟨rfl, rfl, rfl, rfl, trivial⟩ (by first | exact Imm.le_refl _ | assumption) (by kernel_rfl) rfl ?_
   refine Wl.mapEntry 3 rfl T.mp108 rfl rfl rfl (by assumption) ?_
   refine Wl.on0 ?_
   refine Gm.q 19 [] (by kernel_rfl) rfl rfl (Qy.extract rfl rfl) (Gm.one 20 ⟨rfl, rfl, rfl, rfl, trivial⟩ (by first | exact Imm.le_refl _ | assumption) (by kernel_rfl) rfl ?_)
   refine Wl.entryStore 3 rfl rfl rfl rfl ?_
   refine Wl.on0 ?_
   refine Gm.doneA (by kernel_rfl) ⟨rfl, rfl, rfl, rfl, trivial⟩ (by first | exact Imm.le_refl _ | assumption) ?_
   refine Ar.next (Wc.region rfl (Wl.q rfl (Qy.move rfl) (Wl.q rfl (Qy.nilCheck rfl) (Wl.q rfl (Qy.fieldAddr T.fa110_3 rfl) (Wl.q rfl (Qy.load 0 T.one3 rfl rfl rfl) (Wl.q rfl (Qy.add rfl rfl (by omega)) ?_))))))
   refine Wl.q rfl (Qy.nilCheck rfl) (Wl.q rfl (Qy.fieldAddr T.fa110_3 rfl) ?_)
   refine Wl.store 0 T.one3 rfl rfl rfl rfl rfl ?_
   refine Wl.done (Ar.next (Wc.seq (Wc.draw [1, 4, 5, 2, 3, 0] [] T.mixed rfl ?_)))
   refine Gm.q 0 [] (by kernel_rfl) rfl rfl (Qy.move rfl) (Gm.q 1 [] (by kernel_rfl) rfl rfl (Qy.nilCheck rfl) ?_)
   refine Gm.q 2 [] (by kernel_rfl) rfl rfl (Qy.fieldAddr T.fa110_1 rfl) (Gm.q 3 [0] (by kernel_rfl) rfl rfl (Qy.load 0 T.one108 rfl rfl rfl) (Gm.q 4 [5] (by kernel_rfl) rfl rfl (Qy.loadAll 5 T.agg138 rfl rfl rfl) (Gm.q 5 [2] (by kernel_rfl) rfl rfl (Qy.lookup1 2 T.mp108 rfl rfl rfl) ?_)))
   refine Gm.q 6 [] (by kernel_rfl) rfl rfl (Qy.move rfl) (Gm.q 7 [] (by kernel_rfl) rfl rfl (Qy.nilCheck rfl) ?_)
   refine Gm.q 8 [] (by kernel_rfl) rfl rfl (Qy.fieldAddr T.fa110_2 rfl) (Gm.q 9 [0] (by kernel_rfl) rfl rfl (Qy.load 0 T.one108 rfl rfl rfl) (Gm.q 10 [5] (by kernel_rfl) rfl rfl (Qy.loadAll 5 T.agg138 rfl rfl rfl) (Gm.q 11 [3] (by kernel_rfl) rfl rfl (Qy.lookup1 3 T.mp108 rfl rfl rfl) ?_)))
   refine Gm.q 12 [] (by kernel_rfl) rfl rfl (Qy.assign rfl) (Gm.q 13 [] (by kernel_rfl) rfl rfl (Qy.assign rfl) (Gm.doneA (by kernel_rfl) ⟨rfl, rfl, rfl, rfl, rfl, rfl, trivial⟩ (by first | exact Imm.le_refl _ | assumption) ?_))
   refine Ar.next (Wc.ret ?_)
   refine Ar.out2 (.inr rfl) (Ho := Hp.only _ [0, 1, 2, 3]) rfl (.tmp rfl) (.tmp rfl) (Hp.sub_only _ _) ?_
   rotate_left
   refine Wc.skip (Ar.next (Wc.seq (Wc.draw [3, 2, 1, 0, 4, 5] [] T.mixed rfl ?_)))
   refine Gm.q 0 [] (by kernel_rfl) rfl rfl (Qy.move rfl) (Gm.q 1 [] (by kernel_rfl) rfl rfl (Qy.nilCheck rfl) ?_)
   refine Gm.q 2 [] (by kernel_rfl) rfl rfl (Qy.fieldAddr T.fa110_1 rfl) (Gm.q 3 [0] (by kernel_rfl) rfl rfl (Qy.load 0 T.one108 rfl rfl rfl) (Gm.q 4 [5] (by kernel_rfl) rfl rfl (Qy.loadAll 5 T.agg138 rfl rfl rfl) (Gm.q 5 [2] (by kernel_rfl) rfl rfl (Qy.lookup1 2 T.mp108 rfl rfl rfl) ?_)))
   refine Gm.q 6 [] (by kernel_rfl) rfl rfl (Qy.move rfl) (Gm.q 7 [] (by kernel_rfl) rfl rfl (Qy.nilCheck rfl) ?_)
   refine Gm.q 8 [] (by kernel_rfl) rfl rfl (Qy.fieldAddr T.fa110_2 rfl) (Gm.q 9 [0] (by kernel_rfl) rfl rfl (Qy.load 0 T.one108 rfl rfl rfl) (Gm.q 10 [5] (by kernel_rfl) rfl rfl (Qy.loadAll 5 T.agg138 rfl rfl rfl) (Gm.q 11 [3] (by kernel_rfl) rfl rfl (Qy.lookup1 3 T.mp108 rfl rfl rfl) ?_)))
   refine Gm.q 12 [] (by kernel_rfl) rfl rfl (Qy.assign rfl) (Gm.q 13 [] (by kernel_rfl) rfl rfl (Qy.assign rfl) (Gm.doneA (by kernel_rfl) ⟨rfl, rfl, rfl, rfl, rfl, rfl, trivial⟩ (by first | exact Imm.le_refl _ | assumption) ?_))
   refine Ar.next (Wc.ret ?_)
   refine Ar.out2 (.inr rfl) (Ho := Hp.only _ [0, 1, 2, 3]) rfl (.tmp rfl) (.tmp rfl) (Hp.sub_only _ _) ?_
   rotate_left
   · have h : reckonP t n i = ((t.held[i.a.toNat]?.getD default, -1), t) := by unfold reckonP; rw [if_pos hc1]
     rw [h]; exact ⟨rfl, rfl, rfl⟩
   · have h : reckonP t n i = ((t.next, n), { t with known := t.known ++ [(keyOf t.held i, t.next)], first := t.first ++ [(keyOf t.held i, n)], next := t.next + 1 }) := by unfold reckonP; rw [if_neg hc1, hk0]
     rw [h, mget_push hk0, mget_push hf0]; exact ⟨rfl, rfl, rfl⟩
   · rw [hk0] at hc2; cases hc2
 · refine Wc.seq (Wc.region rfl ?_)
   refine Wl.box 4 rfl rfl rfl (fun b1 => ?_)
   refine Wl.q rfl (Qy.assign rfl) (Wl.q rfl (Qy.assign rfl) (Wl.done (Ar.next (Wc.seq (Wc.seq (Wc.region rfl (Wl.q rfl (Qy.fieldAddr T.fa55_0 rfl) (Wl.q rfl (Qy.load 4 T.one3 rfl rfl rfl) (Wl.q rfl (Qy.eql rfl rfl) (Wl.done (Ar.next ?_)))))))))))
   refine Wc.cond rfl (fun hc1 => ?_) (fun hc1 => ?_)
   refine Wc.seq (Wc.draw [3, 2, 1, 0, 4] [] T.mixed rfl ?_)
   refine Gm.q 0 [] (by kernel_rfl) rfl rfl (Qy.move rfl) (Gm.q 1 [] (by kernel_rfl) rfl rfl (Qy.nilCheck rfl) ?_)
   refine Gm.q 2 [] (by kernel_rfl) rfl rfl (Qy.fieldAddr T.fa110_0 rfl) (Gm.q 3 [0] (by kernel_rfl) rfl rfl (Qy.load 0 T.one23 rfl rfl rfl) (Gm.q 4 [] (by kernel_rfl) rfl rfl (Qy.fieldAddr T.fa55_2 rfl) (Gm.q 5 [4] (by kernel_rfl) rfl rfl (Qy.load 4 T.one3 rfl rfl rfl) ?_)))
   refine Gm.q 6 [] (by kernel_rfl) rfl rfl (Qy.indexAddrO (α := Int) T.sl23 rfl rfl (by assumption) (by omega)) ?_
   refine Gm.q 7 [1, 0] (by kernel_rfl) rfl rfl (Qy.loadO 1 0 T.one3 rfl rfl (by assumption) (by omega) rfl rfl) ?_
   refine Gm.q 8 [] (by kernel_rfl) rfl rfl (Qy.assign rfl) (Gm.q 9 [] (by kernel_rfl) rfl rfl (Qy.assign rfl) (Gm.doneA (by kernel_rfl) ⟨rfl, rfl, rfl, rfl, rfl, trivial⟩ (by first | exact Imm.le_refl _ | assumption) ?_))
   refine Ar.next (Wc.ret (Ar.passRet ?_))
   refine Ar.out2 (.inr rfl) (Ho := Hp.only _ [0, 1, 2, 3]) rfl (.tmp rfl) (.tmp rfl) (Hp.sub_only _ _) ?_
   rotate_left
   refine Wc.skip (Ar.next (Wc.seq (Wc.region rfl (Wl.q rfl (Qy.move rfl) (Wl.q rfl (Qy.loadAll 4 T.agg55 rfl rfl rfl) ?_)))))
   refine Wl.call1 0 rfl T.fn81 rfl (c81 _ _ _ _ _ _ _ _ _ (by assumption) (by omega) (by assumption)) (tags_of ⟨rfl, rfl, rfl, rfl, trivial⟩) ?_
   refine Wl.alloc 5 rfl T.zero138 (fun b2 => ?_)
   refine Wl.storeAll 5 T.size138 rfl rfl rfl rfl rfl rfl ?_
   refine Wl.done (Ar.next (Wc.seq (Wc.seq (Wc.draw [3, 2, 1, 0, 4, 5] [] T.mixed rfl ?_))))
   refine Gm.q 0 [] (by kernel_rfl) rfl rfl (Qy.move rfl) (Gm.q 1 [] (by kernel_rfl) rfl rfl (Qy.nilCheck rfl) ?_)
   refine Gm.q 2 [] (by kernel_rfl) rfl rfl (Qy.fieldAddr T.fa110_1 rfl) (Gm.q 3 [0] (by kernel_rfl) rfl rfl (Qy.load 0 T.one108 rfl rfl rfl) (Gm.q 4 [5] (by kernel_rfl) rfl rfl (Qy.loadAll 5 T.agg138 rfl rfl rfl) (Gm.q 5 [2] (by kernel_rfl) rfl rfl (Qy.lookup2 2 T.mp108 rfl rfl rfl) ?_)))
   refine Gm.q 6 [] (by kernel_rfl) rfl rfl (Qy.move rfl) (Gm.q 7 [] (by kernel_rfl) rfl rfl (Qy.extract rfl rfl) (Gm.q 8 [] (by kernel_rfl) rfl rfl (Qy.extract rfl rfl) (Gm.q 9 [] (by kernel_rfl) rfl rfl (Qy.assign rfl) (Gm.q 10 [] (by kernel_rfl) rfl rfl (Qy.assign rfl) ?_))))
   refine Gm.doneA (by kernel_rfl) ⟨rfl, rfl, rfl, rfl, rfl, rfl, trivial⟩ (by first | exact Imm.le_refl _ | assumption) ?_
   refine Ar.next (Wc.seq (Wc.region rfl (Wl.q rfl (Qy.move rfl) (Wl.q rfl (Qy.not rfl) (Wl.done (Ar.next (Wc.ite rfl (fun hc2 => ?_) (fun hc2 => ?_))))))))
   refine Wc.seq (Wc.draw [3, 2, 1, 0, 4, 5] [(2, 20), (3, 20), (2, 18), (3, 18), (2, 17), (3, 17), (2, 15), (3, 15)] T.mixed rfl ?_)
   refine Gm.q 0 [] (by kernel_rfl) rfl rfl (Qy.move rfl) (Gm.q 1 [] (by kernel_rfl) rfl rfl (Qy.nilCheck rfl) ?_)
   refine Gm.q 2 [] (by kernel_rfl) rfl rfl (Qy.fieldAddr T.fa110_1 rfl) (Gm.q 3 [0] (by kernel_rfl) rfl rfl (Qy.load 0 T.one108 rfl rfl rfl) (Gm.q 4 [5] (by kernel_rfl) rfl rfl (Qy.loadAll 5 T.agg138 rfl rfl rfl) (Gm.q 5 [] (by kernel_rfl) rfl rfl (Qy.move rfl) (Gm.q 6 [] (by kernel_rfl) rfl rfl (Qy.nilCheck rfl) ?_))))
   refine Gm.q 7 [] (by kernel_rfl) rfl rfl (Qy.fieldAddr T.fa110_2 rfl) (Gm.q 8 [0] (by kernel_rfl) rfl rfl (Qy.load 0 T.one108 rfl rfl rfl) (Gm.q 9 [5] (by kernel_rfl) rfl rfl (Qy.loadAll 5 T.agg138 rfl rfl rfl) (Gm.q 10 [] (by kernel_rfl) rfl rfl (Qy.move rfl) ?_)))
   refine Gm.q 11 [] (by kernel_rfl) rfl rfl (Qy.nilCheck rfl) ?_
   refine Gm.q 12 [] (by kernel_rfl) rfl rfl (Qy.fieldAddr T.fa110_3 rfl) (Gm.q 13 [0] (by kernel_rfl) rfl rfl (Qy.load 0 T.one3 rfl rfl rfl) (Gm.q 14 [] (by kernel_rfl) rfl rfl (Qy.move rfl) (Gm.one 15 ⟨rfl, rfl, rfl, rfl, rfl, rfl, trivial⟩ (by first | exact Imm.le_refl _ | assumption) (by kernel_rfl) rfl ?_)))
   rotate_left
   refine Wc.skip (Ar.next (Wc.seq (Wc.draw [3, 2, 1, 0, 4, 5] [] T.mixed rfl ?_)))
   refine Gm.q 0 [] (by kernel_rfl) rfl rfl (Qy.move rfl) (Gm.q 1 [] (by kernel_rfl) rfl rfl (Qy.nilCheck rfl) ?_)
   refine Gm.q 2 [] (by kernel_rfl) rfl rfl (Qy.fieldAddr T.fa110_1 rfl) (Gm.q 3 [0] (by kernel_rfl) rfl rfl (Qy.load 0 T.one108 rfl rfl rfl) (Gm.q 4 [5] (by kernel_rfl) rfl rfl (Qy.loadAll 5 T.agg138 rfl rfl rfl) (Gm.q 5 [2] (by kernel_rfl) rfl rfl (Qy.lookup1 2 T.mp108 rfl rfl rfl) ?_)))
   refine Gm.q 6 [] (by kernel_rfl) rfl rfl (Qy.move rfl) (Gm.q 7 [] (by kernel_rfl) rfl rfl (Qy.nilCheck rfl) ?_)
   refine Gm.q 8 [] (by kernel_rfl) rfl rfl (Qy.fieldAddr T.fa110_2 rfl) (Gm.q 9 [0] (by kernel_rfl) rfl rfl (Qy.load 0 T.one108 rfl rfl rfl) (Gm.q 10 [5] (by kernel_rfl) rfl rfl (Qy.loadAll 5 T.agg138 rfl rfl rfl) (Gm.q 11 [3] (by kernel_rfl) rfl rfl (Qy.lookup1 3 T.mp108 rfl rfl rfl) ?_)))
   refine Gm.q 12 [] (by kernel_rfl) rfl rfl (Qy.assign rfl) (Gm.q 13 [] (by kernel_rfl) rfl rfl (Qy.assign rfl) (Gm.doneA (by kernel_rfl) ⟨rfl, rfl, rfl, rfl, rfl, rfl, trivial⟩ (by first | exact Imm.le_refl _ | assumption) ?_))
   refine Ar.next (Wc.ret ?_)
   refine Ar.out2 (.inr rfl) (Ho := Hp.only _ [0, 1, 2, 3]) rfl (.tmp rfl) (.tmp rfl) (Hp.sub_only _ _) ?_
   rotate_left
   · have h : reckonP t n i = ((t.held[i.a.toNat]?.getD default, -1), t) := by unfold reckonP; rw [if_pos hc1]
     rw [h]; exact ⟨rfl, rfl, rfl⟩
   · rw [hk0] at hc2; cases hc2
   · have h : reckonP t n i = ((v, (mget t.first (keyOf t.held i)).getD 0), t) := by unfold reckonP; rw [if_neg hc1, hk0]
     rw [h, hk0]; exact ⟨rfl, rfl, rfl⟩
def askedP (held : List Int) (i : Sl.Instr) : Sl.Instr :=
 { i with a := holder held (held[i.a.toNat]?.getD default), b := if i.op = 3 ∨ i.op = 4 then holder held (held[i.b.toNat]?.getD default) else i.b }
theorem c53 (G : Imm) (t : Tab) (bt bk bf : Nat) (a : Option Addr) (c : Nat) (junk : List Value) (i : Sl.Instr) (ho : OwnA a c t.held junk) (hl : t.held.length ≤ 128) (hm : mayOk i t.held.length = true) :
 Does Tryd.prog 53 [.pointer (some ⟨bt, 0, none⟩), .agg (Cells.enc i).toArray] G (TabH t bt bk bf a c junk) (fun r G' Ho => r = .agg (Cells.enc (askedP t.held i)).toArray ∧ G' = G ∧ Ho = TabH t bt bk bf a c junk) := by
 rw [mayOk_iff] at hm
 obtain ⟨⟨hop1, hop2, hto1, hto2, ha1, ha2⟩, hb⟩ := hm
 have hb : i.op = 3 ∨ i.op = 4 → 0 ≤ i.b ∧ i.b < t.held.length := fun h => by rw [if_pos h] at hb; omega
 have two := asks_two i
 refine Does.enter Tryd.func53 rfl Tryd.ntmps53 rfl (fun w => ?_)
 refine Wc.seq (Wc.region rfl ?_)
 refine Wl.box 4 rfl rfl rfl (fun b1 => ?_)
 refine Wl.alloc 5 rfl T.zero55 (fun b2 => ?_)
 refine Wl.done (Ar.next (Wc.seq (Wc.region rfl (Wl.q rfl (Qy.loadAll 4 T.agg55 rfl rfl rfl) ?_))))
 refine Wl.call 6 rfl T.fn49 rfl (c49 _ _) (tags_of trivial) (fun v1 G1 Ho1 hle1 hp => ?_)
 obtain ⟨ad1, cd1, junk1, rfl, hoa1, rfl, rfl⟩ := hp
 refine Wl.q rfl (Qy.len T.sl23 rfl) (Wl.q rfl (Qy.gtr rfl rfl) (Wl.q rfl (Qy.assign rfl) (Wl.done (Ar.next (Wc.seq (Wc.draw [3, 2, 1, 0, 4, 5, 7] [(4, 11)] T.mixed rfl ?_))))))
 refine Gm.q 0 [] (by kernel_rfl) rfl rfl (Qy.move rfl) (Gm.q 1 [] (by kernel_rfl) rfl rfl (Qy.move rfl) (Gm.q 2 [] (by kernel_rfl) rfl rfl (Qy.nilCheck rfl) ?_))
 refine Gm.q 3 [] (by kernel_rfl) rfl rfl (Qy.fieldAddr T.fa110_0 rfl) (Gm.q 4 [0] (by kernel_rfl) rfl rfl (Qy.load 0 T.one23 rfl rfl rfl) (Gm.q 5 [] (by kernel_rfl) rfl rfl (Qy.fieldAddr T.fa55_2 rfl) (Gm.q 6 [4] (by kernel_rfl) rfl rfl (Qy.load 4 T.one3 rfl rfl rfl) ?_)))
 refine Gm.q 7 [] (by kernel_rfl) rfl rfl (Qy.indexAddrO (α := Int) T.sl23 rfl rfl (by assumption) (by omega)) ?_
 refine Gm.q 8 [1, 0] (by kernel_rfl) rfl rfl (Qy.loadO 1 0 T.one3 rfl rfl (by assumption) (by omega) rfl rfl) ?_
 refine Gm.one 9 ⟨rfl, rfl, rfl, rfl, rfl, rfl, rfl, trivial⟩ (by first | exact Imm.le_refl _ | assumption) (by kernel_rfl) rfl ?_
 refine Wl.call1 0 rfl T.fn54 rfl (c54 _ _ _ _ _ _ _ _ _ (by assumption) (by omega)) (tags_of ⟨rfl, rfl, rfl, rfl, trivial⟩) ?_
 refine Wl.on0 ?_
 refine Gm.q 10 [] (by kernel_rfl) rfl rfl (Qy.fieldAddr T.fa55_2 rfl) (Gm.one 11 ⟨rfl, rfl, rfl, rfl, rfl, rfl, rfl, trivial⟩ (by first | exact Imm.le_refl _ | assumption) (by kernel_rfl) rfl ?_)
 refine Wl.store 4 T.one3 rfl rfl rfl rfl rfl ?_
 refine Wl.on0 ?_
 refine Gm.doneA (by kernel_rfl) ⟨rfl, rfl, rfl, rfl, rfl, rfl, trivial⟩ (by first | exact Imm.le_refl _ | assumption) ?_
 refine Ar.next (Wc.seq (Wc.seq (Wc.region rfl (Wl.q rfl (Qy.move rfl) (Wl.done (Ar.next ?_))))))
 refine Wc.cond rfl (fun hc1 => ?_) (fun hc1 => ?_)
 refine Wc.draw [3, 2, 1, 0, 5, 7, 4] [(4, 11)] T.mixed rfl ?_
 refine Gm.q 0 [] (by kernel_rfl) rfl rfl (Qy.move rfl) (Gm.q 1 [] (by kernel_rfl) rfl rfl (Qy.move rfl) (Gm.q 2 [] (by kernel_rfl) rfl rfl (Qy.nilCheck rfl) ?_))
 refine Gm.q 3 [] (by kernel_rfl) rfl rfl (Qy.fieldAddr T.fa110_0 rfl) (Gm.q 4 [0] (by kernel_rfl) rfl rfl (Qy.load 0 T.one23 rfl rfl rfl) (Gm.q 5 [] (by kernel_rfl) rfl rfl (Qy.fieldAddr T.fa55_3 rfl) (Gm.q 6 [4] (by kernel_rfl) rfl rfl (Qy.load 4 T.one3 rfl rfl rfl) ?_)))
 refine Gm.q 7 [] (by kernel_rfl) rfl rfl (Qy.indexAddrO (α := Int) T.sl23 rfl rfl (by assumption) (by omega)) ?_
 refine Gm.q 8 [1, 0] (by kernel_rfl) rfl rfl (Qy.loadO 1 0 T.one3 rfl rfl (by assumption) (by omega) rfl rfl) ?_
 refine Gm.one 9 ⟨rfl, rfl, rfl, rfl, rfl, rfl, rfl, trivial⟩ (by first | exact Imm.le_refl _ | assumption) (by kernel_rfl) rfl ?_
 refine Wl.call1 0 rfl T.fn54 rfl (c54 _ _ _ _ _ _ _ _ _ (by assumption) (by omega)) (tags_of ⟨rfl, rfl, rfl, rfl, trivial⟩) ?_
 refine Wl.on0 ?_
 refine Gm.q 10 [] (by kernel_rfl) rfl rfl (Qy.fieldAddr T.fa55_3 rfl) (Gm.one 11 ⟨rfl, rfl, rfl, rfl, rfl, rfl, rfl, trivial⟩ (by first | exact Imm.le_refl _ | assumption) (by kernel_rfl) rfl ?_)
 refine Wl.store 4 T.one3 rfl rfl rfl rfl rfl ?_
 refine Wl.on0 ?_
 refine Gm.doneA (by kernel_rfl) ⟨rfl, rfl, rfl, rfl, rfl, rfl, trivial⟩ (by first | exact Imm.le_refl _ | assumption) ?_
 refine Ar.next (Wc.seq (Wc.region rfl (Wl.q rfl (Qy.loadAll 4 T.agg55 rfl rfl rfl) ?_)))
 refine Wl.storeAll 5 T.size55 rfl rfl rfl rfl rfl rfl ?_
 refine Wl.done (Ar.next (Wc.ret ?_))
 refine Ar.out1 (.inr rfl) (Ho := Hp.only _ [0, 1, 2, 3]) rfl (.agg 5 rfl rfl T.agg55) (Hp.sub_only _ _) ?_
 rotate_left
 refine Wc.skip (Ar.next (Wc.seq (Wc.region rfl (Wl.q rfl (Qy.loadAll 4 T.agg55 rfl rfl rfl) ?_))))
 refine Wl.storeAll 5 T.size55 rfl rfl rfl rfl rfl rfl ?_
 refine Wl.done (Ar.next (Wc.ret ?_))
 refine Ar.out1 (.inr rfl) (Ho := Hp.only _ [0, 1, 2, 3]) rfl (.agg 5 rfl rfl T.agg55) (Hp.sub_only _ _) ?_
 rotate_left
 · refine ⟨?_, rfl, rfl⟩
   have h : askedP t.held i = ⟨i.op, i.to, holder t.held (t.held[i.a.toNat]?.getD default), holder t.held (t.held[i.b.toNat]?.getD default), i.c⟩ := by
    unfold askedP; rw [if_pos (by omega)]
   rw [h]; rfl
 · refine ⟨?_, rfl, rfl⟩
   have h : askedP t.held i = ⟨i.op, i.to, holder t.held (t.held[i.a.toNat]?.getD default), i.b, i.c⟩ := by
    unfold askedP; rw [if_neg (by omega)]
   rw [h]; rfl
end Go.Proofs.YtbppmiimeccclaaDoor
namespace Go.Proofs.YtbppmiimeccclaaDoor
open Go Go.Sl
set_option maxRecDepth 100000
set_option maxHeartbeats 2000000
def passStep (s : Tab × List Sl.Instr) (n : Int) (i : Sl.Instr) : Tab × List Sl.Instr :=
 let v := (reckonP s.1 n i).1.1
 let t := (reckonP s.1 n i).2
 let j := askedP t.held i
 if t.held[i.to.toNat]?.getD default = v then (t, s.2)
 else ({ t with held := t.held.set i.to.toNat v }, s.2 ++ [if 0 ≤ holder t.held v then ⟨1, j.to, holder t.held v, 0, 0⟩ else j])
def passTo (p : PV) : Nat → Tab × List Sl.Instr
 | 0 => (⟨start p, [], [], p.ins + 1⟩, [])
 | k + 1 => passStep (passTo p k) k (p.code[((k : Nat) : Int).toNat]?.getD default)
def passOuts (p : PV) (held : List Int) : List Int := p.outs.map fun r => holder held (held[r.toNat]?.getD default)
def passP (p : PV) : PV := ⟨p.ins, p.regs, (passTo p p.code.length).2, passOuts p (passTo p p.code.length).1.held⟩
theorem right_facts {p : PV} (h : rightP p = true) : 1 ≤ p.ins ∧ p.ins ≤ p.regs ∧ p.regs ≤ 128 ∧ p.code.length ≤ 16384 ∧ 1 ≤ p.outs.length ∧ p.outs.length ≤ 128 ∧ (∀ r ∈ p.outs, 0 ≤ r ∧ r < p.regs) ∧ (∀ i ∈ p.code, mayOk i p.regs = true) := by
 unfold rightP checkP at h
 by_cases hh : headOk p = false
 · rw [if_pos hh] at h; cases h
 · rw [if_neg hh] at h
   have hb : badAt p = none := by
    cases hb : badAt p with
    | none => rfl
    | some k => rw [hb] at h; cases h
   have hh' : headOk p = true := by simpa using hh
   unfold headOk at hh'
   rw [Bool.and_eq_true, decide_eq_true_eq, List.all_eq_true] at hh'
   unfold badAt at hb
   rw [List.findIdx?_eq_none_iff] at hb
   obtain ⟨⟨g1, g2, g3, g4, g5, g6⟩, g7⟩ := hh'
   refine ⟨g1, g2, g3, g4, g5, g6, fun r hr => ?_, fun i hi => ?_⟩
   · have := g7 r hr; rw [decide_eq_true_eq] at this; exact this
   · simpa using hb i hi
theorem reckon_held (t : Tab) (n : Int) (i : Sl.Instr) : (reckonP t n i).2.held = t.held := by
 unfold reckonP; split
 · rfl
 · split <;> rfl
theorem reckon_kf {t : Tab} {n : Int} {i : Sl.Instr} (h : ∀ x, mget t.known x = none → mget t.first x = none) : ∀ x, mget (reckonP t n i).2.known x = none → mget (reckonP t n i).2.first x = none := by
 unfold reckonP
 split
 · exact h
 · split
   · rename_i hk
     intro x hx
     rw [← mput_none _ _ _ hk, mget_mput] at hx
     rw [← mput_none _ _ _ (h _ hk), mget_mput]
     split at hx
     · cases hx
     · rename_i hne; rw [if_neg hne]; exact h _ hx
   · exact h
theorem reckon_next {t : Tab} (h : 0 ≤ t.next) (n : Int) (i : Sl.Instr) : 0 ≤ (reckonP t n i).2.next ∧ (reckonP t n i).2.next ≤ t.next + 1 := by
 unfold reckonP
 split
 · exact ⟨h, by show t.next ≤ _; omega⟩
 · split
   · exact ⟨by show 0 ≤ t.next + 1; omega, Int.le_refl _⟩
   · exact ⟨h, by show t.next ≤ _; omega⟩
section
variable {t : Tab} {out : List Sl.Instr} {n : Int} {i : Sl.Instr}
theorem passStep_same (h : (reckonP t n i).2.held[(askedP (reckonP t n i).2.held i).to.toNat]?.getD default = (reckonP t n i).1.1) : passStep (t, out) n i = ((reckonP t n i).2, out) := if_pos h
theorem passStep_move (h : ¬ (reckonP t n i).2.held[(askedP (reckonP t n i).2.held i).to.toNat]?.getD default = (reckonP t n i).1.1) (h2 : 0 ≤ holder (reckonP t n i).2.held (reckonP t n i).1.1) :
 passStep (t, out) n i = ({ (reckonP t n i).2 with held := (reckonP t n i).2.held.set (askedP (reckonP t n i).2.held i).to.toNat (reckonP t n i).1.1 }, out ++ [⟨1, (askedP (reckonP t n i).2.held i).to, holder (reckonP t n i).2.held (reckonP t n i).1.1, 0, 0⟩]) :=
 (if_neg h).trans (by rw [if_pos h2]; rfl)
theorem passStep_keep (h : ¬ (reckonP t n i).2.held[(askedP (reckonP t n i).2.held i).to.toNat]?.getD default = (reckonP t n i).1.1) (h2 : ¬ 0 ≤ holder (reckonP t n i).2.held (reckonP t n i).1.1) :
 passStep (t, out) n i = ({ (reckonP t n i).2 with held := (reckonP t n i).2.held.set (askedP (reckonP t n i).2.held i).to.toNat (reckonP t n i).1.1 }, out ++ [askedP (reckonP t n i).2.held i]) :=
 (if_neg h).trans (by rw [if_neg h2]; rfl)
end
theorem c24R (G : Imm) (p : PV) (ac ao : Option Addr) (cc co : Nat) (hc : Arr G ac p.code) (ho : Arr G ao p.outs) (h1 : p.code.length ≤ 1099511627776) (h2 : p.outs.length ≤ 1099511627776) (hR : rightP p = true) :
 Does Tryd.prog 24 [.agg #[.int .i64 p.ins, .int .i64 p.regs, .slice ac p.code.length cc, .slice ao p.outs.length co]] G [] (fun v G' Ho =>
  ∃ bc bo dc do_ j1 j2, v = .tuple #[.agg #[.int .i64 p.ins, .int .i64 p.regs, .slice bc (passP p).code.length dc, .slice bo (passP p).outs.length do_], .int .i64 0] ∧
   OwnA bc dc (passP p).code j1 ∧ OwnA bo do_ (passP p).outs j2 ∧ Ho = [(0, bc.map (·.block), Row 55 (passP p).code j1), (1, bo.map (·.block), Row 3 (passP p).outs j2)] ∧ G' = G) := by
 obtain ⟨r1, r2, r3, r4, r5, r6, r7, r8⟩ := right_facts hR
 have hcheck : (checkP p).2 = false := by simpa [rightP] using hR
 refine Does.enter Tryd.func24 rfl Tryd.ntmps24 rfl (fun w => ?_)
 refine Wc.nilRow 0 (Row 55 ([] : List Sl.Instr) []) (Wc.nilRow 1 (Row 3 ([] : List Int) []) ?_)
 refine Wc.seq (Wc.region rfl ?_)
 refine Wl.box 2 rfl rfl rfl (fun b1 => ?_)
 refine Wl.alloc 3 rfl T.zero25 (fun b2 => ?_)
 refine Wl.q rfl (Qy.assign rfl) (Wl.done (Ar.next (Wc.seq (Wc.seq (Wc.region rfl (Wl.q rfl (Qy.loadAll 2 T.agg25 rfl rfl rfl) ?_))))))
 refine Wl.call0 rfl T.fn8 rfl (c8 _ _ _ _ _ _ (by assumption) (by assumption) (by omega) (by omega)) ?_
 refine Wl.q rfl (Qy.move rfl) (Wl.q rfl (Qy.extract rfl rfl) (Wl.q rfl (Qy.extract rfl rfl) (Wl.q rfl (Qy.assign rfl) (Wl.q rfl (Qy.assign rfl) (Wl.done (Ar.next (Wc.seq (Wc.region rfl (Wl.q rfl (Qy.move rfl) (Wl.q rfl (Qy.neq rfl rfl) (Wl.done (Ar.next ?_))))))))))))
 refine Wc.cond rfl (fun hc1 => ?_) (fun hc1 => ?_)
 refine Wc.seq (Wc.region rfl (Wl.q rfl (Qy.build (cs := [_, _, _, _]) T.st25 rfl rfl rfl) ?_))
 refine Wl.q rfl (Qy.move rfl) ?_
 refine Wl.storeAll 3 T.size25 rfl rfl rfl rfl rfl rfl ?_
 refine Wl.q rfl (Qy.assign rfl) (Wl.done (Ar.next (Wc.ret (Ar.passRet ?_))))
 rotate_left
 refine Wc.skip (Ar.next (Wc.seq (Wc.region rfl (Wl.q rfl (Qy.loadAll 2 T.agg25 rfl rfl rfl) ?_))))
 refine Wl.call 4 rfl T.fn51 rfl (c51 _ _ _ _ _ _ (by omega)) (tags_of trivial) (fun v1 G1 Ho1 hle1 hp => ?_)
 obtain ⟨bt1, bk1, bf1, ta1, tc1, tj1, rfl, hto1, rfl, rfl⟩ := hp
 refine Wl.q rfl (Qy.assign rfl) (Wl.done (Ar.next (Wc.seq (Wc.region rfl (Wl.q rfl (Qy.fieldAddr T.fa25_0 rfl) (Wl.q rfl (Qy.load 2 T.one3 rfl rfl rfl) (Wl.q rfl (Qy.fieldAddr T.fa25_1 rfl) (Wl.q rfl (Qy.load 2 T.one3 rfl rfl rfl) (Wl.q rfl (Qy.build (cs := [_, _, _, _]) T.st25 rfl rfl rfl) ?_)))))))))
 refine Wl.alloc 8 rfl T.zero25 (fun b3 => ?_)
 refine Wl.storeAll 8 T.size25 rfl rfl rfl rfl rfl rfl ?_
 refine Wl.done (Ar.next (Wc.seq (Wc.seq (Wc.region rfl (Wl.q rfl (Qy.fieldAddr T.fa25_2 rfl) (Wl.q rfl (Qy.load 2 T.one22 rfl rfl rfl) (Wl.q rfl (Qy.len T.sl22 rfl) (Wl.q rfl (Qy.move rfl) (Wl.done (Ar.next (Wc.block ?_)))))))))))
 rotate_left
 · rw [hcheck] at hc1; exact absurd rfl hc1
 refine Wc.loop (ι := Nat × Tab × List Sl.Instr × (Option Addr × Nat × List Value) × (Option Addr × Nat × List Value)) (fun (k, t, out, (a, c, junk), (a', c', junk')) => ([(34, .int .i64 (k : Int)), (33, Go.Value.int Go.IntKind.i64 (↑(List.length (PV.code p)) : Int)), (32, Go.Value.slice ac (List.length (PV.code p)) cc), (7, Go.Value.pointer (Option.some (Go.Addr.mk b3 0 Option.none))), (6, Go.Value.pointer (Option.some (Go.Addr.mk bt1 0 Option.none))), (3, Go.Value.int Go.IntKind.i64 0), (2, Go.Value.pointer (Option.some (Go.Addr.mk b2 0 Option.none))), (1, Go.Value.pointer (Option.some (Go.Addr.mk b1 0 Option.none)))], [(4, some bt1, .cells #[.slice a t.held.length c, .map (some bk1), .map (some bf1), .int .i64 t.next] 110), (5, a.map (·.block), Row 3 t.held junk), (6, some bk1, mapObj t.known), (7, some bf1, mapObj t.first), (8, some b3, .cells #[.int .i64 p.ins, .int .i64 p.regs, .slice a' out.length c', .slice none 0 0] 25), (0, a'.map (·.block), Row 55 out junk'), (3, Option.some b2, Go.Obj.cells #[Go.Value.int Go.IntKind.i64 0, Go.Value.int Go.IntKind.i64 0, Go.Value.slice Option.none 0 0, Go.Value.slice Option.none 0 0] 25), (2, Option.some b1, Go.Obj.cells #[Go.Value.int Go.IntKind.i64 (PV.ins p), Go.Value.int Go.IntKind.i64 (PV.regs p), Go.Value.slice ac (List.length (PV.code p)) cc, Go.Value.slice ao (List.length (PV.outs p)) co] 25), (1, Option.none, Go.Sl.Row (α := Int) 3 ([]) ([]))])) (fun (k, t, out, (a, c, junk), (a', c', junk')) => k ≤ p.code.length ∧ (t, out) = passTo p k ∧ OwnA a c t.held junk ∧ OwnA a' c' out junk' ∧ (t.held.length : Int) = p.regs ∧ out.length ≤ k ∧ (∀ x, mget t.known x = none → mget t.first x = none) ∧ 0 ≤ t.next ∧ t.next ≤ p.ins + 1 + k) (fun (k, t, out, (a, c, junk), (a', c', junk')) => p.code.length - k) ((0, ⟨start p, [], [], p.ins + 1⟩, [], (ta1, tc1, tj1), (none, 0, []))) (⟨Nat.zero_le _, rfl, hto1, OwnA.nil, by simp [start]; omega, Nat.zero_le _, fun _ _ => rfl, by show 0 ≤ p.ins + 1; omega, by show p.ins + 1 ≤ p.ins + 1 + 0; omega⟩) ⟨rfl, rfl, rfl, rfl, rfl, rfl, rfl, rfl, trivial⟩ ⟨rfl, rfl, rfl, rfl, rfl, rfl, rfl, rfl, rfl, trivial⟩ (fun ⟨k, t, out, (a, c, junk), (a', c', junk')⟩ => fun (hk : k ≤ p.code.length ∧ (t, out) = passTo p k ∧ OwnA a c t.held junk ∧ OwnA a' c' out junk' ∧ (t.held.length : Int) = p.regs ∧ out.length ≤ k ∧ (∀ x, mget t.known x = none → mget t.first x = none) ∧ 0 ≤ t.next ∧ t.next ≤ p.ins + 1 + k) => ?_)
 obtain ⟨hk1, hpass, hoa, hoa', hlen, hout, hkf, hn0, hn1⟩ := hk
 rcases Nat.lt_or_ge k p.code.length with hlt | hge
 · have hm : mayOk (p.code[((k : Nat) : Int).toNat]?.getD default) t.held.length = true := by
    rw [hlen]; refine r8 _ ?_
    rw [Int.toNat_natCast, List.getElem?_eq_getElem hlt]; simp
   have hrh := reckon_held t k (p.code[((k : Nat) : Int).toNat]?.getD default)
   have hra : OwnA a c (reckonP t k (p.code[((k : Nat) : Int).toNat]?.getD default)).2.held junk := by rw [hrh]; exact hoa
   have hrl : (reckonP t k (p.code[((k : Nat) : Int).toNat]?.getD default)).2.held.length = t.held.length := by rw [hrh]
   have hrm : mayOk (p.code[((k : Nat) : Int).toNat]?.getD default) (reckonP t k (p.code[((k : Nat) : Int).toNat]?.getD default)).2.held.length = true := by rw [hrl]; exact hm
   have hto : 0 ≤ (askedP (reckonP t k (p.code[((k : Nat) : Int).toNat]?.getD default)).2.held (p.code[((k : Nat) : Int).toNat]?.getD default)).to ∧
    (askedP (reckonP t k (p.code[((k : Nat) : Int).toNat]?.getD default)).2.held (p.code[((k : Nat) : Int).toNat]?.getD default)).to < (reckonP t k (p.code[((k : Nat) : Int).toNat]?.getD default)).2.held.length := by
    rw [mayOk_iff] at hm; unfold askedP; rw [hrl]; exact ⟨hm.1.2.2.1, hm.1.2.2.2.1⟩
   refine Wc.seq (Wc.region rfl (Wl.q rfl (Qy.lss rfl rfl) (Wl.done (Ar.next (Wc.seq (Wc.condP rfl (by first | assumption | omega) ?_))))))
   refine Wc.skip (Ar.next (Wc.seq (Wc.block (Wc.seq (Wc.region rfl (Wl.q rfl (Qy.move rfl) (Wl.q rfl (Qy.at (α := Instr) T.sl22 rfl rfl (by assumption) (by omega)) ?_)))))))
   refine Wl.q rfl (Qy.loadsG T.agg55 rfl (Arr.elem (by assumption) (by omega)) rfl) ?_
   refine Wl.alloc 9 rfl T.zero55 (fun b4 => ?_)
   refine Wl.q rfl (Qy.assign rfl) ?_
   refine Wl.storeAll 9 T.size55 rfl rfl rfl rfl rfl rfl ?_
   refine Wl.done (Ar.next (Wc.seq (Wc.region rfl (Wl.q rfl (Qy.move rfl) (Wl.q rfl (Qy.move rfl) (Wl.q rfl (Qy.loadAll 9 T.agg55 rfl rfl rfl) ?_))))))
   refine Wl.call 4 rfl T.fn52 rfl (c52 _ _ _ _ _ _ _ _ _ _ (by assumption) (by omega) (by assumption) (by assumption) (by omega)) (tags_of ⟨rfl, rfl, rfl, rfl, trivial⟩) (fun v2 G2 Ho2 hle2 hp => ?_)
   obtain ⟨rfl, rfl, rfl⟩ := hp
   refine Wl.q rfl (Qy.move rfl) (Wl.q rfl (Qy.extract rfl rfl) (Wl.q rfl (Qy.extract rfl rfl) (Wl.q rfl (Qy.assign rfl) (Wl.q rfl (Qy.assign rfl) (Wl.done (Ar.next (Wc.seq (Wc.region rfl (Wl.q rfl (Qy.move rfl) (Wl.q rfl (Qy.loadAll 9 T.agg55 rfl rfl rfl) ?_))))))))))
   refine Wl.call1 4 rfl T.fn53 rfl (c53 _ _ _ _ _ _ _ _ _ (by assumption) (by omega) (by assumption)) (tags_of ⟨rfl, rfl, rfl, rfl, trivial⟩) ?_
   refine Wl.storeAll 9 T.size55 rfl rfl rfl rfl rfl rfl ?_
   refine Wl.done (Ar.next (Wc.seq (Wc.seq (Wc.draw [1, 2, 3, 0, 8, 7, 6, 5, 4, 9] [] T.mixed rfl ?_))))
   refine Gm.q 0 [] (by kernel_rfl) rfl rfl (Qy.move rfl) (Gm.q 1 [] (by kernel_rfl) rfl rfl (Qy.nilCheck rfl) ?_)
   refine Gm.q 2 [] (by kernel_rfl) rfl rfl (Qy.fieldAddr T.fa110_0 rfl) (Gm.q 3 [4] (by kernel_rfl) rfl rfl (Qy.load 4 T.one23 rfl rfl rfl) (Gm.q 4 [] (by kernel_rfl) rfl rfl (Qy.fieldAddr T.fa55_1 rfl) (Gm.q 5 [9] (by kernel_rfl) rfl rfl (Qy.load 9 T.one3 rfl rfl rfl) ?_)))
   refine Gm.q 6 [] (by kernel_rfl) rfl rfl (Qy.indexAddrO (α := Int) T.sl23 rfl rfl (by assumption) (by omega)) ?_
   refine Gm.q 7 [0, 5] (by kernel_rfl) rfl rfl (Qy.loadO 5 0 T.one3 rfl rfl (by assumption) (by omega) rfl rfl) ?_
   refine Gm.q 8 [] (by kernel_rfl) rfl rfl (Qy.move rfl) (Gm.q 9 [] (by kernel_rfl) rfl rfl (Qy.eql rfl rfl) ?_)
   refine Gm.doneA (by kernel_rfl) ⟨rfl, rfl, rfl, rfl, rfl, rfl, rfl, rfl, rfl, rfl, trivial⟩ (by first | exact Imm.le_refl _ | assumption) ?_
   refine Ar.next ?_
   refine Wc.cond rfl (fun hc2 => ?_) (fun hc2 => ?_)
   refine Wc.exit (Ar.passExit ?_)
   refine Ar.here ?_
   refine Ar.next (Wc.region rfl (Wl.q rfl (Qy.add rfl rfl (by omega)) ?_))
   refine Wl.q rfl (Qy.move rfl) (Wl.done ?_)
   rotate_left
   refine Wc.skip (Ar.next (Wc.seq (Wc.seq (Wc.region rfl (Wl.q rfl (Qy.move rfl) (Wl.q rfl (Qy.move rfl) ?_))))))
   refine Wl.call1 4 rfl T.fn54 rfl (c54 _ _ _ _ _ _ _ _ _ (by assumption) (by omega)) (tags_of ⟨rfl, rfl, rfl, rfl, trivial⟩) ?_
   refine Wl.q rfl (Qy.assign rfl) (Wl.done (Ar.next (Wc.seq (Wc.region rfl (Wl.q rfl (Qy.move rfl) (Wl.q rfl (Qy.geq rfl rfl) (Wl.done (Ar.next ?_))))))))
   refine Wc.cond rfl (fun hc3 => ?_) (fun hc3 => ?_)
   refine Wc.region rfl (Wl.q rfl (Qy.fieldAddr T.fa55_1 rfl) (Wl.q rfl (Qy.load 9 T.one3 rfl rfl rfl) (Wl.q rfl (Qy.move rfl) (Wl.q rfl (Qy.build (cs := [_, _, _, _, _]) T.st55 rfl rfl rfl) ?_))))
   refine Wl.storeAll 9 T.size55 rfl rfl rfl rfl rfl rfl ?_
   refine Wl.done (Ar.next (Wc.seq (Wc.region rfl (Wl.q rfl (Qy.fieldAddr T.fa25_2 rfl) (Wl.q rfl (Qy.load 8 T.one22 rfl rfl rfl) (Wl.q rfl (Qy.loadAll 9 T.agg55 rfl rfl rfl) ?_))))))
   refine Wl.lit (α := Instr) 10 [⟨1, Go.Sl.Instr.to (askedP (Tab.held (Prod.snd (reckonP t (↑k : Int) (Option.getD (PV.code p)[Int.toNat (↑k : Int)]? Inhabited.default)))) (Option.getD (PV.code p)[Int.toNat (↑k : Int)]? Inhabited.default)), holder (Tab.held (Prod.snd (reckonP t (↑k : Int) (Option.getD (PV.code p)[Int.toNat (↑k : Int)]? Inhabited.default)))) (Prod.fst (Prod.fst (reckonP t (↑k : Int) (Option.getD (PV.code p)[Int.toNat (↑k : Int)]? Inhabited.default)))), 0, 0⟩] rfl T.sl22 T.el55 rfl rfl rfl rfl rfl (fun b5 => ?_)
   refine Wl.append (α := Instr) 0 rfl T.sl22 T.el55 rfl rfl rfl (by first | assumption | exact OwnA.nil | exact OwnA.made (by simp)) (Src.row 10 rfl) (by first | omega | (simp only [List.length_append, List.length_cons, List.length_nil, maxLen]; omega)) (by first | omega | (simp only [List.length_append, List.length_cons, List.length_nil, maxLen]; omega)) (fun a1 c1 junk1 ho1 => ?_)
   refine Wl.q rfl (Qy.fieldAddr T.fa25_2 rfl) ?_
   refine Wl.store 8 T.one22 rfl rfl rfl rfl rfl ?_
   refine Wl.done (Ar.next (Wc.draw [1, 2, 3, 7, 6, 5, 4, 9, 10, 0, 8] [(8, 8), (0, 8), (10, 8), (9, 8), (4, 8), (5, 8), (3, 8), (2, 8), (1, 8)] T.mixed rfl ?_))
   refine Gm.q 0 [] (by kernel_rfl) rfl rfl (Qy.move rfl) (Gm.q 1 [] (by kernel_rfl) rfl rfl (Qy.nilCheck rfl) ?_)
   refine Gm.q 2 [] (by kernel_rfl) rfl rfl (Qy.fieldAddr T.fa110_0 rfl) (Gm.q 3 [4] (by kernel_rfl) rfl rfl (Qy.load 4 T.one23 rfl rfl rfl) (Gm.q 4 [] (by kernel_rfl) rfl rfl (Qy.fieldAddr T.fa55_1 rfl) (Gm.q 5 [9] (by kernel_rfl) rfl rfl (Qy.load 9 T.one3 rfl rfl rfl) ?_)))
   refine Gm.q 6 [] (by kernel_rfl) rfl rfl (Qy.move rfl) (Gm.q 7 [] (by kernel_rfl) rfl rfl (Qy.indexAddrO (α := Int) T.sl23 rfl rfl (by assumption) (by omega)) ?_)
   refine Gm.one 8 ⟨rfl, rfl, rfl, rfl, rfl, rfl, rfl, rfl, rfl, rfl, rfl, trivial⟩ (by first | exact Imm.le_refl _ | assumption) (by kernel_rfl) rfl ?_
   refine Wl.setO (z := _) 5 T.size3 rfl rfl rfl (by assumption) (by omega) rfl (fun ho2 => ?_)
   refine Wl.on0 ?_
   refine Gm.doneA (by kernel_rfl) ⟨rfl, rfl, trivial⟩ (by first | exact Imm.le_refl _ | assumption) ?_
   refine Ar.outNormal ?_
   refine Ar.next (Wc.region rfl (Wl.q rfl (Qy.add rfl rfl (by omega)) ?_))
   refine Wl.q rfl (Qy.move rfl) (Wl.done ?_)
   rotate_left
   refine Wc.skip (Ar.next (Wc.seq (Wc.region rfl (Wl.q rfl (Qy.fieldAddr T.fa25_2 rfl) (Wl.q rfl (Qy.load 8 T.one22 rfl rfl rfl) (Wl.q rfl (Qy.loadAll 9 T.agg55 rfl rfl rfl) ?_))))))
   refine Wl.lit (α := Instr) 10 [(askedP (Tab.held (Prod.snd (reckonP t (↑k : Int) (Option.getD (PV.code p)[Int.toNat (↑k : Int)]? Inhabited.default)))) (Option.getD (PV.code p)[Int.toNat (↑k : Int)]? Inhabited.default))] rfl T.sl22 T.el55 rfl rfl rfl rfl rfl (fun b5 => ?_)
   refine Wl.append (α := Instr) 0 rfl T.sl22 T.el55 rfl rfl rfl (by first | assumption | exact OwnA.nil | exact OwnA.made (by simp)) (Src.row 10 rfl) (by first | omega | (simp only [List.length_append, List.length_cons, List.length_nil, maxLen]; omega)) (by first | omega | (simp only [List.length_append, List.length_cons, List.length_nil, maxLen]; omega)) (fun a1 c1 junk1 ho1 => ?_)
   refine Wl.q rfl (Qy.fieldAddr T.fa25_2 rfl) ?_
   refine Wl.store 8 T.one22 rfl rfl rfl rfl rfl ?_
   refine Wl.done (Ar.next (Wc.draw [1, 2, 3, 7, 6, 5, 4, 9, 10, 0, 8] [(8, 8), (0, 8), (10, 8), (9, 8), (4, 8), (5, 8), (3, 8), (2, 8), (1, 8)] T.mixed rfl ?_))
   refine Gm.q 0 [] (by kernel_rfl) rfl rfl (Qy.move rfl) (Gm.q 1 [] (by kernel_rfl) rfl rfl (Qy.nilCheck rfl) ?_)
   refine Gm.q 2 [] (by kernel_rfl) rfl rfl (Qy.fieldAddr T.fa110_0 rfl) (Gm.q 3 [4] (by kernel_rfl) rfl rfl (Qy.load 4 T.one23 rfl rfl rfl) (Gm.q 4 [] (by kernel_rfl) rfl rfl (Qy.fieldAddr T.fa55_1 rfl) (Gm.q 5 [9] (by kernel_rfl) rfl rfl (Qy.load 9 T.one3 rfl rfl rfl) ?_)))
   refine Gm.q 6 [] (by kernel_rfl) rfl rfl (Qy.move rfl) (Gm.q 7 [] (by kernel_rfl) rfl rfl (Qy.indexAddrO (α := Int) T.sl23 rfl rfl (by assumption) (by omega)) ?_)
   refine Gm.one 8 ⟨rfl, rfl, rfl, rfl, rfl, rfl, rfl, rfl, rfl, rfl, rfl, trivial⟩ (by first | exact Imm.le_refl _ | assumption) (by kernel_rfl) rfl ?_
   refine Wl.setO (z := _) 5 T.size3 rfl rfl rfl (by assumption) (by omega) rfl (fun ho2 => ?_)
   refine Wl.on0 ?_
   refine Gm.doneA (by kernel_rfl) ⟨rfl, rfl, trivial⟩ (by first | exact Imm.le_refl _ | assumption) ?_
   refine Ar.outNormal ?_
   refine Ar.next (Wc.region rfl (Wl.q rfl (Qy.add rfl rfl (by omega)) ?_))
   refine Wl.q rfl (Qy.move rfl) (Wl.done ?_)
   rotate_left
   · generalize hI : p.code[((k : Nat) : Int).toNat]?.getD default = I at *
     refine Ar.again ((k + 1, (reckonP t k I).2, out, (a, c, junk), (a', c', junk'))) ?_ ?_ rfl ⟨rfl, rfl, rfl, rfl, rfl, rfl, rfl, rfl, trivial⟩ ⟨rfl, rfl, rfl, rfl, rfl, rfl, rfl, rfl, rfl, trivial⟩
     · refine ⟨by omega, ?_, hra, hoa', by rw [hrl]; exact hlen, by omega, reckon_kf hkf, (reckon_next hn0 k I).1, ?_⟩
       · show _ = passStep (passTo p k) k (p.code[((k : Nat) : Int).toNat]?.getD default)
         rw [← hpass, hI, passStep_same hc2]
       · have := (reckon_next hn0 k I).2
         omega
     · show p.code.length - (k + 1) < p.code.length - k
       omega
   · generalize hI : p.code[((k : Nat) : Int).toNat]?.getD default = I at *
     refine Ar.reH 4 (.cells #[.slice a ((reckonP t k I).2.held.set (askedP (reckonP t k I).2.held I).to.toNat (reckonP t k I).1.1).length c, .map (some bk1), .map (some bf1), .int .i64 (reckonP t k I).2.next] 110) rfl (by rw [List.length_set]) ?_
     refine Ar.again ((k + 1, { (reckonP t k I).2 with held := (reckonP t k I).2.held.set (askedP (reckonP t k I).2.held I).to.toNat (reckonP t k I).1.1 }, _, (a, c, junk), (a1, c1, junk1))) ?_ ?_ rfl ⟨rfl, rfl, rfl, rfl, rfl, rfl, rfl, rfl, trivial⟩ ⟨rfl, rfl, rfl, rfl, rfl, rfl, rfl, rfl, rfl, trivial⟩
     · refine ⟨by omega, ?_, ho2, ho1, ?_, ?_, reckon_kf hkf, ?_, ?_⟩
       · show _ = passStep (passTo p k) k (p.code[((k : Nat) : Int).toNat]?.getD default)
         rw [← hpass, hI, passStep_move hc2 hc3]
       · show (((reckonP t k I).2.held.set _ _).length : Int) = _
         rw [List.length_set, hrl]; exact hlen
       · rw [List.length_append]; simp only [List.length_cons, List.length_nil]; omega
       · exact (reckon_next hn0 k I).1
       · have := (reckon_next hn0 k I).2
         show (reckonP t k I).2.next ≤ _
         omega
     · show p.code.length - (k + 1) < p.code.length - k
       omega
   · generalize hI : p.code[((k : Nat) : Int).toNat]?.getD default = I at *
     refine Ar.reH 4 (.cells #[.slice a ((reckonP t k I).2.held.set (askedP (reckonP t k I).2.held I).to.toNat (reckonP t k I).1.1).length c, .map (some bk1), .map (some bf1), .int .i64 (reckonP t k I).2.next] 110) rfl (by rw [List.length_set]) ?_
     refine Ar.again ((k + 1, { (reckonP t k I).2 with held := (reckonP t k I).2.held.set (askedP (reckonP t k I).2.held I).to.toNat (reckonP t k I).1.1 }, _, (a, c, junk), (a1, c1, junk1))) ?_ ?_ rfl ⟨rfl, rfl, rfl, rfl, rfl, rfl, rfl, rfl, trivial⟩ ⟨rfl, rfl, rfl, rfl, rfl, rfl, rfl, rfl, rfl, trivial⟩
     · refine ⟨by omega, ?_, ho2, ho1, ?_, ?_, reckon_kf hkf, ?_, ?_⟩
       · show _ = passStep (passTo p k) k (p.code[((k : Nat) : Int).toNat]?.getD default)
         rw [← hpass, hI, passStep_keep hc2 hc3]
       · show (((reckonP t k I).2.held.set _ _).length : Int) = _
         rw [List.length_set, hrl]; exact hlen
       · rw [List.length_append]; simp only [List.length_cons, List.length_nil]; omega
       · exact (reckon_next hn0 k I).1
       · have := (reckon_next hn0 k I).2
         show (reckonP t k I).2.next ≤ _
         omega
     · show p.code.length - (k + 1) < p.code.length - k
       omega
 · have hk : k = p.code.length := by omega
   subst hk
   refine Wc.seq (Wc.region rfl (Wl.q rfl (Qy.lss rfl rfl) (Wl.done (Ar.next (Wc.seq (Wc.condN rfl (by first | assumption | omega) ?_))))))
   refine Wc.exit (Ar.passExit ?_)
   refine Ar.passExit ?_
   refine Ar.here ?_
   refine Ar.next (Wc.seq (Wc.seq (Wc.region rfl (Wl.q rfl (Qy.fieldAddr T.fa25_3 rfl) (Wl.q rfl (Qy.load 2 T.one23 rfl rfl rfl) (Wl.q rfl (Qy.len T.sl23 rfl) (Wl.q rfl (Qy.move rfl) (Wl.done (Ar.next (Wc.block ?_))))))))))
   refine Wc.loop (ι := Nat × List Int × Option Addr × Nat × List Value) (fun (k, os, b, d, j) => ([(86, .int .i64 (k : Int)), (85, Go.Value.int Go.IntKind.i64 (↑(List.length (PV.outs p)) : Int)), (84, Go.Value.slice ao (List.length (PV.outs p)) co), (7, Go.Value.pointer (Option.some (Go.Addr.mk b3 0 Option.none))), (6, Go.Value.pointer (Option.some (Go.Addr.mk bt1 0 Option.none))), (3, Go.Value.int Go.IntKind.i64 0), (2, Go.Value.pointer (Option.some (Go.Addr.mk b2 0 Option.none)))], [(8, some b3, .cells #[.int .i64 p.ins, .int .i64 p.regs, .slice a' out.length c', .slice b os.length d] 25), (1, b.map (·.block), Row 3 os j), (4, Option.some bt1, Go.Obj.cells #[Go.Value.slice a (List.length (Tab.held t)) c, Go.Value.map (Option.some bk1), Go.Value.map (Option.some bf1), Go.Value.int Go.IntKind.i64 (Tab.next t)] 110), (5, Option.map (fun x => Go.Addr.block x) a, Go.Sl.Row (α := Int) 3 (Tab.held t) (junk)), (6, Option.some bk1, Go.Sl.mapObj (κ := Go.Sl.K4) (Tab.known t)), (7, Option.some bf1, Go.Sl.mapObj (κ := Go.Sl.K4) (Tab.first t)), (0, Option.map (fun x => Go.Addr.block x) a', Go.Sl.Row (α := Go.Sl.Instr) 55 (out) (junk')), (3, Option.some b2, Go.Obj.cells #[Go.Value.int Go.IntKind.i64 0, Go.Value.int Go.IntKind.i64 0, Go.Value.slice Option.none 0 0, Go.Value.slice Option.none 0 0] 25), (2, Option.some b1, Go.Obj.cells #[Go.Value.int Go.IntKind.i64 (PV.ins p), Go.Value.int Go.IntKind.i64 (PV.regs p), Go.Value.slice ac (List.length (PV.code p)) cc, Go.Value.slice ao (List.length (PV.outs p)) co] 25)])) (fun (k, os, b, d, j) => k ≤ p.outs.length ∧ os = (passOuts p t.held).take k ∧ OwnA b d os j) (fun (k, os, b, d, j) => p.outs.length - k) ((0, [], none, 0, [])) (⟨Nat.zero_le _, rfl, OwnA.nil⟩) ⟨rfl, rfl, rfl, rfl, rfl, rfl, rfl, trivial⟩ ⟨rfl, rfl, rfl, rfl, rfl, rfl, rfl, rfl, rfl, trivial⟩ (fun ⟨k, os, b, d, j⟩ => fun (hk : k ≤ p.outs.length ∧ os = (passOuts p t.held).take k ∧ OwnA b d os j) => ?_)
   obtain ⟨hk2, hos, hob⟩ := hk
   have hosl : os.length ≤ 128 := by rw [hos, List.length_take]; omega
   rcases Nat.lt_or_ge k p.outs.length with hlt | hge
   · have hr : 0 ≤ p.outs[((k : Nat) : Int).toNat]?.getD default ∧ p.outs[((k : Nat) : Int).toNat]?.getD default < t.held.length := by
      rw [hlen]; refine r7 _ ?_
      rw [Int.toNat_natCast, List.getElem?_eq_getElem hlt]; simp
     refine Wc.seq (Wc.region rfl (Wl.q rfl (Qy.lss rfl rfl) (Wl.done (Ar.next (Wc.seq (Wc.condP rfl (by first | assumption | omega) ?_))))))
     refine Wc.skip (Ar.next (Wc.seq (Wc.block (Wc.seq (Wc.region rfl (Wl.q rfl (Qy.at (α := Int) T.sl23 rfl rfl (by assumption) (by omega)) ?_))))))
     refine Wl.q rfl (Qy.loadG T.one3 rfl (Arr.cell (by assumption) (by omega) 0 rfl rfl)) ?_
     refine Wl.q rfl (Qy.assign rfl) (Wl.done (Ar.next (Wc.draw [2, 3, 0, 7, 6, 5, 4, 1, 8] [(8, 14), (1, 12), (5, 12), (0, 12)] T.mixed rfl ?_)))
     refine Gm.q 0 [] (by kernel_rfl) rfl rfl (Qy.fieldAddr T.fa25_3 rfl) (Gm.q 1 [8] (by kernel_rfl) rfl rfl (Qy.load 8 T.one23 rfl rfl rfl) (Gm.q 2 [] (by kernel_rfl) rfl rfl (Qy.move rfl) (Gm.q 3 [] (by kernel_rfl) rfl rfl (Qy.move rfl) (Gm.q 4 [] (by kernel_rfl) rfl rfl (Qy.nilCheck rfl) ?_))))
     refine Gm.q 5 [] (by kernel_rfl) rfl rfl (Qy.fieldAddr T.fa110_0 rfl) (Gm.q 6 [4] (by kernel_rfl) rfl rfl (Qy.load 4 T.one23 rfl rfl rfl) (Gm.q 7 [] (by kernel_rfl) rfl rfl (Qy.move rfl) (Gm.q 8 [] (by kernel_rfl) rfl rfl (Qy.indexAddrO (α := Int) T.sl23 rfl rfl (by assumption) (by omega)) ?_)))
     refine Gm.one 9 ⟨rfl, rfl, rfl, rfl, rfl, rfl, rfl, rfl, rfl, trivial⟩ (by first | exact Imm.le_refl _ | assumption) (by kernel_rfl) rfl ?_
     refine Wl.q rfl (Qy.loadO 5 0 T.one3 rfl rfl (by assumption) (by omega) rfl rfl) ?_
     refine Wl.on0 ?_
     refine Gm.one 10 ⟨rfl, rfl, rfl, rfl, rfl, rfl, rfl, rfl, rfl, trivial⟩ (by first | exact Imm.le_refl _ | assumption) (by kernel_rfl) rfl ?_
     refine Wl.call1 4 rfl T.fn54 rfl (c54 _ _ _ _ _ _ _ _ _ (by assumption) (by omega)) (tags_of ⟨rfl, rfl, rfl, rfl, trivial⟩) ?_
     refine Wl.on0 ?_
     refine Gm.one 11 ⟨rfl, rfl, rfl, rfl, rfl, rfl, rfl, rfl, rfl, trivial⟩ (by first | exact Imm.le_refl _ | assumption) (by kernel_rfl) rfl ?_
     refine Wl.lit (α := Int) 9 [(holder (Tab.held t) (Option.getD (Tab.held t)[Int.toNat (Option.getD (PV.outs p)[Int.toNat (↑k : Int)]? Inhabited.default)]? Inhabited.default))] rfl T.sl23 T.el3 rfl rfl rfl rfl rfl (fun b4 => ?_)
     refine Wl.on0 ?_
     refine Gm.one 12 ⟨rfl, rfl, rfl, rfl, rfl, rfl, rfl, rfl, rfl, trivial⟩ (by first | exact Imm.le_refl _ | assumption) (by kernel_rfl) rfl ?_
     refine Wl.append (α := Int) 1 rfl T.sl23 T.el3 rfl rfl rfl (by first | assumption | exact OwnA.nil | exact OwnA.made (by simp)) (Src.row 9 rfl) (by first | omega | (simp only [List.length_append, List.length_cons, List.length_nil, maxLen]; omega)) (by first | omega | (simp only [List.length_append, List.length_cons, List.length_nil, maxLen]; omega)) (fun a1 c1 junk1 ho1 => ?_)
     refine Wl.on0 ?_
     refine Gm.q 13 [] (by kernel_rfl) rfl rfl (Qy.fieldAddr T.fa25_3 rfl) (Gm.one 14 ⟨rfl, rfl, rfl, rfl, rfl, rfl, trivial⟩ (by first | exact Imm.le_refl _ | assumption) (by kernel_rfl) rfl ?_)
     refine Wl.store 8 T.one23 rfl rfl rfl rfl rfl ?_
     refine Wl.on0 ?_
     refine Gm.doneA (by kernel_rfl) ⟨rfl, rfl, rfl, rfl, rfl, trivial⟩ (by first | exact Imm.le_refl _ | assumption) ?_
     refine Ar.outNormal ?_
     refine Ar.next (Wc.region rfl (Wl.q rfl (Qy.add rfl rfl (by omega)) ?_))
     refine Wl.q rfl (Qy.move rfl) (Wl.done ?_)
     refine Ar.again ((k + 1, _, a1, c1, junk1)) ?_ ?_ rfl ⟨rfl, rfl, rfl, rfl, rfl, rfl, rfl, trivial⟩ ⟨rfl, rfl, rfl, rfl, rfl, rfl, rfl, rfl, rfl, trivial⟩
     · refine ⟨by omega, ?_, ho1⟩
       have hst : (passOuts p t.held).take (k + 1) = (passOuts p t.held).take k ++ [holder t.held (t.held[(p.outs[((k : Nat) : Int).toNat]?.getD default).toNat]?.getD default)] := by
        rw [List.take_add_one]
        simp [passOuts, hlt]
       rw [hst, hos]
     · show p.outs.length - (k + 1) < p.outs.length - k
       omega
   · refine Wc.seq (Wc.region rfl (Wl.q rfl (Qy.lss rfl rfl) (Wl.done (Ar.next (Wc.seq (Wc.condN rfl (by first | assumption | omega) ?_))))))
     refine Wc.exit (Ar.passExit ?_)
     refine Ar.passExit ?_
     refine Ar.here ?_
     refine Ar.next (Wc.seq (Wc.region rfl (Wl.q rfl (Qy.loadAll 8 T.agg25 rfl rfl rfl) ?_)))
     refine Wl.storeAll 3 T.size25 rfl rfl rfl rfl rfl rfl ?_
     refine Wl.q rfl (Qy.assign rfl) (Wl.done (Ar.next (Wc.ret ?_)))
     refine Ar.out2 (.inr rfl) (Ho := Hp.only _ [0, 1]) rfl (.agg 3 rfl rfl T.agg25) (.tmp rfl) (Hp.sub_only _ _) ?_
     have ht : t = (passTo p p.code.length).1 := congrArg Prod.fst hpass
     have hou : out = (passP p).code := congrArg Prod.snd hpass
     have hos' : os = (passP p).outs := by
      rw [hos, List.take_of_length_le (by simp [passOuts]; omega), ht]; rfl
     rw [hou] at hoa' ⊢
     rw [hos'] at hob ⊢
     exact ⟨a', b, c', d, junk', j, rfl, hoa', hob, rfl, rfl⟩
end Go.Proofs.YtbppmiimeccclaaDoor
namespace Go.Proofs.YtbppmiimeccclaaDoor
open Go Go.Sl
set_option maxRecDepth 100000
set_option maxHeartbeats 2000000
def Yes : Prop := True
instance : Decidable Yes := .isTrue trivial
theorem yes : Yes := trivial
end Go.Proofs.YtbppmiimeccclaaDoor
namespace Go.Proofs.YtbppmiimeccclaaDoor
open Go Go.Sl
set_option linter.unusedVariables false
theorem holder_some {l : List Int} {v : Int} (h : 0 ≤ holder l v) : holder l v < l.length ∧ l[(holder l v).toNat]?.getD default = v := by
 unfold holder at h ⊢
 cases hk : l.findIdx? (fun x => decide (x = v)) with
 | none => rw [hk] at h; simp at h
 | some k =>
   rw [List.findIdx?_eq_some_iff_getElem] at hk
   obtain ⟨h1, h2, _⟩ := hk
   simp only [decide_eq_true_eq] at h2
   refine ⟨by show (k : Int) < _; omega, ?_⟩
   show l[((k : Nat) : Int).toNat]?.getD default = v
   rw [Int.toNat_natCast, List.getElem?_eq_getElem h1]; exact h2
theorem holder_none {l : List Int} {v : Int} (h : ¬ 0 ≤ holder l v) : holder l v = -1 := by
 unfold holder at h ⊢
 cases hk : l.findIdx? (fun x => decide (x = v)) with
 | none => rfl
 | some k => rw [hk] at h; exact absurd (Int.natCast_nonneg k) h
theorem holder_mem {l : List Int} {v : Int} (h : v ∈ l) : 0 ≤ holder l v := by
 unfold holder
 cases hk : l.findIdx? (fun x => decide (x = v)) with
 | none => rw [List.findIdx?_eq_none_iff] at hk; have := hk v h; simp at this
 | some k => exact Int.natCast_nonneg k
theorem holder_lt {l : List Int} {v n : Int} (hl : ∀ x ∈ l, x < n) (h : n ≤ v) : holder l v = -1 := by
 refine holder_none fun hh => ?_
 obtain ⟨h1, h2⟩ := holder_some hh
 have hm : v ∈ l := by
  have hlt : (holder l v).toNat < l.length := by omega
  rw [List.getElem?_eq_getElem hlt, Option.getD_some] at h2
  rw [← h2]; exact List.getElem_mem hlt
 have := hl v hm; omega
theorem get_mem {l : List Int} {r : Int} (h : 0 ≤ r ∧ r < l.length) : l[r.toNat]?.getD default ∈ l := by
 have hlt : r.toNat < l.length := by omega
 rw [List.getElem?_eq_getElem hlt]; exact List.getElem_mem hlt
theorem holder_get {l : List Int} {r : Int} (h : 0 ≤ r ∧ r < l.length) : 0 ≤ holder l (l[r.toNat]?.getD default) ∧ holder l (l[r.toNat]?.getD default) < l.length ∧
 l[(holder l (l[r.toNat]?.getD default)).toNat]?.getD default = l[r.toNat]?.getD default := by
 have h0 := holder_mem (get_mem h)
 exact ⟨h0, holder_some h0⟩
def Alike (t u : Tab) : Prop := t.held = u.held ∧ t.known = u.known ∧ t.next = u.next
structure Sound (t : Tab) (regs : Int) : Prop where
 len : (t.held.length : Int) = regs
 held : ∀ x ∈ t.held, x < t.next
 known : ∀ k v, mget t.known k = some v → v < t.next
theorem asked_key {l : List Int} {i : Sl.Instr} (h : mayOk i l.length = true) : keyOf l (askedP l i) = keyOf l i ∧ askedP l (askedP l i) = askedP l i ∧ mayOk (askedP l i) l.length = true := by
 have h' := h
 rw [mayOk_iff] at h
 obtain ⟨⟨h1, h2, h3, h4, h5, h6⟩, hb⟩ := h
 obtain ⟨a1, a2, a3⟩ := holder_get (l := l) (r := i.a) ⟨h5, h6⟩
 by_cases ht : i.op = 3 ∨ i.op = 4
 · rw [if_pos ht] at hb
   obtain ⟨b1, b2, b3⟩ := holder_get (l := l) (r := i.b) ⟨hb.1, hb.2.1⟩
   have e : askedP l i = ⟨i.op, i.to, holder l (l[i.a.toNat]?.getD default), holder l (l[i.b.toNat]?.getD default), i.c⟩ := by unfold askedP; rw [if_pos ht]
   refine ⟨?_, ?_, ?_⟩
   · rw [e]; unfold keyOf; simp only [a3, b3]
   · rw [e]; unfold askedP; simp only [a3, b3, if_pos ht]
   · rw [e, mayOk_iff, if_pos ht]; exact ⟨⟨h1, h2, h3, h4, a1, a2⟩, b1, b2, hb.2.2⟩
 · rw [if_neg ht] at hb
   have e : askedP l i = ⟨i.op, i.to, holder l (l[i.a.toNat]?.getD default), i.b, i.c⟩ := by unfold askedP; rw [if_neg ht]
   refine ⟨?_, ?_, ?_⟩
   · rw [e]; unfold keyOf; simp only [a3, if_neg ht]
   · rw [e]; unfold askedP; simp only [a3, if_neg ht]
   · rw [e, mayOk_iff, if_neg ht]; exact ⟨⟨h1, h2, h3, h4, a1, a2⟩, hb⟩
def passL : Tab × List Sl.Instr → Nat → List Sl.Instr → Tab × List Sl.Instr
 | s, _, [] => s
 | s, n, i :: l => passL (passStep s n i) (n + 1) l
theorem passL_append (s : Tab × List Sl.Instr) (n : Nat) (l m : List Sl.Instr) : passL s n (l ++ m) = passL (passL s n l) (n + l.length) m := by
 induction l generalizing s n with
 | nil => rfl
 | cons i l ih => show passL (passStep s n i) (n + 1) (l ++ m) = _; rw [ih, List.length_cons, show n + 1 + l.length = n + (l.length + 1) by omega]; rfl
theorem passTo_eq (p : PV) : ∀ k, k ≤ p.code.length → passTo p k = passL (⟨start p, [], [], p.ins + 1⟩, []) 0 (p.code.take k)
 | 0, _ => rfl
 | k + 1, h => by
   have hk : k < p.code.length := by omega
   show passStep (passTo p k) k (p.code[((k : Nat) : Int).toNat]?.getD default) = _
   rw [passTo_eq p k (by omega), List.take_add_one, Int.toNat_natCast, List.getElem?_eq_getElem hk, passL_append, List.length_take, Nat.min_eq_left (by omega), Nat.zero_add]
   rfl
theorem reckon_alike {t u : Tab} (h : Alike t u) (n m : Int) {i j : Sl.Instr} (ho : i.op = j.op) (ha : t.held[i.a.toNat]?.getD default = t.held[j.a.toNat]?.getD default) (hk : keyOf t.held i = keyOf t.held j) :
 (reckonP u m j).1.1 = (reckonP t n i).1.1 ∧ Alike (reckonP t n i).2 (reckonP u m j).2 := by
 obtain ⟨h1, h2, h3⟩ := h
 unfold reckonP
 rw [← h1, ← h2, ← h3, ← hk, ← ho, ← ha]
 split
 · exact ⟨rfl, h1, h2, h3⟩
 · split
   · exact ⟨rfl, rfl, rfl, rfl⟩
   · exact ⟨rfl, h1, h2, h3⟩
theorem reckon_sound {t : Tab} {regs : Int} (h : Sound t regs) (n : Int) (i : Sl.Instr) (ha : 0 ≤ i.a ∧ i.a < regs) : Sound (reckonP t n i).2 regs ∧ (reckonP t n i).1.1 < (reckonP t n i).2.next := by
 unfold reckonP
 split
 · exact ⟨h, h.held _ (get_mem (by rw [h.len]; exact ha))⟩
 · split
   · rename_i hk
     refine ⟨⟨h.len, fun x hx => ?_, fun k v hv => ?_⟩, ?_⟩
     · have := h.held x hx; show x < t.next + 1; omega
     · show v < t.next + 1
       have hv' : mget (t.known ++ [(keyOf t.held i, t.next)]) k = some v := hv
       rw [← mput_none _ _ _ hk, mget_mput] at hv'
       split at hv'
       · cases hv'; omega
       · have := h.known k v hv'; omega
     · show t.next < t.next + 1; omega
   · rename_i v hk
     exact ⟨h, h.known _ _ hk⟩
theorem reckon_keep (t : Tab) (n : Int) (i : Sl.Instr) : (reckonP t n i).2 = t ∨ (reckonP t n i).1.1 = t.next := by
 unfold reckonP
 split
 · exact .inl rfl
 · split
   · exact .inr rfl
   · exact .inl rfl
theorem set_len {l : List Int} {k : Nat} {v regs : Int} (h : (l.length : Int) = regs) : ((l.set k v).length : Int) = regs := by rw [List.length_set]; exact h
theorem step_again {t u : Tab} {regs : Int} {i : Sl.Instr} (n m : Int) (o o' : List Sl.Instr) (hs : Sound t regs) (hm : mayOk i regs = true) (ha : Alike t u) :
 Sound (passStep (t, o) n i).1 regs ∧
 (((passStep (t, o) n i).2 = o ∧ Alike (passStep (t, o) n i).1 u) ∨
   ∃ j, (passStep (t, o) n i).2 = o ++ [j] ∧ mayOk j regs = true ∧ (passStep (u, o') m j).2 = o' ++ [j] ∧ Alike (passStep (t, o) n i).1 (passStep (u, o') m j).1) := by
 have hm' := hm
 rw [mayOk_iff] at hm'
 obtain ⟨⟨m1, m2, m3, m4, m5, m6⟩, mb⟩ := hm'
 obtain ⟨s1, s2⟩ := reckon_sound hs n i ⟨m5, m6⟩
 have hh := reckon_held t n i
 have hto : (askedP (reckonP t n i).2.held i).to = i.to := rfl
 by_cases hsame : (reckonP t n i).2.held[(askedP (reckonP t n i).2.held i).to.toNat]?.getD default = (reckonP t n i).1.1
 · rw [passStep_same hsame]
   refine ⟨s1, .inl ⟨rfl, ?_⟩⟩
   rcases reckon_keep t n i with hk | hk
   · rw [show ((reckonP t n i).2, o).1 = t from hk]; exact ha
   · exfalso
     rw [hk, hh] at hsame
     replace hsame : t.held[i.to.toNat]?.getD default = t.next := hsame
     have := hs.held _ (get_mem (l := t.held) (r := i.to) (by rw [hs.len]; exact ⟨m3, m4⟩))
     rw [hsame] at this; omega
 · have hset : ∀ k : Nat, Sound { (reckonP t n i).2 with held := (reckonP t n i).2.held.set k (reckonP t n i).1.1 } regs := fun k =>
    ⟨set_len s1.len, fun x hx => by
     rcases List.mem_or_eq_of_mem_set hx with h | h
     · exact s1.held x h
     · rw [h]; exact s2, s1.known⟩
   have hl' : mayOk i t.held.length = true := by rw [hs.len]; exact hm
   by_cases hmv : 0 ≤ holder (reckonP t n i).2.held (reckonP t n i).1.1
   · rw [passStep_move hsame hmv]
     refine ⟨hset _, .inr ⟨_, rfl, ?_, ?_⟩⟩
     · have h1 := (holder_some hmv).1
       rw [mayOk_iff]
       refine ⟨⟨Int.le_refl 1, by show (1 : Int) ≤ 8; decide, m3, m4, hmv, ?_⟩, ?_⟩
       · rw [← s1.len]; exact h1
       · have n1 : ¬ ((1 : Int) = 3 ∨ (1 : Int) = 4) := by decide
         have n2 : ¬ ((1 : Int) = 5 ∨ (1 : Int) = 6) := by decide
         have n3 : ¬ ((1 : Int) = 7 ∨ (1 : Int) = 8) := by decide
         rw [if_neg n1]
         refine ⟨rfl, ?_⟩
         rw [if_neg n2, if_neg n3]
     · -- nothing new was reckoned
       have hk : (reckonP t n i).2 = t := by
        rcases reckon_keep t n i with hk | hk
        · exact hk
        · exfalso
          rw [hk, hh, holder_lt hs.held (Int.le_refl _)] at hmv
          exact absurd hmv (by decide)
       obtain ⟨ha1, ha2, ha3⟩ := ha
       rw [hk] at hmv hsame ⊢
       generalize hv : (reckonP t n i).1.1 = v at *
       replace hsame : ¬ t.held[i.to.toNat]?.getD default = v := hsame
       have hto2 : (askedP t.held i).to = i.to := rfl
       rw [hto2]
       have hrs := (holder_some hmv).2
       generalize hj : (⟨1, i.to, holder t.held v, 0, 0⟩ : Sl.Instr) = j
       have hj1 : j.op = 1 := by rw [← hj]
       have hj2 : j.to = i.to := by rw [← hj]
       have hj3 : j.a = holder t.held v := by rw [← hj]
       have r1 : reckonP u m j = ((v, -1), u) := by unfold reckonP; rw [if_pos hj1, ← ha1, hj3, hrs]
       have hj4 : (askedP (reckonP u m j).2.held j).to = i.to := hj2
       have d1 : ¬ (reckonP u m j).2.held[(askedP (reckonP u m j).2.held j).to.toNat]?.getD default = (reckonP u m j).1.1 := by rw [hj4, r1]; show ¬ u.held[_]?.getD default = v; rw [← ha1]; exact hsame
       have d2 : 0 ≤ holder (reckonP u m j).2.held (reckonP u m j).1.1 := by rw [r1]; show 0 ≤ holder u.held v; rw [← ha1]; exact hmv
       rw [passStep_move d1 d2, hj4, r1]
       refine ⟨?_, ?_, ha2, ha3⟩
       · show _ ++ [(⟨1, i.to, holder u.held v, 0, 0⟩ : Sl.Instr)] = _
         rw [← ha1, hj]
       · show t.held.set i.to.toNat v = u.held.set i.to.toNat v; rw [ha1]
   · rw [passStep_keep hsame hmv]
     rw [hh] at hsame hmv ⊢
     obtain ⟨k1, k2, k3⟩ := asked_key hl'
     rw [hs.len] at k3
     have hA : t.held[(askedP t.held i).a.toNat]?.getD default = t.held[i.a.toNat]?.getD default := (holder_get (l := t.held) (r := i.a) (by rw [hs.len]; exact ⟨m5, m6⟩)).2.2
     obtain ⟨e1, e2⟩ := reckon_alike ha n m (i := i) (j := askedP t.held i) rfl hA.symm k1.symm
     have hu := reckon_held u m (askedP t.held i)
     have d1 : ¬ (reckonP u m (askedP t.held i)).2.held[(askedP (reckonP u m (askedP t.held i)).2.held (askedP t.held i)).to.toNat]?.getD default = (reckonP u m (askedP t.held i)).1.1 := by
      rw [e1, hu, ← ha.1, k2]; exact hsame
     have d2 : ¬ 0 ≤ holder (reckonP u m (askedP t.held i)).2.held (reckonP u m (askedP t.held i)).1.1 := by rw [e1, hu, ← ha.1]; exact hmv
     refine ⟨by have := hset (askedP t.held i).to.toNat; rw [hh] at this; exact this, .inr ⟨_, rfl, k3, ?_⟩⟩
     rw [passStep_keep d1 d2]
     rw [e1, hu, ← ha.1, k2]
     exact ⟨rfl, rfl, e2.2.1, e2.2.2⟩
theorem pass_again {regs : Int} : ∀ (l : List Sl.Instr) (t u : Tab) (o o' : List Sl.Instr) (n m : Nat), Sound t regs → Alike t u → (∀ i ∈ l, mayOk i regs = true) →
 ∃ new, (passL (t, o) n l).2 = o ++ new ∧ new.length ≤ l.length ∧ (∀ i ∈ new, mayOk i regs = true) ∧ Sound (passL (t, o) n l).1 regs ∧ (passL (u, o') m new).2 = o' ++ new ∧ Alike (passL (t, o) n l).1 (passL (u, o') m new).1
 | [], t, u, o, o', n, m, hs, ha, _ => ⟨[], by simp [passL], Nat.le_refl _, by simp, hs, by simp [passL], ha⟩
 | i :: l, t, u, o, o', n, m, hs, ha, hm => by
   obtain ⟨s1, h⟩ := step_again (n : Int) (m : Int) o o' hs (hm i (by simp)) ha
   rcases h with ⟨h1, h2⟩ | ⟨j, h1, h2, h3, h4⟩
   · obtain ⟨new, q1, q2, q3, q4, q5, q6⟩ := pass_again l (passStep (t, o) n i).1 u o o' (n + 1) m s1 h2 (fun x hx => hm x (by simp [hx]))
     have e : passStep (t, o) n i = ((passStep (t, o) n i).1, o) := Prod.ext rfl h1
     refine ⟨new, ?_, by rw [List.length_cons]; omega, q3, ?_, q5, ?_⟩
     · show (passL (passStep (t, o) n i) (n + 1) l).2 = _; rw [e]; exact q1
     · show Sound (passL (passStep (t, o) n i) (n + 1) l).1 regs; rw [e]; exact q4
     · show Alike (passL (passStep (t, o) n i) (n + 1) l).1 _; rw [e]; exact q6
   · obtain ⟨new, q1, q2, q3, q4, q5, q6⟩ := pass_again l (passStep (t, o) n i).1 (passStep (u, o') m j).1 (o ++ [j]) (o' ++ [j]) (n + 1) (m + 1) s1 h4 (fun x hx => hm x (by simp [hx]))
     have e : passStep (t, o) n i = ((passStep (t, o) n i).1, o ++ [j]) := Prod.ext rfl h1
     have e' : passStep (u, o') m j = ((passStep (u, o') m j).1, o' ++ [j]) := Prod.ext rfl h3
     refine ⟨j :: new, ?_, by rw [List.length_cons, List.length_cons]; omega, ?_, ?_, ?_, ?_⟩
     · show (passL (passStep (t, o) n i) (n + 1) l).2 = _; rw [e, q1]; simp
     · intro x hx
       rcases List.mem_cons.1 hx with rfl | hx
       · exact h2
       · exact q3 x hx
     · show Sound (passL (passStep (t, o) n i) (n + 1) l).1 regs; rw [e]; exact q4
     · show (passL (passStep (u, o') m j) (m + 1) new).2 = _; rw [e', q5]; simp
     · show Alike (passL (passStep (t, o) n i) (n + 1) l).1 (passL (passStep (u, o') m j) (m + 1) new).1; rw [e, e']; exact q6
theorem start_sound {p : PV} (h : 1 ≤ p.ins ∧ p.ins ≤ p.regs) : Sound ⟨start p, [], [], p.ins + 1⟩ p.regs := by
 refine ⟨?_, fun x hx => ?_, fun k v hv => by simp [mget] at hv⟩
 · show ((start p).length : Int) = _; simp [start]; omega
 · simp only [start, List.mem_map, List.mem_range] at hx
   obtain ⟨r, _, rfl⟩ := hx
   show _ < p.ins + 1
   split <;> omega
theorem pass_facts {p : PV} (h : rightP p = true) : ((passP p).code.length ≤ p.code.length) ∧ (∀ i ∈ (passP p).code, mayOk i p.regs = true) ∧ Sound (passTo p p.code.length).1 p.regs ∧
 (passTo (passP p) (passP p).code.length).2 = (passP p).code ∧ (passTo (passP p) (passP p).code.length).1.held = (passTo p p.code.length).1.held := by
 obtain ⟨r1, r2, r3, r4, r5, r6, r7, r8⟩ := right_facts h
 have hs := start_sound (p := p) ⟨r1, r2⟩
 obtain ⟨new, q1, q2, q3, q4, q5, q6⟩ := pass_again p.code ⟨start p, [], [], p.ins + 1⟩ ⟨start p, [], [], p.ins + 1⟩ [] [] 0 0 hs ⟨rfl, rfl, rfl⟩ r8
 have e := passTo_eq p p.code.length (Nat.le_refl _)
 rw [List.take_length] at e
 have hc : (passP p).code = new := by show (passTo p p.code.length).2 = new; rw [e, q1]; rfl
 have e2 := passTo_eq (passP p) (passP p).code.length (Nat.le_refl _)
 rw [List.take_length] at e2
 have hst : start (passP p) = start p := rfl
 rw [hst] at e2
 have hin : (passP p).ins = p.ins := rfl
 rw [hin] at e2
 refine ⟨by rw [hc]; exact q2, by rw [hc]; exact q3, by rw [e]; exact q4, ?_, ?_⟩
 · rw [e2, hc, q5]; rfl
 · rw [e2, hc, e]; exact q6.1.symm
theorem pass_idem {p : PV} (h : rightP p = true) : rightP (passP p) = true ∧ passP (passP p) = passP p := by
 obtain ⟨r1, r2, r3, r4, r5, r6, r7, r8⟩ := right_facts h
 obtain ⟨f1, f2, f3, f4, f5⟩ := pass_facts h
 have hol : ∀ r ∈ p.outs, 0 ≤ r ∧ r < (passTo p p.code.length).1.held.length := fun r hr => by rw [f3.len]; exact r7 r hr
 have hmem : ∀ r ∈ (passP p).outs, 0 ≤ r ∧ r < p.regs := by
  intro r hr
  obtain ⟨x, hx, rfl⟩ := List.mem_map.1 hr
  have := holder_get (hol x hx)
  rw [f3.len] at this
  exact ⟨this.1, this.2.1⟩
 have hlen : (passP p).outs.length = p.outs.length := by simp [passP, passOuts]
 constructor
 · have h1 : headOk (passP p) = true := by
    unfold headOk
    rw [Bool.and_eq_true, decide_eq_true_eq, List.all_eq_true]
    refine ⟨⟨r1, r2, r3, by omega, by rw [hlen]; exact r5, by rw [hlen]; exact r6⟩, fun r hr => ?_⟩
    rw [decide_eq_true_eq]; exact hmem r hr
   have h2 : badAt (passP p) = none := by
    unfold badAt
    rw [List.findIdx?_eq_none_iff]
    intro i hi
    have := f2 i hi
    show (!mayOk i p.regs) = false
    rw [this]; rfl
   unfold rightP checkP
   rw [if_neg (by rw [h1]; decide), h2]; rfl
 · have ho : passOuts (passP p) (passTo (passP p) (passP p).code.length).1.held = (passP p).outs := by
    rw [f5]
    show (passOuts p _).map _ = passOuts p _
    unfold passOuts
    rw [List.map_map]
    refine List.map_congr_left fun r hr => ?_
    show holder _ (_[(holder _ _).toNat]?.getD default) = _
    rw [(holder_get (hol r hr)).2.2]
   show (⟨(passP p).ins, (passP p).regs, (passTo (passP p) (passP p).code.length).2, passOuts (passP p) (passTo (passP p) (passP p).code.length).1.held⟩ : PV) = passP p
   rw [f4, ho]
end Go.Proofs.YtbppmiimeccclaaDoor
set_option linter.unusedVariables false
namespace Go.Proofs.YtbppmiimeccclaaDoor
open Go Go.Sl
def p2 (n : Nat) : Int := ((2 ^ n : Nat) : Int)
theorem p2_zero : p2 0 = 1 := rfl
theorem p2_succ (n : Nat) : p2 (n + 1) = 2 * p2 n := by unfold p2; rw [Nat.pow_succ, Nat.mul_comm, Int.natCast_mul]; rfl
theorem p2_pos (n : Nat) : 0 < p2 n := by unfold p2; exact Int.ofNat_lt.2 (Nat.pow_pos (by decide))
theorem p2_add (m n : Nat) : p2 (m + n) = p2 m * p2 n := by unfold p2; rw [Nat.pow_add, Int.natCast_mul]
theorem p2_le {m n : Nat} (h : m ≤ n) : p2 m ≤ p2 n := by unfold p2; exact Int.ofNat_le.2 (Nat.pow_le_pow_right (by decide) h)
theorem p2_lt_iff {a b : Nat} (h : p2 a < p2 b) : a < b := by
 rcases Nat.lt_or_ge a b with h1 | h1
 · exact h1
 · have := p2_le h1; omega
def cst (i : Sl.Instr) : Int := if i.op = 5 ∨ i.op = 6 then i.c else p2 i.c.toNat
theorem cst_c {i : Sl.Instr} (h : i.op = 5 ∨ i.op = 6) : cst i = i.c := if_pos h
theorem cst_p {i : Sl.Instr} (h : ¬ (i.op = 5 ∨ i.op = 6)) : cst i = p2 i.c.toNat := if_neg h
end Go.Proofs.YtbppmiimeccclaaDoor
set_option linter.unusedVariables false
namespace Go.Proofs.YtbppmiimeccclaaDoor
open Go Go.Sl
theorem pw_p2 (n : Nat) : pw n = p2 (16 * n) := by unfold pw p2; rw [Nat.pow_mul]
theorem p2_16 : p2 16 = 65536 := by unfold p2; decide
def AllDiv (y : Int) (xs : List Int) : Prop := ∀ i : Nat, i < xs.length → xs[i]?.getD 0 % y = 0
instance (y : Int) (xs : List Int) : Decidable (AllDiv y xs) := by unfold AllDiv; infer_instance
def doI (i : Sl.Instr) (rs : List (List Int)) : Option (List Int) :=
 let a := rs[i.a.toNat]?.getD []
 if i.op = 2 then some (a.map (fun x => -1 * x))
 else if i.op = 3 then some (List.zipWith (fun x y => x + 1 * y) a (rs[i.b.toNat]?.getD []))
 else if i.op = 4 then some (List.zipWith (fun x y => x + (-1) * y) a (rs[i.b.toNat]?.getD []))
 else if i.op = 5 ∨ i.op = 7 then some (a.map (fun x => cst i * x))
 else if i.op = 6 ∨ i.op = 8 then (if AllDiv (cst i) a then some (a.map (· / cst i)) else none)
 else some a
def regs0 (p : PV) (gs : List (List Int)) : List (List Int) := (List.range p.regs.toNat).map fun k => if k < gs.length then gs[k]?.getD [] else List.replicate (gs[0]?.getD []).length 0
def runTo (p : PV) (gs : List (List Int)) : Nat → Option (List (List Int))
 | 0 => some (regs0 p gs)
 | k + 1 => (runTo p gs k).bind fun rs => (doI (p.code[((k : Nat) : Int).toNat]?.getD default) rs).map fun x => rs.set (p.code[((k : Nat) : Int).toNat]?.getD default).to.toNat x
def outsOf (p : PV) (rs : List (List Int)) : List (List Int) := p.outs.map fun r => rs[r.toNat]?.getD []
def followP (p : PV) (gs : List (List Int)) : Option (List (List Int)) := (runTo p gs p.code.length).map (outsOf p)
theorem runTo_succ {p : PV} {gs : List (List Int)} {k : Nat} {rs x : List (List Int)} {y : List Int} (h : runTo p gs k = some rs) (hd : doI (p.code[((k : Nat) : Int).toNat]?.getD default) rs = some y) :
 runTo p gs (k + 1) = some (rs.set (p.code[((k : Nat) : Int).toNat]?.getD default).to.toNat y) := by
 unfold runTo; rw [h]; simp only [Option.bind_some, hd, Option.map_some]
theorem runTo_none {p : PV} {gs : List (List Int)} {k : Nat} (h : runTo p gs k = none) (j : Nat) : runTo p gs (k + j) = none := by
 induction j with
 | zero => exact h
 | succ j ih => rw [← Nat.add_assoc]; unfold runTo; rw [ih]; rfl
theorem runTo_stop {p : PV} {gs : List (List Int)} {k : Nat} {rs : List (List Int)} (h : runTo p gs k = some rs) (hd : doI (p.code[((k : Nat) : Int).toNat]?.getD default) rs = none) (hk : k < p.code.length) : followP p gs = none := by
 have h1 : runTo p gs (k + 1) = none := by unfold runTo; rw [h]; simp only [Option.bind_some, hd, Option.map_none]
 have h2 := runTo_none h1 (p.code.length - (k + 1))
 rw [show k + 1 + (p.code.length - (k + 1)) = p.code.length by omega] at h2
 unfold followP; rw [h2]; rfl
theorem p2_64_lt : ∀ c : Nat, c ≤ 64 → ((p2 c).natAbs : Int) < pw 5 := fun c hc => by
 have h1 := p2_le hc
 have h2 := p2_pos c
 have h3 : p2 64 < pw 5 := by unfold p2 pw; decide
 omega
theorem may_facts {i : Sl.Instr} {regs : Int} (h : mayOk i regs = true) : (1 ≤ i.op ∧ i.op ≤ 8) ∧ (0 ≤ i.to ∧ i.to < regs) ∧ (0 ≤ i.a ∧ i.a < regs) ∧ (i.op = 3 ∨ i.op = 4 → 0 ≤ i.b ∧ i.b < regs) ∧ constOk i.op i.c = true ∧
 (i.op ≠ 1 → i.op ≠ 2 → i.op ≠ 3 → i.op ≠ 4 → cst i ≠ 0 ∧ ((cst i).natAbs : Int) < pw 5) ∧ (i.op = 5 ∨ i.op = 6 → -9223372036854775808 ≤ i.c ∧ i.c ≤ 9223372036854775807) ∧ (¬ (i.op = 5 ∨ i.op = 6) → 0 ≤ i.c ∧ i.c ≤ 64) := by
 unfold mayOk at h
 rw [Bool.and_eq_true, Bool.and_eq_true, decide_eq_true_eq, List.all_eq_true] at h
 obtain ⟨⟨⟨g1, g2, g3, g4, g5⟩, g6⟩, g7⟩ := h
 have hA : ∀ r ∈ asks i, 0 ≤ r ∧ r < regs := fun r hr => by have := g7 r hr; rwa [decide_eq_true_eq] at this
 have ha : i.a ∈ asks i := by
  unfold asks
  split
  · exact List.mem_cons_self
  · rw [if_pos ⟨g1, g2⟩]; exact List.mem_cons_self
 have hc := g6
 unfold constOk at g6
 have k1 : i.op = 5 ∨ i.op = 6 → i.c ≠ 0 ∧ -512 ≤ i.c ∧ i.c ≤ 512 := fun h => by rw [if_pos h, decide_eq_true_eq] at g6; exact g6
 have k2 : ¬ (i.op = 5 ∨ i.op = 6) → (i.op = 7 ∨ i.op = 8 → 1 ≤ i.c ∧ i.c ≤ 64) ∧ (¬ (i.op = 7 ∨ i.op = 8) → i.c = 0) := fun h => by
  rw [if_neg h] at g6
  refine ⟨fun h2 => ?_, fun h2 => ?_⟩
  · rw [if_pos h2, decide_eq_true_eq] at g6; exact g6
  · rw [if_neg h2, decide_eq_true_eq] at g6; exact g6
 refine ⟨⟨g1, g2⟩, ⟨g3, g4⟩, hA _ ha, fun h34 => hA _ (by unfold asks; rw [if_pos h34]; exact List.mem_cons_of_mem _ List.mem_cons_self), hc, fun n1 n2 n3 n4 => ?_, fun h56 => by have := k1 h56; omega, fun h56 => ?_⟩
 · by_cases h56 : i.op = 5 ∨ i.op = 6
   · rw [cst_c h56]
     have := k1 h56
     have h3 : (65536 : Int) < pw 5 := by unfold pw; decide
     exact ⟨this.1, by omega⟩
   · rw [cst_p h56]
     have h2 := (k2 h56).1 (by omega)
     have := p2_pos i.c.toNat
     exact ⟨by omega, p2_64_lt _ (by omega)⟩
 · by_cases h78 : i.op = 7 ∨ i.op = 8
   · have := (k2 h56).1 h78; omega
   · have := (k2 h56).2 h78; omega
theorem regs0_len (p : PV) (gs : List (List Int)) : (regs0 p gs).length = p.regs.toNat := by unfold regs0; rw [List.length_map, List.length_range]
theorem regs0_at {p : PV} {gs : List (List Int)} {k : Nat} (hk : k < p.regs.toNat) : (regs0 p gs)[k]?.getD [] = if k < gs.length then gs[k]?.getD [] else List.replicate (gs[0]?.getD []).length 0 := by
 unfold regs0
 rw [List.getElem?_map, List.getElem?_range hk]; rfl
end Go.Proofs.YtbppmiimeccclaaDoor
set_option linter.unusedVariables false
namespace Go.Proofs.YtbppmiimeccclaaDoor
open Go Go.Sl
def doV (op c : Int) (a b : List Int) : Option (List Int) := doI ⟨op, 0, 0, 1, c⟩ [a, b]
theorem doI_doV (i : Sl.Instr) (rs : List (List Int)) : doI i rs = doV i.op i.c (rs[i.a.toNat]?.getD []) (rs[i.b.toNat]?.getD []) := rfl
theorem zip_comm (a b : List Int) : List.zipWith (fun x y => x + 1 * y) a b = List.zipWith (fun x y => x + 1 * y) b a := by
 rw [List.zipWith_comm]
 congr 1
 funext x y
 omega
theorem doV_comm (c : Int) (a b : List Int) : doV 3 c a b = doV 3 c b a := by
 show some (List.zipWith (fun x y => x + 1 * y) a b) = some (List.zipWith (fun x y => x + 1 * y) b a)
 rw [zip_comm]
theorem doV_one {op : Int} (h : ¬ (op = 3 ∨ op = 4)) (c : Int) (a b b' : List Int) : doV op c a b = doV op c a b' := by
 have h3 : ¬ op = 3 := fun e => h (.inl e)
 have h4 : ¬ op = 4 := fun e => h (.inr e)
 unfold doV doI
 simp only [h3, h4, if_false]
 rfl
def evalK (E : Int → List Int) (k : K4) : Option (List Int) := doV k.op k.c (E k.a) (E k.b)
theorem evalK_key {E : Int → List Int} {held : List Int} {rs : List (List Int)} {regs : Int} {i : Sl.Instr} (hm : mayOk i regs = true) (hv : ∀ r : Int, 0 ≤ r ∧ r < regs → rs[r.toNat]?.getD [] = E (held[r.toNat]?.getD default)) :
 evalK E (keyOf held i) = doI i rs := by
 obtain ⟨m1, m2, m3, m4, m5, m6, m7, m8⟩ := may_facts hm
 rw [doI_doV, hv _ m3]
 unfold keyOf
 by_cases h34 : i.op = 3 ∨ i.op = 4
 · rw [hv _ (m4 h34)]
   simp only [if_pos h34]
   split
   · rename_i hsw
     unfold evalK
     simp only
     rw [hsw.1]
     exact doV_comm _ _ _
   · rfl
 · simp only [if_neg h34]
   exact doV_one h34 _ _ _ _
def runL : List Sl.Instr → List (List Int) → Option (List (List Int))
 | [], rs => some rs
 | i :: l, rs => (doI i rs).bind fun x => runL l (rs.set i.to.toNat x)
theorem runL_append (l m : List Sl.Instr) (rs : List (List Int)) : runL (l ++ m) rs = (runL l rs).bind (runL m) := by
 induction l generalizing rs with
 | nil => rfl
 | cons i l ih =>
   show (doI i rs).bind (fun x => runL (l ++ m) (rs.set i.to.toNat x)) = _
   show _ = ((doI i rs).bind fun x => runL l (rs.set i.to.toNat x)).bind (runL m)
   cases doI i rs with
   | none => rfl
   | some x => exact ih _
theorem runL_snoc {l : List Sl.Instr} {i : Sl.Instr} {rs : List (List Int)} : runL (l ++ [i]) rs = (runL l rs).bind fun r => (doI i r).map fun x => r.set i.to.toNat x := by
 rw [runL_append]
 congr 1
 funext r
 show (doI i r).bind (fun x => runL [] (r.set i.to.toNat x)) = _
 cases doI i r <;> rfl
theorem runTo_runL (p : PV) (gs : List (List Int)) : ∀ k, k ≤ p.code.length → runTo p gs k = runL (p.code.take k) (regs0 p gs)
 | 0, _ => by rw [List.take_zero]; rfl
 | k + 1, h => by
   have hk : k < p.code.length := by omega
   have e : p.code.take (k + 1) = p.code.take k ++ [p.code[((k : Nat) : Int).toNat]?.getD default] := by
    rw [List.take_succ_eq_append_getElem hk, Int.toNat_natCast, List.getElem?_eq_getElem hk]; rfl
   rw [e, runL_snoc, ← runTo_runL p gs k (by omega)]
   rfl
end Go.Proofs.YtbppmiimeccclaaDoor
set_option linter.unusedVariables false
namespace Go.Proofs.YtbppmiimeccclaaDoor
open Go Go.Sl
structure Val (t : Tab) (rs : List (List Int)) (E : Int → List Int) (regs : Int) : Prop where
 len : (rs.length : Int) = regs
 reg : ∀ r : Int, 0 ≤ r ∧ r < regs → rs[r.toNat]?.getD [] = E (t.held[r.toNat]?.getD default)
 key : ∀ k v, mget t.known k = some v → evalK E k = some (E v)
 old : ∀ k v, mget t.known k = some v → k.a < t.next ∧ k.b < t.next
 pos : 0 ≤ t.next
theorem key_old {t : Tab} {regs : Int} {i : Sl.Instr} (hs : Sound t regs) (hp : 0 ≤ t.next) (hm : mayOk i regs = true) : (keyOf t.held i).a < t.next ∧ (keyOf t.held i).b < t.next := by
 obtain ⟨m1, m2, m3, m4, m5, m6, m7, m8⟩ := may_facts hm
 have hl := hs.len
 have ha := hs.held _ (get_mem (l := t.held) (r := i.a) (by omega))
 unfold keyOf
 by_cases h34 : i.op = 3 ∨ i.op = 4
 · have hb := hs.held _ (get_mem (l := t.held) (r := i.b) (by have := m4 h34; omega))
   simp only [if_pos h34]
   split
   · exact ⟨hb, ha⟩
   · exact ⟨ha, hb⟩
 · simp only [if_neg h34]
   exact ⟨ha, by show (-1 : Int) < _; omega⟩
theorem doI_asked {t : Tab} {rs : List (List Int)} {E : Int → List Int} {regs : Int} {i : Sl.Instr} (hs : Sound t regs) (hv : Val t rs E regs) (hm : mayOk i regs = true) : doI (askedP t.held i) rs = doI i rs := by
 obtain ⟨m1, m2, m3, m4, m5, m6, m7, m8⟩ := may_facts hm
 have hl := hs.len
 obtain ⟨a1, a2, a3⟩ := holder_get (l := t.held) (r := i.a) (by omega)
 have ea : rs[(holder t.held (t.held[i.a.toNat]?.getD default)).toNat]?.getD [] = rs[i.a.toNat]?.getD [] := by
  rw [hv.reg _ ⟨a1, by omega⟩, hv.reg _ m3, a3]
 rw [doI_doV, doI_doV i]
 unfold askedP
 simp only
 rw [ea]
 by_cases h34 : i.op = 3 ∨ i.op = 4
 · obtain ⟨b1, b2, b3⟩ := holder_get (l := t.held) (r := i.b) (by have := m4 h34; omega)
   have eb : rs[(holder t.held (t.held[i.b.toNat]?.getD default)).toNat]?.getD [] = rs[i.b.toNat]?.getD [] := by
    rw [hv.reg _ ⟨b1, by omega⟩, hv.reg _ (m4 h34), b3]
   rw [if_pos h34, eb]
 · exact doV_one h34 _ _ _ _
theorem reckon_val {t : Tab} {rs : List (List Int)} {E : Int → List Int} {regs n : Int} {i : Sl.Instr} {x : List Int} (hs : Sound t regs) (hv : Val t rs E regs) (hm : mayOk i regs = true) (hd : doI i rs = some x) :
 ∃ E1, Val (reckonP t n i).2 rs E1 regs ∧ E1 (reckonP t n i).1.1 = x := by
 obtain ⟨m1, m2, m3, m4, m5, m6, m7, m8⟩ := may_facts hm
 have hl := hs.len
 have hk := evalK_key hm hv.reg
 unfold reckonP
 by_cases h1 : i.op = 1
 · rw [if_pos h1]
   refine ⟨E, hv, ?_⟩
   have : doI i rs = some (rs[i.a.toNat]?.getD []) := by unfold doI; simp [h1]
   rw [this] at hd
   cases hd
   exact (hv.reg _ m3).symm
 · rw [if_neg h1]
   cases hg : mget t.known (keyOf t.held i) with
   | some v =>
     refine ⟨E, hv, ?_⟩
     have e := hv.key _ _ hg
     rw [hk, hd] at e
     exact (Option.some.inj e).symm
   | none =>
     have hold : ∀ y : Int, y < t.next → (fun z => if z = t.next then x else E z) y = E y := fun y hy => if_neg (by omega)
     have hev : ∀ k : K4, k.a < t.next ∧ k.b < t.next → evalK (fun z => if z = t.next then x else E z) k = evalK E k := fun k hk => by
      unfold evalK; rw [hold _ hk.1, hold _ hk.2]
     have hgm : ∀ k, mget (t.known ++ [(keyOf t.held i, t.next)]) k = if keyOf t.held i = k then some t.next else mget t.known k := fun k => by
      rw [← mput_none _ _ _ hg, mget_mput]; by_cases he : k = keyOf t.held i <;> simp [he, eq_comm]
     refine ⟨fun z => if z = t.next then x else E z, ⟨hv.len, fun r hr => ?_, fun k v hkv => ?_, fun k v hkv => ?_, by have := hv.pos; show (0 : Int) ≤ t.next + 1; omega⟩, if_pos rfl⟩
     · have := hs.held _ (get_mem (l := t.held) (r := r) (by omega))
       exact (hv.reg r hr).trans (hold _ this).symm
     · have hkv : mget (t.known ++ [(keyOf t.held i, t.next)]) k = some v := hkv
       rw [hgm] at hkv
       split at hkv
       · rename_i he
         cases hkv
         subst he
         rw [hev _ (key_old hs hv.pos hm), hk, hd]
         exact congrArg some (if_pos rfl).symm
       · have hlt := hs.known _ _ hkv
         rw [hev _ (hv.old _ _ hkv), hv.key _ _ hkv]
         exact congrArg some (hold _ hlt).symm
     · have hkv : mget (t.known ++ [(keyOf t.held i, t.next)]) k = some v := hkv
       rw [hgm] at hkv
       show k.a < t.next + 1 ∧ k.b < t.next + 1
       split at hkv
       · rename_i he
         subst he
         have := key_old hs hv.pos hm
         omega
       · have := hv.old _ _ hkv
         omega
end Go.Proofs.YtbppmiimeccclaaDoor
set_option linter.unusedVariables false
namespace Go.Proofs.YtbppmiimeccclaaDoor
open Go Go.Sl
theorem rows_get_set {l : List (List Int)} {k : Nat} {x : List Int} {r : Int} (hr : 0 ≤ r ∧ r < l.length) : (l.set k x)[r.toNat]?.getD [] = if (k : Int) = r then x else l[r.toNat]?.getD [] := by
 have h1 : r.toNat < l.length := by omega
 rw [List.getElem?_set]
 by_cases h : (k : Int) = r
 · rw [if_pos (by omega), if_pos (by omega), if_pos h]; rfl
 · rw [if_neg (by omega), if_neg h]
theorem ints_get_set {l : List Int} {k : Nat} {x : Int} {r : Int} (hr : 0 ≤ r ∧ r < l.length) : (l.set k x)[r.toNat]?.getD default = if (k : Int) = r then x else l[r.toNat]?.getD default := by
 have h1 : r.toNat < l.length := by omega
 rw [List.getElem?_set]
 by_cases h : (k : Int) = r
 · rw [if_pos (by omega), if_pos (by omega), if_pos h]; rfl
 · rw [if_neg (by omega), if_neg h]
theorem set_self_row {l : List (List Int)} {k : Nat} (hk : k < l.length) {x : List Int} (h : l[k]?.getD [] = x) : l.set k x = l := by
 rw [List.getElem?_eq_getElem hk] at h
 have h : l[k] = x := h
 rw [← h, List.set_getElem_self]
theorem step_val {t : Tab} {rs r0 : List (List Int)} {E : Int → List Int} {regs n : Int} {i : Sl.Instr} {x : List Int} {out : List Sl.Instr} (hs : Sound t regs) (hv : Val t rs E regs) (hm : mayOk i regs = true) (hr : runL out r0 = some rs) (hd : doI i rs = some x) :
 runL (passStep (t, out) n i).2 r0 = some (rs.set i.to.toNat x) ∧ ∃ E1, Val (passStep (t, out) n i).1 (rs.set i.to.toNat x) E1 regs := by
 obtain ⟨m1, m2, m3, m4, m5, m6, m7, m8⟩ := may_facts hm
 obtain ⟨E1, hv1, hx⟩ := reckon_val (n := n) hs hv hm hd
 have hh := reckon_held t n i
 have hl := hs.len
 have hrl := hv.len
 have hask := doI_asked hs hv hm
 unfold passStep
 simp only
 split
 · rename_i hc
   have e : rs.set i.to.toNat x = rs := set_self_row (by omega) (by rw [hv1.reg _ m2, hc, hx])
   rw [e]
   exact ⟨hr, E1, hv1⟩
 · rename_i hc
   refine ⟨?_, E1, ⟨by rw [List.length_set]; exact hrl, fun r hr9 => ?_, hv1.key, hv1.old, hv1.pos⟩⟩
   · rw [runL_snoc, hr]
     show ((doI _ rs).map fun x => rs.set _ x) = _
     split
     · rename_i h0
       obtain ⟨g1, g2⟩ := holder_some h0
       have e : doI ⟨1, (askedP (reckonP t n i).2.held i).to, holder (reckonP t n i).2.held (reckonP t n i).1.1, 0, 0⟩ rs = some x := by
        show some (rs[(holder (reckonP t n i).2.held (reckonP t n i).1.1).toNat]?.getD []) = some x
        rw [hv1.reg _ ⟨h0, by rw [hh] at g1 ⊢; omega⟩, g2, hx]
       rw [e]; rfl
     · rw [hh, hask, hd]; rfl
   · rw [rows_get_set (by omega)]
     show _ = E1 (((reckonP t n i).2.held.set i.to.toNat (reckonP t n i).1.1)[r.toNat]?.getD default)
     rw [ints_get_set (by rw [hh]; omega)]
     split
     · exact hx.symm
     · exact hv1.reg r hr9
theorem step_none {t : Tab} {rs r0 : List (List Int)} {E : Int → List Int} {regs n : Int} {i : Sl.Instr} {out : List Sl.Instr} (hs : Sound t regs) (hv : Val t rs E regs) (hm : mayOk i regs = true) (hr : runL out r0 = some rs) (hd : doI i rs = none) :
 runL (passStep (t, out) n i).2 r0 = none := by
 obtain ⟨m1, m2, m3, m4, m5, m6, m7, m8⟩ := may_facts hm
 have hh := reckon_held t n i
 have hl := hs.len
 have hask := doI_asked hs hv hm
 have hk := evalK_key hm hv.reg
 have h1 : ¬ i.op = 1 := fun h => by
  have : doI i rs = some (rs[i.a.toNat]?.getD []) := by unfold doI; simp [h]
  rw [this] at hd; cases hd
 have hg : mget t.known (keyOf t.held i) = none := by
  cases hg : mget t.known (keyOf t.held i) with
  | none => rfl
  | some v => have := hv.key _ _ hg; rw [hk, hd] at this; cases this
 have hn : (reckonP t n i).1.1 = t.next := by unfold reckonP; rw [if_neg h1, hg]
 have hto := hs.held _ (get_mem (l := t.held) (r := i.to) (by omega))
 have hho := holder_lt (l := t.held) (v := t.next) (n := t.next) hs.held (Int.le_refl _)
 unfold passStep
 simp only
 rw [hn, hh, if_neg (by omega), hho, if_neg (by decide), runL_snoc, hr]
 show ((doI _ rs).map fun x => rs.set _ x) = _
 rw [hask, hd]; rfl
end Go.Proofs.YtbppmiimeccclaaDoor
set_option linter.unusedVariables false
namespace Go.Proofs.YtbppmiimeccclaaDoor
open Go Go.Sl
theorem step_sound {t : Tab} {regs n : Int} {i : Sl.Instr} {out : List Sl.Instr} (hs : Sound t regs) (hm : mayOk i regs = true) : Sound (passStep (t, out) n i).1 regs := by
 obtain ⟨m1, m2, m3, m4, m5, m6, m7, m8⟩ := may_facts hm
 obtain ⟨s1, s2⟩ := reckon_sound hs n i m3
 unfold passStep
 simp only
 split
 · exact s1
 · refine ⟨set_len s1.len, fun x hx => ?_, s1.known⟩
   rcases List.mem_or_eq_of_mem_set hx with h | h
   · exact s1.held x h
   · rw [h]; exact s2
theorem step_dead {t : Tab} {n : Int} {i : Sl.Instr} {out : List Sl.Instr} {r0 : List (List Int)} (h : runL out r0 = none) : runL (passStep (t, out) n i).2 r0 = none := by
 unfold passStep
 simp only
 split
 · exact h
 · rw [runL_snoc, h]; rfl
theorem start_val {p : PV} {gs : List (List Int)} (h : 1 ≤ p.ins ∧ p.ins ≤ p.regs) (hg : (gs.length : Int) = p.ins) :
 Val ⟨start p, [], [], p.ins + 1⟩ (regs0 p gs) (fun v => if v < p.ins then gs[v.toNat]?.getD [] else List.replicate (gs[0]?.getD []).length 0) p.regs := by
 refine ⟨by rw [regs0_len]; omega, fun r hr => ?_, fun k v hk => (nomatch (show (none : Option Int) = some v from hk)), fun k v hk => (nomatch (show (none : Option Int) = some v from hk)), by show (0 : Int) ≤ p.ins + 1; omega⟩
 have e : (start p)[r.toNat]?.getD default = if p.ins < r then p.ins else r := by
  unfold start
  rw [List.getElem?_map, List.getElem?_range (by omega)]
  show (if p.ins < ((r.toNat : Nat) : Int) then p.ins else ((r.toNat : Nat) : Int)) = _
  rw [Int.toNat_of_nonneg hr.1]
 show _ = (fun v : Int => if v < p.ins then gs[v.toNat]?.getD [] else List.replicate (gs[0]?.getD []).length 0) ((start p)[r.toNat]?.getD default)
 rw [regs0_at (by omega), e]
 by_cases h1 : r < p.ins
 · rw [if_pos (by omega)]
   show _ = if (if p.ins < r then p.ins else r) < p.ins then _ else _
   rw [if_neg (show ¬ p.ins < r by omega), if_pos h1]
 · rw [if_neg (by omega)]
   show _ = if (if p.ins < r then p.ins else r) < p.ins then _ else _
   rw [if_neg (by split <;> omega)]
theorem pass_run {p : PV} {gs : List (List Int)} (hR : rightP p = true) (hg : (gs.length : Int) = p.ins) : ∀ k, k ≤ p.code.length →
 Sound (passTo p k).1 p.regs ∧ ((∃ rs E, runTo p gs k = some rs ∧ runL (passTo p k).2 (regs0 p gs) = some rs ∧ Val (passTo p k).1 rs E p.regs) ∨ (runTo p gs k = none ∧ runL (passTo p k).2 (regs0 p gs) = none))
 | 0, _ => by
   obtain ⟨f1, f2, f3, f4, f5, f6, f7, f8⟩ := right_facts hR
   exact ⟨start_sound ⟨f1, f2⟩, .inl ⟨_, _, rfl, rfl, start_val ⟨f1, f2⟩ hg⟩⟩
 | k + 1, h => by
   obtain ⟨f1, f2, f3, f4, f5, f6, f7, f8⟩ := right_facts hR
   obtain ⟨hs, ih⟩ := pass_run hR hg k (by omega)
   have hm : mayOk (p.code[((k : Nat) : Int).toNat]?.getD default) p.regs = true := by
    refine f8 _ ?_
    rw [Int.toNat_natCast, List.getElem?_eq_getElem (by omega)]; exact List.getElem_mem _
   refine ⟨step_sound hs hm, ?_⟩
   rcases ih with ⟨rs, E, h1, h2, h3⟩ | ⟨h1, h2⟩
   · cases hd : doI (p.code[((k : Nat) : Int).toNat]?.getD default) rs with
     | some x =>
       obtain ⟨g1, E1, g2⟩ := step_val (n := k) hs h3 hm h2 hd
       exact .inl ⟨_, E1, runTo_succ (x := []) h1 hd, g1, g2⟩
     | none =>
       refine .inr ⟨?_, step_none (n := k) hs h3 hm h2 hd⟩
       unfold runTo; rw [h1]; simp only [Option.bind_some, hd, Option.map_none]
   · exact .inr ⟨runTo_none h1 1, step_dead h2⟩
theorem pass_follow {p : PV} {gs : List (List Int)} (hR : rightP p = true) (hg : (gs.length : Int) = p.ins) : followP (passP p) gs = followP p gs := by
 obtain ⟨f1, f2, f3, f4, f5, f6, f7, f8⟩ := right_facts hR
 obtain ⟨hs, ih⟩ := pass_run hR hg p.code.length (Nat.le_refl _)
 have e : runTo (passP p) gs (passP p).code.length = runL (passTo p p.code.length).2 (regs0 p gs) := by
  rw [runTo_runL _ _ _ (Nat.le_refl _), List.take_length]; rfl
 unfold followP
 rw [e]
 rcases ih with ⟨rs, E, h1, h2, h3⟩ | ⟨h1, h2⟩
 · rw [h1, h2]
   show some _ = some _
   congr 1
   show (passOuts p (passTo p p.code.length).1.held).map _ = p.outs.map _
   unfold passOuts
   rw [List.map_map]
   refine List.map_congr_left fun r hr => ?_
   have hl := hs.len
   obtain ⟨a1, a2, a3⟩ := holder_get (l := (passTo p p.code.length).1.held) (r := r) (by have := f7 r hr; omega)
   show rs[(holder _ _).toNat]?.getD [] = _
   rw [h3.reg _ ⟨a1, by omega⟩, a3, h3.reg _ (f7 r hr)]
 · rw [h1, h2]; rfl
end Go.Proofs.YtbppmiimeccclaaDoor
set_option maxRecDepth 100000
set_option linter.unusedVariables false
namespace Go.Proofs.YtbppmiimeccclaaDoor
open Go Go.Sl
set_option maxHeartbeats 4000000
def TrimTo (l : List U32) (n : Nat) : Prop := n ≤ l.length ∧ (∀ j, n ≤ j → j < l.length → (l[j]?.getD default).v = 0) ∧ (n = 0 ∨ (l[n - 1]?.getD default).v ≠ 0)
theorem arr_sub {α : Type} [Cells α] {G : Imm} {a : Option Addr} {c sz : Nat} {l : List α} (h : Arr G a l) (n : Nat) : Arr G (subA a c 0 sz) (l.take n) := by
 refine ⟨flat_length _, ?_⟩
 rcases h.2 with h0 | ⟨b, o, rfl, hr⟩
 · left; rw [List.length_take]; omega
 · refine .inr ⟨b, o, ?_, fun i v hi => hr i v ?_⟩
   · unfold subA
     split
     · rfl
     · simp [Addr.add]
   · have e : flat l = flat (l.take n) ++ flat (l.drop n) := by rw [← flat_append, List.take_append_drop]
     rw [e, List.getElem?_append_left (List.getElem?_eq_some_iff.1 hi).1]; exact hi
theorem c75 (G : Imm) (neg : Bool) (a : Option Addr) (c : Nat) (l : List U32) (hl : Arr G a l) (hb : l.length ≤ 1099511627776) (hc : l.length ≤ c) :
 Does Tryd.prog 75 [.bool neg, .slice a l.length c] G [] (fun v G' Ho => ∃ n, v = .agg #[.bool (neg && decide (0 < n)), .slice (subA a c 0 1) n c] ∧ TrimTo l n ∧ G' = G ∧ Ho = []) := by
 refine Does.enter Tryd.func75 rfl Tryd.ntmps75 rfl (fun w => ?_)
 refine Wc.seq (Wc.region rfl ?_)
 refine Wl.alloc 0 rfl T.zero82 (fun b1 => ?_)
 refine Wl.done (Ar.next (Wc.seq (Wc.region rfl (Wl.q rfl (Qy.move rfl) (Wl.q rfl (Qy.len T.sl65 rfl) (Wl.q rfl (Qy.assign rfl) (Wl.done (Ar.next (Wc.seq (Wc.block ?_))))))))))
 refine Wc.loop (ι := Nat) (fun n => ([(5, .int .i64 (n : Int)), (4, Go.Value.pointer (Option.some (Go.Addr.mk b1 0 Option.none))), (0, Go.Value.bool neg), (1, Go.Value.slice a (List.length l) c)], [(0, Option.some b1, Go.Obj.cells #[Go.Value.bool Bool.false, Go.Value.slice Option.none 0 0] 82)])) (fun n => n ≤ l.length ∧ (∀ j, n ≤ j → j < l.length → (l[j]?.getD default).v = 0)) (fun n => n) (l.length) (⟨Nat.le_refl _, fun j h1 h2 => absurd h2 (by omega)⟩) ⟨rfl, rfl, rfl, rfl, trivial⟩ ⟨rfl, trivial⟩ (fun n => fun (hk : n ≤ l.length ∧ (∀ j, n ≤ j → j < l.length → (l[j]?.getD default).v = 0)) => ?_)
 obtain ⟨hn, hz⟩ := hk
 refine Wc.seq (Wc.seq (Wc.region rfl (Wl.q rfl (Qy.move rfl) (Wl.q rfl (Qy.gtr rfl rfl) (Wl.q rfl (Qy.move rfl) ?_)))))
 apply Wl.joinAnd 7 10 17 rfl
 intro hg1
 refine Wl.want rfl rfl (Wl.q rfl (Qy.move rfl) (Wl.want rfl rfl (Wl.q rfl (Qy.move rfl) (Wl.want rfl rfl (Wl.q rfl (Qy.sub rfl rfl (by omega)) ?_)))))
 refine Wl.want rfl rfl (Wl.q rfl (Qy.at (α := U32) T.sl65 rfl rfl (by assumption) (by omega)) ?_)
 refine Wl.want rfl rfl (Wl.q rfl (Qy.loadG T.one128 rfl (Arr.cell (by assumption) (by omega) 0 rfl rfl)) ?_)
 refine Wl.want rfl rfl (Wl.q rfl (Qy.eql rfl rfl) (Wl.q rfl (Qy.pick rfl rfl) ?_))
 exact Wl.back 7 0 rfl rfl rfl rfl rfl
 intro hg1
 refine Wl.pass rfl rfl rfl (Wl.pass rfl rfl rfl (Wl.pass rfl rfl rfl (Wl.pass rfl rfl rfl (Wl.pass rfl rfl rfl (Wl.pass rfl rfl rfl (Wl.q rfl (Qy.pick rfl rfl) ?_))))))
 exact Wl.back 7 0 rfl rfl rfl rfl rfl
 refine Wl.done (Ar.next ?_)
 refine Wc.cond rfl (fun hc1 => ?_) (fun hc1 => ?_)
 refine Wc.skip (Ar.next (Wc.block (Wc.region rfl (Wl.q rfl (Qy.move rfl) (Wl.q rfl (Qy.sub rfl rfl (by omega)) ?_)))))
 refine Wl.q rfl (Qy.assign rfl) (Wl.done ?_)
 refine Ar.outNormal ?_
 rotate_left
 refine Wc.exit (Ar.passExit ?_)
 refine Ar.passExit ?_
 refine Ar.here ?_
 refine Ar.next (Wc.seq (Wc.region rfl (Wl.q rfl (Qy.move rfl) (Wl.q rfl (Qy.move rfl) ?_))))
 refine Wl.casesB 21 rfl (fun hg1 => ?_) (fun hg1 => ?_)
 refine Wl.want rfl rfl (Wl.q rfl (Qy.move rfl) (Wl.want rfl rfl (Wl.q rfl (Qy.gtr rfl rfl) (Wl.q rfl (Qy.pick rfl rfl) (Wl.q rfl (Qy.move rfl) (Wl.q rfl (Qy.move rfl) (Wl.q rfl (Qy.cutH T.sl65 rfl rfl (by omega)) ?_)))))))
 refine Wl.q rfl (Qy.build (cs := [_, _]) T.st82 rfl rfl rfl) ?_
 refine Wl.storeAll 0 T.size82 rfl rfl rfl rfl rfl rfl ?_
 refine Wl.done (Ar.next (Wc.ret ?_))
 refine Ar.out1 (.inr rfl) (Ho := Hp.only _ []) rfl (.agg 0 rfl rfl T.agg82) (Hp.sub_only _ _) ?_
 rotate_left
 refine Wl.pass rfl rfl rfl (Wl.pass rfl rfl rfl (Wl.q rfl (Qy.pick rfl rfl) (Wl.q rfl (Qy.move rfl) (Wl.q rfl (Qy.move rfl) (Wl.q rfl (Qy.cutH T.sl65 rfl rfl (by omega)) ?_)))))
 refine Wl.q rfl (Qy.build (cs := [_, _]) T.st82 rfl rfl rfl) ?_
 refine Wl.storeAll 0 T.size82 rfl rfl rfl rfl rfl rfl ?_
 refine Wl.done (Ar.next (Wc.ret ?_))
 refine Ar.out1 (.inr rfl) (Ho := Hp.only _ []) rfl (.agg 0 rfl rfl T.agg82) (Hp.sub_only _ _) ?_
 rotate_left
 · refine Ar.re 5 rfl (show _ = Value.int .i64 ((n - 1 : Nat) : Int) by congr 1; omega) ?_
   refine Ar.again (n - 1) ?_ ?_ rfl ⟨rfl, rfl, rfl, rfl, trivial⟩ ⟨rfl, trivial⟩
   · refine ⟨by omega, fun j h1 h2 => ?_⟩
     rcases Nat.lt_or_ge j n with h3 | h3
     · have e : j = (((n : Nat) : Int) - 1).toNat := by omega
       rw [e]; exact hc1.2
     · exact hz j h3 h2
   · omega
 · refine ⟨n, ?_, ⟨hn, hz, ?_⟩, rfl, rfl⟩
   · rw [hg1]
     have e : ((0 : Int) < (n : Int)) = (0 < n) := by rw [eq_iff_iff]; omega
     simp only [e, Bool.true_and, Int.toNat_natCast]
   · rcases Nat.eq_zero_or_pos n with h | h
     · exact .inl h
     · refine .inr fun h2 => hc1 ⟨by omega, ?_⟩
       have e : (((n : Nat) : Int) - 1).toNat = n - 1 := by omega
       rw [e]; exact h2
 · refine ⟨n, ?_, ⟨hn, hz, ?_⟩, rfl, rfl⟩
   · rw [hg1]
     simp only [Bool.false_and, Int.toNat_natCast]
   · rcases Nat.eq_zero_or_pos n with h | h
     · exact .inl h
     · refine .inr fun h2 => hc1 ⟨by omega, ?_⟩
       have e : (((n : Nat) : Int) - 1).toNat = n - 1 := by omega
       rw [e]; exact h2
theorem TrimTo.val {l : List U32} {n : Nat} (h : TrimTo l n) : valL (l.take n) = valL l := valL_trim h.2.1
theorem TrimTo.top {l : List U32} {n : Nat} (h : TrimTo l n) : Top (l.take n) := by
 obtain ⟨h1, h2, h3⟩ := h
 rcases h3 with h3 | h3
 · subst h3; exact .inl rfl
 · by_cases h0 : n = 0
   · subst h0; exact .inl rfl
   · refine .inr ?_
     rw [List.length_take, Nat.min_eq_left h1, List.getElem?_take, if_pos (by omega)]
     exact h3
theorem TrimTo.len {l : List U32} {n : Nat} (h : TrimTo l n) : (l.take n).length = n := by rw [List.length_take, Nat.min_eq_left h.1]
theorem TrimTo.isInt {l : List U32} {n : Nat} (h : TrimTo l n) (hd : Digs l) (neg : Bool) : IsInt (neg && decide (0 < n)) (l.take n) (if neg = true then -valL l else valL l) := by
 refine ⟨hd.take n, h.top, fun e => ?_, ?_⟩
 · have hl := h.len
   rw [e] at hl
   have : n = 0 := by simpa using hl.symm
   subst this; simp
 · have hv := h.val
   rw [← hv]
   cases neg with
   | false => simp
   | true =>
     by_cases h0 : n = 0
     · subst h0; simp [valL_nil]
     · have : 0 < n := by omega
       simp [this]
theorem TrimTo.num {G : Imm} {a : Option Addr} {c : Nat} {l : List U32} {n : Nat} (h : TrimTo l n) (hd : Digs l) (hl : Arr G a l) (hc : l.length ≤ c) (neg : Bool) : Num G ⟨neg && decide (0 < n), subA a c 0 1, n, c⟩ (if neg = true then -valL l else valL l) := by
 refine ⟨l.take n, h.len, Nat.le_trans h.1 hc, ?_, h.isInt hd neg⟩
 exact arr_sub hl n
end Go.Proofs.YtbppmiimeccclaaDoor
