/- Parts of the proof (part 3): what the rows' text needs of the texts that lead to it. -/
import Derived.Test.YtbppmiimeccclaaMYb
set_option maxRecDepth 100000
set_option linter.unusedVariables false
namespace Go.Proofs.Ytbppmiimeccclaa
open Go Go.Sl
set_option maxHeartbeats 4000000
theorem valL_set : ∀ (l : List U32) (k : Nat) (d : U32), k < l.length → valL (l.set k d) = valL l + pw k * (d.v - dg l k)
  | [], k, d, h => by simp at h
  | x :: l, 0, d, _ => by
    rw [List.set_cons_zero, valL_cons, valL_cons, pw_zero]
    show _ = _ + 1 * (d.v - x.v)
    omega
  | x :: l, k + 1, d, h => by
    have ih := valL_set l k d (by simpa using h)
    have e : dg (x :: l) (k + 1) = dg l k := by unfold dg; rw [Int.toNat_natCast, Int.toNat_natCast, List.getElem?_cons_succ]
    rw [List.set_cons_succ, valL_cons, valL_cons, ih, pw_succ, e, Int.mul_add, ← Int.mul_assoc]
    omega
theorem digs_set {l : List U32} (h : Digs l) (k : Nat) {s : Int} (hs : 0 ≤ s ∧ s < 65536) : Digs (l.set k ⟨s⟩) := fun d hd => by
  rcases List.mem_or_eq_of_mem_set hd with h1 | h1
  · exact h d h1
  · subst h1; exact hs
theorem mul_next {r lb : List U32} {i j : Nat} {c s x A : Int} (hk : i + j < r.length) (hv : valL r + pw (i + j) * c = A + pw i * (x * valL (lb.take j))) (hs : s = c + dg r (i + j) + x * dg lb j) :
    valL (r.set (i + j) ⟨s % 65536⟩) + pw (i + (j + 1)) * (s / 65536) = A + pw i * (x * valL (lb.take (j + 1))) := by
  rw [valL_set r (i + j) ⟨s % 65536⟩ hk, val_step, ← Nat.add_assoc, pw_succ]
  have h1 := carry (pw (i + j)) s
  have h2 : pw (i + j) * s = pw (i + j) * c + pw (i + j) * dg r (i + j) + pw (i + j) * (x * dg lb j) := by rw [hs, Int.mul_add, Int.mul_add]
  have h3 : pw i * (x * (valL (lb.take j) + pw j * dg lb j)) = pw i * (x * valL (lb.take j)) + pw (i + j) * (x * dg lb j) := by
    rw [Int.mul_add, Int.mul_add, pw_add]
    congr 1
    rw [Int.mul_assoc, ← Int.mul_assoc x, Int.mul_comm x (pw j), Int.mul_assoc]
  have h4 : pw (i + j) * (s % 65536 - dg r (i + j)) = pw (i + j) * (s % 65536) - pw (i + j) * dg r (i + j) := Int.mul_sub _ _ _
  show valL r + pw (i + j) * (s % 65536 - dg r (i + j)) + 65536 * pw (i + j) * (s / 65536) = _
  rw [h3, h4]
  omega
theorem mul_end {la lb : List U32} {i j : Nat} {v : Int} (hj : lb.length ≤ j) (h : v = valL (la.take i) * valL lb + pw i * (dg la i * valL (lb.take j))) : v = valL (la.take (i + 1)) * valL lb := by
  rw [h, take_all hj, val_step, Int.add_mul, Int.mul_assoc]
theorem mul_lt {a b c d : Int} (ha : 0 ≤ a) (hb : 0 ≤ b) (h1 : a < c) (h2 : b < d) : a * b < c * d := by
  have e1 : a * b ≤ a * d := Int.mul_le_mul_of_nonneg_left (Int.le_of_lt h2) ha
  have e2 : a * d < c * d := Int.mul_lt_mul_of_pos_right h1 (by omega)
  omega
/-- the carry is 0 where the row ends -/
theorem mul_bound {la lb r : List U32} {i j : Nat} {c : Int} (da : Digs la) (db : Digs lb) (hi : i < la.length) (hj : lb.length ≤ j) (hdr : Digs r) (hc : 0 < c) (hv : valL r + pw (i + j) * c = valL (la.take i) * valL lb + pw i * (dg la i * valL (lb.take j))) : j ≤ lb.length := by
  have h1 := mul_end hj hv
  have h2 := valL_lt (da.take (i + 1))
  rw [List.length_take, Nat.min_eq_left (by omega)] at h2
  have h3 := mul_lt (valL_nonneg (da.take (i + 1))) (valL_nonneg db) h2 (valL_lt db)
  rw [← pw_add] at h3
  have h4 := valL_nonneg hdr
  have h5 := Int.mul_le_mul_of_nonneg_left (show (1 : Int) ≤ c by omega) (Int.le_of_lt (pw_pos (i + j)))
  have h6 : pw (i + j) < pw (i + 1 + lb.length) := by omega
  have := pw_lt_iff h6
  omega
theorem mul_small16 {x y : Int} (hx : 0 ≤ x ∧ x < 65536) (hy : 0 ≤ y ∧ y < 65536) : 0 ≤ x * y ∧ x * y ≤ 4294836225 := by
  refine ⟨Int.mul_nonneg hx.1 hy.1, ?_⟩
  have h1 : x * y ≤ 65535 * y := Int.mul_le_mul_of_nonneg_right (by omega) hy.1
  omega
attribute [local irreducible] valL pw cmpZ
theorem c115 (G : Imm) (n1 n2 : Bool) (a b : Option Addr) (ca cb : Nat) (la lb : List U32) (x y : Int) (ha : Arr G a la) (hb : Arr G b lb) (hx : IsInt n1 la x) (hy : IsInt n2 lb y) (h1 : la.length ≤ 536870912) (h2 : lb.length ≤ 536870912) :
    Does Try.prog 115 [.agg #[.bool n1, .slice a la.length ca], .agg #[.bool n2, .slice b lb.length cb]] G [] (fun v G' Ho => ∃ r : IV, v = .agg #[.bool r.neg, .slice r.a r.n r.c] ∧ Num G' r (x * y) ∧ Ho = []) := by
  have da := hx.digs
  have db := hy.digs
  refine Does.enter Try.func115 rfl Try.ntmps115 rfl (fun w => ?_)
  refine Wc.seq ?_
  refine Wc.region rfl ?_
  refine Wl.box 0 rfl rfl rfl (fun b1 => ?_)
  refine Wl.box 1 rfl rfl rfl (fun b2 => ?_)
  refine Wl.alloc 2 rfl T.zero63 (fun b3 => ?_)
  refine Wl.done ?_
  refine Ar.next ?_
  refine Wc.seq ?_
  refine Wc.region rfl ?_
  refine Wl.q rfl (Qy.fieldAddr T.fa63_1 rfl) ?_
  refine Wl.q rfl (Qy.load 0 T.one59 rfl rfl rfl) ?_
  refine Wl.q rfl (Qy.len T.sl59 rfl) ?_
  refine Wl.q rfl (Qy.fieldAddr T.fa63_1 rfl) ?_
  refine Wl.q rfl (Qy.load 1 T.one59 rfl rfl rfl) ?_
  refine Wl.q rfl (Qy.len T.sl59 rfl) ?_
  refine Wl.q rfl (Qy.add rfl rfl (by omega)) ?_
  refine Wl.q rfl (Qy.add rfl rfl (by omega)) ?_
  refine Wl.make (α := U32) 3 rfl T.sl59 T.el153 rfl rfl (by omega) (by omega) (fun b4 => ?_)
  refine Wl.q rfl (Qy.assign rfl) ?_
  refine Wl.done ?_
  refine Ar.next ?_
  refine Wc.seq ?_
  refine Wc.seq ?_
  refine Wc.region rfl ?_
  refine Wl.q rfl (Qy.assign rfl) ?_
  refine Wl.done ?_
  refine Ar.next ?_
  refine Wc.block ?_
  obtain ⟨N, hN⟩ : ∃ N, N = la.length + lb.length + 1 := ⟨_, rfl⟩
  have hM : ((la.length : Int) + (lb.length : Int) + 1).toNat = N := by omega
  rw [hM]
  have hown : ∀ r : List U32, r.length = N → OwnA (some ⟨b4, 0, none⟩) N r [] := fun r hr => .inr ⟨b4, rfl, by rw [hr]; rfl, by omega, by simp only [maxLen]; omega⟩
  refine Wc.re 5 rfl (show _ = Value.slice (some ⟨b4, 0, none⟩) (List.replicate N (default : U32)).length N by rw [List.length_replicate]) ?_
  refine Wc.loop (ι := Nat × List U32) (fun (i, r) => ([(6, .int .i64 (i : Int)), (5, .slice (some ⟨b4, 0, none⟩) r.length N), (4, Go.Value.pointer (Option.some (Go.Addr.mk b3 0 Option.none))), (3, Go.Value.pointer (Option.some (Go.Addr.mk b2 0 Option.none))), (2, Go.Value.pointer (Option.some (Go.Addr.mk b1 0 Option.none)))], [(3, some b4, Row 153 r []), (2, Option.some b3, Go.Obj.cells #[Go.Value.bool Bool.false, Go.Value.slice Option.none 0 0] 63), (1, Option.some b2, Go.Obj.cells #[Go.Value.bool n2, Go.Value.slice b (List.length lb) cb] 63), (0, Option.some b1, Go.Obj.cells #[Go.Value.bool n1, Go.Value.slice a (List.length la) ca] 63)])) (fun (i, r) => i ≤ la.length ∧ r.length = N ∧ Digs r ∧ valL r = valL (la.take i) * valL lb) (fun (i, r) => la.length - i) ((0, List.replicate N (default : U32))) (⟨Nat.zero_le _, List.length_replicate, Digs.zeros N, by rw [List.take_zero, valL_nil, Int.zero_mul]; exact valL_replicate N⟩) ⟨rfl, rfl, rfl, rfl, rfl, trivial⟩ ⟨rfl, rfl, rfl, rfl, trivial⟩ (fun ⟨i, r⟩ => fun (hk : i ≤ la.length ∧ r.length = N ∧ Digs r ∧ valL r = valL (la.take i) * valL lb) => ?_)
  obtain ⟨hi, hrN, hdr, hv⟩ := hk
  rcases Nat.lt_or_ge i la.length with hia | hia
  · have hxi : 0 ≤ (la[((i : Nat) : Int).toNat]?.getD default).v ∧ (la[((i : Nat) : Int).toNat]?.getD default).v < 65536 := dg_lt da hia
    refine Wc.seq ?_
    refine Wc.seq ?_
    refine Wc.region rfl ?_
    refine Wl.q rfl (Qy.move rfl) ?_
    refine Wl.q rfl (Qy.fieldAddr T.fa63_1 rfl) ?_
    refine Wl.q rfl (Qy.load 0 T.one59 rfl rfl rfl) ?_
    refine Wl.q rfl (Qy.len T.sl59 rfl) ?_
    refine Wl.q rfl (Qy.lss rfl rfl) ?_
    refine Wl.done ?_
    refine Ar.next ?_
    refine Wc.condP rfl (by first | assumption | omega) ?_
    refine Wc.skip ?_
    refine Ar.next ?_
    refine Wc.seq ?_
    refine Wc.block ?_
    refine Wc.seq ?_
    refine Wc.region rfl ?_
    refine Wl.q rfl (Qy.assign rfl) ?_
    refine Wl.done ?_
    refine Ar.next ?_
    refine Wc.seq ?_
    refine Wc.region rfl ?_
    refine Wl.q rfl (Qy.assign rfl) ?_
    refine Wl.done ?_
    refine Ar.next ?_
    refine Wc.block ?_
    refine Wc.loop (ι := Nat × Int × List U32) (fun (j, c, s) => ([(8, .int .i64 (j : Int)), (7, .int .u64 c), (5, .slice (some ⟨b4, 0, none⟩) s.length N), (2, .pointer (some ⟨b1, 0, none⟩)), (6, Go.Value.int Go.IntKind.i64 (↑i : Int)), (4, Go.Value.pointer (Option.some (Go.Addr.mk b3 0 Option.none))), (3, Go.Value.pointer (Option.some (Go.Addr.mk b2 0 Option.none)))], [(3, some b4, Row 153 s []), (2, Option.some b3, Go.Obj.cells #[Go.Value.bool Bool.false, Go.Value.slice Option.none 0 0] 63), (1, Option.some b2, Go.Obj.cells #[Go.Value.bool n2, Go.Value.slice b (List.length lb) cb] 63), (0, Option.some b1, Go.Obj.cells #[Go.Value.bool n1, Go.Value.slice a (List.length la) ca] 63)])) (fun (j, c, s) => 0 ≤ c ∧ c ≤ 65535 ∧ s.length = N ∧ Digs s ∧ valL s + pw (i + j) * c = valL (la.take i) * valL lb + pw i * (dg la i * valL (lb.take j)) ∧ j ≤ lb.length + 1) (fun (j, c, s) => lb.length + 1 - j) ((0, 0, r)) (⟨by decide, by decide, hrN, hdr, by rw [Int.mul_zero, List.take_zero, valL_nil, Int.mul_zero, Int.mul_zero, Int.add_zero, Int.add_zero]; exact hv, Nat.zero_le _⟩) ⟨rfl, rfl, rfl, rfl, rfl, rfl, rfl, trivial⟩ ⟨rfl, rfl, rfl, rfl, trivial⟩ (fun ⟨j, c, s⟩ => fun (hk : 0 ≤ c ∧ c ≤ 65535 ∧ s.length = N ∧ Digs s ∧ valL s + pw (i + j) * c = valL (la.take i) * valL lb + pw i * (dg la i * valL (lb.take j)) ∧ j ≤ lb.length + 1) => ?_)
    obtain ⟨hc0, hc1, hsN, hds, hvs, hjl⟩ := hk
    have hos := hown s hsN
    have hbnd : lb.length ≤ j → 0 < c → j ≤ lb.length := fun h1 h2 => mul_bound da db hia h1 hds h2 hvs
    have ekk : ((i : Int) + (j : Int)).toNat = i + j := by omega
    rcases Nat.lt_or_ge j lb.length with hjb | hjb
    · have hyj : 0 ≤ (lb[((j : Nat) : Int).toNat]?.getD default).v ∧ (lb[((j : Nat) : Int).toNat]?.getD default).v < 65536 := dg_lt db hjb
      have hxy := mul_small16 hxi hyj
      have hsk : 0 ≤ (s[((i : Int) + (j : Int)).toNat]?.getD default).v ∧ (s[((i : Int) + (j : Int)).toNat]?.getD default).v < 65536 := hds.at (by omega)
      refine Wc.seq ?_
      refine Wc.seq ?_
      refine Wc.region rfl ?_
      refine Wl.q rfl (Qy.move rfl) ?_
      refine Wl.q rfl (Qy.fieldAddr T.fa63_1 rfl) ?_
      refine Wl.q rfl (Qy.load 1 T.one59 rfl rfl rfl) ?_
      refine Wl.q rfl (Qy.len T.sl59 rfl) ?_
      refine Wl.q rfl (Qy.lss rfl rfl) ?_
      refine Wl.q rfl (Qy.move rfl) ?_
      refine Wl.yes 30 rfl (by first | assumption | omega) ?_
      refine Wl.pass rfl rfl rfl ?_
      refine Wl.pass rfl rfl rfl ?_
      refine Wl.q rfl (Qy.pick rfl rfl) ?_
      refine Wl.done ?_
      refine Ar.next ?_
      refine Wc.condT rfl ?_
      refine Wc.skip ?_
      refine Ar.next ?_
      refine Wc.seq ?_
      refine Wc.block ?_
      refine Wc.seq ?_
      refine Wc.region rfl ?_
      refine Wl.q rfl (Qy.move rfl) ?_
      refine Wl.q rfl (Qy.move rfl) ?_
      refine Wl.q rfl (Qy.move rfl) ?_
      refine Wl.q rfl (Qy.move rfl) ?_
      refine Wl.q rfl (Qy.add rfl rfl (by omega)) ?_
      refine Wl.q rfl (Qy.indexAddrO (α := U32) T.sl59 rfl rfl (by assumption) (by omega)) ?_
      refine Wl.q rfl (Qy.loadO 3 0 T.one153 rfl rfl (by assumption) (by omega) rfl rfl) ?_
      refine Wl.q rfl (Qy.conv64 rfl T.u151 rfl (by omega)) ?_
      refine Wl.q rfl (Qy.uadd64 rfl rfl (by omega)) ?_
      refine Wl.q rfl (Qy.assign rfl) ?_
      refine Wl.done ?_
      refine Ar.next ?_
      refine Wc.seq ?_
      refine Wc.seq ?_
      refine Wc.region rfl ?_
      refine Wl.q rfl (Qy.move rfl) ?_
      refine Wl.q rfl (Qy.fieldAddr T.fa63_1 rfl) ?_
      refine Wl.q rfl (Qy.load 1 T.one59 rfl rfl rfl) ?_
      refine Wl.q rfl (Qy.len T.sl59 rfl) ?_
      refine Wl.q rfl (Qy.lss rfl rfl) ?_
      refine Wl.done ?_
      refine Ar.next ?_
      refine Wc.condP rfl (by first | assumption | omega) ?_
      refine Wc.draw [0, 1, 2, 3] [] T.mixed rfl ?_
      refine Gm.q 0 [] (by kernel_rfl) rfl rfl (Qy.move rfl) ?_
      refine Gm.q 1 [] (by kernel_rfl) rfl rfl (Qy.fieldAddr T.fa63_1 rfl) ?_
      refine Gm.q 2 [0] (by kernel_rfl) rfl rfl (Qy.load 0 T.one59 rfl rfl rfl) ?_
      refine Gm.q 3 [] (by kernel_rfl) rfl rfl (Qy.move rfl) ?_
      refine Gm.q 4 [] (by kernel_rfl) rfl rfl (Qy.at (α := U32) T.sl59 rfl rfl (by assumption) (by omega)) ?_
      refine Gm.q 5 [0] (by kernel_rfl) rfl rfl (Qy.loadG T.one153 rfl (Arr.cell (by assumption) (by omega) 0 rfl rfl)) ?_
      refine Gm.q 6 [] (by kernel_rfl) rfl rfl (Qy.conv64 rfl T.u151 rfl (by omega)) ?_
      refine Gm.q 7 [] (by kernel_rfl) rfl rfl (Qy.fieldAddr T.fa63_1 rfl) ?_
      refine Gm.q 8 [1] (by kernel_rfl) rfl rfl (Qy.load 1 T.one59 rfl rfl rfl) ?_
      refine Gm.q 9 [] (by kernel_rfl) rfl rfl (Qy.move rfl) ?_
      refine Gm.q 10 [] (by kernel_rfl) rfl rfl (Qy.at (α := U32) T.sl59 rfl rfl (by assumption) (by omega)) ?_
      refine Gm.q 11 [0] (by kernel_rfl) rfl rfl (Qy.loadG T.one153 rfl (Arr.cell (by assumption) (by omega) 0 rfl rfl)) ?_
      refine Gm.q 12 [] (by kernel_rfl) rfl rfl (Qy.conv64 rfl T.u151 rfl (by omega)) ?_
      refine Gm.q 13 [] (by kernel_rfl) rfl rfl (Qy.umul64 rfl rfl (by first | assumption | omega)) ?_
      refine Gm.q 14 [] (by kernel_rfl) rfl rfl (Qy.uadd64 rfl rfl (by omega)) ?_
      refine Gm.q 15 [] (by kernel_rfl) rfl rfl (Qy.assign rfl) ?_
      refine Gm.doneA (by kernel_rfl) ⟨rfl, rfl, rfl, rfl, trivial⟩ (by first | exact Imm.le_refl _ | assumption) ?_
      refine Ar.next ?_
      refine Wc.seq ?_
      refine Wc.region rfl ?_
      refine Wl.q rfl (Qy.move rfl) ?_
      refine Wl.q rfl (Qy.move rfl) ?_
      refine Wl.q rfl (Qy.move rfl) ?_
      refine Wl.q rfl (Qy.add rfl rfl (by omega)) ?_
      refine Wl.q rfl (Qy.move rfl) ?_
      refine Wl.q rfl (Qy.urem rfl rfl (by omega)) ?_
      refine Wl.q rfl (Qy.conv32 rfl T.u153 rfl (by omega)) ?_
      refine Wl.q rfl (Qy.indexAddrO (α := U32) T.sl59 rfl rfl (by assumption) (by omega)) ?_
      refine Wl.setO (z := _) 3 T.size153 rfl rfl rfl (by assumption) (by omega) rfl (fun ho1 => ?_)
      refine Wl.done ?_
      refine Ar.next ?_
      refine Wc.region rfl ?_
      refine Wl.q rfl (Qy.move rfl) ?_
      refine Wl.q rfl (Qy.uquo64 rfl rfl (by omega)) ?_
      refine Wl.q rfl (Qy.assign rfl) ?_
      refine Wl.done ?_
      refine Ar.outNormal ?_
      refine Ar.next ?_
      refine Wc.region rfl ?_
      refine Wl.q rfl (Qy.move rfl) ?_
      refine Wl.q rfl (Qy.add rfl rfl (by omega)) ?_
      refine Wl.q rfl (Qy.assign rfl) ?_
      refine Wl.done ?_
      rw [ekk] at ⊢ hsk
      refine Ar.re 5 rfl (show _ = Value.slice (some ⟨b4, 0, none⟩) (s.set (i + j) (⟨(c + (s[i + j]?.getD default).v + (la[((i : Nat) : Int).toNat]?.getD default).v * (lb[((j : Nat) : Int).toNat]?.getD default).v) % 65536⟩ : U32)).length N by rw [List.length_set]) ?_
      refine Ar.again ((j + 1, (c + (s[i + j]?.getD default).v + (la[((i : Nat) : Int).toNat]?.getD default).v * (lb[((j : Nat) : Int).toNat]?.getD default).v) / 65536, s.set (i + j) (⟨(c + (s[i + j]?.getD default).v + (la[((i : Nat) : Int).toNat]?.getD default).v * (lb[((j : Nat) : Int).toNat]?.getD default).v) % 65536⟩ : U32))) ?_ ?_ rfl ⟨rfl, rfl, rfl, rfl, rfl, rfl, rfl, trivial⟩ ⟨rfl, rfl, rfl, rfl, trivial⟩
      · exact ⟨by omega, by omega, by rw [List.length_set]; exact hsN, digs_set hds _ (by omega), mul_next (by omega) hvs (by simp only [dg, Int.toNat_natCast]), by omega⟩
      · show lb.length + 1 - (j + 1) < lb.length + 1 - j
        omega
    · by_cases hcy : 0 < c
      · have hjle := hbnd hjb hcy
        have hsk : 0 ≤ (s[((i : Int) + (j : Int)).toNat]?.getD default).v ∧ (s[((i : Int) + (j : Int)).toNat]?.getD default).v < 65536 := hds.at (by omega)
        refine Wc.seq ?_
        refine Wc.seq ?_
        refine Wc.region rfl ?_
        refine Wl.q rfl (Qy.move rfl) ?_
        refine Wl.q rfl (Qy.fieldAddr T.fa63_1 rfl) ?_
        refine Wl.q rfl (Qy.load 1 T.one59 rfl rfl rfl) ?_
        refine Wl.q rfl (Qy.len T.sl59 rfl) ?_
        refine Wl.q rfl (Qy.lss rfl rfl) ?_
        refine Wl.q rfl (Qy.move rfl) ?_
        refine Wl.no 30 rfl (by first | assumption | omega) ?_
        refine Wl.want rfl rfl ?_
        refine Wl.q rfl (Qy.move rfl) ?_
        refine Wl.want rfl rfl ?_
        refine Wl.q rfl (Qy.gtr rfl rfl) ?_
        refine Wl.q rfl (Qy.pick rfl rfl) ?_
        refine Wl.done ?_
        refine Ar.next ?_
        refine Wc.condP rfl (by first | assumption | omega) ?_
        refine Wc.skip ?_
        refine Ar.next ?_
        refine Wc.seq ?_
        refine Wc.block ?_
        refine Wc.seq ?_
        refine Wc.region rfl ?_
        refine Wl.q rfl (Qy.move rfl) ?_
        refine Wl.q rfl (Qy.move rfl) ?_
        refine Wl.q rfl (Qy.move rfl) ?_
        refine Wl.q rfl (Qy.move rfl) ?_
        refine Wl.q rfl (Qy.add rfl rfl (by omega)) ?_
        refine Wl.q rfl (Qy.indexAddrO (α := U32) T.sl59 rfl rfl (by assumption) (by omega)) ?_
        refine Wl.q rfl (Qy.loadO 3 0 T.one153 rfl rfl (by assumption) (by omega) rfl rfl) ?_
        refine Wl.q rfl (Qy.conv64 rfl T.u151 rfl (by omega)) ?_
        refine Wl.q rfl (Qy.uadd64 rfl rfl (by omega)) ?_
        refine Wl.q rfl (Qy.assign rfl) ?_
        refine Wl.done ?_
        refine Ar.next ?_
        refine Wc.seq ?_
        refine Wc.seq ?_
        refine Wc.region rfl ?_
        refine Wl.q rfl (Qy.move rfl) ?_
        refine Wl.q rfl (Qy.fieldAddr T.fa63_1 rfl) ?_
        refine Wl.q rfl (Qy.load 1 T.one59 rfl rfl rfl) ?_
        refine Wl.q rfl (Qy.len T.sl59 rfl) ?_
        refine Wl.q rfl (Qy.lss rfl rfl) ?_
        refine Wl.done ?_
        refine Ar.next ?_
        refine Wc.condN rfl (by first | assumption | omega) ?_
        refine Wc.skip ?_
        refine Ar.next ?_
        refine Wc.seq ?_
        refine Wc.region rfl ?_
        refine Wl.q rfl (Qy.move rfl) ?_
        refine Wl.q rfl (Qy.move rfl) ?_
        refine Wl.q rfl (Qy.move rfl) ?_
        refine Wl.q rfl (Qy.add rfl rfl (by omega)) ?_
        refine Wl.q rfl (Qy.move rfl) ?_
        refine Wl.q rfl (Qy.urem rfl rfl (by omega)) ?_
        refine Wl.q rfl (Qy.conv32 rfl T.u153 rfl (by omega)) ?_
        refine Wl.q rfl (Qy.indexAddrO (α := U32) T.sl59 rfl rfl (by assumption) (by omega)) ?_
        refine Wl.setO (z := _) 3 T.size153 rfl rfl rfl (by assumption) (by omega) rfl (fun ho1 => ?_)
        refine Wl.done ?_
        refine Ar.next ?_
        refine Wc.region rfl ?_
        refine Wl.q rfl (Qy.move rfl) ?_
        refine Wl.q rfl (Qy.uquo64 rfl rfl (by omega)) ?_
        refine Wl.q rfl (Qy.assign rfl) ?_
        refine Wl.done ?_
        refine Ar.outNormal ?_
        refine Ar.next ?_
        refine Wc.region rfl ?_
        refine Wl.q rfl (Qy.move rfl) ?_
        refine Wl.q rfl (Qy.add rfl rfl (by omega)) ?_
        refine Wl.q rfl (Qy.assign rfl) ?_
        refine Wl.done ?_
        rw [ekk] at ⊢ hsk
        refine Ar.re 5 rfl (show _ = Value.slice (some ⟨b4, 0, none⟩) (s.set (i + j) (⟨(c + (s[i + j]?.getD default).v) % 65536⟩ : U32)).length N by rw [List.length_set]) ?_
        refine Ar.again ((j + 1, (c + (s[i + j]?.getD default).v) / 65536, s.set (i + j) (⟨(c + (s[i + j]?.getD default).v) % 65536⟩ : U32))) ?_ ?_ rfl ⟨rfl, rfl, rfl, rfl, rfl, rfl, rfl, trivial⟩ ⟨rfl, rfl, rfl, rfl, trivial⟩
        · exact ⟨by omega, by omega, by rw [List.length_set]; exact hsN, digs_set hds _ (by omega), mul_next (by omega) hvs (by rw [dg_end hjb, Int.mul_zero, Int.add_zero]; simp only [dg, Int.toNat_natCast]), by omega⟩
        · show lb.length + 1 - (j + 1) < lb.length + 1 - j
          omega
      · have hc : c = 0 := by omega
        subst hc
        rw [Int.mul_zero, Int.add_zero] at hvs
        refine Wc.seq ?_
        refine Wc.seq ?_
        refine Wc.region rfl ?_
        refine Wl.q rfl (Qy.move rfl) ?_
        refine Wl.q rfl (Qy.fieldAddr T.fa63_1 rfl) ?_
        refine Wl.q rfl (Qy.load 1 T.one59 rfl rfl rfl) ?_
        refine Wl.q rfl (Qy.len T.sl59 rfl) ?_
        refine Wl.q rfl (Qy.lss rfl rfl) ?_
        refine Wl.q rfl (Qy.move rfl) ?_
        refine Wl.no 30 rfl (by first | assumption | omega) ?_
        refine Wl.want rfl rfl ?_
        refine Wl.q rfl (Qy.move rfl) ?_
        refine Wl.want rfl rfl ?_
        refine Wl.q rfl (Qy.gtr rfl rfl) ?_
        refine Wl.q rfl (Qy.pick rfl rfl) ?_
        refine Wl.done ?_
        refine Ar.next ?_
        refine Wc.condN rfl (by first | assumption | omega) ?_
        refine Wc.exit ?_
        refine Ar.passExit ?_
        refine Ar.passExit ?_
        refine Ar.here ?_
        refine Ar.outNormal ?_
        refine Ar.next ?_
        refine Wc.region rfl ?_
        refine Wl.q rfl (Qy.move rfl) ?_
        refine Wl.q rfl (Qy.add rfl rfl (by omega)) ?_
        refine Wl.q rfl (Qy.assign rfl) ?_
        refine Wl.done ?_
        refine Ar.again ((i + 1, s)) ?_ ?_ rfl ⟨rfl, rfl, rfl, rfl, rfl, trivial⟩ ⟨rfl, rfl, rfl, rfl, trivial⟩
        · exact ⟨by omega, hsN, hds, mul_end hjb hvs⟩
        · show la.length - (i + 1) < la.length - i
          omega
  · have hor := hown r hrN
    rw [take_all hia] at hv
    refine Wc.seq ?_
    refine Wc.seq ?_
    refine Wc.region rfl ?_
    refine Wl.q rfl (Qy.move rfl) ?_
    refine Wl.q rfl (Qy.fieldAddr T.fa63_1 rfl) ?_
    refine Wl.q rfl (Qy.load 0 T.one59 rfl rfl rfl) ?_
    refine Wl.q rfl (Qy.len T.sl59 rfl) ?_
    refine Wl.q rfl (Qy.lss rfl rfl) ?_
    refine Wl.done ?_
    refine Ar.next ?_
    refine Wc.condN rfl (by first | assumption | omega) ?_
    refine Wc.exit ?_
    refine Ar.passExit ?_
    refine Ar.passExit ?_
    refine Ar.here ?_
    refine Ar.next ?_
    refine Wc.seq ?_
    refine Wc.region rfl ?_
    refine Wl.q rfl (Qy.fieldAddr T.fa63_0 rfl) ?_
    refine Wl.q rfl (Qy.load 0 T.one4 rfl rfl rfl) ?_
    refine Wl.q rfl (Qy.fieldAddr T.fa63_0 rfl) ?_
    refine Wl.q rfl (Qy.load 1 T.one4 rfl rfl rfl) ?_
    refine Wl.q rfl (Qy.neqB T.u4 rfl rfl) ?_
    refine Wl.q rfl (Qy.move rfl) ?_
    have hcap := hor.le
    refine Wl.freezeRow 3 rfl hor (fun G9 hle9 hA => ?_)
    refine Wl.call 4 rfl T.fn119 rfl (c119 _ _ _ _ _ (by assumption) (by omega) (by assumption)) (tags_of trivial) (fun v1 G1 Ho1 hle1 hp => ?_)
    obtain ⟨tn1, rfl, htr1, rfl, rfl⟩ := hp
    refine Wl.storeAll 2 T.size63 rfl rfl rfl rfl rfl rfl ?_
    refine Wl.done ?_
    refine Ar.next ?_
    refine Wc.ret ?_
    refine Ar.out1 (.inr rfl) (Ho := Hp.only _ []) rfl (.agg 2 rfl rfl T.agg63) (Hp.sub_only _ _) ?_
    refine ⟨⟨decide (n1 ≠ n2) && decide (0 < tn1), subA (some ⟨b4, 0, none⟩) N 0 1, tn1, N⟩, rfl, ?_, rfl⟩
    have e := htr1.num hdr hA hcap (decide (n1 ≠ n2))
    have e2 : (if decide (n1 ≠ n2) = true then -valL r else valL r) = x * y := by
      rw [hv, hx.val, hy.val]
      cases n1 <;> cases n2 <;> simp [Int.neg_mul, Int.mul_neg]
    rw [e2] at e; exact e
end Go.Proofs.Ytbppmiimeccclaa
set_option maxRecDepth 100000
set_option linter.unusedVariables false
namespace Go.Proofs.Ytbppmiimeccclaa
open Go Go.Sl
set_option maxHeartbeats 4000000
attribute [local irreducible] valB pb cmpZ lstWp p2 valL pw
theorem c117 (G : Imm) (a : Option Addr) (c : Nat) (xs : List U32) (hx : Arr G a xs) (hl : xs.length ≤ 1099511627776) :
    Does Try.prog 117 [.slice a xs.length c] G [] (fun v G' Ho => ∃ b d j, v = .slice b xs.length d ∧ OwnA b d xs j ∧ Ho = [(0, b.map (·.block), Row 153 xs j)] ∧ G' = G) := by
  refine Does.enter Try.func117 rfl Try.ntmps117 rfl (fun w => ?_)
  refine Wc.seq ?_
  refine Wc.region rfl ?_
  refine Wl.q rfl (Qy.assign rfl) ?_
  refine Wl.done ?_
  refine Ar.next ?_
  refine Wc.seq ?_
  refine Wc.seq ?_
  refine Wc.region rfl ?_
  refine Wl.q rfl (Qy.move rfl) ?_
  refine Wl.q rfl (Qy.eqlSliceNil T.sl59 rfl rfl) ?_
  refine Wl.done ?_
  refine Ar.next ?_
  refine Wc.cond rfl (fun hc1 => ?_) (fun hc1 => ?_)
  refine Wc.seq ?_
  refine Wc.region rfl ?_
  refine Wl.q rfl (Qy.assign rfl) ?_
  refine Wl.done ?_
  refine Ar.next ?_
  refine Wc.ret ?_
  refine Ar.passRet ?_
  rotate_left
  refine Wc.skip ?_
  refine Ar.next ?_
  refine Wc.seq ?_
  refine Wc.region rfl ?_
  refine Wl.lit0 0 rfl T.sl59 (fun b1 => ?_)
  refine Wl.q rfl (Qy.move rfl) ?_
  rotate_left
  · subst hc1
    have hn : xs = [] := by
      rcases hx.2 with h | ⟨b, o, h, _⟩
      · exact List.eq_nil_of_length_eq_zero h
      · cases h
    subst hn
    refine Ar.nilRow 0 (Row 153 ([] : List U32) []) ?_
    refine Ar.out1 (.inr rfl) (Ho := Hp.only _ [0]) rfl (.tmp rfl) (Hp.sub_only _ _) ?_
    exact ⟨none, 0, [], rfl, OwnA.nil, rfl, rfl⟩
  · refine Wl.reH 0 (Row 153 ([] : List U32) []) rfl rfl ?_
    refine Wl.append (α := U32) 0 rfl T.sl59 T.el153 rfl rfl rfl (OwnA.made (by simp)) (Src.arr (by assumption)) (by simp only [List.length_nil]; omega) (by simp only [List.length_nil, maxLen]; omega) (fun a1 c1 junk1 ho1 => ?_)
    refine Wl.q rfl (Qy.assign rfl) ?_
    refine Wl.done ?_
    refine Ar.next ?_
    refine Wc.ret ?_
    refine Ar.out1 (.inr rfl) (Ho := Hp.only _ [0]) rfl (.tmp rfl) (Hp.sub_only _ _) ?_
    exact ⟨_, _, _, rfl, ho1, rfl, rfl⟩
/-- .. taken as what stays -/
theorem c117F (G : Imm) (a : Option Addr) (c : Nat) (xs : List U32) (hx : Arr G a xs) (hl : xs.length ≤ 1099511627776) :
    Does Try.prog 117 [.slice a xs.length c] G [] (fun v G' Ho => ∃ b d, v = .slice b xs.length d ∧ xs.length ≤ d ∧ Arr G' b xs ∧ Ho = []) := by
  refine (Does.frz1 (α := U32) (E := 153) (q := fun v a c ys => v = .slice a xs.length c ∧ ys = xs ∧ xs.length ≤ c)
    ((c117 G a c xs hx hl).mono fun v G' Ho _ ⟨b, d, j, g1, g2, g3, g4⟩ => ⟨b, d, xs, j, ⟨g1, rfl, g2.le⟩, g2, g3, g4⟩)).mono
    fun v G' Ho _ ⟨b, d, ys, ⟨g1, hy, g3⟩, h2, h3⟩ => ?_
  subst hy
  exact ⟨b, d, g1, g3, h2, h3⟩
theorem c75 (G : Imm) (neg : Bool) (a : Option Addr) (c : Nat) (l : List U32) (hl : Arr G a l) (h1 : l.length ≤ 1073741824) :
    Does Try.prog 75 [.agg #[.bool neg, .slice a l.length c]] G [] (fun v G' Ho => ∃ b d, v = .tuple #[.bool neg, .slice b l.length d] ∧ l.length ≤ d ∧ Arr G' b l ∧ Ho = []) := by
  refine Does.enter Try.func75 rfl Try.ntmps75 rfl (fun w => ?_)
  refine Wc.seq ?_
  refine Wc.region rfl ?_
  refine Wl.box 0 rfl rfl rfl (fun b1 => ?_)
  refine Wl.q rfl (Qy.assign rfl) ?_
  refine Wl.q rfl (Qy.assign rfl) ?_
  refine Wl.done ?_
  refine Ar.next ?_
  refine Wc.seq ?_
  refine Wc.draw [0] [] T.mixed rfl ?_
  refine Gm.q 0 [] (by kernel_rfl) rfl rfl (Qy.fieldAddr T.fa61_0 rfl) ?_
  refine Gm.q 1 [0] (by kernel_rfl) rfl rfl (Qy.load 0 T.one4 rfl rfl rfl) ?_
  refine Gm.q 2 [] (by kernel_rfl) rfl rfl (Qy.fieldAddr T.fa61_1 rfl) ?_
  refine Gm.q 3 [0] (by kernel_rfl) rfl rfl (Qy.load 0 T.one59 rfl rfl rfl) ?_
  refine Gm.one 4 ⟨rfl, trivial⟩ (by first | exact Imm.le_refl _ | assumption | (refine Imm.le_trans ?_ (by assumption); first | assumption | (refine Imm.le_trans ?_ (by assumption); assumption))) (by kernel_rfl) rfl ?_
  refine Wl.call 1 rfl T.fn117 rfl (c117F _ _ _ l (by assumption) (by omega)) (tags_of trivial) (fun v1 G1 Ho1 hle1 hp => ?_)
  obtain ⟨lb1, ld1, rfl, hld1, hlb1, rfl⟩ := hp
  replace hl := hl.up hle1
  refine Wl.on0 ?_
  refine Gm.q 5 [] (by kernel_rfl) rfl rfl (Qy.assign rfl) ?_
  refine Gm.q 6 [] (by kernel_rfl) rfl rfl (Qy.assign rfl) ?_
  refine Gm.doneA (by kernel_rfl) ⟨rfl, trivial⟩ (by first | exact Imm.le_refl _ | assumption | (refine Imm.le_trans ?_ (by assumption); first | assumption | (refine Imm.le_trans ?_ (by assumption); assumption))) ?_
  refine Ar.next ?_
  refine Wc.ret ?_
  refine Ar.out2 (.inr rfl) (Ho := []) rfl (.tmp rfl) (.tmp rfl) trivial ?_
  exact ⟨_, _, rfl, hld1, hlb1, rfl⟩
/-- limbs of 32 bits as digits of 16 -/
def halves : List U32 → List U32
  | [] => []
  | x :: l => ⟨x.v % 65536⟩ :: ⟨x.v / 65536⟩ :: halves l
theorem halves_append (l m : List U32) : halves (l ++ m) = halves l ++ halves m := by
  induction l with
  | nil => rfl
  | cons x l ih => simp only [List.cons_append, halves, ih]
theorem halves_len (l : List U32) : (halves l).length = 2 * l.length := by
  induction l with
  | nil => rfl
  | cons x l ih => simp only [halves, List.length_cons, ih]; omega
theorem halves_digs {l : List U32} (h : Lims l) : Digs (halves l) := by
  induction l with
  | nil => exact Digs.nil
  | cons x l ih =>
    have hx := h x List.mem_cons_self
    intro d hd
    simp only [halves, List.mem_cons] at hd
    rcases hd with rfl | rfl | hd
    · show 0 ≤ x.v % 65536 ∧ x.v % 65536 < 65536
      omega
    · show 0 ≤ x.v / 65536 ∧ x.v / 65536 < 65536
      omega
    · exact ih (fun y hy => h y (List.mem_cons_of_mem _ hy)) d hd
theorem halves_val {l : List U32} : valL (halves l) = valB l := by
  induction l with
  | nil => unfold halves valL valB; rfl
  | cons x l ih =>
    simp only [halves, valL_cons, valB_cons, ih]
    omega
theorem c77 (G : Imm) (neg : Bool) (a : Option Addr) (c : Nat) (l : List U32) (z : Int) (hl : Arr G a l) (hz : IsBig neg l z) (h1 : l.length ≤ 268435456) :
    Does Try.prog 77 [.bool neg, .slice a l.length c] G [] (fun v G' Ho => ∃ r : IV, v = .agg #[.bool r.neg, .slice r.a r.n r.c] ∧ Num G' r z ∧ r.n ≤ 2 * l.length ∧ Ho = []) := by
  have hlm := hz.digs
  refine Does.enter Try.func77 rfl Try.ntmps77 rfl (fun w => ?_)
  refine Wc.nilRow 9 (Row 153 ([] : List U32) []) ?_
  refine Wc.seq ?_
  refine Wc.region rfl ?_
  refine Wl.alloc 10 rfl T.zero63 (fun b1 => ?_)
  refine Wl.done ?_
  refine Ar.next ?_
  refine Wc.seq ?_
  refine Wc.region rfl ?_
  refine Wl.q rfl (Qy.assign rfl) ?_
  refine Wl.done ?_
  refine Ar.next ?_
  refine Wc.seq ?_
  refine Wc.seq ?_
  refine Wc.region rfl ?_
  refine Wl.q rfl (Qy.assign rfl) ?_
  refine Wl.done ?_
  refine Ar.next ?_
  refine Wc.block ?_
  refine Wc.loop (ι := Nat × List U32 × (Option Addr × Nat × List Value)) (fun (i, r, (o, d, j)) => ([(6, .int .i64 (i : Int)), (5, .slice o r.length d), (4, Go.Value.pointer (Option.some (Go.Addr.mk b1 0 Option.none))), (0, Go.Value.bool neg), (1, Go.Value.slice a (List.length l) c)], [(9, o.map (·.block), Row 153 r j), (10, Option.some b1, Go.Obj.cells #[Go.Value.bool Bool.false, Go.Value.slice Option.none 0 0] 63)])) (fun (i, r, (o, d, j)) => i ≤ l.length ∧ r = halves (l.take i) ∧ OwnA o d r j) (fun (i, r, (o, d, j)) => l.length - i) ((0, [], (none, 0, []))) (⟨Nat.zero_le _, by rw [List.take_zero]; rfl, OwnA.nil⟩) ⟨rfl, rfl, rfl, rfl, rfl, trivial⟩ ⟨rfl, rfl, trivial⟩ (fun ⟨i, r, (o, d, j)⟩ => fun (hk : i ≤ l.length ∧ r = halves (l.take i) ∧ OwnA o d r j) => ?_)
  obtain ⟨hi1, hi2, hi3⟩ := hk
  have hrl : r.length = 2 * i := by rw [hi2, halves_len, List.length_take]; omega
  rcases Nat.lt_or_ge i l.length with hil | hil
  · have hlim := hlm (l[((i : Nat) : Int).toNat]?.getD default) (by rw [Int.toNat_natCast, List.getElem?_eq_getElem hil]; exact List.getElem_mem hil)
    refine Wc.seq ?_
    refine Wc.seq ?_
    refine Wc.region rfl ?_
    refine Wl.q rfl (Qy.move rfl) ?_
    refine Wl.q rfl (Qy.move rfl) ?_
    refine Wl.q rfl (Qy.len T.sl59 rfl) ?_
    refine Wl.q rfl (Qy.lss rfl rfl) ?_
    refine Wl.done ?_
    refine Ar.next ?_
    refine Wc.condP rfl (by first | assumption | omega) ?_
    refine Wc.skip ?_
    refine Ar.next ?_
    refine Wc.seq ?_
    refine Wc.block ?_
    refine Wc.draw [10, 9] [(9, 12)] T.mixed rfl ?_
    refine Gm.q 0 [] (by kernel_rfl) rfl rfl (Qy.move rfl) ?_
    refine Gm.q 1 [] (by kernel_rfl) rfl rfl (Qy.move rfl) ?_
    refine Gm.q 2 [] (by kernel_rfl) rfl rfl (Qy.move rfl) ?_
    refine Gm.q 3 [] (by kernel_rfl) rfl rfl (Qy.at (α := U32) T.sl59 rfl rfl (by assumption) (by omega)) ?_
    refine Gm.q 4 [] (by kernel_rfl) rfl rfl (Qy.loadG T.one153 rfl (Arr.cell (by assumption) (by omega) 0 rfl rfl)) ?_
    refine Gm.q 5 [] (by kernel_rfl) rfl rfl (Qy.urem rfl rfl (by omega)) ?_
    refine Gm.q 6 [] (by kernel_rfl) rfl rfl (Qy.move rfl) ?_
    refine Gm.q 7 [] (by kernel_rfl) rfl rfl (Qy.move rfl) ?_
    refine Gm.q 8 [] (by kernel_rfl) rfl rfl (Qy.at (α := U32) T.sl59 rfl rfl (by assumption) (by omega)) ?_
    refine Gm.q 9 [] (by kernel_rfl) rfl rfl (Qy.loadG T.one153 rfl (Arr.cell (by assumption) (by omega) 0 rfl rfl)) ?_
    refine Gm.q 10 [] (by kernel_rfl) rfl rfl (Qy.uquo32 rfl rfl (by omega)) ?_
    refine Gm.one 11 ⟨rfl, rfl, trivial⟩ (by first | exact Imm.le_refl _ | assumption | (refine Imm.le_trans ?_ (by assumption); first | assumption | (refine Imm.le_trans ?_ (by assumption); assumption))) (by kernel_rfl) rfl ?_
    refine Wl.lit (α := U32) 11 [⟨Go.Sl.U32.v (Option.getD l[Int.toNat (↑i : Int)]? Inhabited.default) % 65536⟩, ⟨Go.Sl.U32.v (Option.getD l[Int.toNat (↑i : Int)]? Inhabited.default) / 65536⟩] rfl T.sl59 T.el153 rfl rfl rfl rfl rfl (fun b2 => ?_)
    refine Wl.on0 ?_
    refine Gm.one 12 ⟨rfl, rfl, trivial⟩ (by first | exact Imm.le_refl _ | assumption | (refine Imm.le_trans ?_ (by assumption); first | assumption | (refine Imm.le_trans ?_ (by assumption); assumption))) (by kernel_rfl) rfl ?_
    refine Wl.append (α := U32) 9 rfl T.sl59 T.el153 rfl rfl rfl (by first | assumption | exact OwnA.nil | exact OwnA.made (by simp)) (Src.row 11 rfl) (by first | omega | (simp only [List.length_append, List.length_cons, List.length_nil, maxLen]; omega)) (by first | omega | (simp only [List.length_append, List.length_cons, List.length_nil, maxLen]; omega)) (fun a1 c1 junk1 ho1 => ?_)
    refine Wl.on0 ?_
    refine Gm.q 13 [] (by kernel_rfl) rfl rfl (Qy.assign rfl) ?_
    refine Gm.doneA (by kernel_rfl) ⟨rfl, trivial⟩ (by first | exact Imm.le_refl _ | assumption | (refine Imm.le_trans ?_ (by assumption); first | assumption | (refine Imm.le_trans ?_ (by assumption); assumption))) ?_
    refine Ar.outNormal ?_
    refine Ar.next ?_
    refine Wc.region rfl ?_
    refine Wl.q rfl (Qy.move rfl) ?_
    refine Wl.q rfl (Qy.add rfl rfl (by omega)) ?_
    refine Wl.q rfl (Qy.assign rfl) ?_
    refine Wl.done ?_
    refine Ar.re 6 rfl (show _ = Value.int .i64 ((i + 1 : Nat) : Int) from rfl) ?_
    refine Ar.again ((i + 1, r ++ [⟨(l[((i : Nat) : Int).toNat]?.getD default).v % 65536⟩, ⟨(l[((i : Nat) : Int).toNat]?.getD default).v / 65536⟩], (a1, c1, junk1))) ?_ ?_ rfl ⟨rfl, rfl, rfl, rfl, rfl, trivial⟩ ⟨rfl, rfl, trivial⟩
    · refine ⟨by omega, ?_, ho1⟩
      rw [List.take_add_one, halves_append, ← hi2, Int.toNat_natCast, List.getElem?_eq_getElem hil]; rfl
    · show l.length - (i + 1) < l.length - i
      omega
  · have hie : i = l.length := by omega
    subst hie
    rw [List.take_length] at hi2
    refine Wc.seq ?_
    refine Wc.seq ?_
    refine Wc.region rfl ?_
    refine Wl.q rfl (Qy.move rfl) ?_
    refine Wl.q rfl (Qy.move rfl) ?_
    refine Wl.q rfl (Qy.len T.sl59 rfl) ?_
    refine Wl.q rfl (Qy.lss rfl rfl) ?_
    refine Wl.done ?_
    refine Ar.next ?_
    refine Wc.condN rfl (by first | assumption | omega) ?_
    refine Wc.exit ?_
    refine Ar.passExit ?_
    refine Ar.passExit ?_
    refine Ar.here ?_
    refine Ar.next ?_
    refine Wc.seq ?_
    refine Wc.region rfl ?_
    refine Wl.q rfl (Qy.move rfl) ?_
    refine Wl.q rfl (Qy.move rfl) ?_
    refine Wl.freezeRow 9 rfl hi3 (fun G8 hle8 hA8 => ?_)
    refine Wl.call 20 rfl T.fn119 rfl (c119 _ neg o d r hA8 (by omega) hi3.le) (tags_of trivial) (fun v9 G9 Ho9 hle9 hp => ?_)
    obtain ⟨tn, rfl, htr, rfl, rfl⟩ := hp
    refine Wl.storeAll 10 T.size63 rfl rfl rfl rfl rfl rfl ?_
    refine Wl.done ?_
    refine Ar.next ?_
    refine Wc.ret ?_
    have hnum := htr.num (hi2 ▸ halves_digs hlm) hA8 hi3.le neg
    refine Ar.out1 (.inr rfl) (Ho := []) rfl (.agg 10 rfl rfl T.agg63) trivial ?_
    refine ⟨⟨neg && decide (0 < tn), subA o d 0 1, tn, d⟩, rfl, ?_, ?_, rfl⟩
    · rw [hz.val]
      rw [hi2, halves_val] at hnum
      exact hnum
    · show tn ≤ 2 * l.length
      have := htr.1
      omega
theorem cmp_same {x y : Int} : (cmpZ x y = 0) = (x = y) := by
  unfold cmpZ
  apply propext
  constructor
  · intro h
    split at h
    · omega
    · split at h <;> omega
  · rintro rfl
    rw [if_neg (by omega), if_neg (by omega)]
theorem c76 (G : Imm) (x y : IV) (zx zy : Int) (hx : Num G x zx) (hy : Num G y zy) (h1 : x.n ≤ 1073741824) (h2 : y.n ≤ 1073741824) :
    Does Try.prog 76 [.agg #[.bool x.neg, .slice x.a x.n x.c], .agg #[.bool y.neg, .slice y.a y.n y.c]] G [] (fun v G' Ho => v = .bool (decide (zx = zy)) ∧ G' = G ∧ Ho = []) := by
  obtain ⟨n1, a, k1, ca⟩ := x
  obtain ⟨n2, b, k2, cb⟩ := y
  obtain ⟨la, rfl, hla, hA, hx⟩ := hx
  obtain ⟨lb, rfl, hlb, hB, hy⟩ := hy
  have hC := c118 G n1 n2 a b ca cb la lb zx zy hA hB hx hy h1 h2
  refine Does.enter Try.func76 rfl Try.ntmps76 rfl (fun w => ?_)
  refine Wc.seq ?_
  refine Wc.region rfl ?_
  refine Wl.box 0 rfl rfl rfl (fun b1 => ?_)
  refine Wl.box 1 rfl rfl rfl (fun b2 => ?_)
  refine Wl.q rfl (Qy.assign rfl) ?_
  refine Wl.done ?_
  refine Ar.next ?_
  refine Wc.seq ?_
  refine Wc.region rfl ?_
  refine Wl.q rfl (Qy.loadAll 0 T.agg63 rfl rfl rfl) ?_
  refine Wl.q rfl (Qy.loadAll 1 T.agg63 rfl rfl rfl) ?_
  refine Wl.call0 rfl T.fn118 rfl (by apply hC <;> first | assumption | omega | rfl) ?_
  refine Wl.q rfl (Qy.eql rfl rfl) ?_
  refine Wl.q rfl (Qy.assign rfl) ?_
  refine Wl.done ?_
  refine Ar.next ?_
  refine Wc.ret ?_
  refine Ar.out1 (.inr rfl) (Ho := Hp.only _ []) rfl (.tmp rfl) (Hp.sub_only _ _) ?_
  exact ⟨by congr 1; exact decide_eq_decide.mpr (by rw [cmp_same]), rfl, rfl⟩
theorem c30 (G : Imm) (x y : IV) (zx zy : Int) (hx : Big G x zx) (hy : Num G y zy) (h1 : x.n ≤ 268435456) (h2 : y.n ≤ 1073741824) :
    Does Try.prog 30 [.agg (Cells.enc x).toArray, .agg #[.bool y.neg, .slice y.a y.n y.c]] G [] (fun v G' Ho => v = .bool (decide (zx = zy)) ∧ Ho = []) := by
  obtain ⟨xn, a, k1, ca⟩ := x
  obtain ⟨l, rfl, hlc, hA, hx⟩ := hx
  have h1 : l.length ≤ 268435456 := h1
  have h1' : l.length ≤ 1073741824 := by omega
  refine Does.enter Try.func30 rfl Try.ntmps30 rfl (fun w => ?_)
  refine Wc.seq ?_
  refine Wc.region rfl ?_
  refine Wl.box 0 rfl rfl rfl (fun b1 => ?_)
  refine Wl.box 1 rfl rfl rfl (fun b2 => ?_)
  refine Wl.q rfl (Qy.assign rfl) ?_
  refine Wl.done ?_
  refine Ar.next ?_
  refine Wc.seq ?_
  refine Wc.region rfl ?_
  refine Wl.q rfl (Qy.loadAll 0 T.agg61 rfl rfl rfl) ?_
  refine Wl.call 2 rfl T.fn75 rfl (c75 _ xn a ca l hA h1') (tags_of trivial) (fun v1 G1 Ho1 hle1 hp => ?_)
  obtain ⟨lb, ld, rfl, hld, hlb, rfl⟩ := hp
  replace hy := hy.up hle1
  replace hA := hA.up hle1
  refine Wl.q rfl (Qy.move rfl) ?_
  refine Wl.q rfl (Qy.extract rfl rfl) ?_
  refine Wl.q rfl (Qy.extract rfl rfl) ?_
  refine Wl.q rfl (Qy.assign rfl) ?_
  refine Wl.q rfl (Qy.assign rfl) ?_
  refine Wl.done ?_
  refine Ar.next ?_
  refine Wc.seq ?_
  refine Wc.draw [0, 1] [] T.mixed rfl ?_
  refine Gm.q 0 [] (by kernel_rfl) rfl rfl (Qy.move rfl) ?_
  refine Gm.q 1 [] (by kernel_rfl) rfl rfl (Qy.move rfl) ?_
  refine Gm.q 3 [1] (by kernel_rfl) rfl rfl (Qy.loadAll 1 T.agg63 rfl rfl rfl) ?_
  refine Gm.one 2 ⟨rfl, rfl, trivial⟩ (by first | exact Imm.le_refl _ | assumption | (refine Imm.le_trans ?_ (by assumption); first | assumption | (refine Imm.le_trans ?_ (by assumption); assumption))) (by kernel_rfl) rfl ?_
  refine Wl.call 2 rfl T.fn77 rfl (c77 _ xn _ _ l zx hlb hx h1) (tags_of trivial) (fun v2 G2 Ho2 hle2 hp => ?_)
  obtain ⟨r9, rfl, hr9, hr8, rfl⟩ := hp
  replace hlb := hlb.up hle2
  replace hy := hy.up hle2
  replace hA := hA.up hle2
  refine Wl.on0 ?_
  refine Gm.one 4 ⟨rfl, rfl, trivial⟩ (by first | exact Imm.le_refl _ | assumption | (refine Imm.le_trans ?_ (by assumption); first | assumption | (refine Imm.le_trans ?_ (by assumption); assumption))) (by kernel_rfl) rfl ?_
  refine Wl.call0 rfl T.fn76 rfl (c76 _ r9 y zx zy hr9 (by assumption) (by omega) h2) ?_
  refine Wl.on0 ?_
  refine Gm.q 5 [] (by kernel_rfl) rfl rfl (Qy.assign rfl) ?_
  refine Gm.doneA (by kernel_rfl) ⟨rfl, rfl, trivial⟩ (by first | exact Imm.le_refl _ | assumption | (refine Imm.le_trans ?_ (by assumption); first | assumption | (refine Imm.le_trans ?_ (by assumption); assumption))) ?_
  refine Ar.next ?_
  refine Wc.ret ?_
  refine Ar.out1 (.inr rfl) (Ho := Hp.only _ []) rfl (.tmp rfl) (Hp.sub_only _ _) ?_
  exact ⟨rfl, rfl⟩
end Go.Proofs.Ytbppmiimeccclaa
set_option maxRecDepth 100000
set_option linter.unusedVariables false
namespace Go.Proofs.Ytbppmiimeccclaa
open Go Go.Sl
set_option maxHeartbeats 4000000
attribute [local irreducible] valB valL pb pw cmpZ lstWp p2 RightL powR
/-- few digits -/
def small (z : Int) : Prop := z.natAbs < 18446744073709551616
theorem Num.few {G : Imm} {x : IV} {z : Int} (h : Num G x z) (hz : small z) : x.n ≤ 4 := by
  obtain ⟨l, h1, _, _, h4⟩ := h
  rw [← h1]
  refine h4.len ?_
  have e : pw 4 = 18446744073709551616 := by unfold pw; decide
  unfold small at hz; omega
theorem small_pow {c : Int} {e : Nat} (hc : -16 ≤ c ∧ c ≤ 16) (he : e ≤ 15) : small (c ^ e) := by
  unfold small
  have e2 : (c ^ e).natAbs ≤ 16 ^ 15 := by
    rw [Int.natAbs_pow]
    exact Nat.le_trans (Nat.pow_le_pow_left (show c.natAbs ≤ 16 by omega) e) (Nat.pow_le_pow_right (by omega) he)
  have e3 : (16 : Nat) ^ 15 = 1152921504606846976 := by decide
  omega
theorem c115N (G : Imm) (x y : IV) (zx zy : Int) (hx : Num G x zx) (hy : Num G y zy) (bx : small zx) (bz : small zy) :
    Does Try.prog 115 [.agg #[.bool x.neg, .slice x.a x.n x.c], .agg #[.bool y.neg, .slice y.a y.n y.c]] G [] (fun v G' Ho => ∃ r : IV, v = .agg #[.bool r.neg, .slice r.a r.n r.c] ∧ Num G' r (zx * zy) ∧ Ho = []) := by
  have f1 := Num.few hx bx
  have f2 := Num.few hy bz
  obtain ⟨n1, a, k1, ca⟩ := x
  obtain ⟨n2, b, k2, cb⟩ := y
  obtain ⟨la, rfl, hla, hA, hx⟩ := hx
  obtain ⟨lb, rfl, hlb, hB, hy⟩ := hy
  exact c115 G n1 n2 a b ca cb la lb zx zy hA hB hx hy (Nat.le_trans f1 (by decide)) (Nat.le_trans f2 (by decide))
theorem c116 (G : Imm) (x : IV) (z : Int) (e : Nat) (hx : Num G x z) (hz : -16 ≤ z ∧ z ≤ 16) (he : e ≤ 15) :
    Does Try.prog 116 [.agg #[.bool x.neg, .slice x.a x.n x.c], .int .i64 e] G [] (fun v G' Ho => ∃ r : IV, v = .agg #[.bool r.neg, .slice r.a r.n r.c] ∧ Num G' r (z ^ e) ∧ Ho = []) := by
  refine Does.enter Try.func116 rfl Try.ntmps116 rfl (fun w => ?_)
  refine Wc.seq ?_
  refine Wc.region rfl ?_
  refine Wl.box 0 rfl rfl rfl (fun b1 => ?_)
  refine Wl.alloc 1 rfl T.zero63 (fun b2 => ?_)
  refine Wl.done ?_
  refine Ar.next ?_
  refine Wc.seq ?_
  refine Wc.region rfl ?_
  refine Wl.call 2 rfl T.fn85 rfl (c85 _ 1 (by decide)) (tags_of trivial) (fun v1 G1 Ho1 hle1 hp => ?_)
  obtain ⟨ro1, rfl, hro1, rfl⟩ := hp
  replace hx := hx.up hle1
  refine Wl.alloc 2 rfl T.zero63 (fun b3 => ?_)
  refine Wl.storeAll 2 T.size63 rfl rfl rfl rfl rfl rfl ?_
  refine Wl.done ?_
  refine Ar.next ?_
  refine Wc.seq ?_
  refine Wc.seq ?_
  refine Wc.region rfl ?_
  refine Wl.q rfl (Qy.assign rfl) ?_
  refine Wl.done ?_
  refine Ar.next ?_
  refine Wc.block ?_
  refine Wc.loopG (ι := Nat × Imm × IV) (fun (k, Gx, r) => ([(6, .int .i64 (k : Int)), (5, Go.Value.pointer (Option.some (Go.Addr.mk b3 0 Option.none))), (4, Go.Value.pointer (Option.some (Go.Addr.mk b2 0 Option.none))), (2, Go.Value.pointer (Option.some (Go.Addr.mk b1 0 Option.none))), (1, Go.Value.int Go.IntKind.i64 (↑e : Int))], [(2, some b3, .cells #[.bool r.neg, .slice r.a r.n r.c] 63), (1, Option.some b2, Go.Obj.cells #[Go.Value.bool Bool.false, Go.Value.slice Option.none 0 0] 63), (0, Option.some b1, Go.Obj.cells #[Go.Value.bool (Go.Sl.IV.neg x), Go.Value.slice (Go.Sl.IV.a x) (Go.Sl.IV.n x) (Go.Sl.IV.c x)] 63)])) (fun (k, Gx, r) => Gx) (fun (k, Gx, r) => k ≤ e ∧ G1.le Gx ∧ Num Gx r (z ^ k)) (fun (k, Gx, r) => e - k) ((0, G1, ro1)) (⟨Nat.zero_le _, Imm.le_refl _, by rw [Int.pow_zero]; exact hro1⟩) rfl ⟨rfl, rfl, rfl, rfl, rfl, trivial⟩ ⟨rfl, rfl, rfl, trivial⟩ (fun ⟨k, Gx, r⟩ => fun (hk : k ≤ e ∧ G1.le Gx ∧ Num Gx r (z ^ k)) => ?_)
  obtain ⟨hk1, hk2, hk3⟩ := hk
  rcases Nat.lt_or_ge k e with hke | hke
  · have hx' := hx.up hk2
    have s1 : small (z ^ k) := small_pow hz (by omega)
    have s2 : small z := by unfold small; omega
    refine Wc.seq ?_
    refine Wc.seq ?_
    refine Wc.region rfl ?_
    refine Wl.q rfl (Qy.move rfl) ?_
    refine Wl.q rfl (Qy.move rfl) ?_
    refine Wl.q rfl (Qy.lss rfl rfl) ?_
    refine Wl.done ?_
    refine Ar.next ?_
    refine Wc.condP rfl (by first | assumption | omega) ?_
    refine Wc.skip ?_
    refine Ar.next ?_
    refine Wc.seq ?_
    refine Wc.block ?_
    refine Wc.region rfl ?_
    refine Wl.q rfl (Qy.loadAll 2 T.agg63 rfl rfl rfl) ?_
    refine Wl.q rfl (Qy.loadAll 0 T.agg63 rfl rfl rfl) ?_
    refine Wl.call 3 rfl T.fn115 rfl (c115N _ r x (z ^ k) z (by assumption) (by assumption) s1 s2) (tags_of trivial) (fun v2 G2 Ho2 hle2 hp => ?_)
    obtain ⟨rt2, rfl, hrt2, rfl⟩ := hp
    replace hk3 := hk3.up hle2
    replace hx' := hx'.up hle2
    refine Wl.storeAll 2 T.size63 rfl rfl rfl rfl rfl rfl ?_
    refine Wl.done ?_
    refine Ar.outNormal ?_
    refine Ar.next ?_
    refine Wc.region rfl ?_
    refine Wl.q rfl (Qy.move rfl) ?_
    refine Wl.q rfl (Qy.add rfl rfl (by omega)) ?_
    refine Wl.q rfl (Qy.assign rfl) ?_
    refine Wl.done ?_
    refine Ar.re 6 rfl (show _ = Value.int .i64 ((k + 1 : Nat) : Int) from rfl) ?_
    refine Ar.again ((k + 1, _, rt2)) ?_ ?_ rfl ⟨rfl, rfl, rfl, rfl, rfl, trivial⟩ ⟨rfl, rfl, rfl, trivial⟩
    · exact ⟨by omega, Imm.le_trans hk2 (by assumption), by rw [Int.pow_succ]; exact hrt2⟩
    · show e - (k + 1) < e - k
      omega
  · have hke : k = e := by omega
    subst hke
    refine Wc.seq ?_
    refine Wc.seq ?_
    refine Wc.region rfl ?_
    refine Wl.q rfl (Qy.move rfl) ?_
    refine Wl.q rfl (Qy.move rfl) ?_
    refine Wl.q rfl (Qy.lss rfl rfl) ?_
    refine Wl.done ?_
    refine Ar.next ?_
    refine Wc.condN rfl (by first | assumption | omega) ?_
    refine Wc.exit ?_
    refine Ar.passExit ?_
    refine Ar.passExit ?_
    refine Ar.here ?_
    refine Ar.next ?_
    refine Wc.seq ?_
    refine Wc.region rfl ?_
    refine Wl.q rfl (Qy.loadAll 2 T.agg63 rfl rfl rfl) ?_
    refine Wl.storeAll 1 T.size63 rfl rfl rfl rfl rfl rfl ?_
    refine Wl.done ?_
    refine Ar.next ?_
    refine Wc.ret ?_
    refine Ar.out1 (.inr rfl) (Ho := Hp.only _ []) rfl (.agg 1 rfl rfl T.agg63) (Hp.sub_only _ _) ?_
    exact ⟨_, rfl, hk3, rfl⟩
theorem c116I (G : Imm) (x : IV) (z e : Int) (hx : Num G x z) (hz : -16 ≤ z ∧ z ≤ 16) (he : 0 ≤ e ∧ e ≤ 15) :
    Does Try.prog 116 [.agg #[.bool x.neg, .slice x.a x.n x.c], .int .i64 e] G [] (fun v G' Ho => ∃ r : IV, v = .agg #[.bool r.neg, .slice r.a r.n r.c] ∧ Num G' r (z ^ e.toNat) ∧ Ho = []) := by
  obtain ⟨k, rfl⟩ : ∃ k : Nat, e = (k : Int) := ⟨e.toNat, by omega⟩
  exact c116 G x z k hx hz (by omega)
theorem c74 (G : Imm) (a b : Int) (n : Nat) (hp : near a b) (hn : n ≤ 15) :
    Does Try.prog 74 [.agg #[.int .i64 a, .int .i64 b], .int .i64 n] G [] (fun v G' Ho => ∃ (s : Option Addr) (r : List IV) (c' : Nat), v = .slice s r.length c' ∧ Arr G' s r ∧ Nums G' r (powR a b n) ∧ r.length ≤ c' ∧ Ho = []) := by
  refine Does.enter Try.func74 rfl Try.ntmps74 rfl (fun w => ?_)
  refine Wc.nilRow 9 (Row 63 ([] : List IV) []) ?_
  refine Wc.seq ?_
  refine Wc.region rfl ?_
  refine Wl.box 10 rfl rfl rfl (fun b1 => ?_)
  refine Wl.q rfl (Qy.assign rfl) ?_
  refine Wl.done ?_
  refine Ar.next ?_
  refine Wc.seq ?_
  refine Wc.region rfl ?_
  refine Wl.q rfl (Qy.assign rfl) ?_
  refine Wl.done ?_
  refine Ar.next ?_
  refine Wc.seq ?_
  refine Wc.seq ?_
  refine Wc.region rfl ?_
  refine Wl.q rfl (Qy.assign rfl) ?_
  refine Wl.done ?_
  refine Ar.next ?_
  refine Wc.block ?_
  refine Wc.loopG (ι := Nat × Imm × List IV × (Option Addr × Nat × List Value)) (fun (k, Gx, r, (o, d, j)) => ([(6, .int .i64 (k : Int)), (5, .slice o r.length d), (4, Go.Value.slice Option.none 0 0), (2, Go.Value.pointer (Option.some (Go.Addr.mk b1 0 Option.none))), (1, Go.Value.int Go.IntKind.i64 (↑n : Int))], [(9, o.map (·.block), Row 63 r j), (10, Option.some b1, Go.Obj.cells #[Go.Value.int Go.IntKind.i64 a, Go.Value.int Go.IntKind.i64 b] 75)])) (fun (k, Gx, r, (o, d, j)) => Gx) (fun (k, Gx, r, (o, d, j)) => k ≤ n ∧ G.le Gx ∧ r.length = k ∧ Nums Gx r ((powR a b n).take k) ∧ OwnA o d r j) (fun (k, Gx, r, (o, d, j)) => n - k) ((0, G, [], (none, 0, []))) (⟨Nat.zero_le _, Imm.le_refl _, rfl, by rw [List.take_zero]; exact Nums.nil _, OwnA.nil⟩) rfl ⟨rfl, rfl, rfl, rfl, rfl, trivial⟩ ⟨rfl, rfl, trivial⟩ (fun ⟨k, Gx, r, (o, d, j)⟩ => fun (hk : k ≤ n ∧ G.le Gx ∧ r.length = k ∧ Nums Gx r ((powR a b n).take k) ∧ OwnA o d r j) => ?_)
  obtain ⟨hk1, hk2, hk3, hk4, hk5⟩ := hk
  rcases Nat.lt_or_ge k n with hke | hke
  · have s1 : small (a ^ (k : Int).toNat) := small_pow (by unfold near at hp; omega) (by omega)
    have s2 : small (b ^ ((n : Int) - 1 - (k : Int)).toNat) := small_pow (by unfold near at hp; omega) (by omega)
    refine Wc.seq ?_
    refine Wc.seq ?_
    refine Wc.region rfl ?_
    refine Wl.q rfl (Qy.move rfl) ?_
    refine Wl.q rfl (Qy.move rfl) ?_
    refine Wl.q rfl (Qy.lss rfl rfl) ?_
    refine Wl.done ?_
    refine Ar.next ?_
    refine Wc.condP rfl (by first | assumption | omega) ?_
    refine Wc.skip ?_
    refine Ar.next ?_
    refine Wc.seq ?_
    refine Wc.block ?_
    refine Wc.draw [10, 9] [(9, 16)] T.mixed rfl ?_
    refine Gm.q 0 [] (by kernel_rfl) rfl rfl (Qy.move rfl) ?_
    refine Gm.q 1 [] (by kernel_rfl) rfl rfl (Qy.fieldAddr T.fa75_0 rfl) ?_
    refine Gm.q 2 [10] (by kernel_rfl) rfl rfl (Qy.load 10 T.one3 rfl rfl rfl) ?_
    refine Gm.q 4 [] (by kernel_rfl) rfl rfl (Qy.move rfl) ?_
    refine Gm.q 6 [] (by kernel_rfl) rfl rfl (Qy.fieldAddr T.fa75_1 rfl) ?_
    refine Gm.q 7 [10] (by kernel_rfl) rfl rfl (Qy.load 10 T.one3 rfl rfl rfl) ?_
    refine Gm.q 9 [] (by kernel_rfl) rfl rfl (Qy.move rfl) ?_
    refine Gm.q 10 [] (by kernel_rfl) rfl rfl (Qy.sub rfl rfl (by omega)) ?_
    refine Gm.q 11 [] (by kernel_rfl) rfl rfl (Qy.move rfl) ?_
    refine Gm.q 12 [] (by kernel_rfl) rfl rfl (Qy.sub rfl rfl (by omega)) ?_
    refine Gm.one 3 ⟨rfl, rfl, trivial⟩ (by first | exact Imm.le_refl _ | repeat (first | assumption | refine Imm.le_trans ?_ (by assumption))) (by kernel_rfl) rfl ?_
    refine Wl.call 11 rfl T.fn85 rfl (c85 _ _ (by unfold near at hp; omega)) (tags_of trivial) (fun v1 G1 Ho1 hle1 hp => ?_)
    obtain ⟨ro1, rfl, hro1, rfl⟩ := hp
    replace hk4 := hk4.up hle1
    refine Wl.on0 ?_
    refine Gm.one 5 ⟨rfl, rfl, trivial⟩ (by first | exact Imm.le_refl _ | repeat (first | assumption | refine Imm.le_trans ?_ (by assumption))) (by kernel_rfl) rfl ?_
    refine Wl.call 11 rfl T.fn116 rfl (c116I _ _ _ _ (by assumption) (by unfold near at hp; omega) (by omega)) (tags_of trivial) (fun v2 G2 Ho2 hle2 hp => ?_)
    obtain ⟨rp2, rfl, hrp2, rfl⟩ := hp
    replace hro1 := hro1.up hle2
    replace hk4 := hk4.up hle2
    refine Wl.on0 ?_
    refine Gm.one 8 ⟨rfl, rfl, trivial⟩ (by first | exact Imm.le_refl _ | repeat (first | assumption | refine Imm.le_trans ?_ (by assumption))) (by kernel_rfl) rfl ?_
    refine Wl.call 11 rfl T.fn85 rfl (c85 _ _ (by unfold near at hp; omega)) (tags_of trivial) (fun v3 G3 Ho3 hle3 hp => ?_)
    obtain ⟨ro3, rfl, hro3, rfl⟩ := hp
    replace hrp2 := hrp2.up hle3
    replace hro1 := hro1.up hle3
    replace hk4 := hk4.up hle3
    refine Wl.on0 ?_
    refine Gm.one 13 ⟨rfl, rfl, trivial⟩ (by first | exact Imm.le_refl _ | repeat (first | assumption | refine Imm.le_trans ?_ (by assumption))) (by kernel_rfl) rfl ?_
    refine Wl.call 11 rfl T.fn116 rfl (c116I _ _ _ _ (by assumption) (by unfold near at hp; omega) (by omega)) (tags_of trivial) (fun v4 G4 Ho4 hle4 hp => ?_)
    obtain ⟨rp4, rfl, hrp4, rfl⟩ := hp
    replace hro3 := hro3.up hle4
    replace hrp2 := hrp2.up hle4
    replace hro1 := hro1.up hle4
    replace hk4 := hk4.up hle4
    refine Wl.on0 ?_
    refine Gm.one 14 ⟨rfl, rfl, trivial⟩ (by first | exact Imm.le_refl _ | repeat (first | assumption | refine Imm.le_trans ?_ (by assumption))) (by kernel_rfl) rfl ?_
    refine Wl.call 11 rfl T.fn115 rfl (c115N _ _ _ _ _ hrp2 hrp4 s1 s2) (tags_of trivial) (fun v5 G5 Ho5 hle5 hp => ?_)
    obtain ⟨rt5, rfl, hrt5, rfl⟩ := hp
    replace hrp4 := hrp4.up hle5
    replace hro3 := hro3.up hle5
    replace hrp2 := hrp2.up hle5
    replace hro1 := hro1.up hle5
    replace hk4 := hk4.up hle5
    refine Wl.on0 ?_
    refine Gm.one 15 ⟨rfl, rfl, trivial⟩ (by first | exact Imm.le_refl _ | repeat (first | assumption | refine Imm.le_trans ?_ (by assumption))) (by kernel_rfl) rfl ?_
    refine Wl.lit (α := IV) 11 [⟨_, _, _, _⟩] rfl T.sl56 T.el63 rfl rfl rfl rfl rfl (fun b2 => ?_)
    refine Wl.on0 ?_
    refine Gm.one 16 ⟨rfl, rfl, trivial⟩ (by first | exact Imm.le_refl _ | repeat (first | assumption | refine Imm.le_trans ?_ (by assumption))) (by kernel_rfl) rfl ?_
    refine Wl.append (α := IV) 9 rfl T.sl56 T.el63 rfl rfl rfl (by first | assumption | exact OwnA.nil | exact OwnA.made (by simp)) (Src.row 11 rfl) (by first | omega | (simp only [List.length_append, List.length_cons, List.length_nil, maxLen]; omega)) (by first | omega | (simp only [List.length_append, List.length_cons, List.length_nil, maxLen]; omega)) (fun a1 c1 junk1 ho1 => ?_)
    refine Wl.on0 ?_
    refine Gm.q 17 [] (by kernel_rfl) rfl rfl (Qy.assign rfl) ?_
    refine Gm.doneA (by kernel_rfl) ⟨rfl, trivial⟩ (by first | exact Imm.le_refl _ | repeat (first | assumption | refine Imm.le_trans ?_ (by assumption))) ?_
    refine Ar.outNormal ?_
    refine Ar.next ?_
    refine Wc.region rfl ?_
    refine Wl.q rfl (Qy.move rfl) ?_
    refine Wl.q rfl (Qy.add rfl rfl (by omega)) ?_
    refine Wl.q rfl (Qy.assign rfl) ?_
    refine Wl.done ?_
    refine Ar.re 6 rfl (show _ = Value.int .i64 ((k + 1 : Nat) : Int) from rfl) ?_
    refine Ar.again ((k + 1, _, r ++ [rt5], (a1, c1, junk1))) ?_ ?_ rfl ⟨rfl, rfl, rfl, rfl, rfl, trivial⟩ ⟨rfl, rfl, trivial⟩
    · refine ⟨by omega, Imm.le_trans hk2 (by repeat (first | assumption | refine Imm.le_trans ?_ (by assumption))), by rw [List.length_append, hk3]; rfl, ?_, ho1⟩
      have e : (powR a b n).take (k + 1) = (powR a b n).take k ++ [a ^ (k : Int).toNat * b ^ ((n : Int) - 1 - (k : Int)).toNat] := by
        rw [List.take_add_one]
        congr 1
        unfold powR
        rw [List.getElem?_map, List.getElem?_range hke, Int.toNat_natCast, show ((n : Int) - 1 - (k : Int)).toNat = n - 1 - k by omega]; rfl
      rw [e]
      exact hk4.snoc hrt5
    · show n - (k + 1) < n - k
      omega
  · have hie : k = n := by omega
    subst hie
    have e : (powR a b k).take k = powR a b k := List.take_of_length_le (by unfold powR; simp)
    rw [e] at hk4
    refine Wc.seq ?_
    refine Wc.seq ?_
    refine Wc.region rfl ?_
    refine Wl.q rfl (Qy.move rfl) ?_
    refine Wl.q rfl (Qy.move rfl) ?_
    refine Wl.q rfl (Qy.lss rfl rfl) ?_
    refine Wl.done ?_
    refine Ar.next ?_
    refine Wc.condN rfl (by first | assumption | omega) ?_
    refine Wc.exit ?_
    refine Ar.passExit ?_
    refine Ar.passExit ?_
    refine Ar.here ?_
    refine Ar.next ?_
    refine Wc.seq ?_
    refine Wc.region rfl ?_
    refine Wl.q rfl (Qy.move rfl) ?_
    refine Wl.q rfl (Qy.assign rfl) ?_
    refine Wl.done ?_
    refine Ar.next ?_
    refine Wc.ret ?_
    refine Ar.freezeRow 9 rfl hk5 (fun G8 hle8 hA8 => ?_)
    refine Ar.out1 (.inr rfl) (Ho := []) rfl (.tmp rfl) trivial ?_
    exact ⟨_, _, _, rfl, hA8, hk4.up hle8, hk5.le, rfl⟩
end Go.Proofs.Ytbppmiimeccclaa
set_option maxRecDepth 100000
set_option linter.unusedVariables false
namespace Go.Proofs.Ytbppmiimeccclaa
open Go Go.Sl
set_option maxHeartbeats 4000000
attribute [local irreducible] valB valL pb pw cmpZ lstWp p2 RightL powR
/-- a row of the reference's numbers, by its slice -/
def NRow (G : Imm) (s : SV) (zs : List Int) : Prop := ∃ l : List IV, l.length = s.n ∧ s.n ≤ s.c ∧ Arr G s.a l ∧ Nums G l zs
theorem NRow.up {G G' : Imm} {s : SV} {zs : List Int} (h : NRow G s zs) (hl : G.le G') : NRow G' s zs := by
  obtain ⟨l, h1, h2, h3, h4⟩ := h
  exact ⟨l, h1, h2, h3.up hl, h4.up hl⟩
def NGrid (G : Imm) (l : List SV) (rs : List (List Int)) : Prop := l.length = rs.length ∧ ∀ i : Nat, i < l.length → NRow G (l[i]?.getD default) (rs[i]?.getD [])
theorem NGrid.up {G G' : Imm} {l : List SV} {rs : List (List Int)} (h : NGrid G l rs) (hl : G.le G') : NGrid G' l rs := ⟨h.1, fun i hi => (h.2 i hi).up hl⟩
theorem NGrid.nil (G : Imm) : NGrid G [] [] := ⟨rfl, fun i hi => by simp at hi⟩
theorem NGrid.snoc {G : Imm} {l : List SV} {rs : List (List Int)} (h : NGrid G l rs) {s : SV} {zs : List Int} (hs : NRow G s zs) : NGrid G (l ++ [s]) (rs ++ [zs]) := by
  refine ⟨by rw [List.length_append, List.length_append, h.1]; rfl, fun i hi => ?_⟩
  rw [List.length_append, List.length_singleton] at hi
  rcases Nat.lt_or_ge i l.length with h1 | h1
  · rw [List.getElem?_append_left h1, List.getElem?_append_left (by rw [← h.1]; exact h1)]; exact h.2 i h1
  · have : i = l.length := by omega
    subst this
    rw [List.getElem?_append_right (Nat.le_refl _), List.getElem?_append_right (by rw [h.1]; exact Nat.le_refl _), Nat.sub_self, h.1, Nat.sub_self]
    exact hs
theorem c29 (G : Imm) (a : Option Addr) (c : Nat) (l : List R2) (ha : Arr G a l) (h1 : l.length ≤ 1048576) (hc : l.length ≤ c) (hr1 : l.length ≤ 15) (hr2 : ∀ i, i < l.length → okP (l[i]?.getD default)) :
    Does Try.prog 29 [.slice a l.length c] G [] (fun v G' Ho => ∃ (s : Option Addr) (r : List SV) (c' : Nat), v = .slice s r.length c' ∧ Arr G' s r ∧ NGrid G' r (gridR l) ∧ r.length ≤ c' ∧ Ho = []) := by
  refine Does.enter Try.func29 rfl Try.ntmps29 rfl (fun w => ?_)
  refine Wc.nilRow 9 (Row 57 ([] : List SV) []) ?_
  refine Wc.seq ?_
  refine Wc.region rfl ?_
  refine Wl.q rfl (Qy.assign rfl) ?_
  refine Wl.done ?_
  refine Ar.next ?_
  refine Wc.seq ?_
  refine Wc.region rfl ?_
  refine Wl.q rfl (Qy.assign rfl) ?_
  refine Wl.done ?_
  refine Ar.next ?_
  refine Wc.seq ?_
  refine Wc.seq ?_
  refine Wc.region rfl ?_
  refine Wl.q rfl (Qy.assign rfl) ?_
  refine Wl.done ?_
  refine Ar.next ?_
  refine Wc.block ?_
  refine Wc.loopG (ι := Nat × Imm × List SV × (Option Addr × Nat × List Value)) (fun (i, Gx, r, (o, d, j)) => ([(4, .int .i64 (i : Int)), (3, .slice o r.length d), (2, Go.Value.slice Option.none 0 0), (0, Go.Value.slice a (List.length l) c)], [(9, o.map (·.block), Row 57 r j)])) (fun (i, Gx, r, (o, d, j)) => Gx) (fun (i, Gx, r, (o, d, j)) => i ≤ l.length ∧ G.le Gx ∧ r.length = i ∧ NGrid Gx r ((gridR l).take i) ∧ OwnA o d r j) (fun (i, Gx, r, (o, d, j)) => l.length - i) ((0, G, [], (none, 0, []))) (⟨Nat.zero_le _, Imm.le_refl _, rfl, by rw [List.take_zero]; exact NGrid.nil _, OwnA.nil⟩) rfl ⟨rfl, rfl, rfl, rfl, trivial⟩ ⟨rfl, trivial⟩ (fun ⟨i, Gx, r, (o, d, j)⟩ => fun (hk : i ≤ l.length ∧ G.le Gx ∧ r.length = i ∧ NGrid Gx r ((gridR l).take i) ∧ OwnA o d r j) => ?_)
  obtain ⟨hi1, hi2, hi3, hi4, hi5⟩ := hk
  replace ha := ha.up hi2
  rcases Nat.lt_or_ge i l.length with hil | hil
  · have hnear : near (l[((i : Nat) : Int).toNat]?.getD default).a (l[((i : Nat) : Int).toNat]?.getD default).b := (hr2 i hil).1
    refine Wc.seq ?_
    refine Wc.seq ?_
    refine Wc.region rfl ?_
    refine Wl.q rfl (Qy.move rfl) ?_
    refine Wl.q rfl (Qy.move rfl) ?_
    refine Wl.q rfl (Qy.len T.sl47 rfl) ?_
    refine Wl.q rfl (Qy.lss rfl rfl) ?_
    refine Wl.done ?_
    refine Ar.next ?_
    refine Wc.condP rfl (by first | assumption | omega) ?_
    refine Wc.skip ?_
    refine Ar.next ?_
    refine Wc.seq ?_
    refine Wc.block ?_
    refine Wc.region rfl ?_
    refine Wl.q rfl (Qy.move rfl) ?_
    refine Wl.q rfl (Qy.move rfl) ?_
    refine Wl.q rfl (Qy.move rfl) ?_
    refine Wl.q rfl (Qy.at (α := R2) T.sl47 rfl rfl (by assumption) (by omega)) ?_
    refine Wl.q rfl (Qy.loadsG T.agg75 rfl (Arr.elem (by assumption) (by omega)) rfl) ?_
    refine Wl.q rfl (Qy.move rfl) ?_
    refine Wl.q rfl (Qy.len T.sl47 rfl) ?_
    refine Wl.call 10 rfl T.fn74 rfl (c74 _ _ _ l.length hnear (by omega)) (tags_of trivial) (fun v1 G1 Ho1 hle1 hp => ?_)
    obtain ⟨ps1, pr1, pc1, rfl, hpA1, hpB1, hpL1, rfl⟩ := hp
    replace ha := ha.up hle1
    refine Wl.lit (α := SV) 10 [⟨_, _, _⟩] rfl T.sl54 T.el57 rfl rfl rfl rfl rfl (fun b1 => ?_)
    refine Wl.append (α := SV) 9 rfl T.sl54 T.el57 rfl rfl rfl (by first | assumption | exact OwnA.nil | exact OwnA.made (by simp)) (Src.row 10 rfl) (by first | omega | (simp only [List.length_append, List.length_cons, List.length_nil, maxLen]; omega)) (by first | omega | (simp only [List.length_append, List.length_cons, List.length_nil, maxLen]; omega)) (fun a1 c1 junk1 ho1 => ?_)
    refine Wl.q rfl (Qy.assign rfl) ?_
    refine Wl.done ?_
    refine Ar.outNormal ?_
    refine Ar.next ?_
    refine Wc.region rfl ?_
    refine Wl.q rfl (Qy.move rfl) ?_
    refine Wl.q rfl (Qy.add rfl rfl (by omega)) ?_
    refine Wl.q rfl (Qy.assign rfl) ?_
    refine Wl.done ?_
    refine Ar.re 4 rfl (show _ = Value.int .i64 ((i + 1 : Nat) : Int) from rfl) ?_
    refine Ar.again ((i + 1, _, r ++ [⟨ps1, pr1.length, pc1⟩], (a1, c1, junk1))) ?_ ?_ rfl ⟨rfl, rfl, rfl, rfl, trivial⟩ ⟨rfl, trivial⟩
    · refine ⟨by omega, Imm.le_trans hi2 (by assumption), by rw [List.length_append, hi3]; rfl, ?_, ho1⟩
      have e : (gridR l).take (i + 1) = (gridR l).take i ++ [powR (l[((i : Nat) : Int).toNat]?.getD default).a (l[((i : Nat) : Int).toNat]?.getD default).b l.length] := by
        rw [List.take_add_one]
        congr 1
        unfold gridR
        rw [List.getElem?_map, Int.toNat_natCast, List.getElem?_eq_getElem hil]; rfl
      rw [e]
      exact NGrid.snoc (by first | assumption | exact hi4.up (by assumption)) ⟨pr1, rfl, hpL1, hpA1, hpB1⟩
    · show l.length - (i + 1) < l.length - i
      omega
  · have hie : i = l.length := by omega
    subst hie
    have e : (gridR l).take l.length = gridR l := List.take_of_length_le (by unfold gridR; rw [List.length_map]; exact Nat.le_refl _)
    rw [e] at hi4
    refine Wc.seq ?_
    refine Wc.seq ?_
    refine Wc.region rfl ?_
    refine Wl.q rfl (Qy.move rfl) ?_
    refine Wl.q rfl (Qy.move rfl) ?_
    refine Wl.q rfl (Qy.len T.sl47 rfl) ?_
    refine Wl.q rfl (Qy.lss rfl rfl) ?_
    refine Wl.done ?_
    refine Ar.next ?_
    refine Wc.condN rfl (by first | assumption | omega) ?_
    refine Wc.exit ?_
    refine Ar.passExit ?_
    refine Ar.passExit ?_
    refine Ar.here ?_
    refine Ar.next ?_
    refine Wc.seq ?_
    refine Wc.region rfl ?_
    refine Wl.q rfl (Qy.move rfl) ?_
    refine Wl.q rfl (Qy.assign rfl) ?_
    refine Wl.done ?_
    refine Ar.next ?_
    refine Wc.ret ?_
    refine Ar.freezeRow 9 rfl hi5 (fun G8 hle8 hA8 => ?_)
    refine Ar.out1 (.inr rfl) (Ho := []) rfl (.tmp rfl) trivial ?_
    exact ⟨_, _, _, rfl, hA8, hi4.up hle8, hi5.le, rfl⟩
end Go.Proofs.Ytbppmiimeccclaa
set_option maxRecDepth 100000
set_option linter.unusedVariables false
namespace Go.Proofs.Ytbppmiimeccclaa
open Go Go.Sl
set_option maxHeartbeats 4000000
attribute [local irreducible] valB valL pb pw cmpZ lstWp p2 RightL powR
/-- the greatest of 1 to k that divides both -/
def cm (a b : Int) : Nat → Int
  | 0 => 0
  | k + 1 => if a.tmod ((k + 1 : Nat) : Int) = 0 ∧ b.tmod ((k + 1 : Nat) : Int) = 0 ∧ ¬ (a = 0 ∧ b = 0) then ((k + 1 : Nat) : Int) else cm a b k
theorem cm_small {a b : Int} (h : near a b) : cm a b 16 = Int.gcd a b := by
  by_cases h0 : a = 0 ∧ b = 0
  · obtain ⟨rfl, rfl⟩ := h0
    decide
  · have hg0 : 0 < Int.gcd a b := Nat.pos_of_ne_zero fun h1 => h0 (Int.gcd_eq_zero_iff.mp h1)
    have hg16 : Int.gcd a b ≤ 16 := by
      by_cases ha : a = 0
      · have := Nat.le_of_dvd (by omega) (show Int.gcd a b ∣ b.natAbs from Nat.gcd_dvd_right _ _)
        unfold near at h; omega
      · have := Nat.le_of_dvd (by omega) (show Int.gcd a b ∣ a.natAbs from Nat.gcd_dvd_left _ _)
        unfold near at h; omega
    have key : ∀ k : Nat, Int.gcd a b ≤ k → cm a b k = Int.gcd a b := by
      intro k
      induction k with
      | zero => intro h; omega
      | succ k ih =>
        intro hk
        unfold cm
        by_cases hk2 : Int.gcd a b = k + 1
        · rw [if_pos ⟨Int.tmod_eq_zero_of_dvd (by rw [← hk2]; exact Int.gcd_dvd_left a b), Int.tmod_eq_zero_of_dvd (by rw [← hk2]; exact Int.gcd_dvd_right a b), h0⟩, hk2]
        · rw [if_neg, ih (by omega)]
          intro ⟨d1, d2, _⟩
          have e1 := Int.dvd_of_tmod_eq_zero d1
          have e2 := Int.dvd_of_tmod_eq_zero d2
          have e3 := Int.dvd_coe_gcd e1 e2
          have := Int.le_of_dvd (by omega) e3
          omega
    exact key 16 hg16
theorem c120 (G : Imm) (a b : Int) (hp : near a b) :
    Does Try.prog 120 [.agg #[.int .i64 a, .int .i64 b]] G [] (fun v G' Ho => v = .int .i64 (Int.gcd a b) ∧ G' = G ∧ Ho = []) := by
  refine Does.enter Try.func120 rfl Try.ntmps120 rfl (fun w => ?_)
  refine Wc.seq ?_
  refine Wc.region rfl ?_
  refine Wl.box 0 rfl rfl rfl (fun b1 => ?_)
  refine Wl.q rfl (Qy.assign rfl) ?_
  refine Wl.done ?_
  refine Ar.next ?_
  refine Wc.seq ?_
  refine Wc.region rfl ?_
  refine Wl.q rfl (Qy.assign rfl) ?_
  refine Wl.done ?_
  refine Ar.next ?_
  refine Wc.seq ?_
  refine Wc.seq ?_
  refine Wc.region rfl ?_
  refine Wl.q rfl (Qy.assign rfl) ?_
  refine Wl.done ?_
  refine Ar.next ?_
  refine Wc.block ?_
  refine Wc.loop (ι := Nat) (fun k => ([(4, .int .i64 ((k : Int) + 1)), (3, .int .i64 (cm a b k)), (2, Go.Value.int Go.IntKind.i64 0), (1, Go.Value.pointer (Option.some (Go.Addr.mk b1 0 Option.none)))], [(0, Option.some b1, Go.Obj.cells #[Go.Value.int Go.IntKind.i64 a, Go.Value.int Go.IntKind.i64 b] 75)])) (fun k => k ≤ 16) (fun k => 16 - k) (0) (Nat.zero_le _) ⟨rfl, rfl, rfl, rfl, trivial⟩ ⟨rfl, trivial⟩ (fun k => fun (hk : k ≤ 16) => ?_)
  rcases Nat.lt_or_ge k 16 with hke | hke
  · refine Wc.seq ?_
    refine Wc.seq ?_
    refine Wc.region rfl ?_
    refine Wl.q rfl (Qy.move rfl) ?_
    refine Wl.q rfl (Qy.leq rfl rfl) ?_
    refine Wl.done ?_
    refine Ar.next ?_
    refine Wc.condP rfl (by first | assumption | omega) ?_
    refine Wc.skip ?_
    refine Ar.next ?_
    refine Wc.seq ?_
    refine Wc.block ?_
    refine Wc.seq ?_
    refine Wc.region rfl ?_
    refine Wl.q rfl (Qy.fieldAddr T.fa75_0 rfl) ?_
    refine Wl.q rfl (Qy.load 0 T.one3 rfl rfl rfl) ?_
    refine Wl.q rfl (Qy.move rfl) ?_
    refine Wl.q rfl (Qy.rem rfl rfl (by omega)) ?_
    refine Wl.q rfl (Qy.eql rfl rfl) ?_
    refine Wl.q rfl (Qy.move rfl) ?_
    apply Wl.joinAnd 6 14 20 rfl
    intro hg1
    refine Wl.want rfl rfl ?_
    refine Wl.q rfl (Qy.fieldAddr T.fa75_1 rfl) ?_
    refine Wl.want rfl rfl ?_
    refine Wl.q rfl (Qy.load 0 T.one3 rfl rfl rfl) ?_
    refine Wl.want rfl rfl ?_
    refine Wl.q rfl (Qy.move rfl) ?_
    refine Wl.want rfl rfl ?_
    refine Wl.q rfl (Qy.rem rfl rfl (by omega)) ?_
    refine Wl.want rfl rfl ?_
    refine Wl.q rfl (Qy.eql rfl rfl) ?_
    refine Wl.q rfl (Qy.pick rfl rfl) ?_
    exact Wl.back 6 0 rfl rfl rfl rfl rfl
    intro hg1
    refine Wl.pass rfl rfl rfl ?_
    refine Wl.pass rfl rfl rfl ?_
    refine Wl.pass rfl rfl rfl ?_
    refine Wl.pass rfl rfl rfl ?_
    refine Wl.pass rfl rfl rfl ?_
    refine Wl.q rfl (Qy.pick rfl rfl) ?_
    exact Wl.back 6 0 rfl rfl rfl rfl rfl
    refine Wl.q rfl (Qy.move rfl) ?_
    apply Wl.joinAnd 4 21 25 rfl
    intro hg1
    refine Wl.want rfl rfl ?_
    refine Wl.q rfl (Qy.loadAll 0 T.agg75 rfl rfl rfl) ?_
    refine Wl.want rfl rfl ?_
    refine Wl.call0 rfl T.fn64 rfl (c64 _ _ _) ?_
    refine Wl.want rfl rfl ?_
    refine Wl.q rfl (Qy.notD rfl) ?_
    refine Wl.q rfl (Qy.pick rfl rfl) ?_
    exact Wl.back 4 0 rfl rfl rfl rfl rfl
    intro hg1
    refine Wl.pass rfl rfl rfl ?_
    refine Wl.pass rfl rfl rfl ?_
    refine Wl.pass rfl rfl rfl ?_
    refine Wl.q rfl (Qy.pick rfl rfl) ?_
    exact Wl.back 4 0 rfl rfl rfl rfl rfl
    refine Wl.done ?_
    refine Ar.next ?_
    refine Wc.cond rfl (fun hc1 => ?_) (fun hc1 => ?_)
    refine Wc.region rfl ?_
    refine Wl.q rfl (Qy.move rfl) ?_
    refine Wl.q rfl (Qy.assign rfl) ?_
    refine Wl.done ?_
    refine Ar.outNormal ?_
    refine Ar.next ?_
    refine Wc.region rfl ?_
    refine Wl.q rfl (Qy.move rfl) ?_
    refine Wl.q rfl (Qy.add rfl rfl (by omega)) ?_
    refine Wl.q rfl (Qy.assign rfl) ?_
    refine Wl.done ?_
    rotate_left
    refine Wc.skip ?_
    refine Ar.outNormal ?_
    refine Ar.next ?_
    refine Wc.region rfl ?_
    refine Wl.q rfl (Qy.move rfl) ?_
    refine Wl.q rfl (Qy.add rfl rfl (by omega)) ?_
    refine Wl.q rfl (Qy.assign rfl) ?_
    refine Wl.done ?_
    rotate_left
    · refine Ar.re 4 rfl (show _ = Value.int .i64 (((k + 1 : Nat) : Int) + 1) from rfl) ?_
      refine Ar.re 3 rfl (show _ = Value.int .i64 (cm a b (k + 1)) by unfold cm; rw [if_pos ⟨hc1.1.1, hc1.1.2, hc1.2⟩]; rfl) ?_
      refine Ar.again (k + 1) ?_ ?_ rfl ⟨rfl, rfl, rfl, rfl, trivial⟩ ⟨rfl, trivial⟩
      · exact hke
      · show 16 - (k + 1) < 16 - k
        omega
    · refine Ar.re 4 rfl (show _ = Value.int .i64 (((k + 1 : Nat) : Int) + 1) from rfl) ?_
      refine Ar.re 3 rfl (show _ = Value.int .i64 (cm a b (k + 1)) by { have e : cm a b (k + 1) = cm a b k := by { show (if a.tmod ((k + 1 : Nat) : Int) = 0 ∧ b.tmod ((k + 1 : Nat) : Int) = 0 ∧ ¬ (a = 0 ∧ b = 0) then ((k + 1 : Nat) : Int) else cm a b k) = _; rw [if_neg (fun h => hc1 ⟨⟨h.1, h.2.1⟩, h.2.2⟩)] }; rw [e] }) ?_
      refine Ar.again (k + 1) ?_ ?_ rfl ⟨rfl, rfl, rfl, rfl, trivial⟩ ⟨rfl, trivial⟩
      · exact hke
      · show 16 - (k + 1) < 16 - k
        omega
  · have hke : k = 16 := by omega
    subst hke
    refine Wc.seq ?_
    refine Wc.seq ?_
    refine Wc.region rfl ?_
    refine Wl.q rfl (Qy.move rfl) ?_
    refine Wl.q rfl (Qy.leq rfl rfl) ?_
    refine Wl.done ?_
    refine Ar.next ?_
    refine Wc.condN rfl (by first | assumption | omega) ?_
    refine Wc.exit ?_
    refine Ar.passExit ?_
    refine Ar.passExit ?_
    refine Ar.here ?_
    refine Ar.next ?_
    refine Wc.seq ?_
    refine Wc.region rfl ?_
    refine Wl.q rfl (Qy.move rfl) ?_
    refine Wl.q rfl (Qy.assign rfl) ?_
    refine Wl.done ?_
    refine Ar.next ?_
    refine Wc.ret ?_
    refine Ar.out1 (.inr rfl) (Ho := Hp.only _ []) rfl (.tmp rfl) (Hp.sub_only _ _) ?_
    exact ⟨by rw [cm_small hp], rfl, rfl⟩
theorem c79 (G : Imm) (a b : Int) (hp : near a b) :
    Does Try.prog 79 [.agg #[.int .i64 a, .int .i64 b]] G [] (fun v G' Ho => v = .agg #[.int .i64 (nrm a b).1, .int .i64 (nrm a b).2] ∧ G' = G ∧ Ho = []) := by
  refine Does.enter Try.func79 rfl Try.ntmps79 rfl (fun w => ?_)
  have hga := Int.gcd_dvd_left a b
  have hgm : (Int.gcd a b : Int) ≤ 4611686018427387904 := by
    unfold near at hp
    by_cases h : a = 0
    · subst h; rw [Int.gcd_zero_left]; omega
    · have := Int.le_of_dvd (show 0 < (a.natAbs : Int) by omega) (Int.dvd_natAbs.mpr hga); omega
  have q1 := tdiv_rng a (Int.gcd a b : Int)
  have q2 := tdiv_rng b (Int.gcd a b : Int)
  have q3 := tdiv_rng a (-(Int.gcd a b : Int))
  have q4 := tdiv_rng b (-(Int.gcd a b : Int))
  have hp' := hp
  unfold near at hp'
  refine Wc.seq ?_
  refine Wc.region rfl ?_
  refine Wl.box 0 rfl rfl rfl (fun b1 => ?_)
  refine Wl.alloc 1 rfl T.zero75 (fun b2 => ?_)
  refine Wl.done ?_
  refine Ar.next ?_
  refine Wc.seq ?_
  refine Wc.region rfl ?_
  refine Wl.q rfl (Qy.loadAll 0 T.agg75 rfl rfl rfl) ?_
  refine Wl.call0 rfl T.fn120 rfl (c120 _ _ _ hp) ?_
  refine Wl.q rfl (Qy.assign rfl) ?_
  refine Wl.done ?_
  refine Ar.next ?_
  refine Wc.seq ?_
  refine Wc.seq ?_
  refine Wc.region rfl ?_
  refine Wl.q rfl (Qy.move rfl) ?_
  refine Wl.q rfl (Qy.eql rfl rfl) ?_
  refine Wl.done ?_
  refine Ar.next ?_
  refine Wc.cond rfl (fun hc1 => ?_) (fun hc1 => ?_)
  refine Wc.seq ?_
  refine Wc.region rfl ?_
  refine Wl.q rfl (Qy.loadAll 0 T.agg75 rfl rfl rfl) ?_
  refine Wl.storeAll 1 T.size75 rfl rfl rfl rfl rfl rfl ?_
  refine Wl.done ?_
  refine Ar.next ?_
  refine Wc.ret ?_
  refine Ar.passRet ?_
  refine Ar.out1 (.inr rfl) (Ho := Hp.only _ []) rfl (.agg 1 rfl rfl T.agg75) (Hp.sub_only _ _) ?_
  rotate_left
  refine Wc.skip ?_
  refine Ar.next ?_
  refine Wc.seq ?_
  refine Wc.seq ?_
  refine Wc.region rfl ?_
  refine Wl.q rfl (Qy.fieldAddr T.fa75_1 rfl) ?_
  refine Wl.q rfl (Qy.load 0 T.one3 rfl rfl rfl) ?_
  refine Wl.q rfl (Qy.lss rfl rfl) ?_
  refine Wl.q rfl (Qy.move rfl) ?_
  apply Wl.joinOr 9 12 21 rfl
  intro hg1
  refine Wl.want rfl rfl ?_
  refine Wl.q rfl (Qy.fieldAddr T.fa75_1 rfl) ?_
  refine Wl.want rfl rfl ?_
  refine Wl.q rfl (Qy.load 0 T.one3 rfl rfl rfl) ?_
  refine Wl.want rfl rfl ?_
  refine Wl.q rfl (Qy.eql rfl rfl) ?_
  refine Wl.want rfl rfl ?_
  refine Wl.q rfl (Qy.move rfl) ?_
  apply Wl.joinAnd 4 16 20 rfl
  intro hg1
  refine Wl.want rfl rfl ?_
  refine Wl.q rfl (Qy.fieldAddr T.fa75_0 rfl) ?_
  refine Wl.want rfl rfl ?_
  refine Wl.q rfl (Qy.load 0 T.one3 rfl rfl rfl) ?_
  refine Wl.want rfl rfl ?_
  refine Wl.q rfl (Qy.lss rfl rfl) ?_
  refine Wl.want rfl rfl ?_
  refine Wl.q rfl (Qy.pick rfl rfl) ?_
  exact Wl.back 4 0 rfl rfl rfl rfl rfl
  intro hg1
  refine Wl.pass rfl rfl rfl ?_
  refine Wl.pass rfl rfl rfl ?_
  refine Wl.pass rfl rfl rfl ?_
  refine Wl.want rfl rfl ?_
  refine Wl.q rfl (Qy.pick rfl rfl) ?_
  exact Wl.back 4 0 rfl rfl rfl rfl rfl
  refine Wl.q rfl (Qy.pick rfl rfl) ?_
  exact Wl.back 6 0 rfl rfl rfl rfl rfl
  intro hg1
  refine Wl.pass rfl rfl rfl ?_
  refine Wl.pass rfl rfl rfl ?_
  refine Wl.pass rfl rfl rfl ?_
  refine Wl.pass rfl rfl rfl ?_
  refine Wl.passU rfl rfl rfl ?_
  refine Wl.passU rfl rfl rfl ?_
  refine Wl.passU rfl rfl rfl ?_
  refine Wl.pass rfl rfl rfl ?_
  refine Wl.q rfl (Qy.pick rfl rfl) ?_
  exact Wl.back 9 0 rfl rfl rfl rfl rfl
  refine Wl.done ?_
  refine Ar.next ?_
  refine Wc.cond rfl (fun hc2 => ?_) (fun hc2 => ?_)
  refine Wc.region rfl ?_
  refine Wl.q rfl (Qy.move rfl) ?_
  refine Wl.q rfl (Qy.neg rfl (by omega)) ?_
  refine Wl.q rfl (Qy.assign rfl) ?_
  refine Wl.done ?_
  refine Ar.next ?_
  refine Wc.seq ?_
  refine Wc.draw [0, 1] [(1, 9)] T.mixed rfl ?_
  refine Gm.q 0 [] (by kernel_rfl) rfl rfl (Qy.fieldAddr T.fa75_0 rfl) ?_
  refine Gm.q 1 [0] (by kernel_rfl) rfl rfl (Qy.load 0 T.one3 rfl rfl rfl) ?_
  refine Gm.q 2 [] (by kernel_rfl) rfl rfl (Qy.move rfl) ?_
  refine Gm.q 3 [] (by kernel_rfl) rfl rfl (Qy.quo rfl rfl (by omega) (by omega)) ?_
  refine Gm.q 4 [] (by kernel_rfl) rfl rfl (Qy.fieldAddr T.fa75_1 rfl) ?_
  refine Gm.q 5 [0] (by kernel_rfl) rfl rfl (Qy.load 0 T.one3 rfl rfl rfl) ?_
  refine Gm.q 6 [] (by kernel_rfl) rfl rfl (Qy.move rfl) ?_
  refine Gm.q 7 [] (by kernel_rfl) rfl rfl (Qy.quo rfl rfl (by omega) (by omega)) ?_
  refine Gm.q 8 [] (by kernel_rfl) rfl rfl (Qy.build (cs := [_, _]) T.st75 rfl rfl rfl) ?_
  refine Gm.one 9 ⟨rfl, rfl, trivial⟩ (by first | exact Imm.le_refl _ | repeat (first | assumption | refine Imm.le_trans ?_ (by assumption))) (by kernel_rfl) rfl ?_
  refine Wl.storeAll 1 T.size75 rfl rfl rfl rfl rfl rfl ?_
  refine Wl.on0 ?_
  refine Gm.doneA (by kernel_rfl) ⟨rfl, trivial⟩ (by first | exact Imm.le_refl _ | repeat (first | assumption | refine Imm.le_trans ?_ (by assumption))) ?_
  refine Ar.next ?_
  refine Wc.ret ?_
  refine Ar.out1 (.inr rfl) (Ho := Hp.only _ []) rfl (.agg 1 rfl rfl T.agg75) (Hp.sub_only _ _) ?_
  rotate_left
  refine Wc.skip ?_
  refine Ar.next ?_
  refine Wc.seq ?_
  refine Wc.draw [0, 1] [(1, 9)] T.mixed rfl ?_
  refine Gm.q 0 [] (by kernel_rfl) rfl rfl (Qy.fieldAddr T.fa75_0 rfl) ?_
  refine Gm.q 1 [0] (by kernel_rfl) rfl rfl (Qy.load 0 T.one3 rfl rfl rfl) ?_
  refine Gm.q 2 [] (by kernel_rfl) rfl rfl (Qy.move rfl) ?_
  refine Gm.q 3 [] (by kernel_rfl) rfl rfl (Qy.quo rfl rfl (by omega) (by omega)) ?_
  refine Gm.q 4 [] (by kernel_rfl) rfl rfl (Qy.fieldAddr T.fa75_1 rfl) ?_
  refine Gm.q 5 [0] (by kernel_rfl) rfl rfl (Qy.load 0 T.one3 rfl rfl rfl) ?_
  refine Gm.q 6 [] (by kernel_rfl) rfl rfl (Qy.move rfl) ?_
  refine Gm.q 7 [] (by kernel_rfl) rfl rfl (Qy.quoP rfl rfl (by omega)) ?_
  refine Gm.q 8 [] (by kernel_rfl) rfl rfl (Qy.build (cs := [_, _]) T.st75 rfl rfl rfl) ?_
  refine Gm.one 9 ⟨rfl, rfl, trivial⟩ (by first | exact Imm.le_refl _ | repeat (first | assumption | refine Imm.le_trans ?_ (by assumption))) (by kernel_rfl) rfl ?_
  refine Wl.storeAll 1 T.size75 rfl rfl rfl rfl rfl rfl ?_
  refine Wl.on0 ?_
  refine Gm.doneA (by kernel_rfl) ⟨rfl, trivial⟩ (by first | exact Imm.le_refl _ | repeat (first | assumption | refine Imm.le_trans ?_ (by assumption))) ?_
  refine Ar.next ?_
  refine Wc.ret ?_
  refine Ar.out1 (.inr rfl) (Ho := Hp.only _ []) rfl (.agg 1 rfl rfl T.agg75) (Hp.sub_only _ _) ?_
  rotate_left
  · obtain ⟨ea, eb⟩ := Int.gcd_eq_zero_iff.mp (show Int.gcd a b = 0 by omega)
    exact ⟨by unfold nrm; rw [if_pos ⟨ea, eb⟩], rfl, rfl⟩
  all_goals have hn : ¬(a = 0 ∧ b = 0) := fun h => hc1 (by rw [h.1, h.2]; rfl)
  · exact ⟨by unfold nrm normG; rw [if_neg hn, if_pos (by omega)], rfl, rfl⟩
  · exact ⟨by unfold nrm normG; rw [if_neg hn, if_neg (by omega), Int.tdiv_eq_ediv_of_nonneg (a := b) (by omega)], rfl, rfl⟩
end Go.Proofs.Ytbppmiimeccclaa
set_option maxRecDepth 100000
set_option linter.unusedVariables false
namespace Go.Proofs.Ytbppmiimeccclaa
open Go Go.Sl
set_option maxHeartbeats 4000000
theorem indexAddrV {P : Program} {e : Env} {H : Hp} {G : Imm} {ty : TypeId} {T : TypeId} {x i : Operand} {b n sz : Nat} {zs : List Value} {k : IntKind} {m : Int} (hT : ArrayOf P T n sz zs) (hx : e.ev x = some (.pointer (some ⟨b, 0, none⟩))) (hi : e.ev i = some (.int k m))
    (hb : 0 ≤ m ∧ m < n) : Qy P (.indexAddr T x i) ty e H G (.pointer (some ⟨b, 0 + m.toNat * sz, none⟩)) := fun a w _ _ _ _ hh => by
  obtain ⟨z, E, hu, _, _, hs⟩ := hT
  simp [execOp, Instr.indexAt, Instr.sureAddr, hh.eval hx, hh.eval hi, asIntOf, run_underlying hu, hb, Go.Sl.run_sizeOf w hs, add_lit]
def zs513 : List Value := List.replicate 513 (.bool false)
theorem zero513 : ZeroOf Try.prog 127 zs513 := ZeroOf.of (by kernel_rfl)
theorem ar513 : ArrayOf Try.prog 127 513 1 zs513 := ArrayOf.of 4 (by kernel_rfl) (by kernel_rfl) (by kernel_rfl)
theorem flat_rep (n : Nat) : flat (List.replicate n false) = List.replicate n (Value.bool false) := by
  induction n with
  | zero => rfl
  | succ n ih => rw [List.replicate_succ, List.replicate_succ, ← ih]; rfl
theorem row513 : Obj.cells zs513.toArray 127 (0, 0) = Row 127 (List.replicate 513 false) [] := by
  unfold Row zs513; rw [flat_rep, List.append_nil]
theorem near_nrm {a b : Int} (h : near a b) : near (nrm a b).1 (nrm a b).2 := by
  have q1 := tdiv_rng a (normG a b)
  have q2 := tdiv_rng b (normG a b)
  unfold nrm
  split
  · exact h
  · unfold near at *
    show -16 ≤ a.tdiv (normG a b) ∧ a.tdiv (normG a b) ≤ 16 ∧ -16 ≤ b.tdiv (normG a b) ∧ b.tdiv (normG a b) ≤ 16
    omega
/-- Det of two points' norms -/
def dt (p q : R2) : Int := (nrm p.a p.b).1 * (nrm q.a q.b).2 - (nrm q.a q.b).1 * (nrm p.a p.b).2
theorem dt_rng {p q : R2} (hp : near p.a p.b) (hq : near q.a q.b) : -512 ≤ dt p q ∧ dt p q ≤ 512 := by
  have h1 := mul_rng (near_nrm hp) (near_nrm hq)
  have h2 := mul_rng (near_nrm hq) (near_nrm hp)
  unfold dt; omega
/-- the amounts of the pairs before the pair (i, j) -/
def Amt (l : List R2) (j i : Nat) (d : Int) : Prop := ∃ j' i', i' < j' ∧ (j' < j ∨ (j' = j ∧ i' < i)) ∧ d = ((dt (l[i']?.getD default) (l[j']?.getD default)).natAbs : Int)
theorem Amt.zero {l : List R2} {d : Int} : ¬ Amt l 0 0 d := fun ⟨j', i', h1, h2, _⟩ => by omega
theorem Amt.row {l : List R2} {j : Nat} {d : Int} : Amt l j j d ↔ Amt l (j + 1) 0 d :=
  ⟨fun ⟨j', i', h1, h2, h3⟩ => ⟨j', i', h1, by omega, h3⟩, fun ⟨j', i', h1, h2, h3⟩ => ⟨j', i', h1, by omega, h3⟩⟩
theorem Amt.step {l : List R2} {j i : Nat} {d : Int} (h : i < j) : Amt l j (i + 1) d ↔ Amt l j i d ∨ d = ((dt (l[i]?.getD default) (l[j]?.getD default)).natAbs : Int) := by
  constructor
  · rintro ⟨j', i', h1, h2, h3⟩
    by_cases hc : j' = j ∧ i' = i
    · rw [hc.1, hc.2] at h3; exact .inr h3
    · exact .inl ⟨j', i', h1, by omega, h3⟩
  · rintro (⟨j', i', h1, h2, h3⟩ | h3)
    · exact ⟨j', i', h1, by omega, h3⟩
    · exact ⟨j, i, h, by omega, h3⟩
/-- a table that marks what is among them -/
def Marks (xs : List Bool) (A : Int → Prop) : Prop := xs.length = 513 ∧ ∀ d : Nat, d < 513 → (xs[d]?.getD false = true ↔ A d)
theorem Marks.set {xs : List Bool} {A B : Int → Prop} {m : Int} (h : Marks xs A) (h0 : 0 ≤ m) (hB : ∀ d : Int, B d ↔ A d ∨ d = m) : Marks (xs.set m.toNat true) B := by
  refine ⟨by rw [List.length_set]; exact h.1, fun d hd => ?_⟩
  rw [hB, ← h.2 d hd, List.getElem?_set]
  by_cases e : m.toNat = d
  · rw [if_pos e, if_pos (by rw [h.1]; omega)]
    exact ⟨fun _ => .inr (by omega), fun _ => rfl⟩
  · rw [if_neg e]
    exact ⟨.inl, fun h => h.resolve_right (by omega)⟩
attribute [local irreducible] zs513
theorem c31 (G : Imm) (a : Option Addr) (c : Nat) (l : List R2) (ha : Arr G a l) (h1 : l.length ≤ 1048576) (hc : l.length ≤ c) (hr : ∀ i, i < l.length → near (l[i]?.getD default).a (l[i]?.getD default).b) :
    Does Try.prog 31 [.slice a l.length c] G [] (fun v G' Ho => ∃ (s : Option Addr) (r : List Int) (c' : Nat), v = .slice s r.length c' ∧ Arr G' s r ∧ r.length ≤ c' ∧ r.Pairwise (· < ·) ∧ (∀ d : Int, d ∈ r ↔ 1 < d ∧ Amt l l.length 0 d) ∧ Ho = []) := by
  refine Does.enter Try.func31 rfl Try.ntmps31 rfl (fun w => ?_)
  refine Wc.nilRow 9 (Row 3 ([] : List Int) []) ?_
  refine Wc.seq ?_
  refine Wc.region rfl ?_
  refine Wl.q rfl (Qy.assign rfl) ?_
  refine Wl.done ?_
  refine Ar.next ?_
  refine Wc.seq ?_
  refine Wc.region rfl ?_
  refine Wl.alloc 10 rfl zero513 (fun b1 => ?_)
  refine Wl.reH 10 (Row 127 (List.replicate 513 false) []) rfl row513 ?_
  refine Wl.done ?_
  refine Ar.next ?_
  refine Wc.seq ?_
  refine Wc.seq ?_
  refine Wc.region rfl ?_
  refine Wl.q rfl (Qy.assign rfl) ?_
  refine Wl.done ?_
  refine Ar.next ?_
  refine Wc.block ?_
  refine Wc.loop (ι := Nat × List Bool) (fun (j, xs) => ([(4, .int .i64 (j : Int)), (3, Go.Value.pointer (Option.some (Go.Addr.mk b1 0 Option.none))), (2, Go.Value.slice Option.none 0 0), (0, Go.Value.slice a (List.length l) c)], [(10, some b1, Row 127 xs []), (9, Option.none, Go.Sl.Row (α := Int) 3 ([]) ([]))])) (fun (j, xs) => j ≤ l.length ∧ Marks xs (Amt l j 0)) (fun (j, xs) => l.length - j) ((0, List.replicate 513 false)) (⟨Nat.zero_le _, List.length_replicate .., fun d hd => by rw [List.getElem?_replicate, if_pos hd]; exact ⟨fun h => absurd h (by decide), fun h => absurd h Amt.zero⟩⟩) ⟨rfl, rfl, rfl, rfl, trivial⟩ ⟨rfl, rfl, trivial⟩ (fun ⟨j, xs⟩ => fun (hk : j ≤ l.length ∧ Marks xs (Amt l j 0)) => ?_)
  obtain ⟨hj1, hm1⟩ := hk
  rcases Nat.lt_or_ge j l.length with hjl | hjl
  · refine Wc.seq ?_
    refine Wc.seq ?_
    refine Wc.region rfl ?_
    refine Wl.q rfl (Qy.move rfl) ?_
    refine Wl.q rfl (Qy.move rfl) ?_
    refine Wl.q rfl (Qy.len T.sl47 rfl) ?_
    refine Wl.q rfl (Qy.lss rfl rfl) ?_
    refine Wl.done ?_
    refine Ar.next ?_
    refine Wc.condP rfl (by first | assumption | omega) ?_
    refine Wc.skip ?_
    refine Ar.next ?_
    refine Wc.seq ?_
    refine Wc.block ?_
    refine Wc.seq ?_
    refine Wc.region rfl ?_
    refine Wl.q rfl (Qy.assign rfl) ?_
    refine Wl.done ?_
    refine Ar.next ?_
    refine Wc.block ?_
    refine Wc.loop (ι := Nat × List Bool) (fun (i, xs) => ([(5, .int .i64 (i : Int)), (4, Go.Value.int Go.IntKind.i64 (↑j : Int)), (3, Go.Value.pointer (Option.some (Go.Addr.mk b1 0 Option.none))), (2, Go.Value.slice Option.none 0 0), (0, Go.Value.slice a (List.length l) c)], [(10, some b1, Row 127 xs []), (9, Option.none, Go.Sl.Row (α := Int) 3 ([]) ([]))])) (fun (i, xs) => i ≤ j ∧ Marks xs (Amt l j i)) (fun (i, xs) => j - i) ((0, xs)) (⟨Nat.zero_le _, hm1⟩) ⟨rfl, rfl, rfl, rfl, rfl, trivial⟩ ⟨rfl, rfl, trivial⟩ (fun ⟨i, xs⟩ => fun (hk : i ≤ j ∧ Marks xs (Amt l j i)) => ?_)
    obtain ⟨hi1, hm2⟩ := hk
    rcases Nat.lt_or_ge i j with hij | hij
    · have n1 : near (l[((i : Nat) : Int).toNat]?.getD default).a (l[((i : Nat) : Int).toNat]?.getD default).b := hr i (by omega)
      have n2 : near (l[((j : Nat) : Int).toNat]?.getD default).a (l[((j : Nat) : Int).toNat]?.getD default).b := hr j (by omega)
      have n3 := near_nrm n1
      have n4 := near_nrm n2
      have hd := dt_rng n1 n2
      unfold dt at hd
      refine Wc.seq ?_
      refine Wc.seq ?_
      refine Wc.region rfl ?_
      refine Wl.q rfl (Qy.move rfl) ?_
      refine Wl.q rfl (Qy.move rfl) ?_
      refine Wl.q rfl (Qy.lss rfl rfl) ?_
      refine Wl.done ?_
      refine Ar.next ?_
      refine Wc.condP rfl (by first | assumption | omega) ?_
      refine Wc.skip ?_
      refine Ar.next ?_
      refine Wc.seq ?_
      refine Wc.block ?_
      refine Wc.seq ?_
      refine Wc.draw [9, 10] [] T.mixed rfl ?_
      refine Gm.q 0 [] (by kernel_rfl) rfl rfl (Qy.move rfl) ?_
      refine Gm.q 1 [] (by kernel_rfl) rfl rfl (Qy.move rfl) ?_
      refine Gm.q 2 [] (by kernel_rfl) rfl rfl (Qy.at (α := R2) T.sl47 rfl rfl (by assumption) (by omega)) ?_
      refine Gm.q 3 [] (by kernel_rfl) rfl rfl (Qy.loadsG T.agg75 rfl (Arr.elem (by assumption) (by omega)) rfl) ?_
      refine Gm.q 5 [] (by kernel_rfl) rfl rfl (Qy.move rfl) ?_
      refine Gm.q 6 [] (by kernel_rfl) rfl rfl (Qy.move rfl) ?_
      refine Gm.q 7 [] (by kernel_rfl) rfl rfl (Qy.at (α := R2) T.sl47 rfl rfl (by assumption) (by omega)) ?_
      refine Gm.q 8 [] (by kernel_rfl) rfl rfl (Qy.loadsG T.agg75 rfl (Arr.elem (by assumption) (by omega)) rfl) ?_
      refine Gm.one 4 ⟨rfl, rfl, trivial⟩ (by first | exact Imm.le_refl _ | repeat (first | assumption | refine Imm.le_trans ?_ (by assumption))) (by kernel_rfl) rfl ?_
      refine Wl.call0 rfl T.fn79 rfl (c79 _ _ _ (by assumption)) ?_
      refine Wl.on0 ?_
      refine Gm.one 9 ⟨rfl, rfl, trivial⟩ (by first | exact Imm.le_refl _ | repeat (first | assumption | refine Imm.le_trans ?_ (by assumption))) (by kernel_rfl) rfl ?_
      refine Wl.call0 rfl T.fn79 rfl (c79 _ _ _ (by assumption)) ?_
      refine Wl.on0 ?_
      refine Gm.one 10 ⟨rfl, rfl, trivial⟩ (by first | exact Imm.le_refl _ | repeat (first | assumption | refine Imm.le_trans ?_ (by assumption))) (by kernel_rfl) rfl ?_
      refine Wl.call0 rfl T.fn78 rfl (c78 _ _ _ _ _ (by assumption) (by assumption)) ?_
      refine Wl.on0 ?_
      refine Gm.q 11 [] (by kernel_rfl) rfl rfl (Qy.assign rfl) ?_
      refine Gm.doneA (by kernel_rfl) ⟨rfl, rfl, trivial⟩ (by first | exact Imm.le_refl _ | repeat (first | assumption | refine Imm.le_trans ?_ (by assumption))) ?_
      refine Ar.next ?_
      refine Wc.seq ?_
      refine Wc.seq ?_
      refine Wc.region rfl ?_
      refine Wl.q rfl (Qy.move rfl) ?_
      refine Wl.q rfl (Qy.lss rfl rfl) ?_
      refine Wl.done ?_
      refine Ar.next ?_
      refine Wc.cond rfl (fun hc1 => ?_) (fun hc1 => ?_)
      refine Wc.region rfl ?_
      refine Wl.q rfl (Qy.move rfl) ?_
      refine Wl.q rfl (Qy.neg rfl (by omega)) ?_
      refine Wl.q rfl (Qy.assign rfl) ?_
      refine Wl.done ?_
      refine Ar.next ?_
      refine Wc.region rfl ?_
      refine Wl.q rfl (Qy.move rfl) ?_
      rotate_left
      refine Wc.skip ?_
      refine Ar.next ?_
      refine Wc.region rfl ?_
      refine Wl.q rfl (Qy.move rfl) ?_
      rotate_left
      · refine Wl.q rfl (indexAddrV ar513 rfl rfl (by omega)) ?_
        refine Wl.setO (α := Bool) (a := some ⟨b1, 0, none⟩) (z := true) (xs := xs) (junk := []) (c := 513) 10 T.size4 rfl rfl rfl (.inr ⟨b1, rfl, by rw [hm2.1]; rfl, by rw [hm2.1]; exact Nat.le_refl _, by decide⟩) (by rw [hm2.1]; omega) rfl (fun _ => ?_)
        refine Wl.done ?_
        refine Ar.outNormal ?_
        refine Ar.next ?_
        refine Wc.region rfl ?_
        refine Wl.q rfl (Qy.move rfl) ?_
        refine Wl.q rfl (Qy.add rfl rfl (by omega)) ?_
        refine Wl.q rfl (Qy.assign rfl) ?_
        refine Wl.done ?_
        refine Ar.re 5 rfl (show _ = Value.int .i64 ((i + 1 : Nat) : Int) from rfl) ?_
        refine Ar.again ((i + 1, _)) ?_ ?_ rfl ⟨rfl, rfl, rfl, rfl, rfl, trivial⟩ ⟨rfl, rfl, trivial⟩
        · refine ⟨hij, hm2.set (by omega) (fun d => ?_)⟩
          rw [Amt.step hij, show ((dt (l[i]?.getD default) (l[j]?.getD default)).natAbs : Int) = -((nrm (l[((i : Nat) : Int).toNat]?.getD default).a (l[((i : Nat) : Int).toNat]?.getD default).b).1 * (nrm (l[((j : Nat) : Int).toNat]?.getD default).a (l[((j : Nat) : Int).toNat]?.getD default).b).2 - (nrm (l[((j : Nat) : Int).toNat]?.getD default).a (l[((j : Nat) : Int).toNat]?.getD default).b).1 * (nrm (l[((i : Nat) : Int).toNat]?.getD default).a (l[((i : Nat) : Int).toNat]?.getD default).b).2) by unfold dt; rw [Int.toNat_natCast, Int.toNat_natCast] at *; omega]
        · show j - (i + 1) < j - i
          omega
      · refine Wl.q rfl (indexAddrV ar513 rfl rfl (by omega)) ?_
        refine Wl.setO (α := Bool) (a := some ⟨b1, 0, none⟩) (z := true) (xs := xs) (junk := []) (c := 513) 10 T.size4 rfl rfl rfl (.inr ⟨b1, rfl, by rw [hm2.1]; rfl, by rw [hm2.1]; exact Nat.le_refl _, by decide⟩) (by rw [hm2.1]; omega) rfl (fun _ => ?_)
        refine Wl.done ?_
        refine Ar.outNormal ?_
        refine Ar.next ?_
        refine Wc.region rfl ?_
        refine Wl.q rfl (Qy.move rfl) ?_
        refine Wl.q rfl (Qy.add rfl rfl (by omega)) ?_
        refine Wl.q rfl (Qy.assign rfl) ?_
        refine Wl.done ?_
        refine Ar.re 5 rfl (show _ = Value.int .i64 ((i + 1 : Nat) : Int) from rfl) ?_
        refine Ar.again ((i + 1, _)) ?_ ?_ rfl ⟨rfl, rfl, rfl, rfl, rfl, trivial⟩ ⟨rfl, rfl, trivial⟩
        · refine ⟨hij, hm2.set (by omega) (fun d => ?_)⟩
          rw [Amt.step hij, show ((dt (l[i]?.getD default) (l[j]?.getD default)).natAbs : Int) = ((nrm (l[((i : Nat) : Int).toNat]?.getD default).a (l[((i : Nat) : Int).toNat]?.getD default).b).1 * (nrm (l[((j : Nat) : Int).toNat]?.getD default).a (l[((j : Nat) : Int).toNat]?.getD default).b).2 - (nrm (l[((j : Nat) : Int).toNat]?.getD default).a (l[((j : Nat) : Int).toNat]?.getD default).b).1 * (nrm (l[((i : Nat) : Int).toNat]?.getD default).a (l[((i : Nat) : Int).toNat]?.getD default).b).2) by unfold dt; rw [Int.toNat_natCast, Int.toNat_natCast] at *; omega]
        · show j - (i + 1) < j - i
          omega
    · have hie : i = j := by omega
      subst hie
      refine Wc.seq ?_
      refine Wc.seq ?_
      refine Wc.region rfl ?_
      refine Wl.q rfl (Qy.move rfl) ?_
      refine Wl.q rfl (Qy.move rfl) ?_
      refine Wl.q rfl (Qy.lss rfl rfl) ?_
      refine Wl.done ?_
      refine Ar.next ?_
      refine Wc.condN rfl (by first | assumption | omega) ?_
      refine Wc.exit ?_
      refine Ar.passExit ?_
      refine Ar.passExit ?_
      refine Ar.here ?_
      refine Ar.outNormal ?_
      refine Ar.next ?_
      refine Wc.region rfl ?_
      refine Wl.q rfl (Qy.move rfl) ?_
      refine Wl.q rfl (Qy.add rfl rfl (by omega)) ?_
      refine Wl.q rfl (Qy.assign rfl) ?_
      refine Wl.done ?_
      refine Ar.re 4 rfl (show _ = Value.int .i64 ((i + 1 : Nat) : Int) from rfl) ?_
      refine Ar.again ((i + 1, xs)) ?_ ?_ rfl ⟨rfl, rfl, rfl, rfl, trivial⟩ ⟨rfl, rfl, trivial⟩
      · exact ⟨hjl, hm2.1, fun d hd => (hm2.2 d hd).trans Amt.row⟩
      · show l.length - (i + 1) < l.length - i
        omega
  · have hje : j = l.length := by omega
    subst hje
    refine Wc.seq ?_
    refine Wc.seq ?_
    refine Wc.region rfl ?_
    refine Wl.q rfl (Qy.move rfl) ?_
    refine Wl.q rfl (Qy.move rfl) ?_
    refine Wl.q rfl (Qy.len T.sl47 rfl) ?_
    refine Wl.q rfl (Qy.lss rfl rfl) ?_
    refine Wl.done ?_
    refine Ar.next ?_
    refine Wc.condN rfl (by first | assumption | omega) ?_
    refine Wc.exit ?_
    refine Ar.passExit ?_
    refine Ar.passExit ?_
    refine Ar.here ?_
    refine Ar.next ?_
    refine Wc.seq ?_
    refine Wc.region rfl ?_
    refine Wl.q rfl (Qy.assign rfl) ?_
    refine Wl.done ?_
    refine Ar.next ?_
    refine Wc.seq ?_
    refine Wc.seq ?_
    refine Wc.region rfl ?_
    refine Wl.q rfl (Qy.assign rfl) ?_
    refine Wl.done ?_
    refine Ar.next ?_
    refine Wc.block ?_
    have hbig : ∀ x : Int, Amt l l.length 0 x → 0 ≤ x ∧ x ≤ 512 := by
      rintro x ⟨j', i', h1, h2, h3⟩
      have := dt_rng (hr i' (by omega)) (hr j' (by omega))
      omega
    refine Wc.loop (ι := Nat × List Int × (Option Addr × Nat × List Value)) (fun (d, r, (o, cc, jk)) => ([(8, .int .i64 (d : Int)), (7, .slice o r.length cc), (3, Go.Value.pointer (Option.some (Go.Addr.mk b1 0 Option.none))), (2, Go.Value.slice Option.none 0 0)], [(9, o.map (·.block), Row 3 r jk), (10, Option.some b1, Go.Sl.Row (α := Bool) 127 (xs) ([]))])) (fun (d, r, (o, cc, jk)) => 2 ≤ d ∧ d ≤ 513 ∧ r.Pairwise (· < ·) ∧ (∀ x : Int, x ∈ r ↔ 1 < x ∧ x < d ∧ Amt l l.length 0 x) ∧ r.length ≤ d ∧ OwnA o cc r jk) (fun (d, r, (o, cc, jk)) => 513 - d) ((2, [], (none, 0, []))) (⟨Nat.le_refl _, by decide, List.Pairwise.nil, fun x => ⟨fun h => absurd h (by simp), fun h => by omega⟩, Nat.zero_le _, OwnA.nil⟩) ⟨rfl, rfl, rfl, rfl, trivial⟩ ⟨rfl, rfl, trivial⟩ (fun ⟨d, r, (o, cc, jk)⟩ => fun (hk : 2 ≤ d ∧ d ≤ 513 ∧ r.Pairwise (· < ·) ∧ (∀ x : Int, x ∈ r ↔ 1 < x ∧ x < d ∧ Amt l l.length 0 x) ∧ r.length ≤ d ∧ OwnA o cc r jk) => ?_)
    obtain ⟨hd1, hd2, hd3, hd4, hd5, hd6⟩ := hk
    rcases Nat.lt_or_ge d 513 with hdl | hdl
    · refine Wc.seq ?_
      refine Wc.seq ?_
      refine Wc.region rfl ?_
      refine Wl.q rfl (Qy.move rfl) ?_
      refine Wl.q rfl (Qy.leq rfl rfl) ?_
      refine Wl.done ?_
      refine Ar.next ?_
      refine Wc.condP rfl (by first | assumption | omega) ?_
      refine Wc.skip ?_
      refine Ar.next ?_
      refine Wc.seq ?_
      refine Wc.block ?_
      refine Wc.seq ?_
      refine Wc.region rfl ?_
      refine Wl.q rfl (Qy.move rfl) ?_
      refine Wl.q rfl (indexAddrV ar513 rfl rfl (by omega)) ?_
      refine Wl.q rfl (Qy.loadO (α := Bool) (a := some ⟨b1, 0, none⟩) (xs := xs) (junk := []) (c := 513) 10 0 T.one4 rfl rfl (.inr ⟨b1, rfl, by rw [hm1.1]; rfl, by rw [hm1.1]; exact Nat.le_refl _, by decide⟩) (by rw [hm1.1]; omega) rfl rfl) ?_
      have hmd := hm1.2 d hdl
      refine Wl.done ?_
      refine Ar.next ?_
      refine Wc.ite rfl (fun hc1 => ?_) (fun hc1 => ?_)
      refine Wc.region rfl ?_
      refine Wl.q rfl (Qy.move rfl) ?_
      refine Wl.q rfl (Qy.move rfl) ?_
      refine Wl.lit (α := Int) 11 [((↑d : Int))] rfl T.sl23 T.el3 rfl rfl rfl rfl rfl (fun b2 => ?_)
      refine Wl.append (α := Int) 9 rfl T.sl23 T.el3 rfl rfl rfl (by first | assumption | exact OwnA.nil | exact OwnA.made (by simp)) (Src.row 11 rfl) (by first | omega | (simp only [List.length_append, List.length_cons, List.length_nil, maxLen]; omega)) (by first | omega | (simp only [List.length_append, List.length_cons, List.length_nil, maxLen]; omega)) (fun a1 c1 junk1 ho1 => ?_)
      refine Wl.q rfl (Qy.assign rfl) ?_
      refine Wl.done ?_
      refine Ar.outNormal ?_
      refine Ar.next ?_
      refine Wc.region rfl ?_
      refine Wl.q rfl (Qy.move rfl) ?_
      refine Wl.q rfl (Qy.add rfl rfl (by omega)) ?_
      refine Wl.q rfl (Qy.assign rfl) ?_
      refine Wl.done ?_
      rotate_left
      refine Wc.skip ?_
      refine Ar.outNormal ?_
      refine Ar.next ?_
      refine Wc.region rfl ?_
      refine Wl.q rfl (Qy.move rfl) ?_
      refine Wl.q rfl (Qy.add rfl rfl (by omega)) ?_
      refine Wl.q rfl (Qy.assign rfl) ?_
      refine Wl.done ?_
      rotate_left
      · refine Ar.re 8 rfl (show _ = Value.int .i64 ((d + 1 : Nat) : Int) from rfl) ?_
        refine Ar.again ((d + 1, r ++ [(d : Int)], (a1, c1, junk1))) ?_ ?_ rfl ⟨rfl, rfl, rfl, rfl, trivial⟩ ⟨rfl, rfl, trivial⟩
        · have hA : Amt l l.length 0 (d : Int) := hmd.1 hc1
          refine ⟨by omega, by omega, ?_, fun x => ?_, by rw [List.length_append, List.length_singleton]; omega, ho1⟩
          · rw [List.pairwise_append]
            exact ⟨hd3, List.pairwise_singleton _ _, fun x hx y hy => by rw [List.mem_singleton] at hy; have := (hd4 x).1 hx; omega⟩
          · rw [List.mem_append, List.mem_singleton, hd4]
            constructor
            · rintro (h | rfl)
              · exact ⟨h.1, by omega, h.2.2⟩
              · exact ⟨by omega, by omega, hA⟩
            · rintro ⟨e1, e2, e3⟩
              by_cases hx : x = (d : Int)
              · exact .inr hx
              · exact .inl ⟨e1, by omega, e3⟩
        · show 513 - (d + 1) < 513 - d
          omega
      · refine Ar.re 8 rfl (show _ = Value.int .i64 ((d + 1 : Nat) : Int) from rfl) ?_
        refine Ar.again ((d + 1, r, (o, cc, jk))) ?_ ?_ rfl ⟨rfl, rfl, rfl, rfl, trivial⟩ ⟨rfl, rfl, trivial⟩
        · have hA : ¬ Amt l l.length 0 (d : Int) := fun h => by { have e := hmd.2 h; have e2 : xs[d]?.getD false = false := hc1; rw [e] at e2; cases e2 }
          refine ⟨by omega, by omega, hd3, fun x => ?_, by omega, hd6⟩
          rw [hd4]
          constructor
          · rintro h
            exact ⟨h.1, by omega, h.2.2⟩
          · rintro ⟨e1, e2, e3⟩
            by_cases hx : x = (d : Int)
            · subst hx; exact absurd e3 hA
            · exact ⟨e1, by omega, e3⟩
        · show 513 - (d + 1) < 513 - d
          omega
    · have hde : d = 513 := by omega
      subst hde
      refine Wc.seq ?_
      refine Wc.seq ?_
      refine Wc.region rfl ?_
      refine Wl.q rfl (Qy.move rfl) ?_
      refine Wl.q rfl (Qy.leq rfl rfl) ?_
      refine Wl.done ?_
      refine Ar.next ?_
      refine Wc.condN rfl (by first | assumption | omega) ?_
      refine Wc.exit ?_
      refine Ar.passExit ?_
      refine Ar.passExit ?_
      refine Ar.here ?_
      refine Ar.next ?_
      refine Wc.seq ?_
      refine Wc.region rfl ?_
      refine Wl.q rfl (Qy.move rfl) ?_
      refine Wl.q rfl (Qy.assign rfl) ?_
      refine Wl.done ?_
      refine Ar.next ?_
      refine Wc.ret ?_
      refine Ar.freezeRow 9 rfl hd6 (fun G8 hle8 hA8 => ?_)
      refine Ar.out1 (.inr rfl) (Ho := []) rfl (.tmp rfl) trivial ?_
      exact ⟨_, _, _, rfl, hA8, hd6.le, hd3, fun x => (hd4 x).trans ⟨fun h => ⟨h.1, h.2.2⟩, fun h => ⟨h.1, by have := hbig x h.2; omega, h.2⟩⟩, rfl⟩
end Go.Proofs.Ytbppmiimeccclaa
set_option maxRecDepth 100000
set_option linter.unusedVariables false
namespace Go.Proofs.Ytbppmiimeccclaa
open Go Go.Sl
theorem flat_int (l : List Int) : flat l = l.map (Value.int .i64) := by
  induction l with
  | nil => rfl
  | cons x l ih => rw [flat_cons, ih]; rfl
theorem put_flat (l l' : List Int) (jk : List Value) (h : l'.length = l.length) : Go.Sort.putCells (Value.int .i64) 0 l'.toArray (flat l ++ jk).toArray = (flat l' ++ jk).toArray := by
  rw [flat_int, flat_int]
  apply Array.ext_getElem?
  intro k
  simp only [Go.Sort.putCells, Array.getElem?_mapIdx, List.getElem?_toArray, List.size_toArray, Nat.zero_le, true_and, Nat.zero_add, Nat.sub_zero]
  by_cases hk : k < l'.length
  · rw [List.getElem?_append_left (by rw [List.length_map]; omega), List.getElem?_append_left (by rw [List.length_map]; omega), List.getElem?_map, List.getElem?_map, List.getElem?_eq_getElem (show k < l.length by omega), List.getElem?_eq_getElem hk]
    simp [hk]
  · rw [List.getElem?_append_right (by rw [List.length_map]; omega), List.getElem?_append_right (by rw [List.length_map]; omega), List.length_map, List.length_map, h]
    cases jk[k - l.length]? with
    | none => rfl
    | some v => simp [hk]; intro h2; omega
theorem holds_row {w : World} {G : Imm} {b : Nat} {l : List Int} {jk : List Value} {E : TypeId} (hw : HoldH [(0, some b, Row E l jk)] G w) : Go.Sort.Holds (Value.int .i64) w b 0 l.toArray := by
  intro j hj
  have hj : j < l.length := by simpa using hj
  have ho : w.heap[b]? = some (Row E l jk) := hw.own 0 b _ rfl
  constructor
  · show World.cell? w ⟨b, 0 + j, none⟩ = _
    unfold World.cell?
    rw [show w.heap[(⟨b, 0 + j, none⟩ : Addr).block]? = some (Row E l jk) from ho]
    show (flat l ++ jk).toArray[0 + j]? = _
    rw [Nat.zero_add, List.getElem?_toArray, flat_int, List.getElem?_append_left (by rw [List.length_map]; exact hj), List.getElem?_map, List.getElem?_eq_getElem hj]
    simp [hj]
  · show World.frozen? w ⟨b, 0 + j, none⟩ = _
    unfold World.frozen?
    rw [show w.heap[(⟨b, 0 + j, none⟩ : Addr).block]? = some (Row E l jk) from ho]
    show (decide (0 ≤ 0 + j) && decide (0 + j < 0)) = false
    simp
theorem row_put {w : World} {G : Imm} {b n : Nat} {l l' : List Int} {jk : List Value} {E : TypeId} {os : Array Obj} (hw : HoldH [(0, some b, Row E l jk)] G w) (hlen : l'.length = l.length) {v : Value} :
    DoesPost G [(0, some b, Row E l jk)] w (fun v' G' Ho => v' = v ∧ G' = G ∧ Ho = [(0, some b, Row E l' jk)]) (.returned v) (Go.Sort.grow (Go.Sort.putRow (Value.int .i64) (Go.Sort.ahead w n) b 0 l'.toArray) os) := by
  have ho : w.heap[b]? = some (Row E l jk) := hw.own 0 b _ rfl
  have hb : b < w.heap.size := by
    rcases Nat.lt_or_ge b w.heap.size with h | h
    · exact h
    · rw [Array.getElem?_eq_none h] at ho; cases ho
  have hget : ∀ k, k < w.heap.size → (Go.Sort.grow (Go.Sort.putRow (Value.int .i64) (Go.Sort.ahead w n) b 0 l'.toArray) os).heap[k]? = if b = k then some (Row E l' jk) else w.heap[k]? := by
    intro k hk
    show ((w.heap.modify b (Go.Sort.onCells (Go.Sort.putCells (Value.int .i64) 0 l'.toArray))) ++ os)[k]? = _
    rw [Array.getElem?_append_left (by rw [Array.size_modify]; exact hk), Array.getElem?_modify]
    split
    · rename_i e
      subst e
      rw [ho]
      show some (Obj.cells (Go.Sort.putCells (Value.int .i64) 0 l'.toArray (flat l ++ jk).toArray) E (0, 0)) = _
      rw [put_flat _ _ _ hlen]; rfl
    · rfl
  have hone : ∀ {o' : Obj} {t b' : Nat} {o : Obj}, Hp.get [(0, some b, o')] t = some (some b', o) → t = 0 ∧ b = b' ∧ o' = o := by
    intro o' t b' o h
    rw [Hp.get_cons] at h
    split at h
    · rename_i e
      simp at h
      exact ⟨e.symm, h.1, h.2⟩
    · simp [Hp.get] at h
  refine ⟨v, G, [(0, some b, Row E l' jk)], rfl, ⟨?_, ?_, ?_, ?_⟩, Imm.le_refl _, ⟨rfl, rfl, rfl, ?_, ?_⟩, ?_, ?_, rfl, rfl, rfl⟩
  · intro t b' o h
    obtain ⟨_, e, e2⟩ := hone h
    subst e; subst e2
    rw [hget b hb, if_pos rfl]
  · intro t t' b' o o' h h'
    rw [(hone h).1, (hone h').1]
  · intro b' o h
    have h1 := hw.imm b' o h
    have h2 : b' < w.heap.size := by
      rcases Nat.lt_or_ge b' w.heap.size with h | h
      · exact h
      · rw [Array.getElem?_eq_none h] at h1; cases h1
    rw [hget b' h2, if_neg]
    · exact h1
    · intro e
      subst e
      have := hw.off 0 b _ rfl
      rw [h] at this; cases this
  · intro t b' o h
    obtain ⟨_, e, _⟩ := hone h
    subst e
    exact hw.off 0 b _ rfl
  · show w.heap.size ≤ ((w.heap.modify b _) ++ os).size
    rw [Array.size_append, Array.size_modify]; omega
  · intro k hk hx
    rw [hget k hk, if_neg]
    intro e
    subst e
    exact hx ⟨0, _, rfl⟩
  · intro b' h h'; exact absurd h' h
  · intro t b' o h
    obtain ⟨_, e, _⟩ := hone h
    subst e
    exact .inr ⟨0, _, rfl⟩
theorem c69 (G : Imm) (b c : Nat) (l : List Int) (jk : List Value) (h : l.length < 4611686018427387904) :
    Does Try.prog 69 [.slice (some ⟨b, 0, none⟩) l.length c] G [(0, some b, Row 3 l jk)] (fun v G' Ho => v = .tuple #[] ∧ G' = G ∧ Ho = [(0, some b, Row 3 (l.mergeSort fun x y => decide (x ≤ y)) jk)]) := fun w hw => by
  have ho : w.heap[b]? = some (Row 3 l jk) := hw.own 0 b _ rfl
  have hb : b < w.heap.size := by
    rcases Nat.lt_or_ge b w.heap.size with h | h
    · exact h
    · rw [Array.getElem?_eq_none h] at ho; cases ho
  have h69 : Calls Try.prog 69 #[.slice (some ⟨b, 0, none⟩) l.length c] w _ := Any.slices_Sort_int Try.laysSort b 0 c l w (holds_row hw) hb h
  refine h69.mono ?_
  rintro e w' ⟨rfl, n, os, rfl⟩
  exact row_put hw (List.length_mergeSort l)
theorem c69N (G : Imm) (c : Nat) : Does Try.prog 69 [.slice none 0 c] G [] (fun v G' Ho => v = .tuple #[] ∧ G' = G ∧ Ho = []) := fun w hw => by
  have h69 : Calls Try.prog 69 #[.slice none 0 c] w _ := Any.slices_Sort_int_none Try.laysSort none c w
  refine h69.mono ?_
  rintro e w' ⟨rfl, rfl⟩
  exact ⟨_, G, [], rfl, hw, Imm.le_refl _, Upd.refl _ _, fun _ h h' => absurd h' h, fun t b o h => by simp [Hp.get] at h, rfl, rfl, rfl⟩
theorem compact_len (l : List Int) : (Go.Lib.compact l).length ≤ l.length := by
  unfold Go.Lib.compact Go.Lib.compactUpTo
  rw [List.length_map]
  exact Nat.le_trans (List.length_filter_le _ _) (by rw [List.length_range]; exact Nat.le_refl _)
theorem compact_mem (l : List Int) (x : Int) : x ∈ Go.Lib.compact l ↔ x ∈ l := by
  unfold Go.Lib.compact Go.Lib.compactUpTo
  constructor
  · intro h
    obtain ⟨j, hj, rfl⟩ := List.mem_map.mp h
    have hj := List.mem_range.mp (List.mem_filter.mp hj).1
    have e : l.toArray[j]! = l[j] := by simp [hj]
    rw [e]
    exact List.getElem_mem hj
  · intro h
    obtain ⟨j, hj, e⟩ := List.mem_iff_getElem.mp h
    induction j using Nat.strongRecOn with
    | _ j ih =>
      by_cases hk : Go.Lib.keeps l.toArray j = true
      · exact List.mem_map.mpr ⟨j, List.mem_filter.mpr ⟨List.mem_range.mpr hj, hk⟩, by rw [← e]; simp [hj]⟩
      · unfold Go.Lib.keeps at hk
        have hk : ¬ (j = 0 ∨ l.toArray[j]! ≠ l.toArray[j - 1]!) := by simpa using hk
        have h1 : j ≠ 0 := fun h => hk (.inl h)
        have h2 : l.toArray[j]! = l.toArray[j - 1]! := Classical.byContradiction fun h => hk (.inr h)
        have hj1 : j - 1 < l.length := by omega
        refine ih (j - 1) (by omega) hj1 ?_
        rw [← e]
        simpa [hj, hj1] using h2.symm
theorem compact_rising (l : List Int) (h : l.Pairwise (· ≤ ·)) : (Go.Lib.compact l).Pairwise (· < ·) := by
  unfold Go.Lib.compact Go.Lib.compactUpTo
  rw [List.pairwise_map, List.pairwise_filter]
  refine List.Pairwise.imp_of_mem ?_ List.pairwise_lt_range
  intro i j hi hj hij hki hkj
  have hi := List.mem_range.mp hi
  have hj := List.mem_range.mp hj
  have hg := List.pairwise_iff_getElem.mp h
  unfold Go.Lib.keeps at hkj
  have hkj : j = 0 ∨ l.toArray[j]! ≠ l.toArray[j - 1]! := by simpa using hkj
  have e1 : l.toArray[i]! = l[i] := by simp [hi]
  have e2 : l.toArray[j]! = l[j] := by simp [hj]
  have hj1 : j - 1 < l.length := by omega
  have e3 : l.toArray[j - 1]! = l[j - 1] := by simp [hj1]
  rw [e2, e3] at hkj
  rw [e1, e2]
  have h1 := hg (j - 1) j hj1 hj (by omega)
  have h2 : l[i] ≤ l[j - 1] := by
    rcases Nat.lt_or_ge i (j - 1) with hc | hc
    · exact hg i (j - 1) hi hj1 hc
    · have : i = j - 1 := by omega
      subst this; exact Int.le_refl _
  have h3 := hkj.resolve_left (by omega)
  omega
theorem sorted_le (l : List Int) : (l.mergeSort fun x y => decide (x ≤ y)).Pairwise (· ≤ ·) :=
  (List.pairwise_mergeSort (le := fun x y : Int => decide (x ≤ y)) (fun a b c h1 h2 => by simp at *; omega) (fun a b => by simp; omega) l).imp (fun h => by simpa using h)
theorem row_cut (l : List Int) (m : Nat) (jk : List Value) (E : TypeId) : Row E (l ++ List.replicate m (0 : Int)) jk = Row E l (List.replicate m (.int .i64 0) ++ jk) := by
  unfold Row
  rw [flat_append, List.append_assoc, flat_int (List.replicate m 0), List.map_replicate]
theorem c70 (G : Imm) (b c : Nat) (l : List Int) (jk : List Value) (h : l.length ≤ 9223372036854775807) (hc : l.length ≤ c) :
    Does Try.prog 70 [.slice (some ⟨b, 0, none⟩) l.length c] G [(0, some b, Row 3 l jk)] (fun v G' Ho => v = .slice (some ⟨b, 0, none⟩) (Go.Lib.compact l).length c ∧ G' = G ∧ Ho = [(0, some b, Row 3 (Go.Lib.compact l) (List.replicate (l.length - (Go.Lib.compact l).length) (.int .i64 0) ++ jk))]) := fun w hw => by
  have h70 : Calls Try.prog 70 #[.slice (some ⟨b, 0, none⟩) l.length c] w _ := Any.slices_Compact_int Try.laysCompact b 0 c l w (holds_row hw) h hc
  refine h70.mono ?_
  rintro e w' ⟨rfl, n, rfl⟩
  have hl := compact_len l
  have := row_put (n := n) (os := #[]) hw (l' := Go.Lib.compact l ++ List.replicate (l.length - (Go.Lib.compact l).length) 0) (v := .slice (some ⟨b, 0, none⟩) (Go.Lib.compact l).length c) (by rw [List.length_append, List.length_replicate]; omega)
  rw [row_cut, Go.Sort.grow_empty] at this
  exact this
theorem c70N (G : Imm) (c : Nat) : Does Try.prog 70 [.slice none 0 c] G [] (fun v G' Ho => v = .slice none 0 c ∧ G' = G ∧ Ho = []) := fun w hw => by
  have h70 : Calls Try.prog 70 #[.slice none 0 c] w _ := Any.slices_Compact_int_empty Try.laysCompact none c w
  refine h70.mono ?_
  rintro e w' ⟨rfl, rfl⟩
  exact ⟨_, G, [], rfl, hw, Imm.le_refl _, Upd.refl _ _, fun _ h h' => absurd h' h, fun t b o h => by simp [Hp.get] at h, rfl, rfl, rfl⟩
theorem rising_one {a b : List Int} (ha : a.Pairwise (· < ·)) (hb : b.Pairwise (· < ·)) (h : ∀ x, x ∈ a ↔ x ∈ b) : a = b := by
  induction a generalizing b with
  | nil =>
    cases b with
    | nil => rfl
    | cons y b => exact absurd ((h y).2 List.mem_cons_self) (by simp)
  | cons x a ih =>
    cases b with
    | nil => exact absurd ((h x).1 List.mem_cons_self) (by simp)
    | cons y b =>
      rw [List.pairwise_cons] at ha hb
      have hxy : x = y := by
        rcases List.mem_cons.mp ((h x).1 List.mem_cons_self) with e | e
        · exact e
        · rcases List.mem_cons.mp ((h y).2 List.mem_cons_self) with e2 | e2
          · exact e2.symm
          · have h1 := hb.1 x e; have h2 := ha.1 y e2; omega
      subst hxy
      rw [ih ha.2 hb.2]
      intro z
      constructor
      · intro hz
        rcases List.mem_cons.mp ((h z).1 (List.mem_cons_of_mem _ hz)) with e | e
        · have := ha.1 z hz; omega
        · exact e
      · intro hz
        rcases List.mem_cons.mp ((h z).2 (List.mem_cons_of_mem _ hz)) with e | e
        · have := hb.1 z hz; omega
        · exact e
end Go.Proofs.Ytbppmiimeccclaa
set_option maxRecDepth 100000
set_option linter.unusedVariables false
namespace Go.Proofs.Ytbppmiimeccclaa
open Go Go.Sl
set_option maxHeartbeats 4000000
attribute [local irreducible] RightL
theorem c67N (G : Imm) (a b : Int) (h : near a b) : Does Try.prog 67 [.agg #[.int .i64 a, .int .i64 b]] G [] (fun v G' Ho => v = .tuple #[.agg #[.int .i64 (nrm a b).1, .int .i64 (nrm a b).2], .int .i64 0] ∧ G' = G ∧ Ho = []) :=
  (c67 G a b).mono fun v G' Ho _ ⟨e1, e2, e3⟩ => ⟨by rw [e1, if_pos h, if_pos h], e2, e3⟩
theorem c68N (G : Imm) (a b c d : Int) (h : near a b) (h' : near c d) : Does Try.prog 68 [.agg #[.int .i64 a, .int .i64 b], .agg #[.int .i64 c, .int .i64 d]] G [] (fun v G' Ho => v = .tuple #[.int .i64 (a * d - c * b), .int .i64 0] ∧ G' = G ∧ Ho = []) :=
  (c68 G a b c d).mono fun v G' Ho _ ⟨e1, e2, e3⟩ => ⟨by rw [e1, if_pos ⟨h, h'⟩, if_pos ⟨h, h'⟩], e2, e3⟩
theorem c27W (G : Imm) (a : Option Addr) (c : Nat) (l : List R2) (ha : Arr G a l) (h1 : l.length ≤ 1048576) (hc : l.length ≤ c) (hR : ¬ RightL l) :
    Does Try.prog 27 [.slice a l.length c] G [] (fun v G' Ho => v = .tuple #[.slice none 0 0, .int .i64 2] ∧ G' = G ∧ Ho = []) := by
  refine Does.enter Try.func27 rfl Try.ntmps27 rfl (fun w => ?_)
  refine Wc.seq ?_
  refine Wc.region rfl ?_
  refine Wl.q rfl (Qy.assign rfl) ?_
  refine Wl.q rfl (Qy.assign rfl) ?_
  refine Wl.done ?_
  refine Ar.next ?_
  refine Wc.seq ?_
  refine Wc.seq ?_
  refine Wc.region rfl ?_
  refine Wl.q rfl (Qy.move rfl) ?_
  refine Wl.call0 rfl T.fn28 rfl (c28N _ _ _ l (by assumption) (by omega) hc hR) ?_
  refine Wl.q rfl (Qy.not rfl) ?_
  refine Wl.done ?_
  refine Ar.next ?_
  refine Wc.condT rfl ?_
  refine Wc.seq ?_
  refine Wc.region rfl ?_
  refine Wl.q rfl (Qy.assign rfl) ?_
  refine Wl.q rfl (Qy.assign rfl) ?_
  refine Wl.done ?_
  refine Ar.next ?_
  refine Wc.ret ?_
  refine Ar.passRet ?_
  refine Ar.out2 (.inr rfl) (Ho := Hp.only _ []) rfl (.tmp rfl) (.tmp rfl) (Hp.sub_only _ _) ?_
  exact ⟨rfl, rfl, rfl⟩
theorem mx_abs (x : Int) : (if x < -x then -x else x) = (x.natAbs : Int) := by split <;> omega
/-- the amounts above one, so far -/
def Outs (l : List R2) (j i : Nat) (r : List Int) : Prop := ∀ d : Int, d ∈ r ↔ 1 < d ∧ Amt l j i d
theorem c27R (G : Imm) (a : Option Addr) (c : Nat) (l : List R2) (ha : Arr G a l) (h1 : l.length ≤ 1048576) (hc : l.length ≤ c) (hR : RightL l) (hr1 : l.length ≤ 15) (hr : ∀ i, i < l.length → near (l[i]?.getD default).a (l[i]?.getD default).b) :
    Does Try.prog 27 [.slice a l.length c] G [] (fun v G' Ho => ∃ (s : Option Addr) (r : List Int) (c' : Nat), v = .tuple #[.slice s r.length c', .int .i64 0] ∧ Arr G' s r ∧ r.length ≤ c' ∧ r.Pairwise (· < ·) ∧ (∀ d : Int, d ∈ r ↔ 1 < d ∧ Amt l l.length 0 d) ∧ Ho = []) := by
  refine Does.enter Try.func27 rfl Try.ntmps27 rfl (fun w => ?_)
  refine Wc.nilRow 9 (Row 3 ([] : List Int) []) ?_
  refine Wc.seq ?_
  refine Wc.region rfl ?_
  refine Wl.q rfl (Qy.assign rfl) ?_
  refine Wl.q rfl (Qy.assign rfl) ?_
  refine Wl.done ?_
  refine Ar.next ?_
  refine Wc.seq ?_
  refine Wc.seq ?_
  refine Wc.region rfl ?_
  refine Wl.q rfl (Qy.move rfl) ?_
  refine Wl.call0 rfl T.fn28 rfl (c28Y _ _ _ l (by assumption) (by omega) hc hR) ?_
  refine Wl.q rfl (Qy.not rfl) ?_
  refine Wl.done ?_
  refine Ar.next ?_
  refine Wc.condF rfl ?_
  refine Wc.skip ?_
  refine Ar.next ?_
  refine Wc.seq ?_
  refine Wc.region rfl ?_
  refine Wl.q rfl (Qy.assign rfl) ?_
  refine Wl.done ?_
  refine Ar.next ?_
  refine Wc.seq ?_
  refine Wc.seq ?_
  refine Wc.region rfl ?_
  refine Wl.q rfl (Qy.move rfl) ?_
  refine Wl.q rfl (Qy.len T.sl47 rfl) ?_
  refine Wl.q rfl (Qy.move rfl) ?_
  refine Wl.done ?_
  refine Ar.next ?_
  refine Wc.block ?_
  refine Wc.loop (ι := Nat × List Int × (Option Addr × Nat × List Value)) (fun (j, r, (o, cc, jk)) => ([(20, .int .i64 (j : Int)), (4, .slice o r.length cc), (19, Go.Value.int Go.IntKind.i64 (↑(List.length l) : Int)), (18, Go.Value.slice a (List.length l) c), (3, Go.Value.int Go.IntKind.i64 0), (2, Go.Value.slice Option.none 0 0), (0, Go.Value.slice a (List.length l) c)], [(9, o.map (·.block), Row 3 r jk)])) (fun (j, r, (o, cc, jk)) => j ≤ l.length ∧ r.length ≤ 16 * j ∧ Outs l j 0 r ∧ OwnA o cc r jk) (fun (j, r, (o, cc, jk)) => l.length - j) ((0, [], (none, 0, []))) (⟨Nat.zero_le _, Nat.zero_le _, fun d => ⟨fun h => absurd h (by simp), fun h => absurd h.2 Amt.zero⟩, OwnA.nil⟩) ⟨rfl, rfl, rfl, rfl, rfl, rfl, rfl, trivial⟩ ⟨rfl, trivial⟩ (fun ⟨j, r, (o, cc, jk)⟩ => fun (hk : j ≤ l.length ∧ r.length ≤ 16 * j ∧ Outs l j 0 r ∧ OwnA o cc r jk) => ?_)
  obtain ⟨hj1, hj2, hj3, hj4⟩ := hk
  rcases Nat.lt_or_ge j l.length with hjl | hjl
  · refine Wc.seq ?_
    refine Wc.region rfl ?_
    refine Wl.q rfl (Qy.lss rfl rfl) ?_
    refine Wl.done ?_
    refine Ar.next ?_
    refine Wc.seq ?_
    refine Wc.condP rfl (by first | assumption | omega) ?_
    refine Wc.skip ?_
    refine Ar.next ?_
    refine Wc.seq ?_
    refine Wc.block ?_
    refine Wc.seq ?_
    refine Wc.region rfl ?_
    refine Wl.q rfl (Qy.move rfl) ?_
    refine Wl.q rfl (Qy.at (α := R2) T.sl47 rfl rfl (by assumption) (by omega)) ?_
    refine Wl.q rfl (Qy.loadsG T.agg75 rfl (Arr.elem (by assumption) (by omega)) rfl) ?_
    refine Wl.alloc 10 rfl T.zero75 (fun b1 => ?_)
    refine Wl.q rfl (Qy.assign rfl) ?_
    refine Wl.storeAll 10 T.size75 rfl rfl rfl rfl rfl rfl ?_
    refine Wl.done ?_
    refine Ar.next ?_
    refine Wc.seq ?_
    refine Wc.region rfl ?_
    refine Wl.q rfl (Qy.move rfl) ?_
    refine Wl.q rfl (Qy.move rfl) ?_
    refine Wl.q rfl (Qy.cutH T.sl47 rfl rfl (by omega)) ?_
    refine Wl.q rfl (Qy.len T.sl47 rfl) ?_
    refine Wl.q rfl (Qy.move rfl) ?_
    refine Wl.done ?_
    refine Ar.next ?_
    refine Wc.block ?_
    have haj : Arr G (subA a c 0 2) (l.take j) := barr_sub ha j
    have ej : (l.take j).length = j := by rw [List.length_take]; omega
    refine Wc.re 27 rfl (show _ = Value.slice (subA a c 0 2) (l.take j).length c by rw [ej]; rfl) ?_
    refine Wc.re 28 rfl (show _ = Value.int .i64 (j : Int) from rfl) ?_
    refine Wc.loop (ι := Nat × List Int × (Option Addr × Nat × List Value)) (fun (i, r, (o, cc, jk)) => ([(29, .int .i64 (i : Int)), (4, .slice o r.length cc), (0, .slice a l.length c), (18, .slice a l.length c), (19, .int .i64 (l.length : Int)), (20, .int .i64 (j : Int)), (28, Go.Value.int Go.IntKind.i64 (↑j : Int)), (27, Go.Value.slice (Go.Sl.subA a c 0 2) (List.length (List.take j l)) c), (6, Go.Value.pointer (Option.some (Go.Addr.mk b1 0 Option.none))), (3, Go.Value.int Go.IntKind.i64 0), (2, Go.Value.slice Option.none 0 0)], [(9, o.map (·.block), Row 3 r jk), (10, Option.some b1, Go.Obj.cells (List.toArray (Go.Sl.Cells.enc (Option.getD l[Int.toNat (↑j : Int)]? Inhabited.default))) 75)])) (fun (i, r, (o, cc, jk)) => i ≤ j ∧ r.length ≤ 16 * j + i ∧ Outs l j i r ∧ OwnA o cc r jk) (fun (i, r, (o, cc, jk)) => j - i) ((0, r, (o, cc, jk))) (⟨Nat.zero_le _, hj2, hj3, hj4⟩) ⟨rfl, rfl, rfl, rfl, rfl, rfl, rfl, rfl, rfl, rfl, rfl, trivial⟩ ⟨rfl, rfl, trivial⟩ (fun ⟨i, r, (o, cc, jk)⟩ => fun (hk : i ≤ j ∧ r.length ≤ 16 * j + i ∧ Outs l j i r ∧ OwnA o cc r jk) => ?_)
    obtain ⟨hi1, hi2, hi3, hi4⟩ := hk
    rcases Nat.lt_or_ge i j with hij | hij
    · have eti : (l.take j)[((i : Nat) : Int).toNat]?.getD default = l[i]?.getD default := by rw [List.getElem?_take, if_pos (by omega)]; rfl
      have n1 : near ((l.take j)[((i : Nat) : Int).toNat]?.getD default).a ((l.take j)[((i : Nat) : Int).toNat]?.getD default).b := by rw [eti]; exact hr i (by omega)
      have n2 : near (l[((j : Nat) : Int).toNat]?.getD default).a (l[((j : Nat) : Int).toNat]?.getD default).b := hr j (by omega)
      have n3 := near_nrm n1
      have n4 := near_nrm n2
      have hd := dt_rng n1 n2
      unfold dt at hd
      refine Wc.seq ?_
      refine Wc.region rfl ?_
      refine Wl.q rfl (Qy.lss rfl rfl) ?_
      refine Wl.done ?_
      refine Ar.next ?_
      refine Wc.seq ?_
      refine Wc.condP rfl (by first | assumption | omega) ?_
      refine Wc.skip ?_
      refine Ar.next ?_
      refine Wc.seq ?_
      refine Wc.block ?_
      refine Wc.seq ?_
      refine Wc.region rfl ?_
      refine Wl.q rfl (Qy.at (α := R2) T.sl47 rfl rfl (by assumption) (by omega)) ?_
      refine Wl.q rfl (Qy.loadsG T.agg75 rfl (Arr.elem (by assumption) (by omega)) rfl) ?_
      refine Wl.alloc 11 rfl T.zero75 (fun b2 => ?_)
      refine Wl.storeAll 11 T.size75 rfl rfl rfl rfl rfl rfl ?_
      refine Wl.done ?_
      refine Ar.next ?_
      refine Wc.seq ?_
      refine Wc.region rfl ?_
      refine Wl.q rfl (Qy.loadAll 11 T.agg75 rfl rfl rfl) ?_
      refine Wl.call0 rfl T.fn67 rfl (c67N _ _ _ (by assumption)) ?_
      refine Wl.q rfl (Qy.move rfl) ?_
      refine Wl.q rfl (Qy.extract rfl rfl) ?_
      refine Wl.q rfl (Qy.extract rfl rfl) ?_
      refine Wl.alloc 12 rfl T.zero75 (fun b3 => ?_)
      refine Wl.storeAll 12 T.size75 rfl rfl rfl rfl rfl rfl ?_
      refine Wl.q rfl (Qy.assign rfl) ?_
      refine Wl.done ?_
      refine Ar.next ?_
      refine Wc.seq ?_
      refine Wc.region rfl ?_
      refine Wl.q rfl (Qy.loadAll 10 T.agg75 rfl rfl rfl) ?_
      refine Wl.call0 rfl T.fn67 rfl (c67N _ _ _ (by assumption)) ?_
      refine Wl.q rfl (Qy.move rfl) ?_
      refine Wl.q rfl (Qy.extract rfl rfl) ?_
      refine Wl.q rfl (Qy.extract rfl rfl) ?_
      refine Wl.alloc 13 rfl T.zero75 (fun b4 => ?_)
      refine Wl.storeAll 13 T.size75 rfl rfl rfl rfl rfl rfl ?_
      refine Wl.q rfl (Qy.assign rfl) ?_
      refine Wl.done ?_
      refine Ar.next ?_
      refine Wc.seq ?_
      refine Wc.region rfl ?_
      refine Wl.q rfl (Qy.loadAll 12 T.agg75 rfl rfl rfl) ?_
      refine Wl.q rfl (Qy.loadAll 13 T.agg75 rfl rfl rfl) ?_
      refine Wl.call0 rfl T.fn68 rfl (c68N _ _ _ _ _ (by assumption) (by assumption)) ?_
      refine Wl.q rfl (Qy.move rfl) ?_
      refine Wl.q rfl (Qy.extract rfl rfl) ?_
      refine Wl.q rfl (Qy.extract rfl rfl) ?_
      refine Wl.q rfl (Qy.assign rfl) ?_
      refine Wl.q rfl (Qy.assign rfl) ?_
      refine Wl.done ?_
      refine Ar.next ?_
      refine Wc.seq ?_
      refine Wc.region rfl ?_
      refine Wl.q rfl (Qy.move rfl) ?_
      refine Wl.q rfl (Qy.move rfl) ?_
      refine Wl.q rfl (Qy.neg rfl (by omega)) ?_
      refine Wl.q rfl (Qy.max rfl rfl) ?_
      refine Wl.q rfl (Qy.assign rfl) ?_
      refine Wl.done ?_
      refine Ar.next ?_
      refine Wc.seq ?_
      refine Wc.region rfl ?_
      refine Wl.q rfl (Qy.move rfl) ?_
      refine Wl.q rfl (Qy.gtr rfl rfl) ?_
      refine Wl.done ?_
      refine Ar.next ?_
      refine Wc.cond rfl (fun hc1 => ?_) (fun hc1 => ?_)
      refine Wc.region rfl ?_
      refine Wl.q rfl (Qy.move rfl) ?_
      refine Wl.q rfl (Qy.move rfl) ?_
      refine Wl.lit (α := Int) 14 [(if Prod.fst (Go.Proofs.Ytbppmiimeccclaa.nrm (Go.Sl.R2.a (Option.getD (List.take j l)[Int.toNat (↑i : Int)]? Inhabited.default)) (Go.Sl.R2.b (Option.getD (List.take j l)[Int.toNat (↑i : Int)]? Inhabited.default))) * Prod.snd (Go.Proofs.Ytbppmiimeccclaa.nrm (Go.Sl.R2.a (Option.getD l[Int.toNat (↑j : Int)]? Inhabited.default)) (Go.Sl.R2.b (Option.getD l[Int.toNat (↑j : Int)]? Inhabited.default))) - Prod.fst (Go.Proofs.Ytbppmiimeccclaa.nrm (Go.Sl.R2.a (Option.getD l[Int.toNat (↑j : Int)]? Inhabited.default)) (Go.Sl.R2.b (Option.getD l[Int.toNat (↑j : Int)]? Inhabited.default))) * Prod.snd (Go.Proofs.Ytbppmiimeccclaa.nrm (Go.Sl.R2.a (Option.getD (List.take j l)[Int.toNat (↑i : Int)]? Inhabited.default)) (Go.Sl.R2.b (Option.getD (List.take j l)[Int.toNat (↑i : Int)]? Inhabited.default))) < -(Prod.fst (Go.Proofs.Ytbppmiimeccclaa.nrm (Go.Sl.R2.a (Option.getD (List.take j l)[Int.toNat (↑i : Int)]? Inhabited.default)) (Go.Sl.R2.b (Option.getD (List.take j l)[Int.toNat (↑i : Int)]? Inhabited.default))) * Prod.snd (Go.Proofs.Ytbppmiimeccclaa.nrm (Go.Sl.R2.a (Option.getD l[Int.toNat (↑j : Int)]? Inhabited.default)) (Go.Sl.R2.b (Option.getD l[Int.toNat (↑j : Int)]? Inhabited.default))) - Prod.fst (Go.Proofs.Ytbppmiimeccclaa.nrm (Go.Sl.R2.a (Option.getD l[Int.toNat (↑j : Int)]? Inhabited.default)) (Go.Sl.R2.b (Option.getD l[Int.toNat (↑j : Int)]? Inhabited.default))) * Prod.snd (Go.Proofs.Ytbppmiimeccclaa.nrm (Go.Sl.R2.a (Option.getD (List.take j l)[Int.toNat (↑i : Int)]? Inhabited.default)) (Go.Sl.R2.b (Option.getD (List.take j l)[Int.toNat (↑i : Int)]? Inhabited.default)))) then -(Prod.fst (Go.Proofs.Ytbppmiimeccclaa.nrm (Go.Sl.R2.a (Option.getD (List.take j l)[Int.toNat (↑i : Int)]? Inhabited.default)) (Go.Sl.R2.b (Option.getD (List.take j l)[Int.toNat (↑i : Int)]? Inhabited.default))) * Prod.snd (Go.Proofs.Ytbppmiimeccclaa.nrm (Go.Sl.R2.a (Option.getD l[Int.toNat (↑j : Int)]? Inhabited.default)) (Go.Sl.R2.b (Option.getD l[Int.toNat (↑j : Int)]? Inhabited.default))) - Prod.fst (Go.Proofs.Ytbppmiimeccclaa.nrm (Go.Sl.R2.a (Option.getD l[Int.toNat (↑j : Int)]? Inhabited.default)) (Go.Sl.R2.b (Option.getD l[Int.toNat (↑j : Int)]? Inhabited.default))) * Prod.snd (Go.Proofs.Ytbppmiimeccclaa.nrm (Go.Sl.R2.a (Option.getD (List.take j l)[Int.toNat (↑i : Int)]? Inhabited.default)) (Go.Sl.R2.b (Option.getD (List.take j l)[Int.toNat (↑i : Int)]? Inhabited.default)))) else Prod.fst (Go.Proofs.Ytbppmiimeccclaa.nrm (Go.Sl.R2.a (Option.getD (List.take j l)[Int.toNat (↑i : Int)]? Inhabited.default)) (Go.Sl.R2.b (Option.getD (List.take j l)[Int.toNat (↑i : Int)]? Inhabited.default))) * Prod.snd (Go.Proofs.Ytbppmiimeccclaa.nrm (Go.Sl.R2.a (Option.getD l[Int.toNat (↑j : Int)]? Inhabited.default)) (Go.Sl.R2.b (Option.getD l[Int.toNat (↑j : Int)]? Inhabited.default))) - Prod.fst (Go.Proofs.Ytbppmiimeccclaa.nrm (Go.Sl.R2.a (Option.getD l[Int.toNat (↑j : Int)]? Inhabited.default)) (Go.Sl.R2.b (Option.getD l[Int.toNat (↑j : Int)]? Inhabited.default))) * Prod.snd (Go.Proofs.Ytbppmiimeccclaa.nrm (Go.Sl.R2.a (Option.getD (List.take j l)[Int.toNat (↑i : Int)]? Inhabited.default)) (Go.Sl.R2.b (Option.getD (List.take j l)[Int.toNat (↑i : Int)]? Inhabited.default))))] rfl T.sl23 T.el3 rfl rfl rfl rfl rfl (fun b5 => ?_)
      refine Wl.append (α := Int) 9 rfl T.sl23 T.el3 rfl rfl rfl (by first | assumption | exact OwnA.nil | exact OwnA.made (by simp)) (Src.row 14 rfl) (by first | omega | (simp only [List.length_append, List.length_cons, List.length_nil, maxLen]; omega)) (by first | omega | (simp only [List.length_append, List.length_cons, List.length_nil, maxLen]; omega)) (fun a1 c1 junk1 ho1 => ?_)
      refine Wl.q rfl (Qy.assign rfl) ?_
      refine Wl.done ?_
      refine Ar.outNormal ?_
      refine Ar.next ?_
      refine Wc.region rfl ?_
      refine Wl.q rfl (Qy.add rfl rfl (by omega)) ?_
      refine Wl.q rfl (Qy.move rfl) ?_
      refine Wl.done ?_
      rotate_left
      refine Wc.skip ?_
      refine Ar.outNormal ?_
      refine Ar.next ?_
      refine Wc.region rfl ?_
      refine Wl.q rfl (Qy.add rfl rfl (by omega)) ?_
      refine Wl.q rfl (Qy.move rfl) ?_
      refine Wl.done ?_
      rotate_left
      · refine Ar.re 29 rfl (show _ = Value.int .i64 ((i + 1 : Nat) : Int) from rfl) ?_
        refine Ar.again ((i + 1, _, (a1, c1, junk1))) ?_ ?_ rfl ⟨rfl, rfl, rfl, rfl, rfl, rfl, rfl, rfl, rfl, rfl, rfl, trivial⟩ ⟨rfl, rfl, trivial⟩
        · rw [mx_abs, eti] at hc1
          refine ⟨hij, by rw [List.length_append, List.length_singleton]; omega, fun d => ?_, ho1⟩
          rw [mx_abs, eti, List.mem_append, List.mem_singleton, hi3 d, Amt.step hij]
          constructor
          · rintro (⟨h1, h2⟩ | h)
            · exact ⟨h1, .inl h2⟩
            · exact ⟨by rw [h]; exact hc1, .inr h⟩
          · rintro ⟨h1, h2 | h2⟩
            · exact .inl ⟨h1, h2⟩
            · exact .inr h2
        · show j - (i + 1) < j - i
          omega
      · refine Ar.re 29 rfl (show _ = Value.int .i64 ((i + 1 : Nat) : Int) from rfl) ?_
        refine Ar.again ((i + 1, r, (o, cc, jk))) ?_ ?_ rfl ⟨rfl, rfl, rfl, rfl, rfl, rfl, rfl, rfl, rfl, rfl, rfl, trivial⟩ ⟨rfl, rfl, trivial⟩
        · rw [mx_abs, eti] at hc1
          refine ⟨hij, by omega, fun d => ?_, hi4⟩
          rw [hi3 d, Amt.step hij]
          constructor
          · rintro ⟨h1, h2⟩
            exact ⟨h1, .inl h2⟩
          · rintro ⟨h1, h2 | h2⟩
            · exact ⟨h1, h2⟩
            · exact absurd (by rw [h2] at h1; exact h1) hc1
        · show j - (i + 1) < j - i
          omega
    · have hie : i = j := by omega
      subst hie
      refine Wc.seq ?_
      refine Wc.region rfl ?_
      refine Wl.q rfl (Qy.lss rfl rfl) ?_
      refine Wl.done ?_
      refine Ar.next ?_
      refine Wc.seq ?_
      refine Wc.condN rfl (by first | assumption | omega) ?_
      refine Wc.exit ?_
      refine Ar.passExit ?_
      refine Ar.passExit ?_
      refine Ar.here ?_
      refine Ar.outNormal ?_
      refine Ar.next ?_
      refine Wc.region rfl ?_
      refine Wl.q rfl (Qy.add rfl rfl (by omega)) ?_
      refine Wl.q rfl (Qy.move rfl) ?_
      refine Wl.done ?_
      refine Ar.re 20 rfl (show _ = Value.int .i64 ((i + 1 : Nat) : Int) from rfl) ?_
      refine Ar.again ((i + 1, r, (o, cc, jk))) ?_ ?_ rfl ⟨rfl, rfl, rfl, rfl, rfl, rfl, rfl, trivial⟩ ⟨rfl, trivial⟩
      · exact ⟨hjl, by omega, fun d => (hi3 d).trans (and_congr_right fun _ => Amt.row), hi4⟩
      · show l.length - (i + 1) < l.length - i
        omega
  · have hje : j = l.length := by omega
    subst hje
    rcases hj4 with ⟨rfl, rfl, rfl, rfl⟩ | ⟨b, rfl, h2, h3, h4⟩
    · refine Wc.seq ?_
      refine Wc.region rfl ?_
      refine Wl.q rfl (Qy.lss rfl rfl) ?_
      refine Wl.done ?_
      refine Ar.next ?_
      refine Wc.seq ?_
      refine Wc.condN rfl (by first | assumption | omega) ?_
      refine Wc.exit ?_
      refine Ar.passExit ?_
      refine Ar.passExit ?_
      refine Ar.here ?_
      refine Ar.next ?_
      refine Wc.seq ?_
      refine Wc.region rfl ?_
      refine Wl.q rfl (Qy.move rfl) ?_
      refine Wl.call0 rfl T.fn69 rfl (c69N _ _) ?_
      refine Wl.done ?_
      refine Ar.next ?_
      refine Wc.seq ?_
      refine Wc.region rfl ?_
      refine Wl.q rfl (Qy.move rfl) ?_
      refine Wl.call0 rfl T.fn70 rfl (c70N _ _) ?_
      refine Wl.q rfl (Qy.assign rfl) ?_
      refine Wl.q rfl (Qy.assign rfl) ?_
      refine Wl.done ?_
      refine Ar.next ?_
      refine Wc.ret ?_
      refine Ar.out2 (.inr rfl) (Ho := []) rfl (.tmp rfl) (.tmp rfl) trivial ?_
      exact ⟨none, [], 0, rfl, Arr.nil _, Nat.le_refl _, List.Pairwise.nil, hj3, rfl⟩
    · refine Wc.seq ?_
      refine Wc.region rfl ?_
      refine Wl.q rfl (Qy.lss rfl rfl) ?_
      refine Wl.done ?_
      refine Ar.next ?_
      refine Wc.seq ?_
      refine Wc.condN rfl (by first | assumption | omega) ?_
      refine Wc.exit ?_
      refine Ar.passExit ?_
      refine Ar.passExit ?_
      refine Ar.here ?_
      refine Ar.next ?_
      refine Wc.seq ?_
      refine Wc.region rfl ?_
      refine Wl.q rfl (Qy.move rfl) ?_
      refine Wl.call 9 rfl T.fn69 rfl (c69 _ b cc r jk (by omega)) (tags_of ⟨rfl, trivial⟩) (fun v1 G1 Ho1 hle1 hp => ?_)
      obtain ⟨rfl, rfl, rfl⟩ := hp
      refine Wl.done ?_
      refine Ar.next ?_
      refine Wc.seq ?_
      refine Wc.region rfl ?_
      refine Wl.q rfl (Qy.move rfl) ?_
      refine Wl.re 63 rfl (show _ = Value.slice (some ⟨b, 0, none⟩) (r.mergeSort fun x y => decide (x ≤ y)).length cc by rw [List.length_mergeSort]) ?_
      refine Wl.call 9 rfl T.fn70 rfl (c70 _ b cc _ jk (by rw [List.length_mergeSort]; omega) (by rw [List.length_mergeSort]; exact h3)) (tags_of ⟨rfl, trivial⟩) (fun v2 G2 Ho2 hle2 hp => ?_)
      obtain ⟨rfl, rfl, rfl⟩ := hp
      refine Wl.q rfl (Qy.assign rfl) ?_
      refine Wl.q rfl (Qy.assign rfl) ?_
      refine Wl.done ?_
      refine Ar.next ?_
      refine Wc.ret ?_
      have hl1 : (r.mergeSort fun x y => decide (x ≤ y)).length = r.length := List.length_mergeSort r
      have hl2 := compact_len (r.mergeSort fun x y => decide (x ≤ y))
      have h2' : r.length + jk.length = cc := by
        have e : r.length * 1 + jk.length = cc * 1 := h2
        omega
      have hoC : OwnA (some ⟨b, 0, none⟩) cc (Go.Lib.compact (r.mergeSort fun x y => decide (x ≤ y))) (List.replicate ((r.mergeSort fun x y => decide (x ≤ y)).length - (Go.Lib.compact (r.mergeSort fun x y => decide (x ≤ y))).length) (.int .i64 0) ++ jk) := by
        refine .inr ⟨b, rfl, ?_, by omega, h4⟩
        show _ * 1 + _ = cc * 1
        rw [List.length_append, List.length_replicate]
        omega
      refine Ar.freezeRow 9 rfl hoC (fun G8 hle8 hA8 => ?_)
      refine Ar.out2 (.inr rfl) (Ho := []) rfl (.tmp rfl) (.tmp rfl) trivial ?_
      exact ⟨_, _, _, rfl, hA8, by omega, compact_rising _ (sorted_le r), fun d => by rw [compact_mem, List.mem_mergeSort]; exact hj3 d, rfl⟩
end Go.Proofs.Ytbppmiimeccclaa
set_option maxRecDepth 100000
set_option linter.unusedVariables false
namespace Go.Proofs.Ytbppmiimeccclaa
open Go Go.Sl
set_option maxHeartbeats 4000000
attribute [local irreducible] RightL RightR gridR
theorem right_live : RightL [⟨0, 1⟩] := by
  unfold RightL
  refine ⟨by simp, by simp, fun i hi => ?_, ?_⟩
  · have : i = 0 := by simp at hi; omega
    subst this
    show okP ⟨0, 1⟩
    unfold okP near
    simp
  · rintro ⟨j, hj, i, hi, _⟩
    simp at hj; omega
theorem c28L (G : Imm) (a : Option Addr) (c : Nat) (ha : Arr G a [(⟨0, 1⟩ : R2)]) (hc : 1 ≤ c) : Does Try.prog 28 [.slice a [(⟨0, 1⟩ : R2)].length c] G [] (fun v G' Ho => v = .bool true ∧ G' = G ∧ Ho = []) :=
  c28Y G a c _ ha (by simp) (by simpa using hc) right_live
theorem c24 (G : Imm) : Does Try.prog 24 [] G [] (fun v G' Ho => v = .bool true ∧ G' = G ∧ Ho = []) := by
  refine Does.enter Try.func24 rfl Try.ntmps24 rfl (fun w => ?_)
  refine Wc.seq ?_
  refine Wc.region rfl ?_
  refine Wl.q rfl (Qy.assign rfl) ?_
  refine Wl.done ?_
  refine Ar.next ?_
  refine Wc.seq ?_
  refine Wc.region rfl ?_
  refine Wl.q rfl (Qy.build (cs := [_, _]) T.st75 rfl rfl rfl) ?_
  refine Wl.lit (α := R2) 0 [⟨0, 1⟩] rfl T.sl47 T.el75 rfl rfl rfl rfl rfl (fun b1 => ?_)
  refine Wl.callB 1 rfl T.fn28 rfl (fun Gx hGx hgx => (c28L _ _ _ (by first | exact Arr.up (by assumption) hGx | exact Arr.nil _ | exact Arr.own hgx 0 rfl (by first | assumption | exact OwnA.made (by simp [maxLen]))) (by omega))) (fun v1 Gx1 G1 Ho1 hlx1 hp => ?_)
  obtain ⟨rfl, rfl, rfl⟩ := hp
  refine Wl.q rfl (Qy.assign rfl) ?_
  refine Wl.done ?_
  refine Ar.next ?_
  refine Wc.ret ?_
  refine Ar.out1 (.inr rfl) (Ho := []) rfl (.tmp rfl) trivial ?_
  exact ⟨rfl, rfl, rfl⟩
theorem c24D (G : Imm) : Does Try.prog 24 [] G [] (fun v G' Ho => v = .bool (decide (1 = 1)) ∧ G' = G ∧ Ho = []) := c24 G
theorem c25Y (G : Imm) (a : Option Addr) (c : Nat) (l : List R2) (ha : Arr G a l) (h1 : l.length ≤ 1048576) (hc : l.length ≤ c) (hR : RightL l) : Does Try.prog 25 [.slice a l.length c] G [] (fun v G' Ho => v = .bool true ∧ G' = G ∧ Ho = []) :=
  (c25 G a c l ha h1 hc).mono fun v G' Ho _ ⟨b, e1, e2, e3, e4⟩ => ⟨by rw [e1, e2.2 ((right_iff l).1 hR)], e3, e4⟩
theorem c25N (G : Imm) (a : Option Addr) (c : Nat) (l : List R2) (ha : Arr G a l) (h1 : l.length ≤ 1048576) (hc : l.length ≤ c) (hR : ¬ RightL l) : Does Try.prog 25 [.slice a l.length c] G [] (fun v G' Ho => v = .bool false ∧ G' = G ∧ Ho = []) :=
  (c25 G a c l ha h1 hc).mono fun v G' Ho _ ⟨b, e1, e2, e3, e4⟩ => ⟨by rw [e1]; congr 1; cases b; { rfl }; exact absurd ((right_iff l).2 (e2.1 rfl)) hR, e3, e4⟩
theorem rising_len {l : List Int} {lo : Int} (h : l.Pairwise (· < ·)) (hb : ∀ x ∈ l, lo ≤ x ∧ x ≤ 512) : l = [] ∨ (l.length : Int) ≤ 513 - lo := by
  induction l generalizing lo with
  | nil => exact .inl rfl
  | cons x l ih =>
    rw [List.pairwise_cons] at h
    have hx := hb x List.mem_cons_self
    refine .inr ?_
    rw [List.length_cons]
    rcases ih (lo := x + 1) h.2 (fun y hy => ⟨by have := h.1 y hy; omega, (hb y (List.mem_cons_of_mem _ hy)).2⟩) with rfl | h2
    · simp; omega
    · omega
theorem amt_big {l : List R2} (hr : ∀ i, i < l.length → near (l[i]?.getD default).a (l[i]?.getD default).b) {x : Int} (h : Amt l l.length 0 x) : 0 ≤ x ∧ x ≤ 512 := by
  obtain ⟨j', i', h1, h2, h3⟩ := h
  have := dt_rng (hr i' (by omega)) (hr j' (by omega))
  omega
theorem gridR_len (l : List R2) : (gridR l).length = l.length := by unfold gridR; rw [List.length_map]
theorem gridR_row (l : List R2) (i : Nat) : ((gridR l)[i]?.getD []).length ≤ l.length := by
  unfold gridR
  rw [List.getElem?_map]
  cases l[i]? with
  | none => exact Nat.zero_le _
  | some p =>
    show (powR p.a p.b l.length).length ≤ _
    unfold powR
    rw [List.length_map, List.length_range]
    exact Nat.le_refl _
theorem gridR_small {l : List R2} (h1 : l.length ≤ 15) (hr : ∀ i, i < l.length → near (l[i]?.getD default).a (l[i]?.getD default).b) (i j : Nat) : ((((gridR l)[i]?.getD [])[j]?.getD 0).natAbs : Int) ≤ 1152921504606846976 := by
  have e3 : (16 : Nat) ^ 15 = 1152921504606846976 := by decide
  unfold gridR
  rw [List.getElem?_map]
  cases hp : l[i]? with
  | none => simp
  | some p =>
    have hi : i < l.length := by
      rcases Nat.lt_or_ge i l.length with h | h
      · exact h
      · rw [List.getElem?_eq_none h] at hp; cases hp
    have hn := hr i hi
    rw [hp] at hn
    have hn : near p.a p.b := hn
    show ((((powR p.a p.b l.length)[j]?.getD 0).natAbs : Nat) : Int) ≤ _
    unfold powR
    rw [List.getElem?_map]
    cases hj : (List.range l.length)[j]? with
    | none => simp
    | some k =>
      show (((p.a ^ k * p.b ^ (l.length - 1 - k)).natAbs : Nat) : Int) ≤ _
      have hk : k < l.length := by
        have := List.mem_of_getElem? hj
        exact List.mem_range.mp this
      have e : (p.a ^ k * p.b ^ (l.length - 1 - k)).natAbs ≤ 16 ^ 15 := by
        rw [Int.natAbs_mul, Int.natAbs_pow, Int.natAbs_pow]
        refine Nat.le_trans (Nat.mul_le_mul (Nat.pow_le_pow_left (show p.a.natAbs ≤ 16 by unfold near at hn; omega) k) (Nat.pow_le_pow_left (show p.b.natAbs ≤ 16 by unfold near at hn; omega) _)) ?_
        rw [← Nat.pow_add]
        exact Nat.pow_le_pow_right (by omega) (by omega)
      omega
theorem c5W (G : Imm) (a : Option Addr) (c : Nat) (l : List R2) (ha : Arr G a l) (h1 : l.length ≤ 1048576) (hc : l.length ≤ c) (hR : ¬ RightL l) :
    Does Try.prog 5 [.slice a l.length c] G [] (fun v G' Ho => v = .bool true ∧ Ho = []) := by
  refine Does.enter Try.func5 rfl Try.ntmps5 rfl (fun w => ?_)
  refine Wc.seq ?_
  refine Wc.region rfl ?_
  refine Wl.q rfl (Qy.assign rfl) ?_
  refine Wl.done ?_
  refine Ar.next ?_
  refine Wc.seq ?_
  refine Wc.seq ?_
  refine Wc.region rfl ?_
  refine Wl.call0 rfl T.fn24 rfl (c24D _) ?_
  refine Wl.q rfl (Qy.notD rfl) ?_
  refine Wl.done ?_
  refine Ar.next ?_
  refine Wc.condN rfl (by first | assumption | omega) ?_
  refine Wc.skip ?_
  refine Ar.next ?_
  refine Wc.seq ?_
  refine Wc.seq ?_
  refine Wc.region rfl ?_
  refine Wl.q rfl (Qy.move rfl) ?_
  refine Wl.q rfl (Qy.len T.sl47 rfl) ?_
  refine Wl.q rfl (Qy.gtr rfl rfl) ?_
  refine Wl.done ?_
  refine Ar.next ?_
  refine Wc.cond rfl (fun hc1 => ?_) (fun hc1 => ?_)
  refine Wc.seq ?_
  refine Wc.region rfl ?_
  refine Wl.q rfl (Qy.assign rfl) ?_
  refine Wl.done ?_
  refine Ar.next ?_
  refine Wc.ret ?_
  refine Ar.passRet ?_
  refine Ar.out1 (.inr rfl) (Ho := Hp.only _ []) rfl (.tmp rfl) (Hp.sub_only _ _) ?_
  rotate_left
  refine Wc.skip ?_
  refine Ar.next ?_
  refine Wc.seq ?_
  refine Wc.region rfl ?_
  refine Wl.q rfl (Qy.move rfl) ?_
  refine Wl.call0 rfl T.fn25 rfl (c25N _ _ _ l (by assumption) (by omega) hc hR) ?_
  refine Wl.q rfl (Qy.assign rfl) ?_
  refine Wl.done ?_
  refine Ar.next ?_
  refine Wc.seq ?_
  refine Wc.region rfl ?_
  refine Wl.q rfl (Qy.move rfl) ?_
  refine Wl.call0 rfl T.fn26 rfl (c26W _ _ _ l (by assumption) (by omega) hc hR) ?_
  refine Wl.q rfl (Qy.move rfl) ?_
  refine Wl.q rfl (Qy.extract rfl rfl) ?_
  refine Wl.q rfl (Qy.extract rfl rfl) ?_
  refine Wl.q rfl (Qy.assign rfl) ?_
  refine Wl.q rfl (Qy.assign rfl) ?_
  refine Wl.done ?_
  refine Ar.next ?_
  refine Wc.seq ?_
  refine Wc.region rfl ?_
  refine Wl.q rfl (Qy.move rfl) ?_
  refine Wl.call0 rfl T.fn27 rfl (c27W _ _ _ l (by assumption) (by omega) hc hR) ?_
  refine Wl.q rfl (Qy.move rfl) ?_
  refine Wl.q rfl (Qy.extract rfl rfl) ?_
  refine Wl.q rfl (Qy.extract rfl rfl) ?_
  refine Wl.q rfl (Qy.assign rfl) ?_
  refine Wl.q rfl (Qy.assign rfl) ?_
  refine Wl.done ?_
  refine Ar.next ?_
  refine Wc.seq ?_
  refine Wc.seq ?_
  refine Wc.region rfl ?_
  refine Wl.q rfl (Qy.move rfl) ?_
  refine Wl.call0 rfl T.fn28 rfl (c28N _ _ _ l (by assumption) (by omega) hc hR) ?_
  refine Wl.q rfl (Qy.move rfl) ?_
  refine Wl.q rfl (Qy.neqB T.u4 rfl rfl) ?_
  refine Wl.q rfl (Qy.move rfl) ?_
  apply Wl.joinOr 3 34 37 rfl
  intro hg1
  refine Wl.want rfl rfl ?_
  refine Wl.call0 rfl T.fn24 rfl (c24D _) ?_
  refine Wl.want rfl rfl ?_
  refine Wl.q rfl (Qy.notD rfl) ?_
  refine Wl.q rfl (Qy.pick rfl rfl) ?_
  exact Wl.back 3 0 rfl rfl rfl rfl rfl
  intro hg1
  refine Wl.pass rfl rfl rfl ?_
  refine Wl.pass rfl rfl rfl ?_
  refine Wl.q rfl (Qy.pick rfl rfl) ?_
  exact Wl.back 3 0 rfl rfl rfl rfl rfl
  refine Wl.done ?_
  refine Ar.next ?_
  refine Wc.cond rfl (fun hc2 => ?_) (fun hc2 => ?_)
  refine Wc.seq ?_
  refine Wc.region rfl ?_
  refine Wl.q rfl (Qy.assign rfl) ?_
  refine Wl.done ?_
  refine Ar.next ?_
  refine Wc.ret ?_
  refine Ar.passRet ?_
  refine Ar.out1 (.inr rfl) (Ho := Hp.only _ []) rfl (.tmp rfl) (Hp.sub_only _ _) ?_
  rotate_left
  refine Wc.skip ?_
  refine Ar.next ?_
  refine Wc.seq ?_
  refine Wc.seq ?_
  refine Wc.region rfl ?_
  refine Wl.q rfl (Qy.move rfl) ?_
  refine Wl.q rfl (Qy.not rfl) ?_
  refine Wl.done ?_
  refine Ar.next ?_
  refine Wc.condT rfl ?_
  refine Wc.seq ?_
  refine Wc.region rfl ?_
  refine Wl.q rfl (Qy.move rfl) ?_
  refine Wl.q rfl (Qy.len T.sl49 rfl) ?_
  refine Wl.q rfl (Qy.eql rfl rfl) ?_
  refine Wl.q rfl (Qy.move rfl) ?_
  refine Wl.yes 43 rfl (by first | assumption | omega) ?_
  refine Wl.want rfl rfl ?_
  refine Wl.q rfl (Qy.move rfl) ?_
  refine Wl.want rfl rfl ?_
  refine Wl.q rfl (Qy.eql rfl rfl) ?_
  refine Wl.q rfl (Qy.pick rfl rfl) ?_
  refine Wl.q rfl (Qy.move rfl) ?_
  refine Wl.yes 47 rfl (by first | assumption | omega) ?_
  refine Wl.want rfl rfl ?_
  refine Wl.q rfl (Qy.move rfl) ?_
  refine Wl.want rfl rfl ?_
  refine Wl.q rfl (Qy.len T.sl23 rfl) ?_
  refine Wl.want rfl rfl ?_
  refine Wl.q rfl (Qy.eql rfl rfl) ?_
  refine Wl.q rfl (Qy.pick rfl rfl) ?_
  refine Wl.q rfl (Qy.move rfl) ?_
  refine Wl.yes 52 rfl (by first | assumption | omega) ?_
  refine Wl.want rfl rfl ?_
  refine Wl.q rfl (Qy.move rfl) ?_
  refine Wl.want rfl rfl ?_
  refine Wl.q rfl (Qy.eql rfl rfl) ?_
  refine Wl.q rfl (Qy.pick rfl rfl) ?_
  refine Wl.q rfl (Qy.assign rfl) ?_
  refine Wl.done ?_
  refine Ar.next ?_
  refine Wc.ret ?_
  refine Ar.passRet ?_
  refine Ar.out1 (.inr rfl) (Ho := Hp.only _ []) rfl (.tmp rfl) (Hp.sub_only _ _) ?_
  rotate_left
  · exact ⟨rfl, rfl⟩
  · exact absurd hc2 (by simp)
  · exact ⟨rfl, rfl⟩
theorem c5R (G : Imm) (a : Option Addr) (c : Nat) (l : List R2) (ha : Arr G a l) (h1 : l.length ≤ 1048576) (hc : l.length ≤ c) (hR : RightL l) :
    Does Try.prog 5 [.slice a l.length c] G [] (fun v G' Ho => v = .bool true ∧ Ho = []) := by
  have hR' := hR
  unfold RightL at hR'
  obtain ⟨hr0, hr1, hr2, _⟩ := hR'
  have hr : ∀ i, i < l.length → near (l[i]?.getD default).a (l[i]?.getD default).b := fun i hi => (hr2 i hi).1
  refine Does.enter Try.func5 rfl Try.ntmps5 rfl (fun w => ?_)
  refine Wc.seq ?_
  refine Wc.region rfl ?_
  refine Wl.q rfl (Qy.assign rfl) ?_
  refine Wl.done ?_
  refine Ar.next ?_
  refine Wc.seq ?_
  refine Wc.seq ?_
  refine Wc.region rfl ?_
  refine Wl.call0 rfl T.fn24 rfl (c24D _) ?_
  refine Wl.q rfl (Qy.notD rfl) ?_
  refine Wl.done ?_
  refine Ar.next ?_
  refine Wc.condN rfl (by first | assumption | omega) ?_
  refine Wc.skip ?_
  refine Ar.next ?_
  refine Wc.seq ?_
  refine Wc.seq ?_
  refine Wc.region rfl ?_
  refine Wl.q rfl (Qy.move rfl) ?_
  refine Wl.q rfl (Qy.len T.sl47 rfl) ?_
  refine Wl.q rfl (Qy.gtr rfl rfl) ?_
  refine Wl.done ?_
  refine Ar.next ?_
  refine Wc.condN rfl (by first | assumption | omega) ?_
  refine Wc.skip ?_
  refine Ar.next ?_
  refine Wc.seq ?_
  refine Wc.region rfl ?_
  refine Wl.q rfl (Qy.move rfl) ?_
  refine Wl.call0 rfl T.fn25 rfl (c25Y _ _ _ l (by assumption) (by omega) hc hR) ?_
  refine Wl.q rfl (Qy.assign rfl) ?_
  refine Wl.done ?_
  refine Ar.next ?_
  refine Wc.seq ?_
  refine Wc.region rfl ?_
  refine Wl.q rfl (Qy.move rfl) ?_
  refine Wl.call 0 rfl T.fn26 rfl (c26R _ _ _ l (by assumption) (by omega) hc hR hr1 hr2) (tags_of trivial) (fun v1 G1 Ho1 hle1 hp => ?_)
  obtain ⟨gs1, gr1, gc1, rfl, hgA1, hgB1, hgL1, rfl⟩ := hp
  replace ha := ha.up hle1
  refine Wl.q rfl (Qy.move rfl) ?_
  refine Wl.q rfl (Qy.extract rfl rfl) ?_
  refine Wl.q rfl (Qy.extract rfl rfl) ?_
  refine Wl.q rfl (Qy.assign rfl) ?_
  refine Wl.q rfl (Qy.assign rfl) ?_
  refine Wl.done ?_
  refine Ar.next ?_
  refine Wc.seq ?_
  refine Wc.region rfl ?_
  refine Wl.q rfl (Qy.move rfl) ?_
  refine Wl.call 0 rfl T.fn27 rfl (c27R _ _ _ l (by assumption) (by omega) hc hR hr1 hr) (tags_of trivial) (fun v2 G2 Ho2 hle2 hp => ?_)
  obtain ⟨ds2, dr2, dc2, rfl, hdA2, hdL2, hdP2, hdM2, rfl⟩ := hp
  replace hgA1 := hgA1.up hle2
  replace ha := ha.up hle2
  refine Wl.q rfl (Qy.move rfl) ?_
  refine Wl.q rfl (Qy.extract rfl rfl) ?_
  refine Wl.q rfl (Qy.extract rfl rfl) ?_
  refine Wl.q rfl (Qy.assign rfl) ?_
  refine Wl.q rfl (Qy.assign rfl) ?_
  refine Wl.done ?_
  refine Ar.next ?_
  refine Wc.seq ?_
  refine Wc.seq ?_
  refine Wc.region rfl ?_
  refine Wl.q rfl (Qy.move rfl) ?_
  refine Wl.call0 rfl T.fn28 rfl (c28Y _ _ _ l (by assumption) (by omega) hc hR) ?_
  refine Wl.q rfl (Qy.move rfl) ?_
  refine Wl.q rfl (Qy.neqB T.u4 rfl rfl) ?_
  refine Wl.q rfl (Qy.move rfl) ?_
  apply Wl.joinOr 3 34 37 rfl
  intro hg1
  refine Wl.want rfl rfl ?_
  refine Wl.call0 rfl T.fn24 rfl (c24D _) ?_
  refine Wl.want rfl rfl ?_
  refine Wl.q rfl (Qy.notD rfl) ?_
  refine Wl.q rfl (Qy.pick rfl rfl) ?_
  exact Wl.back 3 0 rfl rfl rfl rfl rfl
  intro hg1
  refine Wl.pass rfl rfl rfl ?_
  refine Wl.pass rfl rfl rfl ?_
  refine Wl.q rfl (Qy.pick rfl rfl) ?_
  exact Wl.back 3 0 rfl rfl rfl rfl rfl
  refine Wl.done ?_
  refine Ar.next ?_
  refine Wc.cond rfl (fun hc1 => ?_) (fun hc1 => ?_)
  refine Wc.seq ?_
  refine Wc.region rfl ?_
  refine Wl.q rfl (Qy.assign rfl) ?_
  refine Wl.done ?_
  refine Ar.next ?_
  refine Wc.ret ?_
  refine Ar.passRet ?_
  refine Ar.out1 (.inr rfl) (Ho := Hp.only _ []) rfl (.tmp rfl) (Hp.sub_only _ _) ?_
  rotate_left
  refine Wc.skip ?_
  refine Ar.next ?_
  refine Wc.seq ?_
  refine Wc.seq ?_
  refine Wc.region rfl ?_
  refine Wl.q rfl (Qy.move rfl) ?_
  refine Wl.q rfl (Qy.not rfl) ?_
  refine Wl.done ?_
  refine Ar.next ?_
  refine Wc.condF rfl ?_
  refine Wc.skip ?_
  refine Ar.next ?_
  refine Wc.seq ?_
  refine Wc.region rfl ?_
  refine Wl.q rfl (Qy.move rfl) ?_
  refine Wl.call 0 rfl T.fn29 rfl (c29 _ _ _ l (by assumption) (by omega) hc hr1 hr2) (tags_of trivial) (fun v3 G3 Ho3 hle3 hp => ?_)
  obtain ⟨ws3, wr3, wc3, rfl, hwA3, hwB3, hwL3, rfl⟩ := hp
  replace hdA2 := hdA2.up hle3
  replace hgA1 := hgA1.up hle3
  replace ha := ha.up hle3
  refine Wl.q rfl (Qy.assign rfl) ?_
  refine Wl.done ?_
  refine Ar.next ?_
  refine Wc.seq ?_
  refine Wc.seq ?_
  refine Wc.region rfl ?_
  refine Wl.q rfl (Qy.move rfl) ?_
  refine Wl.q rfl (Qy.neq rfl rfl) ?_
  refine Wl.q rfl (Qy.move rfl) ?_
  refine Wl.no 60 rfl (by first | assumption | omega) ?_
  refine Wl.want rfl rfl ?_
  refine Wl.q rfl (Qy.move rfl) ?_
  refine Wl.want rfl rfl ?_
  refine Wl.q rfl (Qy.neq rfl rfl) ?_
  refine Wl.q rfl (Qy.pick rfl rfl) ?_
  refine Wl.q rfl (Qy.move rfl) ?_
  refine Wl.no 64 rfl (by first | assumption | omega) ?_
  refine Wl.want rfl rfl ?_
  refine Wl.q rfl (Qy.move rfl) ?_
  refine Wl.want rfl rfl ?_
  refine Wl.q rfl (Qy.len T.sl49 rfl) ?_
  refine Wl.want rfl rfl ?_
  refine Wl.q rfl (Qy.move rfl) ?_
  refine Wl.want rfl rfl ?_
  refine Wl.q rfl (Qy.len T.sl54 rfl) ?_
  refine Wl.want rfl rfl ?_
  refine Wl.q rfl (Qy.neq rfl rfl) ?_
  refine Wl.q rfl (Qy.pick rfl rfl) ?_
  refine Wl.done ?_
  refine Ar.next ?_
  refine Wc.cond rfl (fun hc2 => ?_) (fun hc2 => ?_)
  refine Wc.seq ?_
  refine Wc.region rfl ?_
  refine Wl.q rfl (Qy.assign rfl) ?_
  refine Wl.done ?_
  refine Ar.next ?_
  refine Wc.ret ?_
  refine Ar.passRet ?_
  refine Ar.out1 (.inr rfl) (Ho := Hp.only _ []) rfl (.tmp rfl) (Hp.sub_only _ _) ?_
  rotate_left
  refine Wc.skip ?_
  refine Ar.next ?_
  refine Wc.seq ?_
  refine Wc.seq ?_
  refine Wc.region rfl ?_
  refine Wl.q rfl (Qy.assign rfl) ?_
  refine Wl.done ?_
  refine Ar.next ?_
  refine Wc.block ?_
  rotate_left
  · exact absurd hc1 (by simp)
  · exact absurd (hgB1.1.trans hwB3.1.symm) (by omega)
  · have hG : BGrid G3 gr1 (gridR l) := hgB1.up (Imm.le_trans hle2 hle3)
    have hgw : gr1.length = wr3.length := hgB1.1.trans hwB3.1.symm
    have hg15 : gr1.length ≤ 15 := by rw [hgB1.1, gridR_len]; exact hr1
    refine Wc.loopG (ι := Nat × Imm) (fun (i, Gx) => ([(9, .int .i64 (i : Int)), (8, Go.Value.slice ws3 (List.length wr3) wc3), (6, Go.Value.slice ds2 (List.length dr2) dc2), (4, Go.Value.slice gs1 (List.length gr1) gc1), (0, Go.Value.slice a (List.length l) c)], [])) (fun (i, Gx) => Gx) (fun (i, Gx) => i ≤ gr1.length ∧ G3.le Gx) (fun (i, Gx) => gr1.length - i) ((0, G3)) (⟨Nat.zero_le _, Imm.le_refl _⟩) rfl ⟨rfl, rfl, rfl, rfl, rfl, trivial⟩ trivial (fun ⟨i, Gx⟩ => fun (hk : i ≤ gr1.length ∧ G3.le Gx) => ?_)
    obtain ⟨hi1, hi2⟩ := hk
    replace ha := ha.up hi2
    replace hwA3 := hwA3.up hi2
    replace hgA1 := hgA1.up hi2
    replace hdA2 := hdA2.up hi2
    rcases Nat.lt_or_ge i gr1.length with hil | hil
    · obtain ⟨bl, hb1, hb2, hb3, hb4⟩ := (hG.up hi2).2 i hil
      obtain ⟨nl, hn1, hn2, hn3, hn4⟩ := (hwB3.up hi2).2 i (by omega)
      have hb1 : bl.length = (gr1[((i : Nat) : Int).toNat]?.getD default).n := hb1
      have hb2 : (gr1[((i : Nat) : Int).toNat]?.getD default).n ≤ (gr1[((i : Nat) : Int).toNat]?.getD default).c := hb2
      have hb3 : Arr Gx (gr1[((i : Nat) : Int).toNat]?.getD default).a bl := hb3
      have hn1 : nl.length = (wr3[((i : Nat) : Int).toNat]?.getD default).n := hn1
      have hn2 : (wr3[((i : Nat) : Int).toNat]?.getD default).n ≤ (wr3[((i : Nat) : Int).toNat]?.getD default).c := hn2
      have hn3 : Arr Gx (wr3[((i : Nat) : Int).toNat]?.getD default).a nl := hn3
      have hbn : bl.length = nl.length := hb4.1.trans hn4.1.symm
      have hb15 : bl.length ≤ 15 := by rw [hb4.1]; exact Nat.le_trans (gridR_row l i) hr1
      have hSb : SlG Gx (gr1[((i : Nat) : Int).toNat]?.getD default).a (gr1[((i : Nat) : Int).toNat]?.getD default).n (Cells.sz IV) (flat bl) := hb1 ▸ hb3
      have hSn : SlG Gx (wr3[((i : Nat) : Int).toNat]?.getD default).a (wr3[((i : Nat) : Int).toNat]?.getD default).n (Cells.sz IV) (flat nl) := hn1 ▸ hn3
      refine Wc.seq ?_
      refine Wc.seq ?_
      refine Wc.region rfl ?_
      refine Wl.q rfl (Qy.move rfl) ?_
      refine Wl.q rfl (Qy.move rfl) ?_
      refine Wl.q rfl (Qy.len T.sl49 rfl) ?_
      refine Wl.q rfl (Qy.lss rfl rfl) ?_
      refine Wl.done ?_
      refine Ar.next ?_
      refine Wc.condP rfl (by first | assumption | omega) ?_
      refine Wc.skip ?_
      refine Ar.next ?_
      refine Wc.seq ?_
      refine Wc.block ?_
      refine Wc.seq ?_
      refine Wc.seq ?_
      refine Wc.draw [] [] T.mixed rfl ?_
      refine Gm.q 0 [] (by kernel_rfl) rfl rfl (Qy.move rfl) ?_
      refine Gm.q 1 [] (by kernel_rfl) rfl rfl (Qy.move rfl) ?_
      refine Gm.q 2 [] (by kernel_rfl) rfl rfl (Qy.at (α := SV) T.sl49 rfl rfl (by assumption) (by omega)) ?_
      refine Gm.q 3 [] (by kernel_rfl) rfl rfl (Qy.loadG T.one33 rfl (Arr.cell (by assumption) (by omega) 0 rfl rfl)) ?_
      refine Gm.q 4 [] (by kernel_rfl) rfl rfl (Qy.len T.sl33 rfl) ?_
      refine Gm.q 5 [] (by kernel_rfl) rfl rfl (Qy.move rfl) ?_
      refine Gm.q 6 [] (by kernel_rfl) rfl rfl (Qy.move rfl) ?_
      refine Gm.q 7 [] (by kernel_rfl) rfl rfl (Qy.at (α := SV) T.sl54 rfl rfl (by assumption) (by omega)) ?_
      refine Gm.q 8 [] (by kernel_rfl) rfl rfl (Qy.loadG T.one57 rfl (Arr.cell (by assumption) (by omega) 0 rfl rfl)) ?_
      refine Gm.q 9 [] (by kernel_rfl) rfl rfl (Qy.len T.sl57 rfl) ?_
      refine Gm.q 10 [] (by kernel_rfl) rfl rfl (Qy.neq rfl rfl) ?_
      refine Gm.doneA (by kernel_rfl) trivial (by first | exact Imm.le_refl _ | repeat (first | assumption | refine Imm.le_trans ?_ (by assumption))) ?_
      refine Ar.next ?_
      refine Wc.condN rfl (by first | assumption | omega) ?_
      refine Wc.skip ?_
      refine Ar.next ?_
      refine Wc.seq ?_
      refine Wc.region rfl ?_
      refine Wl.q rfl (Qy.assign rfl) ?_
      refine Wl.done ?_
      refine Ar.next ?_
      refine Wc.block ?_
      refine Wc.loopG (ι := Nat × Imm) (fun (j, Gy) => ([(10, .int .i64 (j : Int)), (9, .int .i64 (i : Int)), (8, Go.Value.slice ws3 (List.length wr3) wc3), (6, Go.Value.slice ds2 (List.length dr2) dc2), (4, Go.Value.slice gs1 (List.length gr1) gc1), (0, Go.Value.slice a (List.length l) c)], [])) (fun (j, Gy) => Gy) (fun (j, Gy) => j ≤ bl.length ∧ Gx.le Gy) (fun (j, Gy) => bl.length - j) ((0, Gx)) (⟨Nat.zero_le _, Imm.le_refl _⟩) rfl ⟨rfl, rfl, rfl, rfl, rfl, rfl, trivial⟩ trivial (fun ⟨j, Gy⟩ => fun (hk : j ≤ bl.length ∧ Gx.le Gy) => ?_)
      obtain ⟨hj1, hj2⟩ := hk
      replace ha := ha.up hj2
      replace hwA3 := hwA3.up hj2
      replace hgA1 := hgA1.up hj2
      replace hdA2 := hdA2.up hj2
      replace hb3 := hb3.up hj2
      replace hn3 := hn3.up hj2
      replace hSb := SlG.le hj2 hSb
      replace hSn := SlG.le hj2 hSn
      rcases Nat.lt_or_ge j bl.length with hjl | hjl
      · have hx : Big Gy (bl[((j : Nat) : Int).toNat]?.getD default) (((gridR l)[i]?.getD [])[j]?.getD 0) := (hb4.up hj2).2 j hjl
        have hy : Num Gy (nl[((j : Nat) : Int).toNat]?.getD default) (((gridR l)[i]?.getD [])[j]?.getD 0) := (hn4.up hj2).2 j (by omega)
        have hz := gridR_small hr1 hr i j
        have hz3 : ((((gridR l)[i]?.getD [])[j]?.getD 0).natAbs : Int) < pb 3 := by
          have e : pb 3 = 79228162514264337593543950336 := by unfold pb; decide
          omega
        have hxn := Big.len hx hz3
        have hyn := Num.few hy (show small _ by unfold small; omega)
        have hjb' : ((j : Nat) : Int) < (((gr1[((i : Nat) : Int).toNat]?.getD default).n : Nat) : Int) := by rw [← hb1]; omega
        have hjb : 0 ≤ ((j : Nat) : Int) ∧ ((j : Nat) : Int) < (((gr1[((i : Nat) : Int).toNat]?.getD default).n : Nat) : Int) := ⟨by omega, hjb'⟩
        have hjn : 0 ≤ ((j : Nat) : Int) ∧ ((j : Nat) : Int) < (((wr3[((i : Nat) : Int).toNat]?.getD default).n : Nat) : Int) := ⟨by omega, by rw [← hn1]; omega⟩
        refine Wc.seq ?_
        refine Wc.seq ?_
        refine Wc.region rfl ?_
        refine Wl.q rfl (Qy.move rfl) ?_
        refine Wl.q rfl (Qy.move rfl) ?_
        refine Wl.q rfl (Qy.move rfl) ?_
        refine Wl.q rfl (Qy.at (α := SV) T.sl49 rfl rfl (by assumption) (by omega)) ?_
        refine Wl.q rfl (Qy.loadG T.one33 rfl (Arr.cell (by assumption) (by omega) 0 rfl rfl)) ?_
        refine Wl.q rfl (Qy.len T.sl33 rfl) ?_
        refine Wl.q rfl (Qy.lss rfl rfl) ?_
        refine Wl.done ?_
        refine Ar.next ?_
        refine Wc.condP rfl (by first | assumption | omega) ?_
        refine Wc.skip ?_
        refine Ar.next ?_
        refine Wc.seq ?_
        refine Wc.block ?_
        refine Wc.seq ?_
        refine Wc.draw [] [] T.mixed rfl ?_
        refine Gm.q 0 [] (by kernel_rfl) rfl rfl (Qy.move rfl) ?_
        refine Gm.q 1 [] (by kernel_rfl) rfl rfl (Qy.move rfl) ?_
        refine Gm.q 2 [] (by kernel_rfl) rfl rfl (Qy.at (α := SV) T.sl49 rfl rfl (by assumption) (by omega)) ?_
        refine Gm.q 3 [] (by kernel_rfl) rfl rfl (Qy.loadG T.one33 rfl (Arr.cell (by assumption) (by omega) 0 rfl rfl)) ?_
        refine Gm.q 4 [] (by kernel_rfl) rfl rfl (Qy.move rfl) ?_
        refine Gm.q 5 [] (by kernel_rfl) rfl rfl (Qy.indexAddrG (sz := Cells.sz IV) T.sl33 rfl rfl (by assumption) (by assumption)) ?_
        refine Gm.q 6 [] (by kernel_rfl) rfl rfl (Qy.loadsG T.agg61 rfl (Arr.elem (by assumption) (by omega)) rfl) ?_
        refine Gm.q 7 [] (by kernel_rfl) rfl rfl (Qy.move rfl) ?_
        refine Gm.q 8 [] (by kernel_rfl) rfl rfl (Qy.move rfl) ?_
        refine Gm.q 9 [] (by kernel_rfl) rfl rfl (Qy.at (α := SV) T.sl54 rfl rfl (by assumption) (by omega)) ?_
        refine Gm.q 10 [] (by kernel_rfl) rfl rfl (Qy.loadG T.one57 rfl (Arr.cell (by assumption) (by omega) 0 rfl rfl)) ?_
        refine Gm.q 11 [] (by kernel_rfl) rfl rfl (Qy.move rfl) ?_
        refine Gm.q 12 [] (by kernel_rfl) rfl rfl (Qy.indexAddrG (sz := Cells.sz IV) T.sl57 rfl rfl (by assumption) (by assumption)) ?_
        refine Gm.q 13 [] (by kernel_rfl) rfl rfl (Qy.loadsG T.agg63 rfl (Arr.elem (by assumption) (by omega)) rfl) ?_
        refine Gm.one 14 trivial (by first | exact Imm.le_refl _ | repeat (first | assumption | refine Imm.le_trans ?_ (by assumption))) (by kernel_rfl) rfl ?_
        refine Wl.call 0 rfl T.fn30 rfl (c30 _ _ _ _ _ hx hy (by omega) (by omega)) (tags_of trivial) (fun v4 G4 Ho4 hle4 hp => ?_)
        obtain ⟨rfl, rfl⟩ := hp
        replace ha := ha.up hle4
        replace hwA3 := hwA3.up hle4
        replace hgA1 := hgA1.up hle4
        replace hdA2 := hdA2.up hle4
        replace hb3 := hb3.up hle4
        replace hn3 := hn3.up hle4
        replace hx := hx.up hle4
        replace hy := hy.up hle4
        refine Wl.on0 ?_
        refine Gm.q 15 [] (by kernel_rfl) rfl rfl (Qy.notD rfl) ?_
        refine Gm.doneA (by kernel_rfl) trivial (by first | exact Imm.le_refl _ | repeat (first | assumption | refine Imm.le_trans ?_ (by assumption))) ?_
        refine Ar.next ?_
        refine Wc.condN rfl (by first | assumption | omega) ?_
        refine Wc.skip ?_
        refine Ar.outNormal ?_
        refine Ar.next ?_
        refine Wc.region rfl ?_
        refine Wl.q rfl (Qy.move rfl) ?_
        refine Wl.q rfl (Qy.add rfl rfl (by omega)) ?_
        refine Wl.q rfl (Qy.assign rfl) ?_
        refine Wl.done ?_
        refine Ar.re 10 rfl (show _ = Value.int .i64 ((j + 1 : Nat) : Int) from rfl) ?_
        refine Ar.again ((j + 1, _)) ?_ ?_ rfl ⟨rfl, rfl, rfl, rfl, rfl, rfl, trivial⟩ trivial
        · exact ⟨by omega, Imm.le_trans hj2 (by assumption)⟩
        · show bl.length - (j + 1) < bl.length - j
          omega
      · have hjn : ¬ ((j : Nat) : Int) < (((gr1[((i : Nat) : Int).toNat]?.getD default).n : Nat) : Int) := by rw [← hb1]; omega
        refine Wc.seq ?_
        refine Wc.seq ?_
        refine Wc.region rfl ?_
        refine Wl.q rfl (Qy.move rfl) ?_
        refine Wl.q rfl (Qy.move rfl) ?_
        refine Wl.q rfl (Qy.move rfl) ?_
        refine Wl.q rfl (Qy.at (α := SV) T.sl49 rfl rfl (by assumption) (by omega)) ?_
        refine Wl.q rfl (Qy.loadG T.one33 rfl (Arr.cell (by assumption) (by omega) 0 rfl rfl)) ?_
        refine Wl.q rfl (Qy.len T.sl33 rfl) ?_
        refine Wl.q rfl (Qy.lss rfl rfl) ?_
        refine Wl.done ?_
        refine Ar.next ?_
        refine Wc.condN rfl (by first | assumption | omega) ?_
        refine Wc.exit ?_
        refine Ar.passExit ?_
        refine Ar.passExit ?_
        refine Ar.here ?_
        refine Ar.outNormal ?_
        refine Ar.next ?_
        refine Wc.region rfl ?_
        refine Wl.q rfl (Qy.move rfl) ?_
        refine Wl.q rfl (Qy.add rfl rfl (by omega)) ?_
        refine Wl.q rfl (Qy.assign rfl) ?_
        refine Wl.done ?_
        refine Ar.re 9 rfl (show _ = Value.int .i64 ((i + 1 : Nat) : Int) from rfl) ?_
        refine Ar.again ((i + 1, _)) ?_ ?_ rfl ⟨rfl, rfl, rfl, rfl, rfl, trivial⟩ trivial
        · exact ⟨by omega, Imm.le_trans hi2 hj2⟩
        · show gr1.length - (i + 1) < gr1.length - i
          omega
    · refine Wc.seq ?_
      refine Wc.seq ?_
      refine Wc.region rfl ?_
      refine Wl.q rfl (Qy.move rfl) ?_
      refine Wl.q rfl (Qy.move rfl) ?_
      refine Wl.q rfl (Qy.len T.sl49 rfl) ?_
      refine Wl.q rfl (Qy.lss rfl rfl) ?_
      refine Wl.done ?_
      refine Ar.next ?_
      refine Wc.condN rfl (by first | assumption | omega) ?_
      refine Wc.exit ?_
      refine Ar.passExit ?_
      refine Ar.passExit ?_
      refine Ar.here ?_
      refine Ar.next ?_
      refine Wc.seq ?_
      refine Wc.region rfl ?_
      refine Wl.q rfl (Qy.move rfl) ?_
      refine Wl.call 0 rfl T.fn31 rfl (c31 _ _ _ l (by assumption) (by omega) hc hr) (tags_of trivial) (fun v4 G4 Ho4 hle4 hp => ?_)
      obtain ⟨es4, er4, ec4, rfl, heA4, heL4, heP4, heM4, rfl⟩ := hp
      replace ha := ha.up hle4
      replace hwA3 := hwA3.up hle4
      replace hgA1 := hgA1.up hle4
      replace hdA2 := hdA2.up hle4
      refine Wl.q rfl (Qy.assign rfl) ?_
      refine Wl.done ?_
      refine Ar.next ?_
      refine Wc.seq ?_
      refine Wc.seq ?_
      refine Wc.region rfl ?_
      refine Wl.q rfl (Qy.move rfl) ?_
      refine Wl.q rfl (Qy.len T.sl23 rfl) ?_
      refine Wl.q rfl (Qy.move rfl) ?_
      refine Wl.q rfl (Qy.len T.sl23 rfl) ?_
      refine Wl.q rfl (Qy.neq rfl rfl) ?_
      refine Wl.done ?_
      refine Ar.next ?_
      refine Wc.cond rfl (fun hc3 => ?_) (fun hc3 => ?_)
      refine Wc.seq ?_
      refine Wc.region rfl ?_
      refine Wl.q rfl (Qy.assign rfl) ?_
      refine Wl.done ?_
      refine Ar.next ?_
      refine Wc.ret ?_
      refine Ar.passRet ?_
      refine Ar.out1 (.inr rfl) (Ho := Hp.only _ []) rfl (.tmp rfl) (Hp.sub_only _ _) ?_
      rotate_left
      refine Wc.skip ?_
      refine Ar.next ?_
      refine Wc.seq ?_
      refine Wc.seq ?_
      refine Wc.region rfl ?_
      refine Wl.q rfl (Qy.assign rfl) ?_
      refine Wl.done ?_
      refine Ar.next ?_
      refine Wc.block ?_
      rotate_left
      · exact absurd (show dr2.length = er4.length by rw [rising_one hdP2 heP4 (fun x => (hdM2 x).trans (heM4 x).symm)]) (by omega)
      · have hE : dr2 = er4 := rising_one hdP2 heP4 (fun x => (hdM2 x).trans (heM4 x).symm)
        subst hE
        have hd513 : dr2.length ≤ 513 := by
          rcases rising_len hdP2 (fun x hx => ⟨by have := (hdM2 x).1 hx; omega, (amt_big hr ((hdM2 x).1 hx).2).2⟩ : ∀ x ∈ dr2, (2 : Int) ≤ x ∧ x ≤ 512) with e | e
          · rw [e]; exact Nat.zero_le _
          · omega
        refine Wc.loop (ι := Nat) (fun k => ([(12, .int .i64 (k : Int)), (11, Go.Value.slice es4 (List.length dr2) ec4), (6, Go.Value.slice ds2 (List.length dr2) dc2)], [])) (fun k => k ≤ dr2.length) (fun k => dr2.length - k) (0) (Nat.zero_le _) ⟨rfl, rfl, rfl, trivial⟩ trivial (fun k => fun (hk : k ≤ dr2.length) => ?_)
        rcases Nat.lt_or_ge k dr2.length with hkl | hkl
        · refine Wc.seq ?_
          refine Wc.seq ?_
          refine Wc.region rfl ?_
          refine Wl.q rfl (Qy.move rfl) ?_
          refine Wl.q rfl (Qy.move rfl) ?_
          refine Wl.q rfl (Qy.len T.sl23 rfl) ?_
          refine Wl.q rfl (Qy.lss rfl rfl) ?_
          refine Wl.done ?_
          refine Ar.next ?_
          refine Wc.condP rfl (by first | assumption | omega) ?_
          refine Wc.skip ?_
          refine Ar.next ?_
          refine Wc.seq ?_
          refine Wc.block ?_
          refine Wc.seq ?_
          refine Wc.draw [] [] T.mixed rfl ?_
          refine Gm.q 0 [] (by kernel_rfl) rfl rfl (Qy.move rfl) ?_
          refine Gm.q 1 [] (by kernel_rfl) rfl rfl (Qy.move rfl) ?_
          refine Gm.q 2 [] (by kernel_rfl) rfl rfl (Qy.at (α := Int) T.sl23 rfl rfl (by assumption) (by omega)) ?_
          refine Gm.q 3 [] (by kernel_rfl) rfl rfl (Qy.loadG T.one3 rfl (Arr.cell (by assumption) (by omega) 0 rfl rfl)) ?_
          refine Gm.q 4 [] (by kernel_rfl) rfl rfl (Qy.move rfl) ?_
          refine Gm.q 5 [] (by kernel_rfl) rfl rfl (Qy.move rfl) ?_
          refine Gm.q 6 [] (by kernel_rfl) rfl rfl (Qy.at (α := Int) T.sl23 rfl rfl (by assumption) (by omega)) ?_
          refine Gm.q 7 [] (by kernel_rfl) rfl rfl (Qy.loadG T.one3 rfl (Arr.cell (by assumption) (by omega) 0 rfl rfl)) ?_
          refine Gm.q 8 [] (by kernel_rfl) rfl rfl (Qy.neq rfl rfl) ?_
          refine Gm.doneA (by kernel_rfl) trivial (by first | exact Imm.le_refl _ | repeat (first | assumption | refine Imm.le_trans ?_ (by assumption))) ?_
          refine Ar.next ?_
          refine Wc.condN rfl (by first | assumption | omega) ?_
          refine Wc.skip ?_
          refine Ar.outNormal ?_
          refine Ar.next ?_
          refine Wc.region rfl ?_
          refine Wl.q rfl (Qy.move rfl) ?_
          refine Wl.q rfl (Qy.add rfl rfl (by omega)) ?_
          refine Wl.q rfl (Qy.assign rfl) ?_
          refine Wl.done ?_
          refine Ar.re 12 rfl (show _ = Value.int .i64 ((k + 1 : Nat) : Int) from rfl) ?_
          refine Ar.again (k + 1) ?_ ?_ rfl ⟨rfl, rfl, rfl, trivial⟩ trivial
          · exact hkl
          · show dr2.length - (k + 1) < dr2.length - k
            omega
        · refine Wc.seq ?_
          refine Wc.seq ?_
          refine Wc.region rfl ?_
          refine Wl.q rfl (Qy.move rfl) ?_
          refine Wl.q rfl (Qy.move rfl) ?_
          refine Wl.q rfl (Qy.len T.sl23 rfl) ?_
          refine Wl.q rfl (Qy.lss rfl rfl) ?_
          refine Wl.done ?_
          refine Ar.next ?_
          refine Wc.condN rfl (by first | assumption | omega) ?_
          refine Wc.exit ?_
          refine Ar.passExit ?_
          refine Ar.passExit ?_
          refine Ar.here ?_
          refine Ar.next ?_
          refine Wc.seq ?_
          refine Wc.region rfl ?_
          refine Wl.q rfl (Qy.assign rfl) ?_
          refine Wl.done ?_
          refine Ar.next ?_
          refine Wc.ret ?_
          refine Ar.out1 (.inr rfl) (Ho := Hp.only _ []) rfl (.tmp rfl) (Hp.sub_only _ _) ?_
          exact ⟨rfl, rfl⟩
theorem c5 (G : Imm) (a : Option Addr) (c : Nat) (l : List R2) (ha : Arr G a l) (h1 : l.length ≤ 1048576) (hc : l.length ≤ c) :
    Does Try.prog 5 [.slice a l.length c] G [] (fun v G' Ho => v = .bool true ∧ Ho = []) := by
  by_cases hR : RightL l
  · exact c5R G a c l ha h1 hc hR
  · exact c5W G a c l ha h1 hc hR
end Go.Proofs.Ytbppmiimeccclaa
