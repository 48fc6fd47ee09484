import Derived.Test.YtfleehgbpgmcnaaNd
set_option maxRecDepth 100000
set_option linter.unusedVariables false
namespace Go.Proofs.Ytfleehgbpgmcnaa
open Go Go.Sl

set_option maxHeartbeats 4000000
theorem valL_set : ∀ (l : List U32) (k : Nat) (d : U32), k < l.length → valL (l.set k d) = valL l + pw k * (d.v - dg l k)
  | [], k, d, h => by simp at h
  | x :: l, 0, d, _ => by
    rw [List.set_cons_zero, valL_cons, valL_cons, pw_zero]
    show _ = _ + 1 * (d.v - x.v)
    omega
  | x :: l, k + 1, d, h => by
    have ih := valL_set l k d (by simpa using h)
    have e : dg (x :: l) (k + 1) = dg l k := by unfold dg; rw [Int.toNat_natCast, Int.toNat_natCast, List.getElem?_cons_succ]
    rw [List.set_cons_succ, valL_cons, valL_cons, ih, pw_succ, e, Int.mul_add, ← Int.mul_assoc]
    omega
theorem digs_set {l : List U32} (h : Digs l) (k : Nat) {s : Int} (hs : 0 ≤ s ∧ s < 65536) : Digs (l.set k ⟨s⟩) := fun d hd => by
  rcases List.mem_or_eq_of_mem_set hd with h1 | h1
  · exact h d h1
  · subst h1; exact hs
theorem mul_next {r lb : List U32} {i j : Nat} {c s x A : Int} (hk : i + j < r.length) (hv : valL r + pw (i + j) * c = A + pw i * (x * valL (lb.take j))) (hs : s = c + dg r (i + j) + x * dg lb j) :
    valL (r.set (i + j) ⟨s % 65536⟩) + pw (i + (j + 1)) * (s / 65536) = A + pw i * (x * valL (lb.take (j + 1))) := by
  rw [valL_set r (i + j) ⟨s % 65536⟩ hk, val_step, ← Nat.add_assoc, pw_succ]
  have h1 := carry (pw (i + j)) s
  have h2 : pw (i + j) * s = pw (i + j) * c + pw (i + j) * dg r (i + j) + pw (i + j) * (x * dg lb j) := by rw [hs, Int.mul_add, Int.mul_add]
  have h3 : pw i * (x * (valL (lb.take j) + pw j * dg lb j)) = pw i * (x * valL (lb.take j)) + pw (i + j) * (x * dg lb j) := by
    rw [Int.mul_add, Int.mul_add, pw_add]
    congr 1
    rw [Int.mul_assoc, ← Int.mul_assoc x, Int.mul_comm x (pw j), Int.mul_assoc]
  have h4 : pw (i + j) * (s % 65536 - dg r (i + j)) = pw (i + j) * (s % 65536) - pw (i + j) * dg r (i + j) := Int.mul_sub _ _ _
  show valL r + pw (i + j) * (s % 65536 - dg r (i + j)) + 65536 * pw (i + j) * (s / 65536) = _
  rw [h3, h4]
  omega
theorem mul_end {la lb : List U32} {i j : Nat} {v : Int} (hj : lb.length ≤ j) (h : v = valL (la.take i) * valL lb + pw i * (dg la i * valL (lb.take j))) : v = valL (la.take (i + 1)) * valL lb := by
  rw [h, take_all hj, val_step, Int.add_mul, Int.mul_assoc]
theorem mul_lt {a b c d : Int} (ha : 0 ≤ a) (hb : 0 ≤ b) (h1 : a < c) (h2 : b < d) : a * b < c * d := by
  have e1 : a * b ≤ a * d := Int.mul_le_mul_of_nonneg_left (Int.le_of_lt h2) ha
  have e2 : a * d < c * d := Int.mul_lt_mul_of_pos_right h1 (by omega)
  omega
/-- the carry is 0 where the row ends -/
theorem mul_bound {la lb r : List U32} {i j : Nat} {c : Int} (da : Digs la) (db : Digs lb) (hi : i < la.length) (hj : lb.length ≤ j) (hdr : Digs r) (hc : 0 < c) (hv : valL r + pw (i + j) * c = valL (la.take i) * valL lb + pw i * (dg la i * valL (lb.take j))) : j ≤ lb.length := by
  have h1 := mul_end hj hv
  have h2 := valL_lt (da.take (i + 1))
  rw [List.length_take, Nat.min_eq_left (by omega)] at h2
  have h3 := mul_lt (valL_nonneg (da.take (i + 1))) (valL_nonneg db) h2 (valL_lt db)
  rw [← pw_add] at h3
  have h4 := valL_nonneg hdr
  have h5 := Int.mul_le_mul_of_nonneg_left (show (1 : Int) ≤ c by omega) (Int.le_of_lt (pw_pos (i + j)))
  have h6 : pw (i + j) < pw (i + 1 + lb.length) := by omega
  have := pw_lt_iff h6
  omega
theorem mul_small16 {x y : Int} (hx : 0 ≤ x ∧ x < 65536) (hy : 0 ≤ y ∧ y < 65536) : 0 ≤ x * y ∧ x * y ≤ 4294836225 := by
  refine ⟨Int.mul_nonneg hx.1 hy.1, ?_⟩
  have h1 : x * y ≤ 65535 * y := Int.mul_le_mul_of_nonneg_right (by omega) hy.1
  omega
attribute [local irreducible] valL pw cmpZ
theorem c102 (G : Imm) (n1 n2 : Bool) (a b : Option Addr) (ca cb : Nat) (la lb : List U32) (x y : Int) (ha : Arr G a la) (hb : Arr G b lb) (hx : IsInt n1 la x) (hy : IsInt n2 lb y) (h1 : la.length ≤ 536870912) (h2 : lb.length ≤ 536870912) :
    Does Try.prog 102 [.agg #[.bool n1, .slice a la.length ca], .agg #[.bool n2, .slice b lb.length cb]] G [] (fun v G' Ho => ∃ r : IV, v = .agg #[.bool r.neg, .slice r.a r.n r.c] ∧ Num G' r (x * y) ∧ Ho = []) := by
  have da := hx.digs
  have db := hy.digs
  refine Does.enter Try.func102 rfl Try.ntmps102 rfl (fun w => ?_)
  refine Wc.seq ?_
  refine Wc.region rfl ?_
  refine Wl.box 0 rfl rfl rfl (fun b1 => ?_)
  refine Wl.box 1 rfl rfl rfl (fun b2 => ?_)
  refine Wl.alloc 2 rfl T.zero43 (fun b3 => ?_)
  refine Wl.done ?_
  refine Ar.next ?_
  refine Wc.seq ?_
  refine Wc.region rfl ?_
  refine Wl.q rfl (Qy.fieldAddr T.fa43_1 rfl) ?_
  refine Wl.q rfl (Qy.load 0 T.one41 rfl rfl rfl) ?_
  refine Wl.q rfl (Qy.len T.sl41 rfl) ?_
  refine Wl.q rfl (Qy.fieldAddr T.fa43_1 rfl) ?_
  refine Wl.q rfl (Qy.load 1 T.one41 rfl rfl rfl) ?_
  refine Wl.q rfl (Qy.len T.sl41 rfl) ?_
  refine Wl.q rfl (Qy.add rfl rfl (by omega)) ?_
  refine Wl.q rfl (Qy.add rfl rfl (by omega)) ?_
  refine Wl.make (α := U32) 3 rfl T.sl41 T.el91 rfl rfl (by omega) (by omega) (fun b4 => ?_)
  refine Wl.q rfl (Qy.assign rfl) ?_
  refine Wl.done ?_
  refine Ar.next ?_
  refine Wc.seq ?_
  refine Wc.seq ?_
  refine Wc.region rfl ?_
  refine Wl.q rfl (Qy.assign rfl) ?_
  refine Wl.done ?_
  refine Ar.next ?_
  refine Wc.block ?_
  obtain ⟨N, hN⟩ : ∃ N, N = la.length + lb.length + 1 := ⟨_, rfl⟩
  have hM : ((la.length : Int) + (lb.length : Int) + 1).toNat = N := by omega
  rw [hM]
  have hown : ∀ r : List U32, r.length = N → OwnA (some ⟨b4, 0, none⟩) N r [] := fun r hr => .inr ⟨b4, rfl, by rw [hr]; rfl, by omega, by simp only [maxLen]; omega⟩
  refine Wc.re 5 rfl (show _ = Value.slice (some ⟨b4, 0, none⟩) (List.replicate N (default : U32)).length N by rw [List.length_replicate]) ?_
  refine Wc.loop (ι := Nat × List U32) (fun (i, r) => ([(6, .int .i64 (i : Int)), (5, .slice (some ⟨b4, 0, none⟩) r.length N), (4, Go.Value.pointer (Option.some (Go.Addr.mk b3 0 Option.none))), (3, Go.Value.pointer (Option.some (Go.Addr.mk b2 0 Option.none))), (2, Go.Value.pointer (Option.some (Go.Addr.mk b1 0 Option.none)))], [(3, some b4, Row 91 r []), (2, Option.some b3, Go.Obj.cells #[Go.Value.bool Bool.false, Go.Value.slice Option.none 0 0] 43), (1, Option.some b2, Go.Obj.cells #[Go.Value.bool n2, Go.Value.slice b (List.length lb) cb] 43), (0, Option.some b1, Go.Obj.cells #[Go.Value.bool n1, Go.Value.slice a (List.length la) ca] 43)])) (fun (i, r) => i ≤ la.length ∧ r.length = N ∧ Digs r ∧ valL r = valL (la.take i) * valL lb) (fun (i, r) => la.length - i) ((0, List.replicate N (default : U32))) (⟨Nat.zero_le _, List.length_replicate, Digs.zeros N, by rw [List.take_zero, valL_nil, Int.zero_mul]; exact valL_replicate N⟩) ⟨rfl, rfl, rfl, rfl, rfl, trivial⟩ ⟨rfl, rfl, rfl, rfl, trivial⟩ (fun ⟨i, r⟩ => fun (hk : i ≤ la.length ∧ r.length = N ∧ Digs r ∧ valL r = valL (la.take i) * valL lb) => ?_)
  obtain ⟨hi, hrN, hdr, hv⟩ := hk
  rcases Nat.lt_or_ge i la.length with hia | hia
  · have hxi : 0 ≤ (la[((i : Nat) : Int).toNat]?.getD default).v ∧ (la[((i : Nat) : Int).toNat]?.getD default).v < 65536 := dg_lt da hia
    refine Wc.seq ?_
    refine Wc.seq ?_
    refine Wc.region rfl ?_
    refine Wl.q rfl (Qy.move rfl) ?_
    refine Wl.q rfl (Qy.fieldAddr T.fa43_1 rfl) ?_
    refine Wl.q rfl (Qy.load 0 T.one41 rfl rfl rfl) ?_
    refine Wl.q rfl (Qy.len T.sl41 rfl) ?_
    refine Wl.q rfl (Qy.lss rfl rfl) ?_
    refine Wl.done ?_
    refine Ar.next ?_
    refine Wc.condP rfl (by first | assumption | omega) ?_
    refine Wc.skip ?_
    refine Ar.next ?_
    refine Wc.seq ?_
    refine Wc.block ?_
    refine Wc.seq ?_
    refine Wc.region rfl ?_
    refine Wl.q rfl (Qy.assign rfl) ?_
    refine Wl.done ?_
    refine Ar.next ?_
    refine Wc.seq ?_
    refine Wc.region rfl ?_
    refine Wl.q rfl (Qy.assign rfl) ?_
    refine Wl.done ?_
    refine Ar.next ?_
    refine Wc.block ?_
    refine Wc.loop (ι := Nat × Int × List U32) (fun (j, c, s) => ([(8, .int .i64 (j : Int)), (7, .int .u64 c), (5, .slice (some ⟨b4, 0, none⟩) s.length N), (2, .pointer (some ⟨b1, 0, none⟩)), (6, Go.Value.int Go.IntKind.i64 (↑i : Int)), (4, Go.Value.pointer (Option.some (Go.Addr.mk b3 0 Option.none))), (3, Go.Value.pointer (Option.some (Go.Addr.mk b2 0 Option.none)))], [(3, some b4, Row 91 s []), (2, Option.some b3, Go.Obj.cells #[Go.Value.bool Bool.false, Go.Value.slice Option.none 0 0] 43), (1, Option.some b2, Go.Obj.cells #[Go.Value.bool n2, Go.Value.slice b (List.length lb) cb] 43), (0, Option.some b1, Go.Obj.cells #[Go.Value.bool n1, Go.Value.slice a (List.length la) ca] 43)])) (fun (j, c, s) => 0 ≤ c ∧ c ≤ 65535 ∧ s.length = N ∧ Digs s ∧ valL s + pw (i + j) * c = valL (la.take i) * valL lb + pw i * (dg la i * valL (lb.take j)) ∧ j ≤ lb.length + 1) (fun (j, c, s) => lb.length + 1 - j) ((0, 0, r)) (⟨by decide, by decide, hrN, hdr, by rw [Int.mul_zero, List.take_zero, valL_nil, Int.mul_zero, Int.mul_zero, Int.add_zero, Int.add_zero]; exact hv, Nat.zero_le _⟩) ⟨rfl, rfl, rfl, rfl, rfl, rfl, rfl, trivial⟩ ⟨rfl, rfl, rfl, rfl, trivial⟩ (fun ⟨j, c, s⟩ => fun (hk : 0 ≤ c ∧ c ≤ 65535 ∧ s.length = N ∧ Digs s ∧ valL s + pw (i + j) * c = valL (la.take i) * valL lb + pw i * (dg la i * valL (lb.take j)) ∧ j ≤ lb.length + 1) => ?_)
    obtain ⟨hc0, hc1, hsN, hds, hvs, hjl⟩ := hk
    have hos := hown s hsN
    have hbnd : lb.length ≤ j → 0 < c → j ≤ lb.length := fun h1 h2 => mul_bound da db hia h1 hds h2 hvs
    have ekk : ((i : Int) + (j : Int)).toNat = i + j := by omega
    rcases Nat.lt_or_ge j lb.length with hjb | hjb
    · have hyj : 0 ≤ (lb[((j : Nat) : Int).toNat]?.getD default).v ∧ (lb[((j : Nat) : Int).toNat]?.getD default).v < 65536 := dg_lt db hjb
      have hxy := mul_small16 hxi hyj
      have hsk : 0 ≤ (s[((i : Int) + (j : Int)).toNat]?.getD default).v ∧ (s[((i : Int) + (j : Int)).toNat]?.getD default).v < 65536 := hds.at (by omega)
      refine Wc.seq ?_
      refine Wc.seq ?_
      refine Wc.region rfl ?_
      refine Wl.q rfl (Qy.move rfl) ?_
      refine Wl.q rfl (Qy.fieldAddr T.fa43_1 rfl) ?_
      refine Wl.q rfl (Qy.load 1 T.one41 rfl rfl rfl) ?_
      refine Wl.q rfl (Qy.len T.sl41 rfl) ?_
      refine Wl.q rfl (Qy.lss rfl rfl) ?_
      refine Wl.q rfl (Qy.move rfl) ?_
      refine Wl.yes 30 rfl (by first | assumption | omega) ?_
      refine Wl.pass rfl rfl rfl ?_
      refine Wl.pass rfl rfl rfl ?_
      refine Wl.q rfl (Qy.pick rfl rfl) ?_
      refine Wl.done ?_
      refine Ar.next ?_
      refine Wc.condT rfl ?_
      refine Wc.skip ?_
      refine Ar.next ?_
      refine Wc.seq ?_
      refine Wc.block ?_
      refine Wc.seq ?_
      refine Wc.region rfl ?_
      refine Wl.q rfl (Qy.move rfl) ?_
      refine Wl.q rfl (Qy.move rfl) ?_
      refine Wl.q rfl (Qy.move rfl) ?_
      refine Wl.q rfl (Qy.move rfl) ?_
      refine Wl.q rfl (Qy.add rfl rfl (by omega)) ?_
      refine Wl.q rfl (Qy.indexAddrO (α := U32) T.sl41 rfl rfl (by assumption) (by omega)) ?_
      refine Wl.q rfl (Qy.loadO 3 0 T.one91 rfl rfl (by assumption) (by omega) rfl rfl) ?_
      refine Wl.q rfl (Qy.conv64 rfl T.u90 rfl (by omega)) ?_
      refine Wl.q rfl (Qy.uadd64 rfl rfl (by omega)) ?_
      refine Wl.q rfl (Qy.assign rfl) ?_
      refine Wl.done ?_
      refine Ar.next ?_
      refine Wc.seq ?_
      refine Wc.seq ?_
      refine Wc.region rfl ?_
      refine Wl.q rfl (Qy.move rfl) ?_
      refine Wl.q rfl (Qy.fieldAddr T.fa43_1 rfl) ?_
      refine Wl.q rfl (Qy.load 1 T.one41 rfl rfl rfl) ?_
      refine Wl.q rfl (Qy.len T.sl41 rfl) ?_
      refine Wl.q rfl (Qy.lss rfl rfl) ?_
      refine Wl.done ?_
      refine Ar.next ?_
      refine Wc.condP rfl (by first | assumption | omega) ?_
      refine Wc.draw [0, 1, 2, 3] [] T.mixed rfl ?_
      refine Gm.q 0 [] (by kernel_rfl) rfl rfl (Qy.move rfl) ?_
      refine Gm.q 1 [] (by kernel_rfl) rfl rfl (Qy.fieldAddr T.fa43_1 rfl) ?_
      refine Gm.q 2 [0] (by kernel_rfl) rfl rfl (Qy.load 0 T.one41 rfl rfl rfl) ?_
      refine Gm.q 3 [] (by kernel_rfl) rfl rfl (Qy.move rfl) ?_
      refine Gm.q 4 [] (by kernel_rfl) rfl rfl (Qy.at (α := U32) T.sl41 rfl rfl (by assumption) (by omega)) ?_
      refine Gm.q 5 [0] (by kernel_rfl) rfl rfl (Qy.loadG T.one91 rfl (Arr.cell (by assumption) (by omega) 0 rfl rfl)) ?_
      refine Gm.q 6 [] (by kernel_rfl) rfl rfl (Qy.conv64 rfl T.u90 rfl (by omega)) ?_
      refine Gm.q 7 [] (by kernel_rfl) rfl rfl (Qy.fieldAddr T.fa43_1 rfl) ?_
      refine Gm.q 8 [1] (by kernel_rfl) rfl rfl (Qy.load 1 T.one41 rfl rfl rfl) ?_
      refine Gm.q 9 [] (by kernel_rfl) rfl rfl (Qy.move rfl) ?_
      refine Gm.q 10 [] (by kernel_rfl) rfl rfl (Qy.at (α := U32) T.sl41 rfl rfl (by assumption) (by omega)) ?_
      refine Gm.q 11 [0] (by kernel_rfl) rfl rfl (Qy.loadG T.one91 rfl (Arr.cell (by assumption) (by omega) 0 rfl rfl)) ?_
      refine Gm.q 12 [] (by kernel_rfl) rfl rfl (Qy.conv64 rfl T.u90 rfl (by omega)) ?_
      refine Gm.q 13 [] (by kernel_rfl) rfl rfl (Qy.umul64 rfl rfl (by first | assumption | omega)) ?_
      refine Gm.q 14 [] (by kernel_rfl) rfl rfl (Qy.uadd64 rfl rfl (by omega)) ?_
      refine Gm.q 15 [] (by kernel_rfl) rfl rfl (Qy.assign rfl) ?_
      refine Gm.doneA (by kernel_rfl) ⟨rfl, rfl, rfl, rfl, trivial⟩ (by first | exact Imm.le_refl _ | assumption) ?_
      refine Ar.next ?_
      refine Wc.seq ?_
      refine Wc.region rfl ?_
      refine Wl.q rfl (Qy.move rfl) ?_
      refine Wl.q rfl (Qy.move rfl) ?_
      refine Wl.q rfl (Qy.move rfl) ?_
      refine Wl.q rfl (Qy.add rfl rfl (by omega)) ?_
      refine Wl.q rfl (Qy.move rfl) ?_
      refine Wl.q rfl (Qy.urem rfl rfl (by omega)) ?_
      refine Wl.q rfl (Qy.conv32 rfl T.u91 rfl (by omega)) ?_
      refine Wl.q rfl (Qy.indexAddrO (α := U32) T.sl41 rfl rfl (by assumption) (by omega)) ?_
      refine Wl.setO (z := _) 3 T.size91 rfl rfl rfl (by assumption) (by omega) rfl (fun ho1 => ?_)
      refine Wl.done ?_
      refine Ar.next ?_
      refine Wc.region rfl ?_
      refine Wl.q rfl (Qy.move rfl) ?_
      refine Wl.q rfl (Qy.uquo64 rfl rfl (by omega)) ?_
      refine Wl.q rfl (Qy.assign rfl) ?_
      refine Wl.done ?_
      refine Ar.outNormal ?_
      refine Ar.next ?_
      refine Wc.region rfl ?_
      refine Wl.q rfl (Qy.move rfl) ?_
      refine Wl.q rfl (Qy.add rfl rfl (by omega)) ?_
      refine Wl.q rfl (Qy.assign rfl) ?_
      refine Wl.done ?_
      rw [ekk] at ⊢ hsk
      refine Ar.re 5 rfl (show _ = Value.slice (some ⟨b4, 0, none⟩) (s.set (i + j) (⟨(c + (s[i + j]?.getD default).v + (la[((i : Nat) : Int).toNat]?.getD default).v * (lb[((j : Nat) : Int).toNat]?.getD default).v) % 65536⟩ : U32)).length N by rw [List.length_set]) ?_
      refine Ar.again ((j + 1, (c + (s[i + j]?.getD default).v + (la[((i : Nat) : Int).toNat]?.getD default).v * (lb[((j : Nat) : Int).toNat]?.getD default).v) / 65536, s.set (i + j) (⟨(c + (s[i + j]?.getD default).v + (la[((i : Nat) : Int).toNat]?.getD default).v * (lb[((j : Nat) : Int).toNat]?.getD default).v) % 65536⟩ : U32))) ?_ ?_ rfl ⟨rfl, rfl, rfl, rfl, rfl, rfl, rfl, trivial⟩ ⟨rfl, rfl, rfl, rfl, trivial⟩
      · exact ⟨by omega, by omega, by rw [List.length_set]; exact hsN, digs_set hds _ (by omega), mul_next (by omega) hvs (by simp only [dg, Int.toNat_natCast]), by omega⟩
      · show lb.length + 1 - (j + 1) < lb.length + 1 - j
        omega
    · by_cases hcy : 0 < c
      · have hjle := hbnd hjb hcy
        have hsk : 0 ≤ (s[((i : Int) + (j : Int)).toNat]?.getD default).v ∧ (s[((i : Int) + (j : Int)).toNat]?.getD default).v < 65536 := hds.at (by omega)
        refine Wc.seq ?_
        refine Wc.seq ?_
        refine Wc.region rfl ?_
        refine Wl.q rfl (Qy.move rfl) ?_
        refine Wl.q rfl (Qy.fieldAddr T.fa43_1 rfl) ?_
        refine Wl.q rfl (Qy.load 1 T.one41 rfl rfl rfl) ?_
        refine Wl.q rfl (Qy.len T.sl41 rfl) ?_
        refine Wl.q rfl (Qy.lss rfl rfl) ?_
        refine Wl.q rfl (Qy.move rfl) ?_
        refine Wl.no 30 rfl (by first | assumption | omega) ?_
        refine Wl.want rfl rfl ?_
        refine Wl.q rfl (Qy.move rfl) ?_
        refine Wl.want rfl rfl ?_
        refine Wl.q rfl (Qy.gtr rfl rfl) ?_
        refine Wl.q rfl (Qy.pick rfl rfl) ?_
        refine Wl.done ?_
        refine Ar.next ?_
        refine Wc.condP rfl (by first | assumption | omega) ?_
        refine Wc.skip ?_
        refine Ar.next ?_
        refine Wc.seq ?_
        refine Wc.block ?_
        refine Wc.seq ?_
        refine Wc.region rfl ?_
        refine Wl.q rfl (Qy.move rfl) ?_
        refine Wl.q rfl (Qy.move rfl) ?_
        refine Wl.q rfl (Qy.move rfl) ?_
        refine Wl.q rfl (Qy.move rfl) ?_
        refine Wl.q rfl (Qy.add rfl rfl (by omega)) ?_
        refine Wl.q rfl (Qy.indexAddrO (α := U32) T.sl41 rfl rfl (by assumption) (by omega)) ?_
        refine Wl.q rfl (Qy.loadO 3 0 T.one91 rfl rfl (by assumption) (by omega) rfl rfl) ?_
        refine Wl.q rfl (Qy.conv64 rfl T.u90 rfl (by omega)) ?_
        refine Wl.q rfl (Qy.uadd64 rfl rfl (by omega)) ?_
        refine Wl.q rfl (Qy.assign rfl) ?_
        refine Wl.done ?_
        refine Ar.next ?_
        refine Wc.seq ?_
        refine Wc.seq ?_
        refine Wc.region rfl ?_
        refine Wl.q rfl (Qy.move rfl) ?_
        refine Wl.q rfl (Qy.fieldAddr T.fa43_1 rfl) ?_
        refine Wl.q rfl (Qy.load 1 T.one41 rfl rfl rfl) ?_
        refine Wl.q rfl (Qy.len T.sl41 rfl) ?_
        refine Wl.q rfl (Qy.lss rfl rfl) ?_
        refine Wl.done ?_
        refine Ar.next ?_
        refine Wc.condN rfl (by first | assumption | omega) ?_
        refine Wc.skip ?_
        refine Ar.next ?_
        refine Wc.seq ?_
        refine Wc.region rfl ?_
        refine Wl.q rfl (Qy.move rfl) ?_
        refine Wl.q rfl (Qy.move rfl) ?_
        refine Wl.q rfl (Qy.move rfl) ?_
        refine Wl.q rfl (Qy.add rfl rfl (by omega)) ?_
        refine Wl.q rfl (Qy.move rfl) ?_
        refine Wl.q rfl (Qy.urem rfl rfl (by omega)) ?_
        refine Wl.q rfl (Qy.conv32 rfl T.u91 rfl (by omega)) ?_
        refine Wl.q rfl (Qy.indexAddrO (α := U32) T.sl41 rfl rfl (by assumption) (by omega)) ?_
        refine Wl.setO (z := _) 3 T.size91 rfl rfl rfl (by assumption) (by omega) rfl (fun ho1 => ?_)
        refine Wl.done ?_
        refine Ar.next ?_
        refine Wc.region rfl ?_
        refine Wl.q rfl (Qy.move rfl) ?_
        refine Wl.q rfl (Qy.uquo64 rfl rfl (by omega)) ?_
        refine Wl.q rfl (Qy.assign rfl) ?_
        refine Wl.done ?_
        refine Ar.outNormal ?_
        refine Ar.next ?_
        refine Wc.region rfl ?_
        refine Wl.q rfl (Qy.move rfl) ?_
        refine Wl.q rfl (Qy.add rfl rfl (by omega)) ?_
        refine Wl.q rfl (Qy.assign rfl) ?_
        refine Wl.done ?_
        rw [ekk] at ⊢ hsk
        refine Ar.re 5 rfl (show _ = Value.slice (some ⟨b4, 0, none⟩) (s.set (i + j) (⟨(c + (s[i + j]?.getD default).v) % 65536⟩ : U32)).length N by rw [List.length_set]) ?_
        refine Ar.again ((j + 1, (c + (s[i + j]?.getD default).v) / 65536, s.set (i + j) (⟨(c + (s[i + j]?.getD default).v) % 65536⟩ : U32))) ?_ ?_ rfl ⟨rfl, rfl, rfl, rfl, rfl, rfl, rfl, trivial⟩ ⟨rfl, rfl, rfl, rfl, trivial⟩
        · exact ⟨by omega, by omega, by rw [List.length_set]; exact hsN, digs_set hds _ (by omega), mul_next (by omega) hvs (by rw [dg_end hjb, Int.mul_zero, Int.add_zero]; simp only [dg, Int.toNat_natCast]), by omega⟩
        · show lb.length + 1 - (j + 1) < lb.length + 1 - j
          omega
      · have hc : c = 0 := by omega
        subst hc
        rw [Int.mul_zero, Int.add_zero] at hvs
        refine Wc.seq ?_
        refine Wc.seq ?_
        refine Wc.region rfl ?_
        refine Wl.q rfl (Qy.move rfl) ?_
        refine Wl.q rfl (Qy.fieldAddr T.fa43_1 rfl) ?_
        refine Wl.q rfl (Qy.load 1 T.one41 rfl rfl rfl) ?_
        refine Wl.q rfl (Qy.len T.sl41 rfl) ?_
        refine Wl.q rfl (Qy.lss rfl rfl) ?_
        refine Wl.q rfl (Qy.move rfl) ?_
        refine Wl.no 30 rfl (by first | assumption | omega) ?_
        refine Wl.want rfl rfl ?_
        refine Wl.q rfl (Qy.move rfl) ?_
        refine Wl.want rfl rfl ?_
        refine Wl.q rfl (Qy.gtr rfl rfl) ?_
        refine Wl.q rfl (Qy.pick rfl rfl) ?_
        refine Wl.done ?_
        refine Ar.next ?_
        refine Wc.condN rfl (by first | assumption | omega) ?_
        refine Wc.exit ?_
        refine Ar.passExit ?_
        refine Ar.passExit ?_
        refine Ar.here ?_
        refine Ar.outNormal ?_
        refine Ar.next ?_
        refine Wc.region rfl ?_
        refine Wl.q rfl (Qy.move rfl) ?_
        refine Wl.q rfl (Qy.add rfl rfl (by omega)) ?_
        refine Wl.q rfl (Qy.assign rfl) ?_
        refine Wl.done ?_
        refine Ar.again ((i + 1, s)) ?_ ?_ rfl ⟨rfl, rfl, rfl, rfl, rfl, trivial⟩ ⟨rfl, rfl, rfl, rfl, trivial⟩
        · exact ⟨by omega, hsN, hds, mul_end hjb hvs⟩
        · show la.length - (i + 1) < la.length - i
          omega
  · have hor := hown r hrN
    rw [take_all hia] at hv
    refine Wc.seq ?_
    refine Wc.seq ?_
    refine Wc.region rfl ?_
    refine Wl.q rfl (Qy.move rfl) ?_
    refine Wl.q rfl (Qy.fieldAddr T.fa43_1 rfl) ?_
    refine Wl.q rfl (Qy.load 0 T.one41 rfl rfl rfl) ?_
    refine Wl.q rfl (Qy.len T.sl41 rfl) ?_
    refine Wl.q rfl (Qy.lss rfl rfl) ?_
    refine Wl.done ?_
    refine Ar.next ?_
    refine Wc.condN rfl (by first | assumption | omega) ?_
    refine Wc.exit ?_
    refine Ar.passExit ?_
    refine Ar.passExit ?_
    refine Ar.here ?_
    refine Ar.next ?_
    refine Wc.seq ?_
    refine Wc.region rfl ?_
    refine Wl.q rfl (Qy.fieldAddr T.fa43_0 rfl) ?_
    refine Wl.q rfl (Qy.load 0 T.one4 rfl rfl rfl) ?_
    refine Wl.q rfl (Qy.fieldAddr T.fa43_0 rfl) ?_
    refine Wl.q rfl (Qy.load 1 T.one4 rfl rfl rfl) ?_
    refine Wl.q rfl (Qy.neqB T.u4 rfl rfl) ?_
    refine Wl.q rfl (Qy.move rfl) ?_
    have hcap := hor.le
    refine Wl.freezeRow 3 rfl hor (fun G9 hle9 hA => ?_)
    refine Wl.call 4 rfl T.fn60 rfl (c60 _ _ _ _ _ (by assumption) (by omega) (by assumption)) (tags_of trivial) (fun v1 G1 Ho1 hle1 hp => ?_)
    obtain ⟨tn1, rfl, htr1, rfl, rfl⟩ := hp
    refine Wl.storeAll 2 T.size43 rfl rfl rfl rfl rfl rfl ?_
    refine Wl.done ?_
    refine Ar.next ?_
    refine Wc.ret ?_
    refine Ar.out1 (.inr rfl) (Ho := Hp.only _ []) rfl (.agg 2 rfl rfl T.agg43) (Hp.sub_only _ _) ?_
    refine ⟨⟨decide (n1 ≠ n2) && decide (0 < tn1), subA (some ⟨b4, 0, none⟩) N 0 1, tn1, N⟩, rfl, ?_, rfl⟩
    have e := htr1.num hdr hA hcap (decide (n1 ≠ n2))
    have e2 : (if decide (n1 ≠ n2) = true then -valL r else valL r) = x * y := by
      rw [hv, hx.val, hy.val]
      cases n1 <;> cases n2 <;> simp [Int.neg_mul, Int.mul_neg]
    rw [e2] at e; exact e
theorem num_mul (G : Imm) (x y : IV) (zx zy : Int) (hx : Num G x zx) (hy : Num G y zy) (h1 : x.n ≤ 536870912) (h2 : y.n ≤ 536870912) :
    Does Try.prog 102 [.agg (Cells.enc x).toArray, .agg (Cells.enc y).toArray] G [] (fun v G' Ho => ∃ r : IV, v = .agg (Cells.enc r).toArray ∧ Num G' r (zx * zy) ∧ Ho = []) := by
  obtain ⟨n1, a, k1, ca⟩ := x
  obtain ⟨n2, b, k2, cb⟩ := y
  obtain ⟨la, hl, hlc, hA, hI⟩ := hx
  obtain ⟨lb, hl', hlc', hA', hI'⟩ := hy
  simp only at hl hlc hA hI hl' hlc' hA' hI' h1 h2
  subst hl hl'
  exact c102 G n1 n2 a b ca cb la lb zx zy hA hA' hI hI' h1 h2
end Go.Proofs.Ytfleehgbpgmcnaa
