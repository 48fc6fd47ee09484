/- Unsigned numbers, where nothing wraps; a number's handle: its sign, its digits' slice; a row's handle. -/
import Derived.Test.YtfleehgbpgmcnaaSlP
import Derived.Laws.Bits64b
set_option linter.unusedVariables false
namespace Go.Sl
open Go
section
variable {P : Program} {e : Env} {H : Hp} {G : Imm} {ty : TypeId} {t t' : TypeId} {x y : Operand} {m n : Int}
theorem Qy.uadd32 (hx : e.ev x = some (.int .u32 m)) (hy : e.ev y = some (.int .u32 n)) (hb : 0 ≤ m + n ∧ m + n ≤ 4294967295) : Qy P (.binOp .add t x y t') ty e H G (.int .u32 (m + n)) := by
  have := Qy.addW (P := P) (H := H) (G := G) (ty := ty) (t := t) (t' := t') hx hy; rwa [IntWalk.u32_in _ hb] at this
theorem Qy.uadd64 (hx : e.ev x = some (.int .u64 m)) (hy : e.ev y = some (.int .u64 n)) (hb : 0 ≤ m + n ∧ m + n ≤ 18446744073709551615) : Qy P (.binOp .add t x y t') ty e H G (.int .u64 (m + n)) := by
  have := Qy.addW (P := P) (H := H) (G := G) (ty := ty) (t := t) (t' := t') hx hy; rwa [IntWalk.u64_in _ hb] at this
theorem Qy.usub32 (hx : e.ev x = some (.int .u32 m)) (hy : e.ev y = some (.int .u32 n)) (hb : 0 ≤ m - n ∧ m - n ≤ 4294967295) : Qy P (.binOp .sub t x y t') ty e H G (.int .u32 (m - n)) := by
  have := Qy.subW (P := P) (H := H) (G := G) (ty := ty) (t := t) (t' := t') hx hy; rwa [IntWalk.u32_in _ hb] at this
theorem Qy.usub64 (hx : e.ev x = some (.int .u64 m)) (hy : e.ev y = some (.int .u64 n)) (hb : 0 ≤ m - n ∧ m - n ≤ 18446744073709551615) : Qy P (.binOp .sub t x y t') ty e H G (.int .u64 (m - n)) := by
  have := Qy.subW (P := P) (H := H) (G := G) (ty := ty) (t := t) (t' := t') hx hy; rwa [IntWalk.u64_in _ hb] at this
theorem Qy.umul32 (hx : e.ev x = some (.int .u32 m)) (hy : e.ev y = some (.int .u32 n)) (hb : 0 ≤ m * n ∧ m * n ≤ 4294967295) : Qy P (.binOp .mul t x y t') ty e H G (.int .u32 (m * n)) := by
  have := Qy.mulW (P := P) (H := H) (G := G) (ty := ty) (t := t) (t' := t') hx hy; rwa [IntWalk.u32_in _ hb] at this
theorem Qy.umul64 (hx : e.ev x = some (.int .u64 m)) (hy : e.ev y = some (.int .u64 n)) (hb : 0 ≤ m * n ∧ m * n ≤ 18446744073709551615) : Qy P (.binOp .mul t x y t') ty e H G (.int .u64 (m * n)) := by
  have := Qy.mulW (P := P) (H := H) (G := G) (ty := ty) (t := t) (t' := t') hx hy; rwa [IntWalk.u64_in _ hb] at this
theorem tdiv_pos {m n : Int} (h : 0 ≤ m) : m.tdiv n = m / n := Int.tdiv_eq_ediv_of_nonneg h
theorem tmod_pos {m n : Int} (h : 0 ≤ m) : m.tmod n = m % n := Int.tmod_eq_emod_of_nonneg h
theorem div_le {m n : Int} (h : 0 ≤ m) (hn : 0 < n) : 0 ≤ m / n ∧ m / n ≤ m := ⟨Int.ediv_nonneg h (Int.le_of_lt hn), Int.ediv_le_self _ h⟩
theorem Qy.uquo32 (hx : e.ev x = some (.int .u32 m)) (hy : e.ev y = some (.int .u32 n)) (hb : 0 ≤ m ∧ m ≤ 4294967295 ∧ 0 < n) : Qy P (.binOp .quo t x y t') ty e H G (.int .u32 (m / n)) := by
  have := Qy.quoW (P := P) (H := H) (G := G) (ty := ty) (t := t) (t' := t') hx hy (by omega)
  have h1 := div_le hb.1 hb.2.2
  rwa [tdiv_pos hb.1, IntWalk.u32_in _ ⟨h1.1, Int.le_trans h1.2 hb.2.1⟩] at this
theorem Qy.uquo64 (hx : e.ev x = some (.int .u64 m)) (hy : e.ev y = some (.int .u64 n)) (hb : 0 ≤ m ∧ m ≤ 18446744073709551615 ∧ 0 < n) : Qy P (.binOp .quo t x y t') ty e H G (.int .u64 (m / n)) := by
  have := Qy.quoW (P := P) (H := H) (G := G) (ty := ty) (t := t) (t' := t') hx hy (by omega)
  have h1 := div_le hb.1 hb.2.2
  rwa [tdiv_pos hb.1, IntWalk.u64_in _ ⟨h1.1, Int.le_trans h1.2 hb.2.1⟩] at this
theorem Qy.quoP (hx : e.ev x = some (.int .i64 m)) (hy : e.ev y = some (.int .i64 n)) (hb : 0 ≤ m ∧ m ≤ 9223372036854775807 ∧ 0 < n) : Qy P (.binOp .quo t x y t') ty e H G (.int .i64 (m / n)) := by
  have h1 := div_le hb.1 hb.2.2
  have h2 : m.tdiv n = m / n := tdiv_pos hb.1
  have := Qy.quo (P := P) (H := H) (G := G) (ty := ty) (t := t) (t' := t') hx hy (by omega) (by rw [h2]; exact ⟨by omega, by omega⟩)
  rwa [h2] at this
theorem Qy.urem {k : IntKind} (hx : e.ev x = some (.int k m)) (hy : e.ev y = some (.int k n)) (hb : 0 ≤ m ∧ 0 < n) : Qy P (.binOp .rem t x y t') ty e H G (.int k (m % n)) := by
  have := Qy.rem (P := P) (H := H) (G := G) (ty := ty) (t := t) (t' := t') hx hy (by omega)
  rwa [tmod_pos hb.1] at this
theorem Qy.conv32 {s : TypeId} {k : IntKind} (hs : (P.underlying s).isSome = true) (ht : P.underlying t = some (.int .u32)) (hx : e.ev x = some (.int k m)) (hb : 0 ≤ m ∧ m ≤ 4294967295) : Qy P (.convert s t x) ty e H G (.int .u32 m) := by
  have := Qy.conv (P := P) (H := H) (G := G) (ty := ty) hs ht hx
  rwa [IntWalk.u32_in _ hb] at this
theorem Qy.conv64 {s : TypeId} {k : IntKind} (hs : (P.underlying s).isSome = true) (ht : P.underlying t = some (.int .u64)) (hx : e.ev x = some (.int k m)) (hb : 0 ≤ m ∧ m ≤ 18446744073709551615) : Qy P (.convert s t x) ty e H G (.int .u64 m) := by
  have := Qy.conv (P := P) (H := H) (G := G) (ty := ty) hs ht hx
  rwa [IntWalk.u64_in _ hb] at this
theorem Qy.convI {s : TypeId} {k : IntKind} (hs : (P.underlying s).isSome = true) (ht : P.underlying t = some (.int .i64)) (hx : e.ev x = some (.int k m)) (hb : -9223372036854775808 ≤ m ∧ m ≤ 9223372036854775807) : Qy P (.convert s t x) ty e H G (.int .i64 m) := by
  have := Qy.conv (P := P) (H := H) (G := G) (ty := ty) hs ht hx
  rwa [IntWalk.i64_in _ hb] at this
end

theorem Qy.fieldR {P : Program} {e : Env} {H : Hp} {G : Imm} {ty T : TypeId} {x : Operand} {i : Nat} {v0 v1 v : Value} (h : ∀ (w : World) (v0 v1 : Value), (Instr.field T (.agg #[v0, v1]) i).run P w = .ok (#[v0, v1][i]?.getD undef) w)
    (hx : e.ev x = some (.agg #[v0, v1])) (hv : #[v0, v1][i]?.getD undef = v) : Qy P (.field T x i) ty e H G v := fun a w _ _ _ _ hh => by
  subst hv
  simp [execOp, hh.eval hx, h]
theorem bits_and_u32_nat (a b : Nat) (ha : a < 4294967296) (hb : b < 4294967296) : bits .and .u32 (a : Int) (b : Int) = ((a &&& b : Nat) : Int) := by
  have hx : a &&& b < 2 ^ 32 := Nat.and_lt_two_pow _ (by omega)
  have h1 : (BitVec.ofInt 32 (a : Int)).toNat = a := by
    rw [BitVec.ofInt_natCast, BitVec.toNat_ofNat]; exact Nat.mod_eq_of_lt (by omega)
  have h2 : (BitVec.ofInt 32 (b : Int)).toNat = b := by
    rw [BitVec.ofInt_natCast, BitVec.toNat_ofNat]; exact Nat.mod_eq_of_lt (by omega)
  show IntKind.u32.wrap ((BitVec.ofInt 32 (a : Int) &&& BitVec.ofInt 32 (b : Int)).toNat : Int) = _
  rw [BitVec.toNat_and, h1, h2, IntKind.wrap_u32]
  omega
theorem bits_or_u32_nat (a b : Nat) (ha : a < 4294967296) (hb : b < 4294967296) : bits .or .u32 (a : Int) (b : Int) = ((a ||| b : Nat) : Int) := by
  have hx : a ||| b < 2 ^ 32 := Nat.or_lt_two_pow (by omega) (by omega)
  have h1 : (BitVec.ofInt 32 (a : Int)).toNat = a := by
    rw [BitVec.ofInt_natCast, BitVec.toNat_ofNat]; exact Nat.mod_eq_of_lt (by omega)
  have h2 : (BitVec.ofInt 32 (b : Int)).toNat = b := by
    rw [BitVec.ofInt_natCast, BitVec.toNat_ofNat]; exact Nat.mod_eq_of_lt (by omega)
  show IntKind.u32.wrap ((BitVec.ofInt 32 (a : Int) ||| BitVec.ofInt 32 (b : Int)).toNat : Int) = _
  rw [BitVec.toNat_or, h1, h2, IntKind.wrap_u32]
  omega
/-- 'x & 1' -/
theorem and_one_u32 (x : Int) (h : 0 ≤ x ∧ x < 4294967296) : bits .and .u32 x 1 = x % 2 := by
  have h1 := bits_and_u32_nat x.toNat 1 (by omega) (by omega)
  rw [Nat.and_one_is_mod, Int.toNat_of_nonneg h.1] at h1
  have h2 : ((x.toNat % 2 : Nat) : Int) = x % 2 := by omega
  exact h1.trans h2
/-- a bit is laid where none is, and none below -/
theorem or_bit_u32 (x : Int) (s : Nat) (hx : 0 ≤ x ∧ x < 65536) (hs : s < 16) (hz : x % ((2 ^ (s + 1) : Nat) : Int) = 0) : bits .or .u32 x ((2 ^ s : Nat) : Int) = x + ((2 ^ s : Nat) : Int) := by
  have hp : 2 ^ s < 4294967296 := Nat.lt_of_lt_of_le (Nat.pow_lt_pow_right (by decide) hs) (by decide)
  have h1 := bits_or_u32_nat x.toNat (2 ^ s) (by omega) hp
  rw [Int.toNat_of_nonneg hx.1] at h1
  rw [h1]
  have hz' : x.toNat % 2 ^ (s + 1) = 0 := by
    have h2 : ((x.toNat % 2 ^ (s + 1) : Nat) : Int) = 0 := by rw [Int.natCast_emod, Int.toNat_of_nonneg hx.1]; exact hz
    exact Int.ofNat_eq_zero.1 h2
  have h3 := Nat.div_add_mod x.toNat (2 ^ (s + 1))
  rw [hz', Nat.add_zero] at h3
  have h4 := Nat.two_pow_add_eq_or_of_lt (b := 2 ^ s) (i := s + 1) (Nat.pow_lt_pow_right (by decide) (Nat.lt_succ_self s)) (x.toNat / 2 ^ (s + 1))
  rw [h3] at h4
  rw [← h4, Int.natCast_add, Int.toNat_of_nonneg hx.1]
/-- a whole number's handle -/
structure IV where
  neg : Bool
  a : Option Addr
  n : Nat
  c : Nat
instance : Inhabited IV := ⟨⟨false, none, 0, 0⟩⟩
instance : Cells IV := ⟨2, fun x => [.bool x.neg, .slice x.a x.n x.c], fun _ => rfl, fun _ => rfl⟩
/-- a slice's handle -/
structure SV where
  a : Option Addr
  n : Nat
  c : Nat
instance : Inhabited SV := ⟨⟨none, 0, 0⟩⟩
instance : Cells SV := ⟨1, fun x => [.slice x.a x.n x.c], fun _ => rfl, fun _ => rfl⟩
end Go.Sl
