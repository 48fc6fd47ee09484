/- Parts of the proof (part 4): what the rows' text needs of the texts that lead to it. -/
import Derived.Test.YtbppmiimeccclaaGreatDoorMDc
set_option linter.unusedVariables false
set_option linter.unusedSimpArgs false
set_option linter.unusedSectionVars false
set_option maxRecDepth 100000
set_option linter.unusedVariables false
namespace Go.Proofs.YtbppmiimeccclaaGreatDoor
open Go Go.Sl
set_option maxHeartbeats 4000000
attribute [local irreducible] valB pb cmpZ lstWp
theorem cell_oneZ {G : Imm} {b : Nat} {cs : List Value} {T : TypeId} {fz : Nat × Nat} (h : G b = some (.cells cs.toArray T fz)) (k : Nat) {v : Value} (hv : cs[k]? = some v) : G.cell b k = some v := by
  simp only [Imm.cell, h]; simpa using hv
theorem upP_map (xs : List Int) (f : Int → Int) : upP (fun k => f (xs[k]?.getD 0)) xs.length = xs.map f := by
  unfold upP
  apply List.ext_getElem
  · rw [List.length_map, List.length_map, List.length_range]
  · intro i h1 h2
    rw [List.length_map] at h2
    rw [List.getElem_map, List.getElem_range, List.getElem_map, List.getElem?_eq_getElem h2]; rfl
theorem upP_zip (xs ys : List Int) (f : Int → Int → Int) (h : xs.length = ys.length) : upP (fun k => f (xs[k]?.getD 0) (ys[k]?.getD 0)) xs.length = List.zipWith f xs ys := by
  unfold upP
  apply List.ext_getElem
  · rw [List.length_map, List.length_range, List.length_zipWith, h, Nat.min_self]
  · intro i h1 h2
    rw [List.length_zipWith] at h2
    rw [List.getElem_map, List.getElem_range, List.getElem_zipWith, List.getElem?_eq_getElem (show i < xs.length by omega), List.getElem?_eq_getElem (show i < ys.length by omega)]; rfl
/-- a row that a function answers -/
def RowPost (G' : Imm) (v : Value) (zs : List Int) : Prop := ∃ (s : Option Addr) (r : List IV) (d : Nat), v = .slice s r.length d ∧ Arr G' s r ∧ r.length ≤ d ∧ Bigs G' r zs
theorem bigs_n {G : Imm} {l : List IV} {xs : List Int} {m : Nat} (h : Bigs G l xs) (hm : Below m xs) {k : Nat} (hk : k < l.length) : (l[k]?.getD default).n ≤ m := Big.len (h.2 k hk) (hm.at k)
theorem c47 (G : Imm) (a : Option Addr) (c : Nat) (l : List IV) (xs : List Int) (m : Nat) (ha : Arr G a l) (hb : Bigs G l xs) (hm : Below m xs) (hmm : m ≤ 268435456) (hl : l.length ≤ 1048576) :
    Does Tryz.prog 47 [.slice a l.length c] G [] (fun v G' Ho => RowPost G' v (xs.map fun x => -x) ∧ Ho = []) := by
  have hf : ∀ k : Nat, k < l.length → ∀ G', G.le G' → Does Tryz.prog 72 ([] ++ [.agg (Cells.enc (l[((k : Nat) : Int).toNat]?.getD default)).toArray] ++ []) G' [] (fun v G'' Ho => ∃ r : IV, v = .agg (Cells.enc r).toArray ∧ Big G'' r (-(xs[k]?.getD 0)) ∧ Ho = []) := fun k hk G' hG => by
    have h1 := bigs_n hb hm hk
    exact (c72 G' _ _ ((hb.2 k hk).up hG) (by omega)).mono fun v G'' Ho _ ⟨r, e1, e2, e3, e4⟩ => ⟨r, e1, e2, e4⟩
  have h180 := c71P G a c l 72 [] (fun k => -(xs[k]?.getD 0)) T.fn72 ha hl hf
  rw [hb.1, upP_map xs (fun x => -x), ← hb.1] at h180
  refine Does.enter Tryz.func47 rfl Tryz.ntmps47 rfl (fun w => ?_)
  refine Wc.gl 8 [] ?_
  refine Wl.call 0 rfl T.fn71 rfl (h180) (tags_of trivial) (fun v1 G1 Ho1 hle1 hp => ?_)
  obtain ⟨s1, r1, d1, rfl, hA1, hl81, hB1, rfl⟩ := hp
  replace ha := ha.up hle1
  replace hb := hb.up hle1
  refine Wl.ga 4 [] ?_
  refine Ar.out1 (.inr rfl) (Ho := []) rfl (.tmp rfl) trivial ?_
  exact ⟨⟨_, _, _, rfl, hA1, hl81, hB1⟩, rfl⟩
theorem c100 (G : Imm) (bk bf bb h : Nat) (x : IV) (k : Nat) (a' : Option Addr) (c' : Nat) (ys : List IV) (R : Int) (hgh : isFn Tryz.prog h) (hy : Arr G a' ys) (hk : k < ys.length) (hkl : k ≤ 1048576) (hf : G bf = some (.cells [.func (.func h) #[] #[]].toArray 121)) (hb : G bb = some (.cells [.slice a' ys.length c'].toArray 36))
    (hh : Does Tryz.prog h ([] ++ [.agg (Cells.enc x).toArray, .agg (Cells.enc (ys[((k : Nat) : Int).toNat]?.getD default)).toArray] ++ []) G [] (fun v G'' Ho => ∃ r : IV, v = .agg (Cells.enc r).toArray ∧ Big G'' r R ∧ Ho = [])) :
    Does Tryz.prog 100 [.agg (Cells.enc x).toArray, .pointer (some ⟨bk, 0, none⟩), .pointer (some ⟨bf, 0, none⟩), .pointer (some ⟨bb, 0, none⟩)] G [(0, some bk, .cells #[.int .i64 ((k : Int) - 1)] 3)]
      (fun v G' Ho => ∃ r : IV, v = .agg (Cells.enc r).toArray ∧ Big G' r R ∧ Ho = [(0, some bk, .cells #[.int .i64 (((k + 1 : Nat) : Int) - 1)] 3)]) := by
  have hfc := cell_oneZ hf 0 rfl
  have hbc := cell_oneZ hb 0 rfl
  have e : ((k : Nat) : Int).toNat = (((k : Int) - 1) + 1).toNat := by omega
  rw [e] at hh
  refine Does.enter Tryz.func100 rfl Tryz.ntmps100 rfl (fun w => ?_)
  refine Wc.gl 2 [] ?_
  refine Wl.box 1 rfl rfl rfl (fun b1 => ?_)
  refine Wl.alloc 2 rfl T.zero63 (fun b2 => ?_)
  refine Wl.gc 10 [0, 0] ?_
  refine Wc.draw [1, 2, 0] [(2, 7), (0, 6), (2, 6), (1, 6)] T.mixed rfl ?_
  refine Gm.q 0 [] (by kernel_rfl) rfl rfl (Qy.loadG T.one121 rfl (by assumption)) ?_
  refine Gm.q 1 [1] (by kernel_rfl) rfl rfl (Qy.loadAll 1 T.agg63 rfl rfl rfl) ?_
  refine Gm.q 2 [] (by kernel_rfl) rfl rfl (Qy.loadG T.one36 rfl (by assumption)) ?_
  refine Gm.one 3 ⟨rfl, rfl, rfl, trivial⟩ (by first | exact Imm.le_refl _ | repeat (first | assumption | refine Imm.le_trans ?_ (by assumption))) (by kernel_rfl) rfl ?_
  refine Wl.q rfl (Qy.load 0 T.one3 rfl rfl rfl) ?_
  refine Wl.on0 ?_
  refine Gm.q 4 [] (by kernel_rfl) rfl rfl (Qy.at (α := IV) T.sl36 rfl rfl (by assumption) (by omega)) ?_
  refine Gm.q 5 [] (by kernel_rfl) rfl rfl (Qy.loadsG T.agg63 rfl (Arr.elem (by assumption) (by omega)) rfl) ?_
  refine Gm.one 6 ⟨rfl, rfl, rfl, trivial⟩ (by first | exact Imm.le_refl _ | repeat (first | assumption | refine Imm.le_trans ?_ (by assumption))) (by kernel_rfl) rfl ?_
  refine Wl.callV (fst := []) (cap := []) 20 rfl hgh rfl rfl hh (tags_of trivial) (fun v1 G1 Ho1 hle1 hp => ?_)
  obtain ⟨r1, rfl, hr1, rfl⟩ := hp
  refine Wl.on0 ?_
  refine Gm.one 7 trivial (by first | exact Imm.le_refl _ | repeat (first | assumption | refine Imm.le_trans ?_ (by assumption))) (by kernel_rfl) rfl ?_
  refine Wl.storeAll 2 T.size63 rfl rfl rfl rfl rfl rfl ?_
  refine Wl.on0 ?_
  refine Gm.doneA (by kernel_rfl) trivial (by first | exact Imm.le_refl _ | repeat (first | assumption | refine Imm.le_trans ?_ (by assumption))) ?_
  refine Ar.ga 2 [] ?_
  refine Ar.reH 0 (.cells #[.int .i64 (((k + 1 : Nat) : Int) - 1)] 3) rfl (by rw [show (((k + 1 : Nat) : Int) - 1) = (k : Int) - 1 + 1 by omega]; rfl) ?_
  refine Ar.out1 (.inr rfl) (Ho := [(0, some bk, .cells #[.int .i64 (((k + 1 : Nat) : Int) - 1)] 3)]) rfl (.agg 2 rfl rfl T.agg63) ⟨rfl, trivial⟩ ?_
  exact ⟨r1, rfl, hr1, rfl⟩
theorem c73 (G : Imm) (h : Nat) (a a' : Option Addr) (c c' : Nat) (l l' : List IV) (F : Nat → Int) (hgh : isFn Tryz.prog h) (ha : Arr G a l) (ha' : Arr G a' l') (hlen : l.length = l'.length) (hl : l.length ≤ 1048576)
    (hh : ∀ k : Nat, k < l.length → ∀ G', G.le G' → Does Tryz.prog h ([] ++ [.agg (Cells.enc (l[((k : Nat) : Int).toNat]?.getD default)).toArray, .agg (Cells.enc (l'[((k : Nat) : Int).toNat]?.getD default)).toArray] ++ []) G' [] (fun v G'' Ho => ∃ r : IV, v = .agg (Cells.enc r).toArray ∧ Big G'' r (F k) ∧ Ho = [])) :
    Does Tryz.prog 73 [.slice a l.length c, .slice a' l'.length c', .func (.func h) #[] #[]] G [] (fun v G' Ho => ∃ (s : Option Addr) (r : List IV) (d : Nat), v = .tuple #[.slice s r.length d, .int .i64 0] ∧ Arr G' s r ∧ r.length ≤ d ∧ Bigs G' r (upP F l.length) ∧ Ho = []) := by
  refine Does.enter Tryz.func73 rfl Tryz.ntmps73 rfl (fun w => ?_)
  refine Wc.gl 2 [] ?_
  refine Wl.box 0 rfl rfl rfl (fun b1 => ?_)
  refine Wl.box 1 rfl rfl rfl (fun b2 => ?_)
  refine Wl.gl 19 [0, 0] ?_
  refine Wl.alloc 2 rfl T.zero3 (fun b3 => ?_)
  refine Wl.gl 6 [2] ?_
  refine Wl.q rfl (Qy.makeFunc rfl rfl) ?_
  refine Wl.freeze 1 rfl (fun G1 hg1 hb1 => ?_)
  refine Wl.freeze 0 rfl (fun G2 hg2 hb2 => ?_)
  replace hb1 := hg2 _ _ hb1
  have hG := Imm.le_trans hg1 hg2
  replace ha := ha.up hG
  replace ha' := ha'.up hG
  refine Wl.reH 2 (.cells #[.int .i64 (-1)] 3) rfl rfl ?_
  refine Wl.call 2 rfl T.fn71 rfl (c71S _ a c l 100 b3 [.pointer (some ⟨b3, 0, none⟩), .pointer (some ⟨b2, 0, none⟩), .pointer (some ⟨b1, 0, none⟩)] F T.fn100 ha hl
    (fun k hk G' hG' => c100 G' b3 b2 b1 h _ k a' c' l' (F k) hgh (ha'.up hG') (by omega) (by omega) (hG' _ _ hb1) (hG' _ _ hb2) (hh k hk G' (Imm.le_trans hG hG')))) (tags_of ⟨rfl, trivial⟩) (fun v1 G3 Ho1 hle1 hp => ?_)
  obtain ⟨s, r, d, rfl, hA, hd, hB, rfl⟩ := hp
  refine Wl.ga 5 [] ?_
  refine Ar.out2 (.inr rfl) (Ho := []) rfl (.tmp rfl) (.tmp rfl) trivial ?_
  exact ⟨s, r, d, rfl, hA, hd, hB, rfl⟩
theorem c49 (G : Imm) (a a' : Option Addr) (c c' : Nat) (l l' : List IV) (xs ys : List Int) (m : Nat) (ha : Arr G a l) (ha' : Arr G a' l') (hb : Bigs G l xs) (hb' : Bigs G l' ys) (hm : Below m xs) (hm' : Below m ys) (hmm : m ≤ 268435456) (hlen : l.length = l'.length) (hl : l.length ≤ 1048576) :
    Does Tryz.prog 49 [.slice a l.length c, .slice a' l'.length c'] G [] (fun v G' Ho => ∃ (s : Option Addr) (r : List IV) (d : Nat), v = .tuple #[.slice s r.length d, .int .i64 0] ∧ Arr G' s r ∧ r.length ≤ d ∧ Bigs G' r (List.zipWith (· + ·) xs ys) ∧ Ho = []) := by
  have h181 := c73 G 74 a a' c c' l l' (fun k => xs[k]?.getD 0 + ys[k]?.getD 0) T.fn74 ha ha' hlen hl (fun k hk G' hG => by
    have h1 := bigs_n hb hm hk
    have h2 := bigs_n hb' hm' (show k < l'.length by omega)
    exact c74 G' _ _ _ _ ((hb.2 k hk).up hG) ((hb'.2 k (by omega)).up hG) (by rw [Int.toNat_natCast]; omega) (by rw [Int.toNat_natCast]; omega))
  rw [hb.1, upP_zip xs ys (· + ·) (by rw [← hb.1, ← hb'.1, hlen]), ← hb.1] at h181
  refine Does.enter Tryz.func49 rfl Tryz.ntmps49 rfl (fun w => ?_)
  refine Wc.gl 10 [] ?_
  refine Wl.call 0 rfl T.fn73 rfl (h181) (tags_of trivial) (fun v1 G1 Ho1 hle1 hp => ?_)
  obtain ⟨s1, r1, d1, rfl, hA1, hl81, hB1, rfl⟩ := hp
  replace ha := ha.up hle1
  replace ha' := ha'.up hle1
  replace hb := hb.up hle1
  replace hb' := hb'.up hle1
  refine Wl.ga 7 [] ?_
  refine Ar.out2 (.inr rfl) (Ho := []) rfl (.tmp rfl) (.tmp rfl) trivial ?_
  exact ⟨_, _, _, rfl, hA1, hl81, hB1, rfl⟩
theorem c51 (G : Imm) (a a' : Option Addr) (c c' : Nat) (l l' : List IV) (xs ys : List Int) (m : Nat) (ha : Arr G a l) (ha' : Arr G a' l') (hb : Bigs G l xs) (hb' : Bigs G l' ys) (hm : Below m xs) (hm' : Below m ys) (hmm : m ≤ 268435456) (hlen : l.length = l'.length) (hl : l.length ≤ 1048576) :
    Does Tryz.prog 51 [.slice a l.length c, .slice a' l'.length c'] G [] (fun v G' Ho => ∃ (s : Option Addr) (r : List IV) (d : Nat), v = .tuple #[.slice s r.length d, .int .i64 0] ∧ Arr G' s r ∧ r.length ≤ d ∧ Bigs G' r (List.zipWith (· - ·) xs ys) ∧ Ho = []) := by
  have h181 := c73 G 75 a a' c c' l l' (fun k => xs[k]?.getD 0 - ys[k]?.getD 0) T.fn75 ha ha' hlen hl (fun k hk G' hG => by
    have h1 := bigs_n hb hm hk
    have h2 := bigs_n hb' hm' (show k < l'.length by omega)
    exact c75 G' _ _ _ _ ((hb.2 k hk).up hG) ((hb'.2 k (by omega)).up hG) (by rw [Int.toNat_natCast]; omega) (by rw [Int.toNat_natCast]; omega))
  rw [hb.1, upP_zip xs ys (· - ·) (by rw [← hb.1, ← hb'.1, hlen]), ← hb.1] at h181
  refine Does.enter Tryz.func51 rfl Tryz.ntmps51 rfl (fun w => ?_)
  refine Wc.gl 10 [] ?_
  refine Wl.call 0 rfl T.fn73 rfl (h181) (tags_of trivial) (fun v1 G1 Ho1 hle1 hp => ?_)
  obtain ⟨s1, r1, d1, rfl, hA1, hl81, hB1, rfl⟩ := hp
  replace ha := ha.up hle1
  replace ha' := ha'.up hle1
  replace hb := hb.up hle1
  replace hb' := hb'.up hle1
  refine Wl.ga 7 [] ?_
  refine Ar.out2 (.inr rfl) (Ho := []) rfl (.tmp rfl) (.tmp rfl) trivial ?_
  exact ⟨_, _, _, rfl, hA1, hl81, hB1, rfl⟩
theorem c52 (G : Imm) (a : Option Addr) (c : Nat) (l : List IV) (xs : List Int) (y : IV) (z : Int) (m : Nat) (ha : Arr G a l) (hb : Bigs G l xs) (hm : Below m xs) (hmm : m ≤ 268435456) (hl : l.length ≤ 1048576) (hy : Big G y z) (hyn : y.n ≤ 268435456) :
    Does Tryz.prog 52 [.slice a l.length c, .agg (Cells.enc y).toArray] G [] (fun v G' Ho => RowPost G' v (xs.map fun x => z * x) ∧ Ho = []) := by
  have hf : ∀ k : Nat, k < l.length → ∀ G', G.le G' → Does Tryz.prog 66 ([.agg (Cells.enc y).toArray] ++ [.agg (Cells.enc (l[((k : Nat) : Int).toNat]?.getD default)).toArray] ++ []) G' [] (fun v G'' Ho => ∃ r : IV, v = .agg (Cells.enc r).toArray ∧ Big G'' r (z * xs[k]?.getD 0) ∧ Ho = []) := fun k hk G' hG => by
    have h1 := bigs_n hb hm hk
    exact c66 G' _ _ _ _ (hy.up hG) ((hb.2 k hk).up hG) (by omega) (by rw [Int.toNat_natCast]; omega)
  have h180 := c71P G a c l 66 [.agg (Cells.enc y).toArray] (fun k => z * xs[k]?.getD 0) T.fn66 ha hl hf
  rw [hb.1, upP_map xs (fun x => z * x), ← hb.1] at h180
  refine Does.enter Tryz.func52 rfl Tryz.ntmps52 rfl (fun w => ?_)
  refine Wc.gl 2 [] ?_
  refine Wl.box 0 rfl rfl rfl (fun b1 => ?_)
  refine Wl.gl 7 [0] ?_
  refine Wl.q rfl (Qy.makeFunc rfl rfl) ?_
  refine Wl.call 1 rfl T.fn71 rfl (h180) (tags_of trivial) (fun v1 G1 Ho1 hle1 hp => ?_)
  obtain ⟨s1, r1, d1, rfl, hA1, hl81, hB1, rfl⟩ := hp
  replace ha := ha.up hle1
  replace hb := hb.up hle1
  replace hy := hy.up hle1
  refine Wl.ga 4 [] ?_
  refine Ar.out1 (.inr rfl) (Ho := []) rfl (.tmp rfl) trivial ?_
  exact ⟨⟨_, _, _, rfl, hA1, hl81, hB1⟩, rfl⟩
theorem upP_div (xs : List Int) (z : Int) : upP (fun k => xs[k]?.getD 0 / z) xs.length = xs.map (· / z) := upP_map xs (· / z)
theorem c54 (G : Imm) (a : Option Addr) (c : Nat) (l : List IV) (xs : List Int) (y : IV) (z : Int) (m : Nat) (ha : Arr G a l) (hb : Bigs G l xs) (hm : Below m xs) (hmm : m ≤ 268435456) (hl : l.length ≤ 1048576) (hy : Big G y z) (hyn : y.n ≤ 268435456) (hy0 : z ≠ 0) :
    Does Tryz.prog 54 [.slice a l.length c, .agg (Cells.enc y).toArray] G [] (fun v G' Ho => ((∀ i : Nat, i < xs.length → xs[i]?.getD 0 % z = 0) → ∃ (s : Option Addr) (r : List IV) (d : Nat), v = .tuple #[.slice s r.length d, .int .i64 0] ∧ Arr G' s r ∧ r.length ≤ d ∧ Bigs G' r (xs.map (· / z))) ∧
      (¬ (∀ i : Nat, i < xs.length → xs[i]?.getD 0 % z = 0) → v = .tuple #[.slice none 0 0, .int .i64 20]) ∧ Ho = []) := by
  have hxl := hb.1
  refine Does.enter Tryz.func54 rfl Tryz.ntmps54 rfl (fun w => ?_)
  refine Wc.nilRow 9 (Row 63 ([] : List IV) []) ?_
  have hz0 : ¬ sgZ z = 0 := fun h => hy0 (sgZ_zero.1 h)
  refine Wc.gl 2 [] ?_
  refine Wl.box 10 rfl rfl rfl (fun b1 => ?_)
  refine Wl.gl 8 [10] ?_
  refine Wl.call0 rfl T.fn76 rfl (big_sign _ y z hy (Nat.le_trans hyn (by decide))) ?_
  refine Wl.gc 20 [0] ?_
  refine Wc.loopG (ι := Nat × Imm × List IV × (Option Addr × Nat × List Value)) (fun (k, Gx, r, (o, d, j)) => ([(17, .int .i64 (k : Int)), (6, .slice o r.length d), (16, Go.Value.int Go.IntKind.i64 (↑(List.length l) : Int)), (15, Go.Value.slice a (List.length l) c), (3, Go.Value.pointer (Option.some (Go.Addr.mk b1 0 Option.none)))], [(9, o.map (·.block), Row 63 r j), (10, Option.some b1, Go.Obj.cells (List.toArray (Go.Sl.Cells.enc y)) 63)])) (fun (k, Gx, r, (o, d, j)) => Gx) (fun (k, Gx, r, (o, d, j)) => k ≤ l.length ∧ G.le Gx ∧ r.length = k ∧ Bigs Gx r (upP (fun k => xs[k]?.getD 0 / z) k) ∧ OwnA o d r j ∧ (∀ i : Nat, i < k → xs[i]?.getD 0 % z = 0)) (fun (k, Gx, r, (o, d, j)) => l.length - k) ((0, G, [], (none, 0, []))) (⟨Nat.zero_le _, Imm.le_refl _, rfl, ⟨rfl, fun i h => absurd h (by simp)⟩, OwnA.nil, fun i h => absurd h (by omega)⟩) rfl ⟨rfl, rfl, rfl, rfl, rfl, trivial⟩ ⟨rfl, rfl, trivial⟩ (fun ⟨k, Gx, r, (o, d, j)⟩ => fun (hk : k ≤ l.length ∧ G.le Gx ∧ r.length = k ∧ Bigs Gx r (upP (fun k => xs[k]?.getD 0 / z) k) ∧ OwnA o d r j ∧ (∀ i : Nat, i < k → xs[i]?.getD 0 % z = 0)) => ?_)
  obtain ⟨hk1, hk2, hk3, hk4, hk5, hk6⟩ := hk
  replace ha := ha.up hk2
  replace hb := hb.up hk2
  replace hy := hy.up hk2
  rcases Nat.lt_or_ge k l.length with hkl | hkl
  · have hx := hb.2 k hkl
    have hxn : (l[((k : Nat) : Int).toNat]?.getD default).n ≤ 268435456 := by rw [Int.toNat_natCast]; exact Nat.le_trans (bigs_n hb hm hkl) hmm
    have hx : Big Gx (l[((k : Nat) : Int).toNat]?.getD default) (xs[k]?.getD 0) := by rw [Int.toNat_natCast]; exact hx
    have hlt : ((xs[k]?.getD 0 % z).natAbs : Int) < pb y.n := by
      have e2 := emod_small (x := xs[k]?.getD 0) hy0
      have e3 := Big.lt hy
      omega
    refine Wc.gl 13 [1] ?_
    refine Wl.q rfl (Qy.at (α := IV) T.sl36 rfl rfl (by assumption) (by omega)) ?_
    refine Wl.q rfl (Qy.loadsG T.agg63 rfl (Arr.elem (by assumption) (by omega)) rfl) ?_
    refine Wl.alloc 11 rfl T.zero63 (fun b2 => ?_)
    refine Wl.gl 7 [11, 11, 10] ?_
    refine Wl.call 12 rfl T.fn77 rfl (c77 _ _ _ _ _ hx hy hxn hyn hy0) (tags_of trivial) (fun v1 G1 Ho1 hle1 hp => ?_)
    obtain ⟨q1, r1, rfl, hq1, hr1, rfl⟩ := hp
    replace hk4 := hk4.up hle1
    replace ha := ha.up hle1
    replace hb := hb.up hle1
    replace hy := hy.up hle1
    replace hx := hx.up hle1
    refine Wl.ll0 4 [] ?_
    refine Wl.alloc 12 rfl T.zero63 (fun b3 => ?_)
    refine Wl.alloc 13 rfl T.zero63 (fun b4 => ?_)
    refine Wl.gl 9 [12, 13, 13] ?_
    refine Wl.call0 rfl T.fn76 rfl (big_sign _ r1 (xs[k]?.getD 0 % z) hr1 (Nat.le_trans (Big.len hr1 hlt) (Nat.le_trans hyn (by decide)))) ?_
    refine Wl.gc 3 [] ?_
    refine Wc.cond rfl (fun hc1 => ?_) (fun hc1 => ?_)
    refine Wc.ga 13 [] ?_
    rotate_left
    refine Wc.gl 5 [12] ?_
    refine Wl.lit (α := IV) 14 [(q1)] rfl T.sl36 T.el63 rfl rfl rfl rfl rfl (fun b5 => ?_)
    refine Wl.append (α := IV) 9 rfl T.sl36 T.el63 rfl rfl rfl (by first | assumption | exact OwnA.nil | exact OwnA.made (by simp)) (Src.row 14 rfl) (by first | omega | (simp only [List.length_append, List.length_cons, List.length_nil, maxLen]; omega)) (by first | omega | (simp only [List.length_append, List.length_cons, List.length_nil, maxLen]; omega)) (fun a1 c1 junk1 ho1 => ?_)
    refine Wl.ga 8 [] ?_
    rotate_left
    · refine Ar.out2 (.inr rfl) (Ho := []) rfl (.tmp rfl) (.tmp rfl) trivial ?_
      have hno : ¬ (∀ i : Nat, i < xs.length → xs[i]?.getD 0 % z = 0) := fun h => hc1 (sgZ_zero.2 (h k (by omega)))
      exact ⟨fun h => absurd h hno, fun _ => rfl, rfl⟩
    · have hdz : xs[k]?.getD 0 % z = 0 := sgZ_zero.1 (Classical.byContradiction fun h => hc1 h)
      refine Ar.re 17 rfl (show _ = Value.int .i64 ((k + 1 : Nat) : Int) from rfl) ?_
      refine Ar.again ((k + 1, _, r ++ [q1], (a1, c1, junk1))) ?_ ?_ rfl ⟨rfl, rfl, rfl, rfl, rfl, trivial⟩ ⟨rfl, rfl, trivial⟩
      · refine ⟨hkl, Imm.le_trans hk2 hle1, by rw [List.length_append, hk3]; rfl, ?_, ho1, fun i hi => ?_⟩
        · rw [upP_succ]; exact bigs_snoc hk4 hq1
        · rcases Nat.lt_or_ge i k with h | h
          · exact hk6 i h
          · have e : i = k := by omega
            rw [e]; exact hdz
      · show l.length - (k + 1) < l.length - k
        omega
  · have hkl : k = l.length := by omega
    subst hkl
    refine Wc.ga 20 [0] ?_
    refine Ar.freezeRow 9 rfl hk5 (fun G8 hle8 hA8 => ?_)
    refine Ar.out2 (.inr rfl) (Ho := []) rfl (.tmp rfl) (.tmp rfl) trivial ?_
    rw [hxl] at hk6
    refine ⟨fun _ => ⟨o, r, d, rfl, hA8, hk5.le, ?_⟩, fun h => absurd hk6 h, rfl⟩
    rw [← upP_div, ← hxl]; exact hk4.up hle8
theorem c48 (G : Imm) (a a' : Option Addr) (c c' : Nat) (l l' : List IV) (xs ys : List Int) (m : Nat) (ha : Arr G a l) (ha' : Arr G a' l') (hb : Bigs G l xs) (hb' : Bigs G l' ys) (hm : Below m xs) (hm' : Below m ys) (hmm : m ≤ 268435456) (hlen : l.length = l'.length) (hl : l.length ≤ 1048576) :
    Does Tryz.prog 48 [.slice a l.length c, .slice a' l'.length c'] G [] (fun v G' Ho => RowPost G' v (List.zipWith (· + ·) xs ys) ∧ Ho = []) := by
  refine Does.enter Tryz.func48 rfl Tryz.ntmps48 rfl (fun w => ?_)
  refine Wc.gl 9 [] ?_
  refine Wl.call 0 rfl T.fn49 rfl (c49 _ a a' c c' l l' xs ys m ha ha' hb hb' hm hm' hmm hlen hl) (tags_of trivial) (fun v1 G1 Ho1 hle1 hp => ?_)
  obtain ⟨s1, r1, d1, rfl, hA1, hl81, hB1, rfl⟩ := hp
  replace ha := ha.up hle1
  replace ha' := ha'.up hle1
  replace hb := hb.up hle1
  replace hb' := hb'.up hle1
  refine Wl.ga 14 [] ?_
  refine Ar.out1 (.inr rfl) (Ho := []) rfl (.tmp rfl) trivial ?_
  exact ⟨⟨_, _, _, rfl, hA1, hl81, hB1⟩, rfl⟩
theorem c50 (G : Imm) (a a' : Option Addr) (c c' : Nat) (l l' : List IV) (xs ys : List Int) (m : Nat) (ha : Arr G a l) (ha' : Arr G a' l') (hb : Bigs G l xs) (hb' : Bigs G l' ys) (hm : Below m xs) (hm' : Below m ys) (hmm : m ≤ 268435456) (hlen : l.length = l'.length) (hl : l.length ≤ 1048576) :
    Does Tryz.prog 50 [.slice a l.length c, .slice a' l'.length c'] G [] (fun v G' Ho => RowPost G' v (List.zipWith (· - ·) xs ys) ∧ Ho = []) := by
  refine Does.enter Tryz.func50 rfl Tryz.ntmps50 rfl (fun w => ?_)
  refine Wc.gl 9 [] ?_
  refine Wl.call 0 rfl T.fn51 rfl (c51 _ a a' c c' l l' xs ys m ha ha' hb hb' hm hm' hmm hlen hl) (tags_of trivial) (fun v1 G1 Ho1 hle1 hp => ?_)
  obtain ⟨s1, r1, d1, rfl, hA1, hl81, hB1, rfl⟩ := hp
  replace ha := ha.up hle1
  replace ha' := ha'.up hle1
  replace hb := hb.up hle1
  replace hb' := hb'.up hle1
  refine Wl.ga 14 [] ?_
  refine Ar.out1 (.inr rfl) (Ho := []) rfl (.tmp rfl) trivial ?_
  exact ⟨⟨_, _, _, rfl, hA1, hl81, hB1⟩, rfl⟩
/-- rows divided: a row, and whether it is one -/
theorem c53 (G : Imm) (a : Option Addr) (c : Nat) (l : List IV) (xs : List Int) (y : IV) (z : Int) (m : Nat) (ha : Arr G a l) (hb : Bigs G l xs) (hm : Below m xs) (hmm : m ≤ 268435456) (hl : l.length ≤ 1048576) (hy : Big G y z) (hyn : y.n ≤ 268435456) (hy0 : z ≠ 0) :
    Does Tryz.prog 53 [.slice a l.length c, .agg (Cells.enc y).toArray] G [] (fun v G' Ho => ((∀ i : Nat, i < xs.length → xs[i]?.getD 0 % z = 0) → ∃ (s : Option Addr) (r : List IV) (d : Nat), v = .tuple #[.slice s r.length d, .bool true] ∧ Arr G' s r ∧ r.length ≤ d ∧ Bigs G' r (xs.map (· / z))) ∧
      (¬ (∀ i : Nat, i < xs.length → xs[i]?.getD 0 % z = 0) → v = .tuple #[.slice none 0 0, .bool false]) ∧ Ho = []) := by
  have h := c54 G a c l xs y z m ha hb hm hmm hl hy hyn hy0
  by_cases hd : ∀ i : Nat, i < xs.length → xs[i]?.getD 0 % z = 0
  · have h1 := h.mono fun v G' Ho _ ⟨p1, p2, p3⟩ => (⟨p1 hd, p3⟩ : (∃ (s : Option Addr) (r : List IV) (d : Nat), v = Value.tuple #[.slice s r.length d, .int .i64 0] ∧ Arr G' s r ∧ r.length ≤ d ∧ Bigs G' r (xs.map (· / z))) ∧ Ho = [])
    refine Does.enter Tryz.func53 rfl Tryz.ntmps53 rfl (fun w => ?_)
    refine Wc.gl 2 [] ?_
    refine Wl.box 0 rfl rfl rfl (fun b1 => ?_)
    refine Wl.gl 8 [0] ?_
    refine Wl.call 1 rfl T.fn54 rfl (h1) (tags_of trivial) (fun v1 G1 Ho1 hle1 hp => ?_)
    obtain ⟨⟨s1, r1, d1, rfl, hA1, hl81, hB1⟩, rfl⟩ := hp
    replace ha := ha.up hle1
    replace hb := hb.up hle1
    replace hy := hy.up hle1
    refine Wl.ga 17 [] ?_
    refine Ar.out2 (.inr rfl) (Ho := []) rfl (.tmp rfl) (.tmp rfl) trivial ?_
    exact ⟨fun _ => ⟨_, _, _, rfl, hA1, hl81, hB1⟩, fun h => absurd hd h, rfl⟩
  · have h1 := h.mono fun v G' Ho _ ⟨p1, p2, p3⟩ => (⟨p2 hd, p3⟩ : v = Value.tuple #[.slice none 0 0, .int .i64 20] ∧ Ho = [])
    refine Does.enter Tryz.func53 rfl Tryz.ntmps53 rfl (fun w => ?_)
    refine Wc.gl 2 [] ?_
    refine Wl.box 0 rfl rfl rfl (fun b1 => ?_)
    refine Wl.gl 8 [0] ?_
    refine Wl.call 1 rfl T.fn54 rfl (h1) (tags_of trivial) (fun v1 G1 Ho1 hle1 hp => ?_)
    obtain ⟨rfl, rfl⟩ := hp
    replace ha := ha.up hle1
    replace hb := hb.up hle1
    replace hy := hy.up hle1
    refine Wl.ga 17 [] ?_
    refine Ar.out2 (.inr rfl) (Ho := []) rfl (.tmp rfl) (.tmp rfl) trivial ?_
    exact ⟨fun h => absurd h hd, fun _ => rfl, rfl⟩
def waysR : Value := .agg #[.func (.func 47) #[] #[], .func (.func 48) #[] #[], .func (.func 50) #[] #[], .func (.func 52) #[] #[], .func (.func 53) #[] #[]]
theorem c26 (G : Imm) : Does Tryz.prog 26 [] G [] (fun v G' Ho => v = waysR ∧ G' = G ∧ Ho = []) := by
  refine Does.enter Tryz.func26 rfl Tryz.ntmps26 rfl (fun w => ?_)
  refine Wc.gl 2 [] ?_
  refine Wl.alloc 0 rfl T.zero73 (fun b1 => ?_)
  refine Wl.gl 4 [] ?_
  refine Wl.q rfl (Qy.build (cs := [_, _, _, _, _]) T.st73 rfl rfl rfl) ?_
  refine Wl.ga 4 [0] ?_
  refine Ar.out1 (.inr rfl) (Ho := []) rfl (.agg 0 rfl rfl T.agg73) trivial ?_
  exact ⟨rfl, rfl, rfl⟩
end Go.Proofs.YtbppmiimeccclaaGreatDoor
namespace Go.Proofs.YtbppmiimeccclaaGreatDoor
open Go Go.Sl
set_option maxRecDepth 100000
set_option maxHeartbeats 2000000
theorem right_facts {p : PV} (h : rightP p = true) : 1 ≤ p.ins ∧ p.ins ≤ p.regs ∧ p.regs ≤ 128 ∧ p.code.length ≤ 16384 ∧ 1 ≤ p.outs.length ∧ p.outs.length ≤ 128 ∧ (∀ r ∈ p.outs, 0 ≤ r ∧ r < p.regs) ∧ (∀ i ∈ p.code, mayOk i p.regs = true) := by
  unfold rightP checkP at h
  by_cases hh : headOk p = false
  · rw [if_pos hh] at h; cases h
  · rw [if_neg hh] at h
    have hb : badAt p = none := by
      cases hb : badAt p with
      | none => rfl
      | some k => rw [hb] at h; cases h
    have hh' : headOk p = true := by simpa using hh
    unfold headOk at hh'
    rw [Bool.and_eq_true, decide_eq_true_eq, List.all_eq_true] at hh'
    unfold badAt at hb
    rw [List.findIdx?_eq_none_iff] at hb
    obtain ⟨⟨g1, g2, g3, g4, g5, g6⟩, g7⟩ := hh'
    refine ⟨g1, g2, g3, g4, g5, g6, fun r hr => ?_, fun i hi => ?_⟩
    · have := g7 r hr; rw [decide_eq_true_eq] at this; exact this
    · simpa using hb i hi
section
variable {t : Tab} {out : List Sl.Instr} {n : Int} {i : Sl.Instr}
end
end Go.Proofs.YtbppmiimeccclaaGreatDoor
namespace Go.Proofs.YtbppmiimeccclaaGreatDoor
open Go Go.Sl
set_option linter.unusedVariables false
theorem get_mem {l : List Int} {r : Int} (h : 0 ≤ r ∧ r < l.length) : l[r.toNat]?.getD default ∈ l := by
  have hlt : r.toNat < l.length := by omega
  rw [List.getElem?_eq_getElem hlt]; exact List.getElem_mem hlt
end Go.Proofs.YtbppmiimeccclaaGreatDoor
set_option linter.unusedVariables false
namespace Go.Proofs.YtbppmiimeccclaaGreatDoor
open Go Go.Sl
def AllDiv (y : Int) (xs : List Int) : Prop := ∀ i : Nat, i < xs.length → xs[i]?.getD 0 % y = 0
instance (y : Int) (xs : List Int) : Decidable (AllDiv y xs) := by unfold AllDiv; infer_instance
/-- one instruction over all columns -/
def doI (i : Sl.Instr) (rs : List (List Int)) : Option (List Int) :=
  let a := rs[i.a.toNat]?.getD []
  if i.op = 2 then some (a.map (fun x => -1 * x))
  else if i.op = 3 then some (List.zipWith (fun x y => x + 1 * y) a (rs[i.b.toNat]?.getD []))
  else if i.op = 4 then some (List.zipWith (fun x y => x + (-1) * y) a (rs[i.b.toNat]?.getD []))
  else if i.op = 5 ∨ i.op = 7 then some (a.map (fun x => cst i * x))
  else if i.op = 6 ∨ i.op = 8 then (if AllDiv (cst i) a then some (a.map (· / cst i)) else none)
  else some a
/-- the registers at first -/
def regs0 (p : PV) (gs : List (List Int)) : List (List Int) := (List.range p.regs.toNat).map fun k => if k < gs.length then gs[k]?.getD [] else List.replicate (gs[0]?.getD []).length 0
/-- the registers after k instructions -/
def runTo (p : PV) (gs : List (List Int)) : Nat → Option (List (List Int))
  | 0 => some (regs0 p gs)
  | k + 1 => (runTo p gs k).bind fun rs => (doI (p.code[((k : Nat) : Int).toNat]?.getD default) rs).map fun x => rs.set (p.code[((k : Nat) : Int).toNat]?.getD default).to.toNat x
/-- the answers' rows -/
def outsOf (p : PV) (rs : List (List Int)) : List (List Int) := p.outs.map fun r => rs[r.toNat]?.getD []
def followP (p : PV) (gs : List (List Int)) : Option (List (List Int)) := (runTo p gs p.code.length).map (outsOf p)
theorem runTo_succ {p : PV} {gs : List (List Int)} {k : Nat} {rs x : List (List Int)} {y : List Int} (h : runTo p gs k = some rs) (hd : doI (p.code[((k : Nat) : Int).toNat]?.getD default) rs = some y) :
    runTo p gs (k + 1) = some (rs.set (p.code[((k : Nat) : Int).toNat]?.getD default).to.toNat y) := by
  unfold runTo; rw [h]; simp only [Option.bind_some, hd, Option.map_some]
theorem runTo_none {p : PV} {gs : List (List Int)} {k : Nat} (h : runTo p gs k = none) (j : Nat) : runTo p gs (k + j) = none := by
  induction j with
  | zero => exact h
  | succ j ih => rw [← Nat.add_assoc]; unfold runTo; rw [ih]; rfl
theorem runTo_stop {p : PV} {gs : List (List Int)} {k : Nat} {rs : List (List Int)} (h : runTo p gs k = some rs) (hd : doI (p.code[((k : Nat) : Int).toNat]?.getD default) rs = none) (hk : k < p.code.length) : followP p gs = none := by
  have h1 : runTo p gs (k + 1) = none := by unfold runTo; rw [h]; simp only [Option.bind_some, hd, Option.map_none]
  have h2 := runTo_none h1 (p.code.length - (k + 1))
  rw [show k + 1 + (p.code.length - (k + 1)) = p.code.length by omega] at h2
  unfold followP; rw [h2]; rfl
theorem p2_64_lt : ∀ c : Nat, c ≤ 64 → ((p2 c).natAbs : Int) < pw 5 := fun c hc => by
  have h1 := p2_le hc
  have h2 := p2_pos c
  have h3 : p2 64 < pw 5 := by unfold p2 pw; decide
  omega
theorem may_facts {i : Sl.Instr} {regs : Int} (h : mayOk i regs = true) : (1 ≤ i.op ∧ i.op ≤ 8) ∧ (0 ≤ i.to ∧ i.to < regs) ∧ (0 ≤ i.a ∧ i.a < regs) ∧ (i.op = 3 ∨ i.op = 4 → 0 ≤ i.b ∧ i.b < regs) ∧ constOk i.op i.c = true ∧
    (i.op ≠ 1 → i.op ≠ 2 → i.op ≠ 3 → i.op ≠ 4 → cst i ≠ 0 ∧ ((cst i).natAbs : Int) < pw 5) ∧ (i.op = 5 ∨ i.op = 6 → -9223372036854775808 ≤ i.c ∧ i.c ≤ 9223372036854775807) ∧ (¬ (i.op = 5 ∨ i.op = 6) → 0 ≤ i.c ∧ i.c ≤ 64) := by
  unfold mayOk at h
  rw [Bool.and_eq_true, Bool.and_eq_true, decide_eq_true_eq, List.all_eq_true] at h
  obtain ⟨⟨⟨g1, g2, g3, g4, g5⟩, g6⟩, g7⟩ := h
  have hA : ∀ r ∈ asks i, 0 ≤ r ∧ r < regs := fun r hr => by have := g7 r hr; rwa [decide_eq_true_eq] at this
  have ha : i.a ∈ asks i := by
    unfold asks
    split
    · exact List.mem_cons_self
    · rw [if_pos ⟨g1, g2⟩]; exact List.mem_cons_self
  have hc := g6
  unfold constOk at g6
  have k1 : i.op = 5 ∨ i.op = 6 → i.c ≠ 0 ∧ -512 ≤ i.c ∧ i.c ≤ 512 := fun h => by rw [if_pos h, decide_eq_true_eq] at g6; exact g6
  have k2 : ¬ (i.op = 5 ∨ i.op = 6) → (i.op = 7 ∨ i.op = 8 → 1 ≤ i.c ∧ i.c ≤ 64) ∧ (¬ (i.op = 7 ∨ i.op = 8) → i.c = 0) := fun h => by
    rw [if_neg h] at g6
    refine ⟨fun h2 => ?_, fun h2 => ?_⟩
    · rw [if_pos h2, decide_eq_true_eq] at g6; exact g6
    · rw [if_neg h2, decide_eq_true_eq] at g6; exact g6
  refine ⟨⟨g1, g2⟩, ⟨g3, g4⟩, hA _ ha, fun h34 => hA _ (by unfold asks; rw [if_pos h34]; exact List.mem_cons_of_mem _ List.mem_cons_self), hc, fun n1 n2 n3 n4 => ?_, fun h56 => by have := k1 h56; omega, fun h56 => ?_⟩
  · by_cases h56 : i.op = 5 ∨ i.op = 6
    · rw [cst_c h56]
      have := k1 h56
      have h3 : (65536 : Int) < pw 5 := by unfold pw; decide
      exact ⟨this.1, by omega⟩
    · rw [cst_p h56]
      have h2 := (k2 h56).1 (by omega)
      have := p2_pos i.c.toNat
      exact ⟨by omega, p2_64_lt _ (by omega)⟩
  · by_cases h78 : i.op = 7 ∨ i.op = 8
    · have := (k2 h56).1 h78; omega
    · have := (k2 h56).2 h78; omega
theorem regs0_len (p : PV) (gs : List (List Int)) : (regs0 p gs).length = p.regs.toNat := by unfold regs0; rw [List.length_map, List.length_range]
theorem regs0_at {p : PV} {gs : List (List Int)} {k : Nat} (hk : k < p.regs.toNat) : (regs0 p gs)[k]?.getD [] = if k < gs.length then gs[k]?.getD [] else List.replicate (gs[0]?.getD []).length 0 := by
  unfold regs0
  rw [List.getElem?_map, List.getElem?_range hk]; rfl
end Go.Proofs.YtbppmiimeccclaaGreatDoor
set_option maxRecDepth 100000
set_option linter.unusedVariables false
namespace Go.Proofs.YtbppmiimeccclaaGreatDoor
open Go Go.Sl
def near (a b : Int) : Prop := -16 ≤ a ∧ a ≤ 16 ∧ -16 ≤ b ∧ b ≤ 16
instance (a b : Int) : Decidable (near a b) := inferInstanceAs (Decidable (_ ∧ _))
def normG (a b : Int) : Int := if b < 0 ∨ (b = 0 ∧ a < 0) then -(Int.gcd a b : Int) else (Int.gcd a b : Int)
def nrm (a b : Int) : Int × Int := if a = 0 ∧ b = 0 then (a, b) else (a.tdiv (normG a b), b.tdiv (normG a b))
def same (a b c d : Int) : Prop := nrm a b = nrm c d
instance (a b c d : Int) : Decidable (same a b c d) := inferInstanceAs (Decidable (_ = _))
end Go.Proofs.YtbppmiimeccclaaGreatDoor
set_option maxRecDepth 100000
set_option linter.unusedVariables false
namespace Go.Proofs.YtbppmiimeccclaaGreatDoor
open Go Go.Sl
instance (a b c d : Int) : Decidable (if (a = 0 ∧ b = 0) ∨ (c = 0 ∧ d = 0) then (a = 0 ∧ b = 0) ∧ (c = 0 ∧ d = 0) else a * d - c * b = 0) := by split <;> infer_instance
def oneR (a b c d : Int) : Prop := if (a = 0 ∧ b = 0) ∨ (c = 0 ∧ d = 0) then (a = 0 ∧ b = 0) ∧ (c = 0 ∧ d = 0) else a * d - c * b = 0
instance (a b c d : Int) : Decidable (oneR a b c d) := inferInstanceAs (Decidable (if (a = 0 ∧ b = 0) ∨ (c = 0 ∧ d = 0) then (a = 0 ∧ b = 0) ∧ (c = 0 ∧ d = 0) else a * d - c * b = 0))
end Go.Proofs.YtbppmiimeccclaaGreatDoor
set_option maxRecDepth 100000
set_option linter.unusedVariables false
namespace Go.Proofs.YtbppmiimeccclaaGreatDoor
open Go Go.Sl
set_option maxHeartbeats 4000000
attribute [local irreducible] valB pb cmpZ lstWp p2
/-- a row of big numbers, by its slice -/
def BRow (G : Imm) (s : SV) (zs : List Int) : Prop := ∃ l : List IV, l.length = s.n ∧ s.n ≤ s.c ∧ Arr G s.a l ∧ Bigs G l zs
theorem BRow.up {G G' : Imm} {s : SV} {zs : List Int} (h : BRow G s zs) (hl : G.le G') : BRow G' s zs := by
  obtain ⟨l, h1, h2, h3, h4⟩ := h
  exact ⟨l, h1, h2, h3.up hl, h4.up hl⟩
def BGrid (G : Imm) (l : List SV) (rs : List (List Int)) : Prop := l.length = rs.length ∧ ∀ i : Nat, i < l.length → BRow G (l[i]?.getD default) (rs[i]?.getD [])
theorem BGrid.up {G G' : Imm} {l : List SV} {rs : List (List Int)} (h : BGrid G l rs) (hl : G.le G') : BGrid G' l rs := ⟨h.1, fun i hi => (h.2 i hi).up hl⟩
theorem BGrid.nil (G : Imm) : BGrid G [] [] := ⟨rfl, fun i hi => by simp at hi⟩
theorem BGrid.snoc {G : Imm} {l : List SV} {rs : List (List Int)} (h : BGrid G l rs) {s : SV} {zs : List Int} (hs : BRow G s zs) : BGrid G (l ++ [s]) (rs ++ [zs]) := by
  refine ⟨by rw [List.length_append, List.length_append, h.1]; rfl, fun i hi => ?_⟩
  rw [List.length_append, List.length_singleton] at hi
  rcases Nat.lt_or_ge i l.length with h1 | h1
  · rw [List.getElem?_append_left h1, List.getElem?_append_left (by rw [← h.1]; exact h1)]; exact h.2 i h1
  · have : i = l.length := by omega
    subst this
    rw [List.getElem?_append_right (Nat.le_refl _), List.getElem?_append_right (by rw [h.1]; exact Nat.le_refl _), Nat.sub_self, h.1, Nat.sub_self]
    exact hs
end Go.Proofs.YtbppmiimeccclaaGreatDoor
set_option maxRecDepth 100000
set_option linter.unusedVariables false
namespace Go.Proofs.YtbppmiimeccclaaGreatDoor
open Go Go.Sl
set_option maxHeartbeats 4000000
attribute [local irreducible] valB pb cmpZ lstWp p2 cst
/-- rows of one length, of numbers below a bound -/
def EvenB (m N : Nat) (rs : List (List Int)) : Prop := ∀ zs ∈ rs, zs.length = N ∧ Below m zs
theorem EvenB.at {m N : Nat} {rs : List (List Int)} (h : EvenB m N rs) {k : Nat} (hk : k < rs.length) : (rs[k]?.getD []).length = N ∧ Below m (rs[k]?.getD []) := by
  rw [List.getElem?_eq_getElem hk]; exact h _ (List.getElem_mem hk)
/-- what 'do' answers of rows -/
def DoRPost (i : Sl.Instr) (rs : List (List Int)) (H0 : Hp) (v : Value) (G' : Imm) (Ho : Hp) : Prop :=
  ∃ s : SV, v = .tuple #[.slice s.a s.n s.c, .bool (decide (doI i rs ≠ none))] ∧ (∀ z, doI i rs = some z → BRow G' s z) ∧ Ho = H0
theorem doR_some {i : Sl.Instr} {rs : List (List Int)} {H0 : Hp} {s : SV} {G' : Imm} {z : List Int} (h : doI i rs = some z) (hx : BRow G' s z) : DoRPost i rs H0 (.tuple #[.slice s.a s.n s.c, .bool true]) G' H0 :=
  ⟨s, by rw [decide_eq_true (show doI i rs ≠ none from fun e => by rw [e] at h; cases h)], fun z' h' => by rw [h] at h'; cases h'; exact hx, rfl⟩
theorem doR_none {i : Sl.Instr} {rs : List (List Int)} {H0 : Hp} {G' : Imm} (h : doI i rs = none) : DoRPost i rs H0 (.tuple #[.slice none 0 0, .bool false]) G' H0 :=
  ⟨⟨none, 0, 0⟩, by rw [decide_eq_false (show ¬ doI i rs ≠ none from fun e => e h)], (fun z hz => by rw [h] at hz; cases hz), rfl⟩
theorem brow_post {G : Imm} {s : Option Addr} {r : List IV} {d : Nat} {zs : List Int} (hA : Arr G s r) (hd : r.length ≤ d) (hB : Bigs G r zs) : BRow G ⟨s, r.length, d⟩ zs := ⟨r, rfl, hd, hA, hB⟩
theorem neg_rows (xs : List Int) : (xs.map fun x => -1 * x) = xs.map fun x => -x := by
  congr 1; funext x; rw [Int.neg_mul, Int.one_mul]
theorem add_rows (xs ys : List Int) : List.zipWith (fun x y => x + 1 * y) xs ys = List.zipWith (· + ·) xs ys := by
  congr 1; funext x y; rw [Int.one_mul]
theorem sub_rows (xs ys : List Int) : List.zipWith (fun x y => x + (-1) * y) xs ys = List.zipWith (· - ·) xs ys := by
  congr 1; funext x y; rw [Int.neg_mul, Int.one_mul]; rfl
theorem c46 (G : Imm) (i : Sl.Instr) (o : Option Addr) (d : Nat) (r : List SV) (j : List Value) (rs : List (List Int)) (m N : Nat) (hob : OwnA o d r j) (hg : BGrid G r rs) (hm : EvenB m N rs) (hN : N ≤ 1048576) (hm2 : m ≤ 268435456)
    (hop : 1 ≤ i.op ∧ i.op ≤ 8) (ha : 0 ≤ i.a ∧ i.a < r.length) (hb : 0 ≤ i.b ∧ i.b < r.length)
    (hcst : i.op ≠ 1 → i.op ≠ 2 → i.op ≠ 3 → i.op ≠ 4 → cst i ≠ 0 ∧ ((cst i).natAbs : Int) < pb 3)
    (hc1 : i.op = 5 ∨ i.op = 6 → -9223372036854775808 ≤ i.c ∧ i.c ≤ 9223372036854775807) (hc2 : ¬ (i.op = 5 ∨ i.op = 6) → 0 ≤ i.c ∧ i.c ≤ 64) :
    Does Tryz.prog 46 [waysR, .slice o r.length d, .agg (Cells.enc i).toArray] G [(0, o.map (·.block), Row 36 r j)] (fun v G' Ho => DoRPost i rs [(0, o.map (·.block), Row 36 r j)] v G' Ho) := by
  have hca := hob.le
  obtain ⟨la, a1, a2, a3, a4⟩ := hg.2 i.a.toNat (by omega)
  obtain ⟨lb, b1, b2, b3, b4⟩ := hg.2 i.b.toNat (by omega)
  have hrl := hg.1
  obtain ⟨na, ma⟩ := hm.at (k := i.a.toNat) (by omega)
  obtain ⟨nb, mb⟩ := hm.at (k := i.b.toNat) (by omega)
  have hla : la.length ≤ 1048576 := by rw [a4.1, na]; exact hN
  have hlab : la.length = lb.length := by rw [a4.1, b4.1, na, nb]
  refine Does.enter Tryz.func46 rfl Tryz.ntmps46 rfl (fun w => ?_)
  have h118 := c47 G _ (r[i.a.toNat]?.getD default).c la _ m a3 a4 ma hm2 hla
  have h119 := c48 G _ _ (r[i.a.toNat]?.getD default).c (r[i.b.toNat]?.getD default).c la lb _ _ m a3 b3 a4 b4 ma mb hm2 hlab hla
  have h121 := c50 G _ _ (r[i.a.toNat]?.getD default).c (r[i.b.toNat]?.getD default).c la lb _ _ m a3 b3 a4 b4 ma mb hm2 hlab hla
  rw [a1] at h118
  rw [a1, b1] at h119 h121
  have h123 : ∀ G1 y z, G.le G1 → Big G1 y z → y.n ≤ 268435456 → Does Tryz.prog 52 [.slice (r[i.a.toNat]?.getD default).a (r[i.a.toNat]?.getD default).n (r[i.a.toNat]?.getD default).c, .agg (Cells.enc y).toArray] G1 [] (fun v G' Ho => RowPost G' v ((rs[i.a.toNat]?.getD []).map fun x => z * x) ∧ Ho = []) := fun G1 y z hG hy hyn => by
    have h := c52 G1 _ (r[i.a.toNat]?.getD default).c la _ y z m (a3.up hG) (a4.up hG) ma hm2 hla hy hyn
    rw [a1] at h; exact h
  have h124 : ∀ G1 y z, G.le G1 → Big G1 y z → y.n ≤ 268435456 → z ≠ 0 → Does Tryz.prog 53 [.slice (r[i.a.toNat]?.getD default).a (r[i.a.toNat]?.getD default).n (r[i.a.toNat]?.getD default).c, .agg (Cells.enc y).toArray] G1 [] (fun v G' Ho => (AllDiv z (rs[i.a.toNat]?.getD []) → ∃ (s : Option Addr) (r' : List IV) (d : Nat), v = .tuple #[.slice s r'.length d, .bool true] ∧ Arr G' s r' ∧ r'.length ≤ d ∧ Bigs G' r' ((rs[i.a.toNat]?.getD []).map (· / z))) ∧
      (¬ AllDiv z (rs[i.a.toNat]?.getD []) → v = .tuple #[.slice none 0 0, .bool false]) ∧ Ho = []) := fun G1 y z hG hy hyn hz => by
    have h := c53 G1 _ (r[i.a.toNat]?.getD default).c la _ y z m (a3.up hG) (a4.up hG) ma hm2 hla hy hyn hz
    rw [a1] at h; exact h
  by_cases h2 : i.op = 2
  · refine Wc.gl 2 [] ?_
    refine Wl.box 1 rfl rfl rfl (fun b5 => ?_)
    refine Wl.box 2 rfl rfl rfl (fun b6 => ?_)
    refine Wl.gc 5 [] ?_
    refine Wc.draw [0, 1, 2] [] T.mixed rfl ?_
    refine Gm.c 0 [] [] ?_
    refine Gm.c 1 [] [] ?_
    refine Gm.c 2 [2] [2] ?_
    refine Gm.u 3 [] rfl (Qy.indexAddrO (α := SV) T.sl34 rfl rfl (by assumption) (by omega)) ?_
    refine Gm.u 4 [0] rfl (Qy.loadO 0 0 T.one36 rfl rfl (by assumption) (by omega) rfl rfl) ?_
    refine Gm.c 5 [] [] ?_
    refine Gm.c 6 [] [] ?_
    refine Gm.c 7 [2] [2] ?_
    refine Gm.u 8 [] rfl (Qy.indexAddrO (α := SV) T.sl34 rfl rfl (by assumption) (by omega)) ?_
    refine Gm.u 9 [0] rfl (Qy.loadO 0 0 T.one36 rfl rfl (by assumption) (by omega) rfl rfl) ?_
    refine Gm.c 10 [] [] ?_
    refine Gm.c 11 [] [] ?_
    refine Gm.fin ?_
    refine Ar.gl 21 [2, 1, 1] ?_
    refine Wl.callV (fst := []) (cap := []) 3 rfl T.fn47 rfl rfl (h118) (tags_of trivial) (fun v1 G1 Ho1 hle1 hp => ?_)
    obtain ⟨⟨s1, r1, d1, rfl, hA1, hl81, hB1⟩, rfl⟩ := hp
    replace a3 := a3.up hle1
    replace a4 := a4.up hle1
    replace b3 := b3.up hle1
    replace b4 := b4.up hle1
    refine Wl.ga 7 [] ?_
    refine Ar.out2 (.inr rfl) (Ho := Hp.only _ [0]) rfl (.tmp rfl) (.tmp rfl) (Hp.sub_only _ _) ?_
    exact doR_some (by unfold doI; simp only [h2, if_true]; rw [neg_rows]) (brow_post hA1 hl81 hB1)
  by_cases h3 : i.op = 3
  · refine Wc.gl 2 [] ?_
    refine Wl.box 1 rfl rfl rfl (fun b5 => ?_)
    refine Wl.box 2 rfl rfl rfl (fun b6 => ?_)
    refine Wl.gc 5 [] ?_
    refine Wc.draw [0, 1, 2] [] T.mixed rfl ?_
    refine Gm.c 0 [] [] ?_
    refine Gm.c 1 [] [] ?_
    refine Gm.c 2 [2] [2] ?_
    refine Gm.u 3 [] rfl (Qy.indexAddrO (α := SV) T.sl34 rfl rfl (by assumption) (by omega)) ?_
    refine Gm.u 4 [0] rfl (Qy.loadO 0 0 T.one36 rfl rfl (by assumption) (by omega) rfl rfl) ?_
    refine Gm.c 5 [] [] ?_
    refine Gm.c 6 [] [] ?_
    refine Gm.c 7 [2] [2] ?_
    refine Gm.u 8 [] rfl (Qy.indexAddrO (α := SV) T.sl34 rfl rfl (by assumption) (by omega)) ?_
    refine Gm.u 9 [0] rfl (Qy.loadO 0 0 T.one36 rfl rfl (by assumption) (by omega) rfl rfl) ?_
    refine Gm.c 10 [] [] ?_
    refine Gm.c 11 [] [] ?_
    refine Gm.fin ?_
    refine Ar.gl 29 [2, 0, 1, 1] ?_
    refine Wl.callV (fst := []) (cap := []) 3 rfl T.fn48 rfl rfl (h119) (tags_of trivial) (fun v1 G1 Ho1 hle1 hp => ?_)
    obtain ⟨⟨s1, r1, d1, rfl, hA1, hl81, hB1⟩, rfl⟩ := hp
    replace a3 := a3.up hle1
    replace a4 := a4.up hle1
    replace b3 := b3.up hle1
    replace b4 := b4.up hle1
    refine Wl.ga 7 [] ?_
    refine Ar.out2 (.inr rfl) (Ho := Hp.only _ [0]) rfl (.tmp rfl) (.tmp rfl) (Hp.sub_only _ _) ?_
    exact doR_some (by unfold doI; simp only [h3, if_true]; rw [if_neg (by decide), add_rows]) (brow_post hA1 hl81 hB1)
  by_cases h4 : i.op = 4
  · refine Wc.gl 2 [] ?_
    refine Wl.box 1 rfl rfl rfl (fun b5 => ?_)
    refine Wl.box 2 rfl rfl rfl (fun b6 => ?_)
    refine Wl.gc 5 [] ?_
    refine Wc.draw [0, 1, 2] [] T.mixed rfl ?_
    refine Gm.c 0 [] [] ?_
    refine Gm.c 1 [] [] ?_
    refine Gm.c 2 [2] [2] ?_
    refine Gm.u 3 [] rfl (Qy.indexAddrO (α := SV) T.sl34 rfl rfl (by assumption) (by omega)) ?_
    refine Gm.u 4 [0] rfl (Qy.loadO 0 0 T.one36 rfl rfl (by assumption) (by omega) rfl rfl) ?_
    refine Gm.c 5 [] [] ?_
    refine Gm.c 6 [] [] ?_
    refine Gm.c 7 [2] [2] ?_
    refine Gm.u 8 [] rfl (Qy.indexAddrO (α := SV) T.sl34 rfl rfl (by assumption) (by omega)) ?_
    refine Gm.u 9 [0] rfl (Qy.loadO 0 0 T.one36 rfl rfl (by assumption) (by omega) rfl rfl) ?_
    refine Gm.c 10 [] [] ?_
    refine Gm.c 11 [] [] ?_
    refine Gm.fin ?_
    refine Ar.gl 36 [2, 0, 0, 1, 1] ?_
    refine Wl.callV (fst := []) (cap := []) 3 rfl T.fn50 rfl rfl (h121) (tags_of trivial) (fun v1 G1 Ho1 hle1 hp => ?_)
    obtain ⟨⟨s1, r1, d1, rfl, hA1, hl81, hB1⟩, rfl⟩ := hp
    replace a3 := a3.up hle1
    replace a4 := a4.up hle1
    replace b3 := b3.up hle1
    replace b4 := b4.up hle1
    refine Wl.ga 7 [] ?_
    refine Ar.out2 (.inr rfl) (Ho := Hp.only _ [0]) rfl (.tmp rfl) (.tmp rfl) (Hp.sub_only _ _) ?_
    exact doR_some (by unfold doI; simp only [h4, if_true]; rw [if_neg (by decide), if_neg (by decide), sub_rows]) (brow_post hA1 hl81 hB1)
  by_cases h1 : i.op = 1
  · refine Wc.gl 2 [] ?_
    refine Wl.box 1 rfl rfl rfl (fun b5 => ?_)
    refine Wl.box 2 rfl rfl rfl (fun b6 => ?_)
    refine Wl.gc 5 [] ?_
    refine Wc.draw [0, 1, 2] [] T.mixed rfl ?_
    refine Gm.c 0 [] [] ?_
    refine Gm.c 1 [] [] ?_
    refine Gm.c 2 [2] [2] ?_
    refine Gm.u 3 [] rfl (Qy.indexAddrO (α := SV) T.sl34 rfl rfl (by assumption) (by omega)) ?_
    refine Gm.u 4 [0] rfl (Qy.loadO 0 0 T.one36 rfl rfl (by assumption) (by omega) rfl rfl) ?_
    refine Gm.c 5 [] [] ?_
    refine Gm.c 6 [] [] ?_
    refine Gm.c 7 [2] [2] ?_
    refine Gm.u 8 [] rfl (Qy.indexAddrO (α := SV) T.sl34 rfl rfl (by assumption) (by omega)) ?_
    refine Gm.u 9 [0] rfl (Qy.loadO 0 0 T.one36 rfl rfl (by assumption) (by omega) rfl rfl) ?_
    refine Gm.c 10 [] [] ?_
    refine Gm.c 11 [] [] ?_
    refine Gm.fin ?_
    refine Ar.ga 69 [2, 0, 0, 0, 0, 0, 0, 0] ?_
    refine Ar.out2 (.inr rfl) (Ho := Hp.only _ [0]) rfl (.tmp rfl) (.tmp rfl) (Hp.sub_only _ _) ?_
    exact doR_some (by unfold doI; simp only [h1]; rfl) ⟨la, a1, a2, a3, a4⟩
  obtain ⟨hk0, hk3⟩ := hcst h1 h2 h3 h4
  by_cases h5 : i.op = 5
  · have hc9 := hc1 (.inl h5)
    have e5 : cst i = i.c := cst_c (.inl h5)
    rw [e5] at hk3
    refine Wc.gl 2 [] ?_
    refine Wl.box 1 rfl rfl rfl (fun b5 => ?_)
    refine Wl.box 2 rfl rfl rfl (fun b6 => ?_)
    refine Wl.gc 5 [] ?_
    refine Wc.draw [0, 1, 2] [] T.mixed rfl ?_
    refine Gm.c 0 [] [] ?_
    refine Gm.c 1 [] [] ?_
    refine Gm.c 2 [2] [2] ?_
    refine Gm.u 3 [] rfl (Qy.indexAddrO (α := SV) T.sl34 rfl rfl (by assumption) (by omega)) ?_
    refine Gm.u 4 [0] rfl (Qy.loadO 0 0 T.one36 rfl rfl (by assumption) (by omega) rfl rfl) ?_
    refine Gm.c 5 [] [] ?_
    refine Gm.c 6 [] [] ?_
    refine Gm.c 7 [2] [2] ?_
    refine Gm.u 8 [] rfl (Qy.indexAddrO (α := SV) T.sl34 rfl rfl (by assumption) (by omega)) ?_
    refine Gm.u 9 [0] rfl (Qy.loadO 0 0 T.one36 rfl rfl (by assumption) (by omega) rfl rfl) ?_
    refine Gm.c 10 [] [] ?_
    refine Gm.c 11 [] [] ?_
    refine Gm.fin ?_
    refine Ar.gc 38 [2, 0, 0, 0, 1] ?_
    refine Wc.draw [0, 1, 2] [(2, 6), (1, 6), (0, 6)] T.mixed rfl ?_
    refine Gm.c 0 [] [] ?_
    refine Gm.c 1 [1] [1] ?_
    refine Gm.c 2 [] [] ?_
    refine Gm.c 3 [] [] ?_
    refine Gm.o1 4 ?_
    refine Wl.ll0 1 [2] ?_
    refine Wl.on0 ?_
    refine Gm.o1 5 ?_
    refine Wl.k 3 rfl (c23 _ i.c hc9) (fun v1 G1 Ho1 hle1 hp => ?_)
    obtain ⟨rk, rfl, hrk, rfl⟩ := hp
    replace a3 := a3.up hle1
    replace a4 := a4.up hle1
    replace b3 := b3.up hle1
    replace b4 := b4.up hle1
    refine Wl.on0 ?_
    refine Gm.o1 6 ?_
    refine Wl.callV (fst := []) (cap := []) 3 rfl T.fn52 rfl rfl (h123 _ rk _ (by assumption) hrk (Nat.le_trans (Big.len hrk hk3) (by decide))) (tags_of trivial) (fun v2 G2 Ho2 hle2 hp => ?_)
    obtain ⟨⟨s2, r2, d2, rfl, hA2, hl82, hB2⟩, rfl⟩ := hp
    replace hrk := hrk.up hle2
    replace a3 := a3.up hle2
    replace a4 := a4.up hle2
    replace b3 := b3.up hle2
    replace b4 := b4.up hle2
    refine Wl.on0 ?_
    refine Gm.c 7 [] [] ?_
    refine Gm.c 8 [] [] ?_
    refine Gm.doneA (by kernel_rfl) trivial (by first | exact Imm.le_refl _ | repeat (first | assumption | refine Imm.le_trans ?_ (by assumption))) ?_
    refine Ar.ga 4 [] ?_
    refine Ar.out2 (.inr rfl) (Ho := Hp.only _ [0]) rfl (.tmp rfl) (.tmp rfl) (Hp.sub_only _ _) ?_
    all_goals exact doR_some (by unfold doI; simp only [h5, true_or, if_true]; rw [if_neg (by decide), if_neg (by decide), if_neg (by decide), e5]) (brow_post (by assumption) (by assumption) (by assumption))
  by_cases h6 : i.op = 6
  · have hc9 := hc1 (.inr h6)
    have e5 : cst i = i.c := cst_c (.inr h6)
    rw [e5] at hk3 hk0
    have h124Y : AllDiv (i.c) (rs[i.a.toNat]?.getD []) → ∀ G1 y, G.le G1 → Big G1 y (i.c) → y.n ≤ 268435456 → Does Tryz.prog 53 [.slice (r[i.a.toNat]?.getD default).a (r[i.a.toNat]?.getD default).n (r[i.a.toNat]?.getD default).c, .agg (Cells.enc y).toArray] G1 [] (fun v G' Ho => (∃ (s : Option Addr) (r' : List IV) (d : Nat), v = .tuple #[.slice s r'.length d, .bool true] ∧ Arr G' s r' ∧ r'.length ≤ d ∧ Bigs G' r' ((rs[i.a.toNat]?.getD []).map (· / (i.c)))) ∧ Ho = []) :=
      fun hd G1 y hG hy hyn => (h124 G1 y _ hG hy hyn hk0).mono fun v G' Ho _ ⟨p1, p2, p3⟩ => ⟨p1 hd, p3⟩
    have h124N : ¬ AllDiv (i.c) (rs[i.a.toNat]?.getD []) → ∀ G1 y, G.le G1 → Big G1 y (i.c) → y.n ≤ 268435456 → Does Tryz.prog 53 [.slice (r[i.a.toNat]?.getD default).a (r[i.a.toNat]?.getD default).n (r[i.a.toNat]?.getD default).c, .agg (Cells.enc y).toArray] G1 [] (fun v G' Ho => v = .tuple #[.slice none 0 0, .bool false] ∧ Ho = []) :=
      fun hd G1 y hG hy hyn => (h124 G1 y _ hG hy hyn hk0).mono fun v G' Ho _ ⟨p1, p2, p3⟩ => ⟨p2 hd, p3⟩
    by_cases hd : AllDiv (i.c) (rs[i.a.toNat]?.getD [])
    · skip
      refine Wc.gl 2 [] ?_
      refine Wl.box 1 rfl rfl rfl (fun b5 => ?_)
      refine Wl.box 2 rfl rfl rfl (fun b6 => ?_)
      refine Wl.gc 5 [] ?_
      refine Wc.draw [0, 1, 2] [] T.mixed rfl ?_
      refine Gm.c 0 [] [] ?_
      refine Gm.c 1 [] [] ?_
      refine Gm.c 2 [2] [2] ?_
      refine Gm.u 3 [] rfl (Qy.indexAddrO (α := SV) T.sl34 rfl rfl (by assumption) (by omega)) ?_
      refine Gm.u 4 [0] rfl (Qy.loadO 0 0 T.one36 rfl rfl (by assumption) (by omega) rfl rfl) ?_
      refine Gm.c 5 [] [] ?_
      refine Gm.c 6 [] [] ?_
      refine Gm.c 7 [2] [2] ?_
      refine Gm.u 8 [] rfl (Qy.indexAddrO (α := SV) T.sl34 rfl rfl (by assumption) (by omega)) ?_
      refine Gm.u 9 [0] rfl (Qy.loadO 0 0 T.one36 rfl rfl (by assumption) (by omega) rfl rfl) ?_
      refine Gm.c 10 [] [] ?_
      refine Gm.c 11 [] [] ?_
      refine Gm.fin ?_
      refine Ar.gc 52 [2, 0, 0, 0, 0, 0, 1] ?_
      refine Wc.draw [0, 1, 2] [(2, 6), (1, 6), (0, 6)] T.mixed rfl ?_
      refine Gm.c 0 [] [] ?_
      refine Gm.c 1 [1] [1] ?_
      refine Gm.c 2 [] [] ?_
      refine Gm.c 3 [] [] ?_
      refine Gm.o1 4 ?_
      refine Wl.ll0 1 [2] ?_
      refine Wl.on0 ?_
      refine Gm.o1 5 ?_
      refine Wl.k 3 rfl (c23 _ i.c hc9) (fun v1 G1 Ho1 hle1 hp => ?_)
      obtain ⟨rk, rfl, hrk, rfl⟩ := hp
      replace a3 := a3.up hle1
      replace a4 := a4.up hle1
      replace b3 := b3.up hle1
      replace b4 := b4.up hle1
      refine Wl.on0 ?_
      refine Gm.o1 6 ?_
      refine Wl.callV (fst := []) (cap := []) 3 rfl T.fn53 rfl rfl (h124Y hd _ rk (by assumption) hrk (Nat.le_trans (Big.len hrk hk3) (by decide))) (tags_of trivial) (fun v2 G2 Ho2 hle2 hp => ?_)
      obtain ⟨⟨s2, r2, d2, rfl, hA2, hl82, hB2⟩, rfl⟩ := hp
      replace hrk := hrk.up hle2
      replace a3 := a3.up hle2
      replace a4 := a4.up hle2
      replace b3 := b3.up hle2
      replace b4 := b4.up hle2
      refine Wl.on0 ?_
      refine Gm.c 7 [] [] ?_
      refine Gm.c 8 [] [] ?_
      refine Gm.c 9 [] [] ?_
      refine Gm.c 10 [] [] ?_
      refine Gm.doneA (by kernel_rfl) trivial (by first | exact Imm.le_refl _ | repeat (first | assumption | refine Imm.le_trans ?_ (by assumption))) ?_
      refine Ar.ga 4 [] ?_
      refine Ar.out2 (.inr rfl) (Ho := Hp.only _ [0]) rfl (.tmp rfl) (.tmp rfl) (Hp.sub_only _ _) ?_
      all_goals exact doR_some (by unfold doI; simp only [h6, true_or, if_true]; first | (rw [if_neg (by decide), if_neg (by decide), if_neg (by decide), if_neg (by decide), e5, if_pos hd]) | (rw [if_neg (by decide), if_neg (by decide), if_neg (by decide), if_neg (by decide)]; exact (by rw [e5]; exact if_pos hd))) (brow_post (by assumption) (by assumption) (by assumption))
    · skip
      refine Wc.gl 2 [] ?_
      refine Wl.box 1 rfl rfl rfl (fun b5 => ?_)
      refine Wl.box 2 rfl rfl rfl (fun b6 => ?_)
      refine Wl.gc 5 [] ?_
      refine Wc.draw [0, 1, 2] [] T.mixed rfl ?_
      refine Gm.c 0 [] [] ?_
      refine Gm.c 1 [] [] ?_
      refine Gm.c 2 [2] [2] ?_
      refine Gm.u 3 [] rfl (Qy.indexAddrO (α := SV) T.sl34 rfl rfl (by assumption) (by omega)) ?_
      refine Gm.u 4 [0] rfl (Qy.loadO 0 0 T.one36 rfl rfl (by assumption) (by omega) rfl rfl) ?_
      refine Gm.c 5 [] [] ?_
      refine Gm.c 6 [] [] ?_
      refine Gm.c 7 [2] [2] ?_
      refine Gm.u 8 [] rfl (Qy.indexAddrO (α := SV) T.sl34 rfl rfl (by assumption) (by omega)) ?_
      refine Gm.u 9 [0] rfl (Qy.loadO 0 0 T.one36 rfl rfl (by assumption) (by omega) rfl rfl) ?_
      refine Gm.c 10 [] [] ?_
      refine Gm.c 11 [] [] ?_
      refine Gm.fin ?_
      refine Ar.gc 52 [2, 0, 0, 0, 0, 0, 1] ?_
      refine Wc.draw [0, 1, 2] [(2, 6), (1, 6), (0, 6)] T.mixed rfl ?_
      refine Gm.c 0 [] [] ?_
      refine Gm.c 1 [1] [1] ?_
      refine Gm.c 2 [] [] ?_
      refine Gm.c 3 [] [] ?_
      refine Gm.o1 4 ?_
      refine Wl.ll0 1 [2] ?_
      refine Wl.on0 ?_
      refine Gm.o1 5 ?_
      refine Wl.k 3 rfl (c23 _ i.c hc9) (fun v1 G1 Ho1 hle1 hp => ?_)
      obtain ⟨rk, rfl, hrk, rfl⟩ := hp
      replace a3 := a3.up hle1
      replace a4 := a4.up hle1
      replace b3 := b3.up hle1
      replace b4 := b4.up hle1
      refine Wl.on0 ?_
      refine Gm.o1 6 ?_
      refine Wl.callV (fst := []) (cap := []) 3 rfl T.fn53 rfl rfl (h124N hd _ rk (by assumption) hrk (Nat.le_trans (Big.len hrk hk3) (by decide))) (tags_of trivial) (fun v2 G2 Ho2 hle2 hp => ?_)
      obtain ⟨rfl, rfl⟩ := hp
      replace hrk := hrk.up hle2
      replace a3 := a3.up hle2
      replace a4 := a4.up hle2
      replace b3 := b3.up hle2
      replace b4 := b4.up hle2
      refine Wl.on0 ?_
      refine Gm.c 7 [] [] ?_
      refine Gm.c 8 [] [] ?_
      refine Gm.c 9 [] [] ?_
      refine Gm.c 10 [] [] ?_
      refine Gm.doneA (by kernel_rfl) trivial (by first | exact Imm.le_refl _ | repeat (first | assumption | refine Imm.le_trans ?_ (by assumption))) ?_
      refine Ar.ga 4 [] ?_
      refine Ar.out2 (.inr rfl) (Ho := Hp.only _ [0]) rfl (.tmp rfl) (.tmp rfl) (Hp.sub_only _ _) ?_
      all_goals exact doR_none (by unfold doI; simp only [h6, true_or, if_true]; rw [if_neg (by decide), if_neg (by decide), if_neg (by decide), if_neg (by decide), e5, if_neg hd])
  have hc64 := hc2 (fun h => h.elim h5 h6)
  have e5 : cst i = p2 i.c.toNat := cst_p (fun h => h.elim h5 h6)
  rw [e5] at hk3 hk0
  by_cases h7 : i.op = 7
  · refine Wc.gl 2 [] ?_
    refine Wl.box 1 rfl rfl rfl (fun b5 => ?_)
    refine Wl.box 2 rfl rfl rfl (fun b6 => ?_)
    refine Wl.gc 5 [] ?_
    refine Wc.draw [0, 1, 2] [] T.mixed rfl ?_
    refine Gm.c 0 [] [] ?_
    refine Gm.c 1 [] [] ?_
    refine Gm.c 2 [2] [2] ?_
    refine Gm.u 3 [] rfl (Qy.indexAddrO (α := SV) T.sl34 rfl rfl (by assumption) (by omega)) ?_
    refine Gm.u 4 [0] rfl (Qy.loadO 0 0 T.one36 rfl rfl (by assumption) (by omega) rfl rfl) ?_
    refine Gm.c 5 [] [] ?_
    refine Gm.c 6 [] [] ?_
    refine Gm.c 7 [2] [2] ?_
    refine Gm.u 8 [] rfl (Qy.indexAddrO (α := SV) T.sl34 rfl rfl (by assumption) (by omega)) ?_
    refine Gm.u 9 [0] rfl (Qy.loadO 0 0 T.one36 rfl rfl (by assumption) (by omega) rfl rfl) ?_
    refine Gm.c 10 [] [] ?_
    refine Gm.c 11 [] [] ?_
    refine Gm.fin ?_
    refine Ar.gc 45 [2, 0, 0, 0, 0, 1] ?_
    refine Wc.draw [0, 1, 2] [(2, 6), (1, 6), (0, 6)] T.mixed rfl ?_
    refine Gm.c 0 [] [] ?_
    refine Gm.c 1 [1] [1] ?_
    refine Gm.c 2 [] [] ?_
    refine Gm.c 3 [] [] ?_
    refine Gm.o1 4 ?_
    refine Wl.ll0 1 [2] ?_
    refine Wl.on0 ?_
    refine Gm.o1 5 ?_
    refine Wl.k 3 rfl (c70i _ i.c hc64) (fun v1 G1 Ho1 hle1 hp => ?_)
    obtain ⟨rk, rfl, hrk, rfl⟩ := hp
    replace a3 := a3.up hle1
    replace a4 := a4.up hle1
    replace b3 := b3.up hle1
    replace b4 := b4.up hle1
    refine Wl.on0 ?_
    refine Gm.o1 6 ?_
    refine Wl.callV (fst := []) (cap := []) 3 rfl T.fn52 rfl rfl (h123 _ rk _ (by assumption) hrk (Nat.le_trans (Big.len hrk hk3) (by decide))) (tags_of trivial) (fun v2 G2 Ho2 hle2 hp => ?_)
    obtain ⟨⟨s2, r2, d2, rfl, hA2, hl82, hB2⟩, rfl⟩ := hp
    replace hrk := hrk.up hle2
    replace a3 := a3.up hle2
    replace a4 := a4.up hle2
    replace b3 := b3.up hle2
    replace b4 := b4.up hle2
    refine Wl.on0 ?_
    refine Gm.c 7 [] [] ?_
    refine Gm.c 8 [] [] ?_
    refine Gm.doneA (by kernel_rfl) trivial (by first | exact Imm.le_refl _ | repeat (first | assumption | refine Imm.le_trans ?_ (by assumption))) ?_
    refine Ar.ga 4 [] ?_
    refine Ar.out2 (.inr rfl) (Ho := Hp.only _ [0]) rfl (.tmp rfl) (.tmp rfl) (Hp.sub_only _ _) ?_
    all_goals exact doR_some (by unfold doI; simp only [h7, or_true, if_true]; rw [if_neg (by decide), if_neg (by decide), if_neg (by decide), e5]) (brow_post (by assumption) (by assumption) (by assumption))
  · have h8 : i.op = 8 := by omega
    have h124Y : AllDiv (p2 i.c.toNat) (rs[i.a.toNat]?.getD []) → ∀ G1 y, G.le G1 → Big G1 y (p2 i.c.toNat) → y.n ≤ 268435456 → Does Tryz.prog 53 [.slice (r[i.a.toNat]?.getD default).a (r[i.a.toNat]?.getD default).n (r[i.a.toNat]?.getD default).c, .agg (Cells.enc y).toArray] G1 [] (fun v G' Ho => (∃ (s : Option Addr) (r' : List IV) (d : Nat), v = .tuple #[.slice s r'.length d, .bool true] ∧ Arr G' s r' ∧ r'.length ≤ d ∧ Bigs G' r' ((rs[i.a.toNat]?.getD []).map (· / (p2 i.c.toNat)))) ∧ Ho = []) :=
      fun hd G1 y hG hy hyn => (h124 G1 y _ hG hy hyn hk0).mono fun v G' Ho _ ⟨p1, p2, p3⟩ => ⟨p1 hd, p3⟩
    have h124N : ¬ AllDiv (p2 i.c.toNat) (rs[i.a.toNat]?.getD []) → ∀ G1 y, G.le G1 → Big G1 y (p2 i.c.toNat) → y.n ≤ 268435456 → Does Tryz.prog 53 [.slice (r[i.a.toNat]?.getD default).a (r[i.a.toNat]?.getD default).n (r[i.a.toNat]?.getD default).c, .agg (Cells.enc y).toArray] G1 [] (fun v G' Ho => v = .tuple #[.slice none 0 0, .bool false] ∧ Ho = []) :=
      fun hd G1 y hG hy hyn => (h124 G1 y _ hG hy hyn hk0).mono fun v G' Ho _ ⟨p1, p2, p3⟩ => ⟨p2 hd, p3⟩
    by_cases hd : AllDiv (p2 i.c.toNat) (rs[i.a.toNat]?.getD [])
    · skip
      refine Wc.gl 2 [] ?_
      refine Wl.box 1 rfl rfl rfl (fun b5 => ?_)
      refine Wl.box 2 rfl rfl rfl (fun b6 => ?_)
      refine Wl.gc 5 [] ?_
      refine Wc.draw [0, 1, 2] [] T.mixed rfl ?_
      refine Gm.c 0 [] [] ?_
      refine Gm.c 1 [] [] ?_
      refine Gm.c 2 [2] [2] ?_
      refine Gm.u 3 [] rfl (Qy.indexAddrO (α := SV) T.sl34 rfl rfl (by assumption) (by omega)) ?_
      refine Gm.u 4 [0] rfl (Qy.loadO 0 0 T.one36 rfl rfl (by assumption) (by omega) rfl rfl) ?_
      refine Gm.c 5 [] [] ?_
      refine Gm.c 6 [] [] ?_
      refine Gm.c 7 [2] [2] ?_
      refine Gm.u 8 [] rfl (Qy.indexAddrO (α := SV) T.sl34 rfl rfl (by assumption) (by omega)) ?_
      refine Gm.u 9 [0] rfl (Qy.loadO 0 0 T.one36 rfl rfl (by assumption) (by omega) rfl rfl) ?_
      refine Gm.c 10 [] [] ?_
      refine Gm.c 11 [] [] ?_
      refine Gm.fin ?_
      refine Ar.gc 59 [2, 0, 0, 0, 0, 0, 0, 1] ?_
      refine Wc.draw [0, 1, 2] [(2, 6), (1, 6), (0, 6)] T.mixed rfl ?_
      refine Gm.c 0 [] [] ?_
      refine Gm.c 1 [1] [1] ?_
      refine Gm.c 2 [] [] ?_
      refine Gm.c 3 [] [] ?_
      refine Gm.o1 4 ?_
      refine Wl.ll0 1 [2] ?_
      refine Wl.on0 ?_
      refine Gm.o1 5 ?_
      refine Wl.k 3 rfl (c70i _ i.c hc64) (fun v1 G1 Ho1 hle1 hp => ?_)
      obtain ⟨rk, rfl, hrk, rfl⟩ := hp
      replace a3 := a3.up hle1
      replace a4 := a4.up hle1
      replace b3 := b3.up hle1
      replace b4 := b4.up hle1
      refine Wl.on0 ?_
      refine Gm.o1 6 ?_
      refine Wl.callV (fst := []) (cap := []) 3 rfl T.fn53 rfl rfl (h124Y hd _ rk (by assumption) hrk (Nat.le_trans (Big.len hrk hk3) (by decide))) (tags_of trivial) (fun v2 G2 Ho2 hle2 hp => ?_)
      obtain ⟨⟨s2, r2, d2, rfl, hA2, hl82, hB2⟩, rfl⟩ := hp
      replace hrk := hrk.up hle2
      replace a3 := a3.up hle2
      replace a4 := a4.up hle2
      replace b3 := b3.up hle2
      replace b4 := b4.up hle2
      refine Wl.on0 ?_
      refine Gm.c 7 [] [] ?_
      refine Gm.c 8 [] [] ?_
      refine Gm.c 9 [] [] ?_
      refine Gm.c 10 [] [] ?_
      refine Gm.doneA (by kernel_rfl) trivial (by first | exact Imm.le_refl _ | repeat (first | assumption | refine Imm.le_trans ?_ (by assumption))) ?_
      refine Ar.ga 4 [] ?_
      refine Ar.out2 (.inr rfl) (Ho := Hp.only _ [0]) rfl (.tmp rfl) (.tmp rfl) (Hp.sub_only _ _) ?_
      all_goals exact doR_some (by unfold doI; simp only [h8, or_true, if_true]; first | (rw [if_neg (by decide), if_neg (by decide), if_neg (by decide), if_neg (by decide), e5, if_pos hd]) | (rw [if_neg (by decide), if_neg (by decide), if_neg (by decide), if_neg (by decide)]; exact (by rw [e5]; exact if_pos hd))) (brow_post (by assumption) (by assumption) (by assumption))
    · skip
      refine Wc.gl 2 [] ?_
      refine Wl.box 1 rfl rfl rfl (fun b5 => ?_)
      refine Wl.box 2 rfl rfl rfl (fun b6 => ?_)
      refine Wl.gc 5 [] ?_
      refine Wc.draw [0, 1, 2] [] T.mixed rfl ?_
      refine Gm.c 0 [] [] ?_
      refine Gm.c 1 [] [] ?_
      refine Gm.c 2 [2] [2] ?_
      refine Gm.u 3 [] rfl (Qy.indexAddrO (α := SV) T.sl34 rfl rfl (by assumption) (by omega)) ?_
      refine Gm.u 4 [0] rfl (Qy.loadO 0 0 T.one36 rfl rfl (by assumption) (by omega) rfl rfl) ?_
      refine Gm.c 5 [] [] ?_
      refine Gm.c 6 [] [] ?_
      refine Gm.c 7 [2] [2] ?_
      refine Gm.u 8 [] rfl (Qy.indexAddrO (α := SV) T.sl34 rfl rfl (by assumption) (by omega)) ?_
      refine Gm.u 9 [0] rfl (Qy.loadO 0 0 T.one36 rfl rfl (by assumption) (by omega) rfl rfl) ?_
      refine Gm.c 10 [] [] ?_
      refine Gm.c 11 [] [] ?_
      refine Gm.fin ?_
      refine Ar.gc 59 [2, 0, 0, 0, 0, 0, 0, 1] ?_
      refine Wc.draw [0, 1, 2] [(2, 6), (1, 6), (0, 6)] T.mixed rfl ?_
      refine Gm.c 0 [] [] ?_
      refine Gm.c 1 [1] [1] ?_
      refine Gm.c 2 [] [] ?_
      refine Gm.c 3 [] [] ?_
      refine Gm.o1 4 ?_
      refine Wl.ll0 1 [2] ?_
      refine Wl.on0 ?_
      refine Gm.o1 5 ?_
      refine Wl.k 3 rfl (c70i _ i.c hc64) (fun v1 G1 Ho1 hle1 hp => ?_)
      obtain ⟨rk, rfl, hrk, rfl⟩ := hp
      replace a3 := a3.up hle1
      replace a4 := a4.up hle1
      replace b3 := b3.up hle1
      replace b4 := b4.up hle1
      refine Wl.on0 ?_
      refine Gm.o1 6 ?_
      refine Wl.callV (fst := []) (cap := []) 3 rfl T.fn53 rfl rfl (h124N hd _ rk (by assumption) hrk (Nat.le_trans (Big.len hrk hk3) (by decide))) (tags_of trivial) (fun v2 G2 Ho2 hle2 hp => ?_)
      obtain ⟨rfl, rfl⟩ := hp
      replace hrk := hrk.up hle2
      replace a3 := a3.up hle2
      replace a4 := a4.up hle2
      replace b3 := b3.up hle2
      replace b4 := b4.up hle2
      refine Wl.on0 ?_
      refine Gm.c 7 [] [] ?_
      refine Gm.c 8 [] [] ?_
      refine Gm.c 9 [] [] ?_
      refine Gm.c 10 [] [] ?_
      refine Gm.doneA (by kernel_rfl) trivial (by first | exact Imm.le_refl _ | repeat (first | assumption | refine Imm.le_trans ?_ (by assumption))) ?_
      refine Ar.ga 4 [] ?_
      refine Ar.out2 (.inr rfl) (Ho := Hp.only _ [0]) rfl (.tmp rfl) (.tmp rfl) (Hp.sub_only _ _) ?_
      all_goals exact doR_none (by unfold doI; simp only [h8, or_true, if_true]; rw [if_neg (by decide), if_neg (by decide), if_neg (by decide), if_neg (by decide), e5, if_neg hd])
end Go.Proofs.YtbppmiimeccclaaGreatDoor
set_option maxRecDepth 100000
set_option linter.unusedVariables false
namespace Go.Proofs.YtbppmiimeccclaaGreatDoor
open Go Go.Sl
set_option maxHeartbeats 4000000
theorem pw5_pb3 : pw 5 ≤ pb 3 := by unfold pw pb; decide
theorem mul_lt_pb {m k : Nat} {x y : Int} (hx : (x.natAbs : Int) < pb m) (hy : (y.natAbs : Int) < pb k) : ((x * y).natAbs : Int) < pb (m + k) := by
  rw [Int.natAbs_mul, Int.natCast_mul, pb_add]
  have h1 := Int.mul_le_mul_of_nonneg_left (Int.le_of_lt hy) (show (0 : Int) ≤ x.natAbs by omega)
  have h2 := Int.mul_lt_mul_of_pos_right hx (pb_pos k)
  omega
theorem Below.mono {m k : Nat} {zs : List Int} (h : Below m zs) (hk : m ≤ k) : Below k zs := fun z hz => Int.lt_of_lt_of_le (h z hz) (pb_le hk)
attribute [local irreducible] valB pb cmpZ lstWp p2 cst doZ
end Go.Proofs.YtbppmiimeccclaaGreatDoor
set_option maxRecDepth 100000
set_option linter.unusedVariables false
namespace Go.Proofs.YtbppmiimeccclaaGreatDoor
open Go Go.Sl
set_option maxHeartbeats 4000000
/-- so many digits are left, if the noughts at the top are struck -/
def TrimTo (l : List U32) (n : Nat) : Prop := n ≤ l.length ∧ (∀ j, n ≤ j → j < l.length → (l[j]?.getD default).v = 0) ∧ (n = 0 ∨ (l[n - 1]?.getD default).v ≠ 0)
theorem arr_sub {α : Type} [Cells α] {G : Imm} {a : Option Addr} {c sz : Nat} {l : List α} (h : Arr G a l) (n : Nat) : Arr G (subA a c 0 sz) (l.take n) := by
  refine ⟨flat_length _, ?_⟩
  rcases h.2 with h0 | ⟨b, o, rfl, hr⟩
  · left; rw [List.length_take]; omega
  · refine .inr ⟨b, o, ?_, fun i v hi => hr i v ?_⟩
    · unfold subA
      split
      · rfl
      · simp [Addr.add]
    · have e : flat l = flat (l.take n) ++ flat (l.drop n) := by rw [← flat_append, List.take_append_drop]
      rw [e, List.getElem?_append_left (List.getElem?_eq_some_iff.1 hi).1]; exact hi
theorem TrimTo.val {l : List U32} {n : Nat} (h : TrimTo l n) : valL (l.take n) = valL l := valL_trim h.2.1
theorem TrimTo.top {l : List U32} {n : Nat} (h : TrimTo l n) : Top (l.take n) := by
  obtain ⟨h1, h2, h3⟩ := h
  rcases h3 with h3 | h3
  · subst h3; exact .inl rfl
  · by_cases h0 : n = 0
    · subst h0; exact .inl rfl
    · refine .inr ?_
      rw [List.length_take, Nat.min_eq_left h1, List.getElem?_take, if_pos (by omega)]
      exact h3
theorem TrimTo.len {l : List U32} {n : Nat} (h : TrimTo l n) : (l.take n).length = n := by rw [List.length_take, Nat.min_eq_left h.1]
theorem TrimTo.isInt {l : List U32} {n : Nat} (h : TrimTo l n) (hd : Digs l) (neg : Bool) : IsInt (neg && decide (0 < n)) (l.take n) (if neg = true then -valL l else valL l) := by
  refine ⟨hd.take n, h.top, fun e => ?_, ?_⟩
  · have hl := h.len
    rw [e] at hl
    have : n = 0 := by simpa using hl.symm
    subst this; simp
  · have hv := h.val
    rw [← hv]
    cases neg with
    | false => simp
    | true =>
      by_cases h0 : n = 0
      · subst h0; simp [valL_nil]
      · have : 0 < n := by omega
        simp [this]
/-- a number that is struck of a row that stays -/
theorem TrimTo.num {G : Imm} {a : Option Addr} {c : Nat} {l : List U32} {n : Nat} (h : TrimTo l n) (hd : Digs l) (hl : Arr G a l) (hc : l.length ≤ c) (neg : Bool) : Num G ⟨neg && decide (0 < n), subA a c 0 1, n, c⟩ (if neg = true then -valL l else valL l) := by
  refine ⟨l.take n, h.len, Nat.le_trans h.1 hc, ?_, h.isInt hd neg⟩
  exact arr_sub hl n
end Go.Proofs.YtbppmiimeccclaaGreatDoor
set_option maxRecDepth 100000
set_option linter.unusedVariables false
namespace Go.Proofs.YtbppmiimeccclaaGreatDoor
open Go Go.Sl
set_option maxHeartbeats 4000000
section
variable {B : Bs} {e : Env} {D : List Deferred} {H : Hp} {G : Imm}
/-- a block under another tag -/
theorem retagH {a : Act} {w : World} (hh : Hold B ⟨e, D, H, G⟩ a w) (t t' : Nat) {k : Option Nat} {o : Obj} (ht : H.get t = some (k, o)) (hn : t ≠ t') (hk : H.get t' = none ∨ True) : Hold B ⟨e, D, (t', k, o) :: (t, none, o) :: H, G⟩ a w := by
  have key : ∀ i b o', Hp.get ((t', k, o) :: (t, none, o) :: H) i = some (some b, o') → (i = t' ∧ H.get t = some (some b, o')) ∨ (i ≠ t' ∧ i ≠ t ∧ H.get i = some (some b, o')) := fun i b o' hx => by
    rw [Hp.get_cons] at hx
    split at hx
    · rename_i hi; left; refine ⟨hi.symm, ?_⟩; rw [ht]; exact hx
    · rename_i hi
      rw [Hp.get_cons] at hx
      split at hx
      · simp at hx
      · rename_i hi2; exact .inr ⟨fun h => hi h.symm, fun h => hi2 h.symm, hx⟩
  refine ⟨hh.size, hh.defers, hh.env, ⟨?_, ?_, hh.mem.imm, ?_⟩, hh.upd, ?_, hh.le, hh.new⟩
  · intro i b o' hx
    rcases key i b o' hx with ⟨_, h⟩ | ⟨_, _, h⟩
    · exact hh.mem.own _ b o' h
    · exact hh.mem.own _ b o' h
  · intro i i' b o1 o2 hx hy
    rcases key i b o1 hx with ⟨h1, h2⟩ | ⟨h1, h1', h2⟩ <;> rcases key i' b o2 hy with ⟨h3, h4⟩ | ⟨h3, h3', h4⟩
    · rw [h1, h3]
    · exact absurd (hh.mem.one _ _ b _ _ h2 h4).symm h3'
    · exact absurd (hh.mem.one _ _ b _ _ h2 h4) h1'
    · exact hh.mem.one _ _ b _ _ h2 h4
  · intro i b o' hx
    rcases key i b o' hx with ⟨_, h⟩ | ⟨_, _, h⟩
    · exact hh.mem.off _ b o' h
    · exact hh.mem.off _ b o' h
  · intro i b o' hx
    rcases key i b o' hx with ⟨_, h⟩ | ⟨_, _, h⟩
    · exact hh.mine _ b o' h
    · exact hh.mine _ b o' h
theorem Ar.retag {x : Exit} {Q : Exit → Act → World → Prop} (t t' : Nat) {k : Option Nat} {o : Obj} (ht : H.get t = some (k, o)) (hn : Nat.beq t t' = false) (h : Ar Q x B ⟨e, D, (t', k, o) :: (t, none, o) :: H, G⟩) : Ar Q x B ⟨e, D, H, G⟩ :=
  fun a w hh => h a w (retagH hh t t' ht (fun e => by subst e; simp at hn) (.inr trivial))
end
theorem Num.len {G : Imm} {x : IV} {z : Int} (h : Num G x z) {m : Nat} (hz : (z.natAbs : Int) < pw m) : x.n ≤ m := by
  obtain ⟨l, h1, _, _, h4⟩ := h
  rw [← h1]; exact h4.len hz
attribute [local irreducible] valL pw cmpZ p2
end Go.Proofs.YtbppmiimeccclaaGreatDoor
set_option maxRecDepth 100000
set_option linter.unusedVariables false
namespace Go.Proofs.YtbppmiimeccclaaGreatDoor
open Go Go.Sl
set_option maxHeartbeats 4000000
theorem Num.zero_iff {G : Imm} {x : IV} {z : Int} (h : Num G x z) : x.n = 0 ↔ z = 0 := by
  obtain ⟨l, h1, _, _, h4⟩ := h
  rw [← h1]; exact h4.zero_iff
theorem Num.out {G : Imm} {x : IV} {z z' : Int} (h : Num G x z) (e : z = z') : Num G x z' := e ▸ h
attribute [local irreducible] valL pw cmpZ p2
end Go.Proofs.YtbppmiimeccclaaGreatDoor
set_option maxRecDepth 100000
set_option linter.unusedVariables false
namespace Go.Proofs.YtbppmiimeccclaaGreatDoor
open Go Go.Sl
set_option maxHeartbeats 4000000
/-- the handle of a row of numbers -/
def RowS (G : Imm) (s : SV) (zs : List Int) : Prop := ∃ l : List IV, l.length = s.n ∧ s.n ≤ s.c ∧ Arr G s.a l ∧ Nums G l zs
theorem RowS.up {G G' : Imm} {s : SV} {zs : List Int} (h : RowS G s zs) (hl : G.le G') : RowS G' s zs := by
  obtain ⟨l, h1, h2, h3, h4⟩ := h
  exact ⟨l, h1, h2, h3.up hl, h4.up hl⟩
/-- rows of numbers -/
def Grid (G : Imm) (l : List SV) (rs : List (List Int)) : Prop := l.length = rs.length ∧ ∀ i : Nat, i < l.length → RowS G (l[i]?.getD default) (rs[i]?.getD [])
theorem Grid.up {G G' : Imm} {l : List SV} {rs : List (List Int)} (h : Grid G l rs) (hl : G.le G') : Grid G' l rs := ⟨h.1, fun i hi => (h.2 i hi).up hl⟩
theorem Grid.nil (G : Imm) : Grid G [] [] := ⟨rfl, fun i hi => by simp at hi⟩
theorem Grid.at {G : Imm} {l : List SV} {rs : List (List Int)} (h : Grid G l rs) {m : Int} (hm : 0 ≤ m ∧ m < l.length) : RowS G (l[m.toNat]?.getD default) (rs[m.toNat]?.getD []) := h.2 _ (by omega)
theorem Grid.snoc {G : Imm} {l : List SV} {rs : List (List Int)} (h : Grid G l rs) {s : SV} {zs : List Int} (hx : RowS G s zs) : Grid G (l ++ [s]) (rs ++ [zs]) := by
  refine ⟨by simp [h.1], fun i hi => ?_⟩
  rw [List.length_append, List.length_singleton] at hi
  by_cases hc : i < l.length
  · rw [List.getElem?_append_left hc, List.getElem?_append_left (by rw [← h.1]; exact hc)]
    exact h.2 i hc
  · have e : i = l.length := by omega
    subst e
    rw [List.getElem?_concat_length, h.1, List.getElem?_concat_length]
    exact hx
theorem Grid.set {G : Imm} {l : List SV} {rs : List (List Int)} (h : Grid G l rs) (k : Nat) {s : SV} {zs : List Int} (hx : RowS G s zs) : Grid G (l.set k s) (rs.set k zs) := by
  refine ⟨by rw [List.length_set, List.length_set]; exact h.1, fun i hi => ?_⟩
  rw [List.length_set] at hi
  have hi2 : i < rs.length := by rw [← h.1]; exact hi
  rw [List.getElem?_set, List.getElem?_set]
  by_cases hk : k = i
  · subst hk; rw [if_pos rfl, if_pos rfl, if_pos hi, if_pos hi2]; exact hx
  · rw [if_neg hk, if_neg hk]; exact h.2 i hi
attribute [local irreducible] valL pw cmpZ p2
/-- rows of one length, none too large -/
def Even (m N : Nat) (rs : List (List Int)) : Prop := ∀ zs ∈ rs, zs.length = N ∧ Go.Sl.Below m zs
theorem Even.at {m N : Nat} {rs : List (List Int)} (h : Even m N rs) {k : Int} (hk : 0 ≤ k ∧ k < rs.length) : (rs[k.toNat]?.getD []).length = N ∧ Go.Sl.Below m (rs[k.toNat]?.getD []) := by
  have h1 : k.toNat < rs.length := by omega
  rw [List.getElem?_eq_getElem h1]
  exact h _ (List.getElem_mem h1)
theorem RowS.len {G : Imm} {s : SV} {zs : List Int} (h : RowS G s zs) : s.n = zs.length := by
  obtain ⟨l, h1, _, _, h4⟩ := h
  rw [← h1]; exact h4.1
end Go.Proofs.YtbppmiimeccclaaGreatDoor
set_option linter.unusedVariables false
namespace Go.Proofs.YtbppmiimeccclaaGreatDoor
open Go Go.Sl
theorem Even.mono {m k N : Nat} {rs : List (List Int)} (h : Even m N rs) (hk : m ≤ k) : Even k N rs := fun zs hz => ⟨(h zs hz).1, (h zs hz).2.mono hk⟩
end Go.Proofs.YtbppmiimeccclaaGreatDoor
set_option maxRecDepth 100000
set_option linter.unusedVariables false
namespace Go.Proofs.YtbppmiimeccclaaGreatDoor
open Go Go.Sl
set_option maxHeartbeats 4000000
theorem belowB_map {m k : Nat} {xs : List Int} {f : Int → Int} (h : ∀ x : Int, (x.natAbs : Int) < pb m → ((f x).natAbs : Int) < pb k) (hx : Below m xs) : Below k (xs.map f) := fun z hz => by
  obtain ⟨x, h1, rfl⟩ := List.mem_map.1 hz
  exact h x (hx x h1)
theorem belowB_zip {m k : Nat} {xs ys : List Int} {f : Int → Int → Int} (h : ∀ x y : Int, (x.natAbs : Int) < pb m → (y.natAbs : Int) < pb m → ((f x y).natAbs : Int) < pb k) (hx : Below m xs) (hy : Below m ys) : Below k (List.zipWith f xs ys) := fun z hz => by
  rw [List.mem_iff_getElem] at hz
  obtain ⟨n, hn, rfl⟩ := hz
  rw [List.getElem_zipWith]
  exact h _ _ (hx _ (List.getElem_mem _)) (hy _ (List.getElem_mem _))
theorem doI_small {i : Sl.Instr} {rs : List (List Int)} {m N : Nat} {x : List Int} (he : EvenB m N rs) (ha : 0 ≤ i.a ∧ i.a < rs.length) (hb : i.op = 3 ∨ i.op = 4 → 0 ≤ i.b ∧ i.b < rs.length)
    (hz : i.op = 5 ∨ i.op = 7 → ((cst i).natAbs : Int) < pb 3) (h : doI i rs = some x) : x.length = N ∧ Below (m + 3) x := by
  obtain ⟨haL, haB⟩ := he.at (k := i.a.toNat) (by omega)
  have hp := pb_pos m
  have h4 : 4294967296 * pb m ≤ pb (m + 3) := by rw [← pb_succ]; exact pb_le (by omega)
  unfold doI at h
  simp only at h
  split at h
  · cases h
    exact ⟨by rw [List.length_map]; exact haL, belowB_map (fun x hx => by omega) haB⟩
  · split at h
    · rename_i h3
      obtain ⟨hbL, hbB⟩ := he.at (k := i.b.toNat) (by have := hb (.inl h3); omega)
      cases h
      exact ⟨by rw [List.length_zipWith, haL, hbL, Nat.min_self], belowB_zip (fun x y hx hy => by omega) haB hbB⟩
    · split at h
      · rename_i h4
        obtain ⟨hbL, hbB⟩ := he.at (k := i.b.toNat) (by have := hb (.inr h4); omega)
        cases h
        exact ⟨by rw [List.length_zipWith, haL, hbL, Nat.min_self], belowB_zip (fun x y hx hy => by omega) haB hbB⟩
      · split at h
        · rename_i h57
          cases h
          exact ⟨by rw [List.length_map]; exact haL, belowB_map (fun x hx => by rw [Nat.add_comm]; exact mul_lt_pb (hz h57) hx) haB⟩
        · split at h
          · split at h
            · cases h
              refine ⟨by rw [List.length_map]; exact haL, belowB_map (fun x hx => ?_) haB⟩
              have h1 : (x / cst i).natAbs ≤ x.natAbs := Int.natAbs_ediv_le_natAbs _ _
              omega
            · cases h
          · cases h
            exact ⟨haL, haB.mono (by omega)⟩
theorem EvenB.mono {m k N : Nat} {rs : List (List Int)} (h : EvenB m N rs) (hk : m ≤ k) : EvenB k N rs := fun zs hz => ⟨(h zs hz).1, (h zs hz).2.mono hk⟩
theorem evenB_set {m N : Nat} {rs : List (List Int)} {x : List Int} (h : EvenB m N rs) (hx : x.length = N ∧ Below m x) (k : Nat) : EvenB m N (rs.set k x) := fun zs hz => by
  rcases List.mem_or_eq_of_mem_set hz with h1 | h1
  · exact h zs h1
  · rw [h1]; exact hx
theorem BGrid.set {G : Imm} {r : List SV} {rs : List (List Int)} (h : BGrid G r rs) {s : SV} {x : List Int} (hs : BRow G s x) (k : Nat) : BGrid G (r.set k s) (rs.set k x) := by
  refine ⟨by rw [List.length_set, List.length_set]; exact h.1, fun i hi => ?_⟩
  rw [List.length_set] at hi
  have hrl := h.1
  rw [List.getElem?_set, List.getElem?_set]
  by_cases e : k = i
  · subst e
    rw [if_pos rfl, if_pos rfl, if_pos hi, if_pos (by omega)]
    exact hs
  · rw [if_neg e, if_neg e]
    exact h.2 i hi
attribute [local irreducible] valB pb cmpZ lstWp p2 cst doI
theorem c27 (G : Imm) (k : Int) (s : SV) : Does Tryz.prog 27 [.int .i64 k, .slice s.a s.n s.c] G [] (fun v G' Ho => v = .bool true ∧ G' = G ∧ Ho = []) := by
  refine Does.enter Tryz.func27 rfl Tryz.ntmps27 rfl (fun w => ?_)
  refine Wc.ga 11 [] ?_
  refine Ar.out1 (.inr rfl) (Ho := Hp.only _ []) rfl (.tmp rfl) (Hp.sub_only _ _) ?_
  exact ⟨rfl, rfl, rfl⟩
/-- the run of a program on rows: its registers behind it, or that it fails -/
def RunRPost (p : PV) (gs : List (List Int)) (m N : Nat) (o : Option Addr) (d : Nat) (r : List SV) (j : List Value) (v : Value) (G' : Imm) (Ho : Hp) : Prop :=
  ∃ (r' : List SV) (k : Int), v = .int .i64 k ∧ Ho = [(0, o.map (·.block), Row 36 r' j)] ∧ r'.length = r.length ∧ OwnA o d r' j ∧
    ((∃ rs', runTo p gs p.code.length = some rs' ∧ k = -1 ∧ BGrid G' r' rs' ∧ EvenB (m + 3 * p.code.length) N rs') ∨ (followP p gs = none ∧ 0 ≤ k))
theorem c25 (G : Imm) (p : PV) (gs : List (List Int)) (ac ao : Option Addr) (cc co : Nat) (o : Option Addr) (d : Nat) (r : List SV) (j : List Value) (m N : Nat) (hc : Arr G ac p.code) (hob : OwnA o d r j) (hg : BGrid G r (regs0 p gs)) (hm : EvenB m N (regs0 p gs)) (hN : N ≤ 1048576)
    (hmm : m + 3 * p.code.length ≤ 268435456) (hlen : p.code.length ≤ 16384) (hr : (r.length : Int) = p.regs) (hrr : r.length ≤ 128) (hmay : ∀ i ∈ p.code, mayOk i p.regs = true) :
    Does Tryz.prog 25 [waysR, .agg #[.int .i64 p.ins, .int .i64 p.regs, .slice ac p.code.length cc, .slice ao p.outs.length co], .slice o r.length d, .func (.func 27) #[] #[]] G [(0, o.map (·.block), Row 36 r j)] (RunRPost p gs m N o d r j) := by
  refine Does.enter Tryz.func25 rfl Tryz.ntmps25 rfl (fun w => ?_)
  refine Wc.gl 2 [] ?_
  refine Wl.box 1 rfl rfl rfl (fun b1 => ?_)
  refine Wl.box 2 rfl rfl rfl (fun b2 => ?_)
  refine Wl.gc 3 [] ?_
  refine Wc.scope ?_
  refine Wc.gc 13 [2] ?_
  refine Wc.loopG (ι := Nat × Imm × List SV × List (List Int)) (fun (i, Gx, r2, rs) => ([(16, .int .i64 (i : Int)), (2, .slice o r2.length d), (15, Go.Value.int Go.IntKind.i64 (↑(List.length (Go.Proofs.YtbppmiimeccclaaGreatDoor.PV.code p)) : Int)), (14, Go.Value.slice ac (List.length (Go.Proofs.YtbppmiimeccclaaGreatDoor.PV.code p)) cc), (4, Go.Value.pointer (Option.some (Go.Addr.mk b1 0 Option.none))), (3, Go.Value.func (Go.Fn.func 27) #[] #[])], [(0, o.map (·.block), Row 36 r2 j), (2, Option.some b2, Go.Obj.cells #[Go.Value.int Go.IntKind.i64 (Go.Proofs.YtbppmiimeccclaaGreatDoor.PV.ins p), Go.Value.int Go.IntKind.i64 (Go.Proofs.YtbppmiimeccclaaGreatDoor.PV.regs p), Go.Value.slice ac (List.length (Go.Proofs.YtbppmiimeccclaaGreatDoor.PV.code p)) cc, Go.Value.slice ao (List.length (Go.Proofs.YtbppmiimeccclaaGreatDoor.PV.outs p)) co] 25), (1, Option.some b1, Go.Obj.cells #[Go.Value.func (Go.Fn.func 47) #[] #[], Go.Value.func (Go.Fn.func 48) #[] #[], Go.Value.func (Go.Fn.func 50) #[] #[], Go.Value.func (Go.Fn.func 52) #[] #[], Go.Value.func (Go.Fn.func 53) #[] #[]] 73)])) (fun (i, Gx, r2, rs) => Gx) (fun (i, Gx, r2, rs) => i ≤ p.code.length ∧ G.le Gx ∧ r2.length = r.length ∧ OwnA o d r2 j ∧ BGrid Gx r2 rs ∧ EvenB (m + 3 * i) N rs ∧ runTo p gs i = some rs) (fun (i, Gx, r2, rs) => p.code.length - i) ((0, G, r, regs0 p gs)) (⟨Nat.zero_le _, Imm.le_refl _, rfl, hob, hg, hm, rfl⟩) rfl ⟨rfl, rfl, rfl, rfl, rfl, rfl, trivial⟩ ⟨rfl, rfl, rfl, trivial⟩ (fun ⟨i, Gx, r2, rs⟩ => fun (hk : i ≤ p.code.length ∧ G.le Gx ∧ r2.length = r.length ∧ OwnA o d r2 j ∧ BGrid Gx r2 rs ∧ EvenB (m + 3 * i) N rs ∧ runTo p gs i = some rs) => ?_)
  obtain ⟨hi0, hgx, hr2, ho2, hg2, hb2, hrun⟩ := hk
  replace hc := hc.up hgx
  have hrl := hg2.1
  rcases Nat.lt_or_ge i p.code.length with hic | hic
  · have hmem : (p.code[((i : Nat) : Int).toNat]?.getD default) ∈ p.code := by
      rw [Int.toNat_natCast, List.getElem?_eq_getElem hic]; exact List.getElem_mem hic
    have hmi := hmay _ hmem
    obtain ⟨m1, m2, m3, m4, m5, m6, m7, m8⟩ := may_facts hmi
    have m9 : (p.code[((i : Nat) : Int).toNat]?.getD default).a < rs.length := by omega
    have hbz : (p.code[((i : Nat) : Int).toNat]?.getD default).op = 3 ∨ (p.code[((i : Nat) : Int).toNat]?.getD default).op = 4 ∨ (p.code[((i : Nat) : Int).toNat]?.getD default).b = 0 := by
      unfold mayOk at hmi
      rw [Bool.and_eq_true, Bool.and_eq_true, decide_eq_true_eq] at hmi
      exact hmi.1.1.2.2.2.2
    have mb : 0 ≤ (p.code[((i : Nat) : Int).toNat]?.getD default).b ∧ (p.code[((i : Nat) : Int).toNat]?.getD default).b < r2.length := by
      rcases hbz with h | h | h
      · have := m4 (.inl h); omega
      · have := m4 (.inr h); omega
      · omega
    have mt : 0 ≤ (p.code[((i : Nat) : Int).toNat]?.getD default).to ∧ (p.code[((i : Nat) : Int).toNat]?.getD default).to < r2.length := by omega
    have ma : 0 ≤ (p.code[((i : Nat) : Int).toNat]?.getD default).a ∧ (p.code[((i : Nat) : Int).toNat]?.getD default).a < r2.length := by omega
    have hmi9 : m + 3 * i ≤ 268435456 := by omega
    have hk3 : (p.code[((i : Nat) : Int).toNat]?.getD default).op ≠ 1 → (p.code[((i : Nat) : Int).toNat]?.getD default).op ≠ 2 → (p.code[((i : Nat) : Int).toNat]?.getD default).op ≠ 3 → (p.code[((i : Nat) : Int).toNat]?.getD default).op ≠ 4 → cst (p.code[((i : Nat) : Int).toNat]?.getD default) ≠ 0 ∧ ((cst (p.code[((i : Nat) : Int).toNat]?.getD default)).natAbs : Int) < pb 3 := fun a b c d => ⟨(m6 a b c d).1, Int.lt_of_lt_of_le (m6 a b c d).2 pw5_pb3⟩
    refine Wc.gl 14 [1] ?_
    refine Wl.q rfl (Qy.at (α := Sl.Instr) T.sl22 rfl rfl (by assumption) (by omega)) ?_
    refine Wl.q rfl (Qy.loadsG T.agg46 rfl (Arr.elem (by assumption) (by omega)) rfl) ?_
    refine Wl.alloc 3 rfl T.zero46 (fun b3 => ?_)
    refine Wl.gl 9 [3, 1, 3] ?_
    refine Wl.call 0 rfl T.fn46 rfl (c46 _ (p.code[((i : Nat) : Int).toNat]?.getD default) o d r2 j rs (m + 3 * i) N ho2 hg2 hb2 hN hmi9 m1 ma mb hk3 m7 m8) (tags_of ⟨rfl, trivial⟩) (fun v1 G1 Ho1 hle1 hp => ?_)
    obtain ⟨x, rfl, hx, rfl⟩ := hp
    replace hc := hc.up hle1
    replace hg2 := hg2.up hle1
    by_cases hd : doI (p.code[((i : Nat) : Int).toNat]?.getD default) rs = none
    · have hd2 : ¬ doI (p.code[((i : Nat) : Int).toNat]?.getD default) rs ≠ none := fun h => h hd
      refine Wl.gl 11 [] ?_
      refine Wl.q rfl (Qy.notD rfl) ?_
      refine Wl.ga 16 [1] ?_
      refine Ar.scopeR ?_
      refine Ar.out1 (.inr rfl) (Ho := Hp.only _ [0]) rfl (.tmp rfl) (Hp.sub_only _ _) ?_
      exact ⟨r2, (i : Int), rfl, rfl, hr2, ho2, .inr ⟨runTo_stop hrun hd hic, by omega⟩⟩
    · obtain ⟨z, hz⟩ := Option.ne_none_iff_exists'.1 hd
      have hxz := hx z hz
      have hok : doI (p.code[((i : Nat) : Int).toNat]?.getD default) rs ≠ none := hd
      refine Wl.gl 11 [] ?_
      refine Wl.q rfl (Qy.notD rfl) ?_
      refine Wl.gc 2 [] ?_
      refine Wc.cond rfl (fun hc1 => ?_) (fun hc1 => ?_)
      refine Wc.ga 13 [] ?_
      refine Ar.scopeR ?_
      refine Ar.out1 (.inr rfl) (Ho := Hp.only _ [0]) rfl (.tmp rfl) (Hp.sub_only _ _) ?_
      rotate_left
      refine Wc.gl 8 [3] ?_
      refine Wl.q rfl (Qy.indexAddrO (α := SV) T.sl34 rfl rfl (by assumption) (by omega)) ?_
      refine Wl.setO (z := _) 0 T.size36 rfl rfl rfl (by assumption) (by omega) rfl (fun ho1 => ?_)
      refine Wl.gl 7 [] ?_
      refine Wl.callV (fst := []) (cap := []) 4 rfl T.fn27 rfl rfl (c27 _ _ _) (tags_of trivial) (fun v2 G2 Ho2 hle2 hp => ?_)
      obtain ⟨rfl, rfl, rfl⟩ := hp
      refine Wl.ga 11 [0] ?_
      rotate_left
      · exact absurd hok hc1
      refine Ar.re 2 rfl (show _ = Value.slice o (r2.set (p.code[((i : Nat) : Int).toNat]?.getD default).to.toNat x).length d by rw [List.length_set]) ?_
      refine Ar.again ((i + 1, _, r2.set (p.code[((i : Nat) : Int).toNat]?.getD default).to.toNat x, rs.set (p.code[((i : Nat) : Int).toNat]?.getD default).to.toNat z)) ?_ ?_ rfl ⟨rfl, rfl, rfl, rfl, rfl, rfl, trivial⟩ ⟨rfl, rfl, rfl, trivial⟩
      · refine ⟨by omega, Imm.le_trans hgx hle1, by rw [List.length_set]; exact hr2, by assumption, hg2.set hxz _, ?_, runTo_succ (x := rs) hrun hz⟩
        have hs := doI_small (i := p.code[((i : Nat) : Int).toNat]?.getD default) hb2 (by rw [← hrl]; exact ma) (fun _ => by rw [← hrl]; exact mb) (fun h => (hk3 (fun e => by rw [e] at h; omega) (fun e => by rw [e] at h; omega) (fun e => by rw [e] at h; omega) (fun e => by rw [e] at h; omega)).2) hz
        rw [show m + 3 * (i + 1) = m + 3 * i + 3 by omega]
        exact evenB_set (hb2.mono (by omega)) hs _
      · show p.code.length - (i + 1) < p.code.length - i
        omega
  · have hii : i = p.code.length := by omega
    subst hii
    refine Wc.ga 18 [0] ?_
    refine Ar.scopeR ?_
    refine Ar.out1 (.inr rfl) (Ho := Hp.only _ [0]) rfl (.tmp rfl) (Hp.sub_only _ _) ?_
    exact ⟨r2, -1, rfl, rfl, hr2, ho2, .inl ⟨rs, hrun, rfl, hg2, hb2⟩⟩
end Go.Proofs.YtbppmiimeccclaaGreatDoor
set_option maxRecDepth 100000
set_option linter.unusedVariables false
namespace Go.Proofs.YtbppmiimeccclaaGreatDoor
open Go Go.Sl
set_option maxHeartbeats 4000000
theorem c16R (G : Imm) (p : PV) (ac ao : Option Addr) (cc co : Nat) (hc : Arr G ac p.code) (ho : Arr G ao p.outs) (h1 : p.code.length ≤ 1099511627776) (h2 : p.outs.length ≤ 1099511627776) (hR : rightP p = true) :
    Does Tryz.prog 16 [.agg #[.int .i64 p.ins, .int .i64 p.regs, .slice ac p.code.length cc, .slice ao p.outs.length co]] G [] (fun v G' Ho => v = .tuple #[.int .i64 (checkP p).1, .int .i64 0] ∧ G' = G ∧ Ho = []) := by
  have hf : (checkP p).2 = false := by unfold rightP at hR; simpa using hR
  have h := c16 G p ac ao cc co hc ho h1 h2
  rw [hf] at h
  exact h
theorem cmpZ_zero {x y : Int} (h : cmpZ x y = 0) : x = y := by
  unfold cmpZ at h
  split at h
  · omega
  · split at h <;> omega
theorem take_next {za zb : List Int} {i : Nat} (h : za.take i = zb.take i) (h1 : i < za.length) (h2 : i < zb.length) (he : za[i]?.getD 0 = zb[i]?.getD 0) : za.take (i + 1) = zb.take (i + 1) := by
  rw [List.getElem?_eq_getElem h1, List.getElem?_eq_getElem h2] at he
  rw [List.take_add_one, List.take_add_one, h, List.getElem?_eq_getElem h1, List.getElem?_eq_getElem h2]
  have e : za[i] = zb[i] := he
  rw [e]
theorem below_zeros (m n : Nat) : Below m (List.replicate n 0) := fun z hz => by rw [List.eq_of_mem_replicate hz]; exact pb_pos m
attribute [local irreducible] valB pb cmpZ lstWp p2 cst doZ checkP
theorem c45 (G : Imm) (p : PV) (ac ao : Option Addr) (cc co : Nat) (hc : Arr G ac p.code) (ho : Arr G ao p.outs) (h1 : p.code.length ≤ 1099511627776) (h2 : p.outs.length ≤ 1099511627776) (hR : rightP p = true) (n : Int) (hn : n = p.ins) :
    Does Tryz.prog 45 [.agg #[.int .i64 p.ins, .int .i64 p.regs, .slice ac p.code.length cc, .slice ao p.outs.length co], .int .i64 n] G [] (fun v G' Ho => v = .int .i64 0 ∧ G' = G ∧ Ho = []) := by
  refine Does.enter Tryz.func45 rfl Tryz.ntmps45 rfl (fun w => ?_)
  refine Wc.gl 2 [] ?_
  refine Wl.box 0 rfl rfl rfl (fun b1 => ?_)
  refine Wl.gl 6 [0] ?_
  refine Wl.call0 rfl T.fn16 rfl (c16R _ p _ _ _ _ hc ho h1 h2 hR) ?_
  refine Wl.ga 36 [0, 0, 0] ?_
  refine Ar.out1 (.inr rfl) (Ho := Hp.only _ []) rfl (.tmp rfl) (Hp.sub_only _ _) ?_
  exact ⟨rfl, rfl, rfl⟩
end Go.Proofs.YtbppmiimeccclaaGreatDoor
set_option maxRecDepth 100000
set_option linter.unusedVariables false
namespace Go.Proofs.YtbppmiimeccclaaGreatDoor
open Go Go.Sl
set_option maxHeartbeats 4000000
theorem brow_next {G : Imm} {r : List SV} {rs : List (List Int)} {k : Nat} {s : SV} (h : ∀ q : Nat, q < k → BRow G (r[q]?.getD default) (rs[q]?.getD [])) (hk : k < r.length) (hs : BRow G s (rs[k]?.getD [])) : ∀ q : Nat, q < k + 1 → BRow G ((r.set k s)[q]?.getD default) (rs[q]?.getD []) := fun q hq => by
  rw [List.getElem?_set]
  by_cases he : k = q
  · subst he; rw [if_pos rfl, if_pos hk]; exact hs
  · rw [if_neg he]; exact h q (by omega)
theorem brows_up {G G' : Imm} {r : List SV} {rs : List (List Int)} {k : Nat} (h : ∀ q : Nat, q < k → BRow G (r[q]?.getD default) (rs[q]?.getD [])) (hl : G.le G') : ∀ q : Nat, q < k → BRow G' (r[q]?.getD default) (rs[q]?.getD []) := fun q hq => (h q hq).up hl
attribute [local irreducible] valB pb cmpZ lstWp p2 cst doI
theorem c24 (G : Imm) (p : PV) (ac ao ga : Option Addr) (cc co gc : Nat) (gl : List SV) (gs : List (List Int)) (m N : Nat) (hc : Arr G ac p.code) (ho : Arr G ao p.outs) (hga : Arr G ga gl) (hgg : BGrid G gl gs) (hev : EvenB m N gs) (hN : N ≤ 4096) (hR : rightP p = true) (hgi : (gl.length : Int) = p.ins) :
    Does Tryz.prog 24 [.agg #[.int .i64 p.ins, .int .i64 p.regs, .slice ac p.code.length cc, .slice ao p.outs.length co], .slice ga gl.length gc] G [] (fun v G' Ho => ∃ b r, v = .tuple #[.slice (some ⟨b, 0, none⟩) r.length p.regs.toNat, .int .i64 0] ∧ BGrid G' r (regs0 p gs) ∧ r.length = p.regs.toNat ∧ Ho = [(1, some b, Row 36 r [])]) := by
  obtain ⟨f1, f2, f3, f4, f5, f6, f7, f8⟩ := right_facts hR
  have h1 : p.code.length ≤ 1099511627776 := by omega
  have h2 : p.outs.length ≤ 1099511627776 := by omega
  have hgl := hgg.1
  obtain ⟨R, hRR⟩ : ∃ R : Nat, p.regs = (R : Int) := ⟨p.regs.toNat, by omega⟩
  refine Does.enter Tryz.func24 rfl Tryz.ntmps24 rfl (fun w => ?_)
  have hM : p.regs.toNat = R := by omega
  have hrl0 := regs0_len p gs
  rw [hM] at hrl0
  have hgl0 : 0 < gl.length := by omega
  obtain ⟨h0L, h0B⟩ := hev.at (k := 0) (by omega)
  obtain ⟨l0, e1, e2, e3, e4⟩ := hgg.2 0 (by omega)
  have h0n : (gl[(0 : Int).toNat]?.getD default).n = N := by
    show (gl[0]?.getD default).n = N
    rw [← e1, e4.1, h0L]
  refine Wc.gl 2 [] ?_
  refine Wl.box 0 rfl rfl rfl (fun b1 => ?_)
  refine Wl.gl 10 [0] ?_
  refine Wl.call0 rfl T.fn45 rfl (c45 _ p _ _ _ _ (by assumption) (by assumption) h1 h2 hR _ hgi) ?_
  refine Wl.gl 15 [0] ?_
  refine Wl.q rfl (Qy.at (α := SV) T.sl34 rfl rfl (by assumption) (by omega)) ?_
  refine Wl.q rfl (Qy.loadG T.one36 rfl (Arr.cell (by assumption) (by omega) 0 rfl rfl)) ?_
  refine Wl.gl 8 [0] ?_
  refine Wl.make (α := SV) 1 rfl T.sl34 T.el36 rfl rfl (by omega) (by omega) (fun b2 => ?_)
  refine Wl.gc 12 [] ?_
  rw [hM]
  have hown : ∀ r : List SV, r.length = R → OwnA (some ⟨b2, 0, none⟩) R r [] := fun r hr => .inr ⟨b2, rfl, by rw [hr]; rfl, by omega, by simp only [maxLen]; omega⟩
  refine Wc.re 8 rfl (show _ = Value.slice (some ⟨b2, 0, none⟩) (List.replicate R (default : SV)).length R by rw [List.length_replicate]) ?_
  refine Wc.re 7 rfl (show _ = Value.int .i64 (N : Int) by rw [h0n]) ?_
  refine Wc.re 25 rfl (show _ = Value.int .i64 (R : Int) by rw [List.length_replicate]) ?_
  refine Wc.loopG (ι := Nat × Imm × List SV) (fun (k, Gx, r) => ([(26, .int .i64 (k : Int)), (8, .slice (some ⟨b2, 0, none⟩) r.length R), (25, Go.Value.int Go.IntKind.i64 (↑R : Int)), (7, Go.Value.int Go.IntKind.i64 (↑N : Int)), (1, Go.Value.slice ga (List.length gl) gc)], [(1, some b2, Row 36 r []), (0, Option.some b1, Go.Obj.cells #[Go.Value.int Go.IntKind.i64 (Go.Proofs.YtbppmiimeccclaaGreatDoor.PV.ins p), Go.Value.int Go.IntKind.i64 (Go.Proofs.YtbppmiimeccclaaGreatDoor.PV.regs p), Go.Value.slice ac (List.length (Go.Proofs.YtbppmiimeccclaaGreatDoor.PV.code p)) cc, Go.Value.slice ao (List.length (Go.Proofs.YtbppmiimeccclaaGreatDoor.PV.outs p)) co] 25)])) (fun (k, Gx, r) => Gx) (fun (k, Gx, r) => k ≤ R ∧ G.le Gx ∧ r.length = R ∧ ∀ q : Nat, q < k → BRow Gx (r[q]?.getD default) ((regs0 p gs)[q]?.getD [])) (fun (k, Gx, r) => R - k) ((0, G, List.replicate R (default : SV))) (⟨Nat.zero_le _, Imm.le_refl _, List.length_replicate, fun q hq => by omega⟩) rfl ⟨rfl, rfl, rfl, rfl, rfl, trivial⟩ ⟨rfl, rfl, trivial⟩ (fun ⟨k, Gx, r⟩ => fun (hk : k ≤ R ∧ G.le Gx ∧ r.length = R ∧ ∀ q : Nat, q < k → BRow Gx (r[q]?.getD default) ((regs0 p gs)[q]?.getD [])) => ?_)
  obtain ⟨hk0, hgx, hrR, hrow⟩ := hk
  replace hga := hga.up hgx
  replace hgg := hgg.up hgx
  have hor := hown r hrR
  rcases Nat.lt_or_ge k R with hkR | hkR
  · by_cases hkg : k < gl.length
    · have hkn : (gl[((k : Nat) : Int).toNat]?.getD default).n = N := by
        obtain ⟨l1, a1, a2, a3, a4⟩ := hgg.2 k hkg
        rw [Int.toNat_natCast, ← a1, a4.1]
        exact (hev.at (k := k) (by omega)).1
      refine Wc.gl 22 [1] ?_
      refine Wl.make (α := IV) 2 rfl T.sl36 T.el63 rfl rfl (by omega) (by omega) (fun b3 => ?_)
      refine Wl.q rfl (Qy.indexAddrO (α := SV) T.sl34 rfl rfl (by assumption) (by omega)) ?_
      refine Wl.re 32 rfl (show _ = Value.slice (some ⟨b3, 0, none⟩) N N by rw [List.length_replicate]; rfl) ?_
      refine Wl.reH 2 (Row 63 (List.replicate N (default : IV)) []) rfl rfl ?_
      refine Wl.setO (z := (⟨some ⟨b3, 0, none⟩, N, N⟩ : SV)) (m := ((k : Nat) : Int)) 1 T.size36 rfl rfl rfl hor (by omega) rfl (fun ho1 => ?_)
      have hrk : ((r.set k (⟨some ⟨b3, 0, none⟩, N, N⟩ : SV))[k]?.getD default) = ⟨some ⟨b3, 0, none⟩, N, N⟩ := by rw [List.getElem?_set, if_pos rfl, if_pos (by omega)]; rfl
      have ho3 : OwnA (some ⟨b3, 0, none⟩) N (List.replicate N (default : IV)) [] := .inr ⟨b3, rfl, by rw [List.length_replicate]; rfl, by rw [List.length_replicate]; exact Nat.le_refl _, by simp only [maxLen]; omega⟩
      rw [Int.toNat_natCast] at ho1 ⊢
      obtain ⟨r9, hr9⟩ : ∃ r9, r9 = r.set k (⟨some ⟨b3, 0, none⟩, N, N⟩ : SV) := ⟨_, rfl⟩
      have hr9l : r9.length = R := by rw [hr9, List.length_set]; exact hrR
      rw [← hr9] at ho1 hrk ⊢
      refine Wl.gl 16 [1] ?_
      refine Wl.q rfl (Qy.at (α := SV) T.sl34 rfl rfl (by assumption) (by omega)) ?_
      refine Wl.q rfl (Qy.loadG T.one36 rfl (Arr.cell (by assumption) (by omega) 0 rfl rfl)) ?_
      refine Wl.ll0 4 [] ?_
      refine Wl.no 45 rfl (by first | assumption | omega) ?_
      refine Wl.gc 10 [0] ?_
      refine Wc.draw [0, 2, 1] [(1, 8), (2, 8)] T.mixed rfl ?_
      refine Gm.q 0 [] (by kernel_rfl) rfl rfl (Qy.move rfl) ?_
      refine Gm.q 1 [] (by kernel_rfl) rfl rfl (Qy.move rfl) ?_
      refine Gm.q 2 [] (by kernel_rfl) rfl rfl (Qy.indexAddrO (α := SV) T.sl34 rfl rfl (by assumption) (by omega)) ?_
      refine Gm.q 3 [0, 1] (by kernel_rfl) rfl rfl (Qy.loadO 1 0 T.one36 rfl rfl (by assumption) (by omega) rfl rfl) ?_
      refine Gm.q 4 [] (by kernel_rfl) rfl rfl (Qy.move rfl) ?_
      refine Gm.q 5 [] (by kernel_rfl) rfl rfl (Qy.move rfl) ?_
      refine Gm.q 6 [] (by kernel_rfl) rfl rfl (Qy.at (α := SV) T.sl34 rfl rfl (by assumption) (by omega)) ?_
      refine Gm.q 7 [0] (by kernel_rfl) rfl rfl (Qy.loadG T.one36 rfl (Arr.cell (by assumption) (by omega) 0 rfl rfl)) ?_
      refine Gm.one 8 ⟨rfl, rfl, rfl, trivial⟩ (by first | exact Imm.le_refl _ | repeat (first | assumption | refine Imm.le_trans ?_ (by assumption))) (by kernel_rfl) rfl ?_
      obtain ⟨l1, a1, a2, a3, a4⟩ := hgg.2 k hkg
      have hl1 : l1.length = N := by rw [a1]; exact hkn
      refine Wl.re 52 rfl (show _ = Value.slice (some ⟨b3, 0, none⟩) (List.replicate N (default : IV)).length N by rw [Int.toNat_natCast, hrk, List.length_replicate]) ?_
      refine Wl.re 56 rfl (show _ = Value.slice (gl[k]?.getD default).a l1.length (gl[k]?.getD default).c by rw [a1]; rfl) ?_
      refine Wl.copyRow (α := IV) 2 rfl T.sl36 rfl rfl rfl (Src.arr a3) (by rw [hl1, List.length_replicate]; exact Nat.le_refl _) ?_
      refine Wl.reH 2 (Row 63 l1 []) rfl (by rw [hl1, List.drop_replicate, Nat.sub_self, List.replicate_zero, List.append_nil]) ?_
      have ho4 : OwnA (some ⟨b3, 0, none⟩) N l1 [] := .inr ⟨b3, rfl, by rw [hl1]; rfl, by rw [hl1]; exact Nat.le_refl _, by simp only [maxLen]; omega⟩
      refine Wl.on0 ?_
      refine Gm.doneA (by kernel_rfl) ⟨rfl, trivial⟩ (by first | exact Imm.le_refl _ | repeat (first | assumption | refine Imm.le_trans ?_ (by assumption))) ?_
      refine Ar.ga 6 [] ?_
      refine Ar.freezeRow 2 rfl ho4 (fun G1 hle1 hA1 => ?_)
      refine Ar.re 8 rfl (show _ = Value.slice (some ⟨b2, 0, none⟩) r9.length R by rw [hr9l, hrR]) ?_
      refine Ar.again ((k + 1, G1, r9)) ?_ ?_ rfl ⟨rfl, rfl, rfl, rfl, rfl, trivial⟩ ⟨rfl, rfl, trivial⟩
      · have hs9 : BRow G1 ⟨some ⟨b3, 0, none⟩, N, N⟩ ((regs0 p gs)[k]?.getD []) := by
          rw [regs0_at (by omega), if_pos (by omega)]
          exact ⟨l1, hl1, Nat.le_refl _, hA1, a4.up hle1⟩
        refine ⟨by omega, Imm.le_trans hgx hle1, hr9l, fun q hq => ?_⟩
        rw [hr9]
        exact brow_next (brows_up hrow hle1) (by omega) hs9 q hq
      · show R - (k + 1) < R - k
        omega
    · refine Wc.gl 22 [1] ?_
      refine Wl.make (α := IV) 2 rfl T.sl36 T.el63 rfl rfl (by omega) (by omega) (fun b3 => ?_)
      refine Wl.q rfl (Qy.indexAddrO (α := SV) T.sl34 rfl rfl (by assumption) (by omega)) ?_
      refine Wl.re 32 rfl (show _ = Value.slice (some ⟨b3, 0, none⟩) N N by rw [List.length_replicate]; rfl) ?_
      refine Wl.reH 2 (Row 63 (List.replicate N (default : IV)) []) rfl rfl ?_
      refine Wl.setO (z := (⟨some ⟨b3, 0, none⟩, N, N⟩ : SV)) (m := ((k : Nat) : Int)) 1 T.size36 rfl rfl rfl hor (by omega) rfl (fun ho1 => ?_)
      have hrk : ((r.set k (⟨some ⟨b3, 0, none⟩, N, N⟩ : SV))[k]?.getD default) = ⟨some ⟨b3, 0, none⟩, N, N⟩ := by rw [List.getElem?_set, if_pos rfl, if_pos (by omega)]; rfl
      have ho3 : OwnA (some ⟨b3, 0, none⟩) N (List.replicate N (default : IV)) [] := .inr ⟨b3, rfl, by rw [List.length_replicate]; rfl, by rw [List.length_replicate]; exact Nat.le_refl _, by simp only [maxLen]; omega⟩
      rw [Int.toNat_natCast] at ho1 ⊢
      obtain ⟨r9, hr9⟩ : ∃ r9, r9 = r.set k (⟨some ⟨b3, 0, none⟩, N, N⟩ : SV) := ⟨_, rfl⟩
      have hr9l : r9.length = R := by rw [hr9, List.length_set]; exact hrR
      rw [← hr9] at ho1 hrk ⊢
      refine Wl.ga 18 [0] ?_
      refine Ar.freezeRow 2 rfl ho3 (fun G1 hle1 hA1 => ?_)
      refine Ar.re 8 rfl (show _ = Value.slice (some ⟨b2, 0, none⟩) r9.length R by rw [hr9l, hrR]) ?_
      refine Ar.again ((k + 1, G1, r9)) ?_ ?_ rfl ⟨rfl, rfl, rfl, rfl, rfl, trivial⟩ ⟨rfl, rfl, trivial⟩
      · have hs9 : BRow G1 ⟨some ⟨b3, 0, none⟩, N, N⟩ ((regs0 p gs)[k]?.getD []) := by
          rw [regs0_at (by omega), if_neg (by omega), h0L]
          exact ⟨_, List.length_replicate, Nat.le_refl _, hA1, Bigs.zeros _ _⟩
        refine ⟨by omega, Imm.le_trans hgx hle1, hr9l, fun q hq => ?_⟩
        rw [hr9]
        exact brow_next (brows_up hrow hle1) (by omega) hs9 q hq
      · show R - (k + 1) < R - k
        omega
  · refine Wc.ga 20 [0] ?_
    refine Ar.out2 (.inr rfl) (Ho := [(1, some b2, Row 36 r [])]) rfl (.tmp rfl) (.tmp rfl) ⟨rfl, trivial⟩ ?_
    exact ⟨b2, r, rfl, ⟨by omega, fun i hi => hrow i (by omega)⟩, hrR, rfl⟩
end Go.Proofs.YtbppmiimeccclaaGreatDoor
set_option maxRecDepth 100000
set_option linter.unusedVariables false
namespace Go.Proofs.YtbppmiimeccclaaGreatDoor
open Go Go.Sl
set_option maxHeartbeats 4000000
theorem brow_snoc {G : Imm} {q : List SV} {os : List (List Int)} {i : Nat} {s : SV} (h : ∀ t : Nat, t < i → BRow G (q[t]?.getD default) (os[t]?.getD [])) (hq : q.length = i) (hs : BRow G s (os[i]?.getD [])) : ∀ t : Nat, t < i + 1 → BRow G ((q ++ [s])[t]?.getD default) (os[t]?.getD []) := fun t ht => by
  rcases Nat.lt_or_ge t i with h1 | h1
  · rw [List.getElem?_append_left (by omega)]; exact h t h1
  · have e : t = i := by omega
    subst e
    rw [List.getElem?_append_right (by omega), hq, Nat.sub_self]; exact hs
theorem outs_at {p : PV} {rs : List (List Int)} {i : Nat} (hi : i < p.outs.length) : (outsOf p rs)[i]?.getD [] = rs[(p.outs[((i : Nat) : Int).toNat]?.getD default).toNat]?.getD [] := by
  unfold outsOf
  rw [List.getElem?_map, Int.toNat_natCast, List.getElem?_eq_getElem hi]; rfl
attribute [local irreducible] valB pb cmpZ lstWp p2 cst doI
theorem c28 (G : Imm) (a : Option Addr) (c : Nat) (l : List IV) (ha : Arr G a l) (hl : l.length ≤ 1048576) :
    Does Tryz.prog 28 [.slice a l.length c] G [] (fun v G' Ho => ∃ s d, v = .slice s l.length d ∧ Arr G' s l ∧ l.length ≤ d ∧ Ho = []) := by
  by_cases hne : a = none
  · have h0 : l = [] := by
      rcases ha.2 with h | ⟨b, o, h, _⟩
      · exact List.eq_nil_of_length_eq_zero h
      · rw [hne] at h; cases h
    subst hne
    subst h0
    have hyes : (none : Option Addr) = none := rfl
    refine Does.enter Tryz.func28 rfl Tryz.ntmps28 rfl (fun w => ?_)
    refine Wc.gl 9 [] ?_
    refine Wl.q rfl (Qy.eqlSliceNil T.sl36 rfl rfl) ?_
    refine Wl.ga 10 [1] ?_
    refine Ar.e1 ?_
    exact ⟨none, 0, rfl, Arr.nil _, Nat.le_refl _, rfl⟩
  refine Does.enter Tryz.func28 rfl Tryz.ntmps28 rfl (fun w => ?_)
  refine Wc.gl 9 [] ?_
  refine Wl.q rfl (Qy.eqlSliceNil T.sl36 rfl rfl) ?_
  refine Wl.gl 7 [0] ?_
  refine Wl.lit0 0 rfl T.sl36 (fun b1 => ?_)
  refine Wl.ll0 1 [] ?_
  refine Wl.reH 0 (Row 63 ([] : List IV) []) rfl rfl ?_
  refine Wl.append (α := IV) (xs := []) (ys := l) (junk := []) 0 rfl T.sl36 T.el63 rfl rfl rfl (.inr ⟨b1, rfl, rfl, Nat.le_refl _, Nat.zero_le _⟩) (Src.arr ha) (by rw [List.length_nil]; omega) (by rw [List.length_nil]; simp only [maxLen]; omega) (fun a1 c1 junk1 ho1 => ?_)
  rw [List.nil_append] at ho1 ⊢
  have hc1 := ho1.le
  refine Wl.ga 4 [] ?_
  refine Ar.freezeRow 0 rfl ho1 (fun G1 hle1 hA1 => ?_)
  refine Ar.e1 ?_
  exact ⟨a1, c1, rfl, hA1, hc1, rfl⟩
/-- what Rows answers -/
def RowsPost (p : PV) (gs : List (List Int)) (m N : Nat) (v : Value) (G' : Imm) (Ho : Hp) : Prop :=
  Ho = [] ∧ ((∃ os b r c', followP p gs = some os ∧ v = .tuple #[.slice b (List.length r) c', .int .i64 0, .int .i64 0] ∧ Arr G' b r ∧ List.length r ≤ c' ∧ BGrid G' r os ∧ EvenB (m + 3 * p.code.length) N os) ∨ (followP p gs = none ∧ ∃ k, v = .tuple #[.slice none 0 0, .int .i64 k, .int .i64 20]))
theorem c10 (G : Imm) (p : PV) (ac ao ga : Option Addr) (cc co gc : Nat) (gl : List SV) (gs : List (List Int)) (m N : Nat) (hc : Arr G ac p.code) (ho : Arr G ao p.outs) (hga : Arr G ga gl) (hgg : BGrid G gl gs) (hev : EvenB m N gs) (hmm : m ≤ 1048576) (hN : N ≤ 4096) (hR : rightP p = true) (hgi : (gl.length : Int) = p.ins) :
    Does Tryz.prog 10 [.agg #[.int .i64 p.ins, .int .i64 p.regs, .slice ac p.code.length cc, .slice ao p.outs.length co], .slice ga gl.length gc] G [] (RowsPost p gs m N) := by
  obtain ⟨f1, f2, f3, f4, f5, f6, f7, f8⟩ := right_facts hR
  obtain ⟨R, hRR⟩ : ∃ R : Nat, p.regs = (R : Int) := ⟨p.regs.toNat, by omega⟩
  refine Does.enter Tryz.func10 rfl Tryz.ntmps10 rfl (fun w => ?_)
  refine Wc.nilRow 0 (Row 36 ([] : List SV) []) ?_
  refine Wc.gl 2 [] ?_
  refine Wl.box 1 rfl rfl rfl (fun b1 => ?_)
  refine Wl.gl 9 [1] ?_
  refine Wl.k 2 rfl (c24 _ p ac ao ga cc co gc gl gs m N hc ho hga hgg hev hN hR hgi) (fun v1 G1 Ho1 hle1 hp => ?_)
  obtain ⟨b9, r0, rfl, hg0, hr0, rfl⟩ := hp
  replace hc := hc.up hle1
  replace ho := ho.up hle1
  have hrl0 := regs0_len p gs
  have hm0 : EvenB m N (regs0 p gs) := fun zs hz => by
    unfold regs0 at hz
    obtain ⟨k, hk, rfl⟩ := List.mem_map.1 hz
    have hN9 := (hev.at (k := 0) (by have := hgg.1; omega)).1
    split
    · exact hev.at (k := k) (by omega)
    · rw [hN9]
      exact ⟨List.length_replicate, below_zeros m _⟩
  refine Wl.gc 19 [0] ?_
  refine Wc.draw [0, 1, 3] [(3, 3), (1, 3), (0, 3)] T.mixed rfl ?_
  refine Gm.c 1 [1] [1] ?_
  refine Gm.c 2 [] [] ?_
  refine Gm.o1 0 ?_
  refine Wl.k0 rfl (c26 _) ?_
  refine Wl.on0 ?_
  refine Gm.o1 3 ?_
  refine Wl.k 3 rfl (c25 _ p gs ac ao cc co (some ⟨b9, 0, none⟩) p.regs.toNat r0 [] m N hc (.inr ⟨b9, rfl, by rw [hr0]; rfl, by omega, by simp only [maxLen]; omega⟩) hg0 hm0 (by omega) (by omega) f4 (by omega) (by omega) f8) (fun v9 G9 Ho9 hle9 hp => ?_)
  obtain ⟨r9, k9, rfl, rfl, hr9, ho9, hcase⟩ := hp
  replace ho := ho.up hle9
  rcases hcase with ⟨rs, hrs, rfl, hg9, he9⟩ | ⟨hno, hk9⟩
  · have hrs1 := hg9.1
    have lr9 : r9.length = R := by omega
    have hfol : followP p gs = some (outsOf p rs) := by unfold followP; rw [hrs]; rfl
    refine Wl.on0 ?_
    refine Gm.c 4 [] [] ?_
    refine Gm.doneA (by kernel_rfl) trivial (by first | exact Imm.le_refl _ | repeat (first | assumption | refine Imm.le_trans ?_ (by assumption))) ?_
    refine Ar.gc 25 [0, 1] ?_
    refine Wc.re 7 rfl (show _ = Value.slice (some ⟨b9, 0, none⟩) r9.length p.regs.toNat by rw [hr9]) ?_
    refine Wc.loopG (ι := Nat × Imm × List SV × (Option Addr × Nat × List Value)) (fun (i, Gx, q, (o, d, j)) => ([(32, .int .i64 (i : Int)), (10, .slice o q.length d), (7, Go.Value.slice (Option.some (Go.Addr.mk b9 0 Option.none)) (List.length r9) (Int.toNat (Go.Proofs.YtbppmiimeccclaaGreatDoor.PV.regs p))), (31, Go.Value.int Go.IntKind.i64 (↑(List.length (Go.Proofs.YtbppmiimeccclaaGreatDoor.PV.outs p)) : Int)), (30, Go.Value.slice ao (List.length (Go.Proofs.YtbppmiimeccclaaGreatDoor.PV.outs p)) co), (6, Go.Value.int Go.IntKind.i64 0), (5, Go.Value.int Go.IntKind.i64 0), (4, Go.Value.slice Option.none 0 0)], [(0, o.map (·.block), Row 36 q j), (3, some b9, Row 36 r9 []), (1, Option.some b1, Go.Obj.cells #[Go.Value.int Go.IntKind.i64 (Go.Proofs.YtbppmiimeccclaaGreatDoor.PV.ins p), Go.Value.int Go.IntKind.i64 (Go.Proofs.YtbppmiimeccclaaGreatDoor.PV.regs p), Go.Value.slice ac (List.length (Go.Proofs.YtbppmiimeccclaaGreatDoor.PV.code p)) cc, Go.Value.slice ao (List.length (Go.Proofs.YtbppmiimeccclaaGreatDoor.PV.outs p)) co] 25)])) (fun (i, Gx, q, (o, d, j)) => Gx) (fun (i, Gx, q, (o, d, j)) => i ≤ p.outs.length ∧ G9.le Gx ∧ q.length = i ∧ (∀ t : Nat, t < i → BRow Gx (q[t]?.getD default) ((outsOf p rs)[t]?.getD [])) ∧ OwnA o d q j) (fun (i, Gx, q, (o, d, j)) => p.outs.length - i) ((0, G9, [], (none, 0, []))) (⟨Nat.zero_le _, Imm.le_refl _, rfl, fun t ht => by omega, OwnA.nil⟩) rfl ⟨rfl, rfl, rfl, rfl, rfl, rfl, rfl, rfl, trivial⟩ ⟨rfl, rfl, rfl, trivial⟩ (fun ⟨i, Gx, q, (o, d, j)⟩ => fun (hk : i ≤ p.outs.length ∧ G9.le Gx ∧ q.length = i ∧ (∀ t : Nat, t < i → BRow Gx (q[t]?.getD default) ((outsOf p rs)[t]?.getD [])) ∧ OwnA o d q j) => ?_)
    obtain ⟨hi0, hgx, hqi, hbq, hoq⟩ := hk
    replace ho := ho.up hgx
    rcases Nat.lt_or_ge i p.outs.length with hio | hio
    · have hmem : p.outs[((i : Nat) : Int).toNat]?.getD default ∈ p.outs := by
        rw [Int.toNat_natCast, List.getElem?_eq_getElem hio]; exact List.getElem_mem hio
      have hrg := f7 _ hmem
      obtain ⟨l1, a1, a2, a3, a4⟩ := hg9.2 (p.outs[((i : Nat) : Int).toNat]?.getD default).toNat (by omega)
      have hN1 := (he9.at (k := (p.outs[((i : Nat) : Int).toNat]?.getD default).toNat) (by omega)).1
      have hl1 : l1.length = N := by rw [a4.1, hN1]
      refine Wc.gl 13 [1] ?_
      refine Wl.q rfl (Qy.at (α := Int) T.sl23 rfl rfl (by assumption) (by omega)) ?_
      refine Wl.q rfl (Qy.loadG T.one3 rfl (Arr.cell (by assumption) (by omega) 0 rfl rfl)) ?_
      refine Wl.gl 7 [] ?_
      refine Wl.q rfl (Qy.indexAddrO (α := SV) T.sl34 rfl rfl (by assumption) (by omega)) ?_
      refine Wl.q rfl (Qy.loadO 3 0 T.one36 rfl rfl (by assumption) (by omega) rfl rfl) ?_
      refine Wl.re 40 rfl (show _ = Value.slice (r9[(p.outs[((i : Nat) : Int).toNat]?.getD default).toNat]?.getD default).a l1.length (r9[(p.outs[((i : Nat) : Int).toNat]?.getD default).toNat]?.getD default).c by rw [a1]) ?_
      refine Wl.k 20 rfl (c28 _ _ _ l1 (a3.up hgx) (by omega)) (fun v1 G2 Ho1 hle2 hp => ?_)
      obtain ⟨s2, d2, rfl, hA2, hd2, rfl⟩ := hp
      refine Wl.lit (α := SV) 4 [⟨_, _, _⟩] rfl T.sl34 T.el36 rfl rfl rfl rfl rfl (fun b2 => ?_)
      refine Wl.append (α := SV) 0 rfl T.sl34 T.el36 rfl rfl rfl (by first | assumption | exact OwnA.nil | exact OwnA.made (by simp)) (Src.row 4 rfl) (by first | omega | (simp only [List.length_append, List.length_cons, List.length_nil, maxLen]; omega)) (by first | omega | (simp only [List.length_append, List.length_cons, List.length_nil, maxLen]; omega)) (fun a1 c1 junk1 ho1 => ?_)
      refine Wl.ga 8 [] ?_
      refine Ar.again ((i + 1, G2, q ++ [⟨s2, l1.length, d2⟩], (a1, c1, junk1))) ?_ ?_ rfl ⟨rfl, rfl, rfl, rfl, rfl, rfl, rfl, rfl, trivial⟩ ⟨rfl, rfl, rfl, trivial⟩
      · refine ⟨by omega, Imm.le_trans hgx hle2, by rw [List.length_append, hqi]; rfl, brow_snoc (fun t ht => (hbq t ht).up hle2) hqi ?_, ho1⟩
        rw [outs_at hio]
        exact ⟨l1, rfl, hd2, hA2, a4.up (Imm.le_trans hgx hle2)⟩
      · show p.outs.length - (i + 1) < p.outs.length - i
        omega
    · have hii : i = p.outs.length := by omega
      subst hii
      have hqd := hoq.le
      refine Wc.ga 21 [0] ?_
      refine Ar.freezeRow 0 rfl hoq (fun G8 hle8 hA => ?_)
      refine Ar.out3 (.inr rfl) (Ho := []) rfl (.tmp rfl) (.tmp rfl) (.tmp rfl) trivial ?_
      have hol : (outsOf p rs).length = p.outs.length := by unfold outsOf; rw [List.length_map]
      refine ⟨rfl, .inl ⟨outsOf p rs, o, q, d, hfol, rfl, hA, hqd, ⟨by omega, fun t ht => (hbq t (by omega)).up hle8⟩, fun zs hz => ?_⟩⟩
      unfold outsOf at hz
      obtain ⟨x, hx, rfl⟩ := List.mem_map.1 hz
      have hx7 := f7 x hx
      exact he9.at (k := x.toNat) (by omega)
  · refine Wl.on0 ?_
    refine Gm.c 4 [] [] ?_
    refine Gm.doneA (by kernel_rfl) trivial (by first | exact Imm.le_refl _ | repeat (first | assumption | refine Imm.le_trans ?_ (by assumption))) ?_
    refine Ar.ga 18 [1] ?_
    refine Ar.out3 (.inr rfl) (Ho := []) rfl (.tmp rfl) (.tmp rfl) (.tmp rfl) trivial ?_
    exact ⟨rfl, .inr ⟨hno, k9, rfl⟩⟩
end Go.Proofs.YtbppmiimeccclaaGreatDoor
set_option maxRecDepth 100000
set_option linter.unusedVariables false
namespace Go.Proofs.YtbppmiimeccclaaGreatDoor
open Go Go.Sl
set_option maxHeartbeats 4000000
attribute [local irreducible] valB pb cmpZ lstWp p2 cst doI
theorem c45N (G : Imm) (p : PV) (ac ao : Option Addr) (cc co : Nat) (hc : Arr G ac p.code) (ho : Arr G ao p.outs) (h1 : p.code.length ≤ 1099511627776) (h2 : p.outs.length ≤ 1099511627776) (hR : rightP p = true) (n : Int) (hn : n ≠ p.ins) :
    Does Tryz.prog 45 [.agg #[.int .i64 p.ins, .int .i64 p.regs, .slice ac p.code.length cc, .slice ao p.outs.length co], .int .i64 n] G [] (fun v G' Ho => v = .int .i64 5 ∧ G' = G ∧ Ho = []) := by
  refine Does.enter Tryz.func45 rfl Tryz.ntmps45 rfl (fun w => ?_)
  refine Wc.gl 2 [] ?_
  refine Wl.box 0 rfl rfl rfl (fun b1 => ?_)
  refine Wl.gl 6 [0] ?_
  refine Wl.k0 rfl (c16R _ p _ _ _ _ (by assumption) (by assumption) h1 h2 hR) ?_
  refine Wl.ga 35 [0, 0, 1] ?_
  refine Ar.e1 ?_
  exact ⟨rfl, rfl, rfl⟩
theorem c24M (G : Imm) (p : PV) (ac ao ga : Option Addr) (cc co gc : Nat) (gl : List SV) (hc : Arr G ac p.code) (ho : Arr G ao p.outs) (h1 : p.code.length ≤ 1099511627776) (h2 : p.outs.length ≤ 1099511627776) (hR : rightP p = true) (hl : gl.length ≤ 1048576) (hn : (gl.length : Int) ≠ p.ins) :
    Does Tryz.prog 24 [.agg #[.int .i64 p.ins, .int .i64 p.regs, .slice ac p.code.length cc, .slice ao p.outs.length co], .slice ga gl.length gc] G [] (fun v G' Ho => v = .tuple #[.slice none 0 0, .int .i64 5] ∧ Ho = []) := by
  refine Does.enter Tryz.func24 rfl Tryz.ntmps24 rfl (fun w => ?_)
  refine Wc.gl 2 [] ?_
  refine Wl.box 0 rfl rfl rfl (fun b1 => ?_)
  refine Wl.gl 10 [0] ?_
  refine Wl.k0 rfl (c45N _ p _ _ _ _ (by assumption) (by assumption) h1 h2 hR _ hn) ?_
  refine Wl.ga 19 [1] ?_
  refine Ar.e2 ?_
  exact ⟨rfl, rfl⟩
theorem c24N (G : Imm) (p : PV) (ac ao ga : Option Addr) (cc co gc : Nat) (gl : List SV) (gs : List (List Int)) (hgg : BGrid G gl gs) (hc : Arr G ac p.code) (ho : Arr G ao p.outs) (hga : Arr G ga gl) (hR : rightP p = true) (hgi : (gl.length : Int) = p.ins) (hn0 : (gl[(0 : Int).toNat]?.getD default).n ≤ 1048576)
    (hbad : ¬ ∀ k : Nat, k < gl.length → (gl[k]?.getD default).n = (gl[(0 : Int).toNat]?.getD default).n ∧ (gl[(0 : Int).toNat]?.getD default).n ≤ 4096) :
    Does Tryz.prog 24 [.agg #[.int .i64 p.ins, .int .i64 p.regs, .slice ac p.code.length cc, .slice ao p.outs.length co], .slice ga gl.length gc] G [] (fun v G' Ho => v = .tuple #[.slice none 0 0, .int .i64 5] ∧ Ho = []) := by
  obtain ⟨f1, f2, f3, f4, f5, f6, f7, f8⟩ := right_facts hR
  have h1 : p.code.length ≤ 1099511627776 := by omega
  have h2 : p.outs.length ≤ 1099511627776 := by omega
  obtain ⟨R, hRR⟩ : ∃ R : Nat, p.regs = (R : Int) := ⟨p.regs.toNat, by omega⟩
  refine Does.enter Tryz.func24 rfl Tryz.ntmps24 rfl (fun w => ?_)
  have hM : p.regs.toNat = R := by omega
  have hgl0 : 0 < gl.length := by omega
  obtain ⟨N, hN⟩ : ∃ N, N = (gl[(0 : Int).toNat]?.getD default).n := ⟨_, rfl⟩
  rw [← hN] at hn0 hbad
  refine Wc.gl 2 [] ?_
  refine Wl.box 0 rfl rfl rfl (fun b1 => ?_)
  refine Wl.gl 10 [0] ?_
  refine Wl.k0 rfl (c45 _ p _ _ _ _ (by assumption) (by assumption) h1 h2 hR _ hgi) ?_
  refine Wl.gl 15 [0] ?_
  refine Wl.q rfl (Qy.at (α := SV) T.sl34 rfl rfl (by assumption) (by omega)) ?_
  refine Wl.q rfl (Qy.loadG T.one36 rfl (Arr.cell (by assumption) (by omega) 0 rfl rfl)) ?_
  refine Wl.gl 8 [0] ?_
  refine Wl.make (α := SV) 1 rfl T.sl34 T.el36 rfl rfl (by omega) (by omega) (fun b2 => ?_)
  refine Wl.gc 12 [] ?_
  rw [hM]
  have hown : ∀ r : List SV, r.length = R → OwnA (some ⟨b2, 0, none⟩) R r [] := fun r hr => .inr ⟨b2, rfl, by rw [hr]; rfl, by omega, by simp only [maxLen]; omega⟩
  refine Wc.re 8 rfl (show _ = Value.slice (some ⟨b2, 0, none⟩) (List.replicate R (default : SV)).length R by rw [List.length_replicate]) ?_
  refine Wc.re 7 rfl (show _ = Value.int .i64 (N : Int) by rw [hN]) ?_
  refine Wc.re 25 rfl (show _ = Value.int .i64 (R : Int) by rw [List.length_replicate]) ?_
  refine Wc.loop (ι := Nat × List SV) (fun (k, r) => ([(26, .int .i64 (k : Int)), (8, .slice (some ⟨b2, 0, none⟩) r.length R), (25, Go.Value.int Go.IntKind.i64 (↑R : Int)), (7, Go.Value.int Go.IntKind.i64 (↑N : Int)), (1, Go.Value.slice ga (List.length gl) gc)], [(1, some b2, Row 36 r []), (0, Option.some b1, Go.Obj.cells #[Go.Value.int Go.IntKind.i64 (Go.Proofs.YtbppmiimeccclaaGreatDoor.PV.ins p), Go.Value.int Go.IntKind.i64 (Go.Proofs.YtbppmiimeccclaaGreatDoor.PV.regs p), Go.Value.slice ac (List.length (Go.Proofs.YtbppmiimeccclaaGreatDoor.PV.code p)) cc, Go.Value.slice ao (List.length (Go.Proofs.YtbppmiimeccclaaGreatDoor.PV.outs p)) co] 25)])) (fun (k, r) => k ≤ R ∧ r.length = R ∧ ∀ q : Nat, q < k → q < gl.length → (gl[q]?.getD default).n = N ∧ N ≤ 4096) (fun (k, r) => R - k) ((0, List.replicate R (default : SV))) (⟨Nat.zero_le _, List.length_replicate, fun q hq => by omega⟩) ⟨rfl, rfl, rfl, rfl, rfl, trivial⟩ ⟨rfl, rfl, trivial⟩ (fun ⟨k, r⟩ => fun (hk : k ≤ R ∧ r.length = R ∧ ∀ q : Nat, q < k → q < gl.length → (gl[q]?.getD default).n = N ∧ N ≤ 4096) => ?_)
  obtain ⟨hk0, hrR, hrow⟩ := hk
  have hor := hown r hrR
  rcases Nat.lt_or_ge k gl.length with hkg | hkg
  · have hkR : k < R := by omega
    obtain ⟨l1, a1, a2, a3, a4⟩ := hgg.2 k hkg
    by_cases hok : (gl[((k : Nat) : Int).toNat]?.getD default).n = N
    · by_cases h96 : N ≤ 4096
      · refine Wc.gl 22 [1] ?_
        refine Wl.make (α := IV) 2 rfl T.sl36 T.el63 rfl rfl (by omega) (by omega) (fun b3 => ?_)
        refine Wl.q rfl (Qy.indexAddrO (α := SV) T.sl34 rfl rfl (by assumption) (by omega)) ?_
        refine Wl.re 32 rfl (show _ = Value.slice (some ⟨b3, 0, none⟩) N N by rw [List.length_replicate]; rfl) ?_
        refine Wl.reH 2 (Row 63 (List.replicate N (default : IV)) []) rfl rfl ?_
        refine Wl.setO (z := (⟨some ⟨b3, 0, none⟩, N, N⟩ : SV)) (m := ((k : Nat) : Int)) 1 T.size36 rfl rfl rfl hor (by omega) rfl (fun ho1 => ?_)
        have hrk : ((r.set k (⟨some ⟨b3, 0, none⟩, N, N⟩ : SV))[k]?.getD default) = ⟨some ⟨b3, 0, none⟩, N, N⟩ := by rw [List.getElem?_set, if_pos rfl, if_pos (by omega)]; rfl
        rw [Int.toNat_natCast] at ho1 ⊢
        obtain ⟨r9, hr9⟩ : ∃ r9, r9 = r.set k (⟨some ⟨b3, 0, none⟩, N, N⟩ : SV) := ⟨_, rfl⟩
        have hr9l : r9.length = R := by rw [hr9, List.length_set]; exact hrR
        rw [← hr9] at ho1 hrk ⊢
        refine Wl.gl 16 [1] ?_
        refine Wl.q rfl (Qy.at (α := SV) T.sl34 rfl rfl (by assumption) (by omega)) ?_
        refine Wl.q rfl (Qy.loadG T.one36 rfl (Arr.cell (by assumption) (by omega) 0 rfl rfl)) ?_
        refine Wl.ll0 4 [] ?_
        refine Wl.no 45 rfl (by first | assumption | omega) ?_
        refine Wl.gc 10 [0] ?_
        refine Wc.draw [0, 2, 1] [(1, 8), (2, 8)] T.mixed rfl ?_
        refine Gm.c 0 [] [] ?_
        refine Gm.c 1 [] [] ?_
        refine Gm.u 2 [] rfl (Qy.indexAddrO (α := SV) T.sl34 rfl rfl (by assumption) (by omega)) ?_
        refine Gm.u 3 [0, 1] rfl (Qy.loadO 1 0 T.one36 rfl rfl (by assumption) (by omega) rfl rfl) ?_
        refine Gm.c 4 [] [] ?_
        refine Gm.c 5 [] [] ?_
        refine Gm.u 6 [] rfl (Qy.at (α := SV) T.sl34 rfl rfl (by assumption) (by omega)) ?_
        refine Gm.u 7 [0] rfl (Qy.loadG T.one36 rfl (Arr.cell (by assumption) (by omega) 0 rfl rfl)) ?_
        refine Gm.o1 8 ?_
        have hl1 : l1.length = N := by rw [a1]; exact hok
        refine Wl.re 52 rfl (show _ = Value.slice (some ⟨b3, 0, none⟩) (List.replicate N (default : IV)).length N by rw [Int.toNat_natCast, hrk, List.length_replicate]) ?_
        refine Wl.re 56 rfl (show _ = Value.slice (gl[k]?.getD default).a l1.length (gl[k]?.getD default).c by rw [a1]; rfl) ?_
        refine Wl.copyRow (α := IV) 2 rfl T.sl36 rfl rfl rfl (Src.arr a3) (by rw [hl1, List.length_replicate]; exact Nat.le_refl _) ?_
        refine Wl.on0 ?_
        refine Gm.fin ?_
        refine Ar.ga 6 [] ?_
        refine Ar.re 8 rfl (show _ = Value.slice (some ⟨b2, 0, none⟩) r9.length R by rw [hr9l, hrR]) ?_
        refine Ar.again ((k + 1, r9)) ?_ ?_ rfl ⟨rfl, rfl, rfl, rfl, rfl, trivial⟩ ⟨rfl, rfl, trivial⟩
        · refine ⟨by omega, hr9l, fun q hq hq2 => ?_⟩
          by_cases e : q = k
          · subst e; exact ⟨hok, h96⟩
          · exact hrow q (by omega) hq2
        · show R - (k + 1) < R - k
          omega
      · refine Wc.gl 22 [1] ?_
        refine Wl.make (α := IV) 2 rfl T.sl36 T.el63 rfl rfl (by omega) (by omega) (fun b3 => ?_)
        refine Wl.q rfl (Qy.indexAddrO (α := SV) T.sl34 rfl rfl (by assumption) (by omega)) ?_
        refine Wl.re 32 rfl (show _ = Value.slice (some ⟨b3, 0, none⟩) N N by rw [List.length_replicate]; rfl) ?_
        refine Wl.reH 2 (Row 63 (List.replicate N (default : IV)) []) rfl rfl ?_
        refine Wl.setO (z := (⟨some ⟨b3, 0, none⟩, N, N⟩ : SV)) (m := ((k : Nat) : Int)) 1 T.size36 rfl rfl rfl hor (by omega) rfl (fun ho1 => ?_)
        refine Wl.gl 16 [1] ?_
        refine Wl.q rfl (Qy.at (α := SV) T.sl34 rfl rfl (by assumption) (by omega)) ?_
        refine Wl.q rfl (Qy.loadG T.one36 rfl (Arr.cell (by assumption) (by omega) 0 rfl rfl)) ?_
        refine Wl.ll0 4 [] ?_
        refine Wl.no 45 rfl (by first | assumption | omega) ?_
        refine Wl.ga 21 [1] ?_
        refine Ar.e2 ?_
        exact ⟨rfl, rfl⟩
    · refine Wc.gl 22 [1] ?_
      refine Wl.make (α := IV) 2 rfl T.sl36 T.el63 rfl rfl (by omega) (by omega) (fun b3 => ?_)
      refine Wl.q rfl (Qy.indexAddrO (α := SV) T.sl34 rfl rfl (by assumption) (by omega)) ?_
      refine Wl.re 32 rfl (show _ = Value.slice (some ⟨b3, 0, none⟩) N N by rw [List.length_replicate]; rfl) ?_
      refine Wl.reH 2 (Row 63 (List.replicate N (default : IV)) []) rfl rfl ?_
      refine Wl.setO (z := (⟨some ⟨b3, 0, none⟩, N, N⟩ : SV)) (m := ((k : Nat) : Int)) 1 T.size36 rfl rfl rfl hor (by omega) rfl (fun ho1 => ?_)
      refine Wl.gl 16 [1] ?_
      refine Wl.q rfl (Qy.at (α := SV) T.sl34 rfl rfl (by assumption) (by omega)) ?_
      refine Wl.q rfl (Qy.loadG T.one36 rfl (Arr.cell (by assumption) (by omega) 0 rfl rfl)) ?_
      refine Wl.ll0 4 [] ?_
      refine Wl.yes 45 rfl (by first | assumption | omega) ?_
      refine Wl.ga 19 [1] ?_
      refine Ar.e2 ?_
      exact ⟨rfl, rfl⟩
  · exact absurd (fun q hq => hrow q (by omega) hq) hbad
end Go.Proofs.YtbppmiimeccclaaGreatDoor
set_option maxRecDepth 100000
set_option linter.unusedVariables false
namespace Go.Proofs.YtbppmiimeccclaaGreatDoor
open Go Go.Sl
set_option maxHeartbeats 4000000
attribute [local irreducible] valB pb cmpZ lstWp p2 cst doZ checkP
theorem c8 (G : Imm) (a : Option Addr) (c : Nat) (l : List Int) (ha : Arr G a l) (h1 : l.length ≤ 1048576) (hl : ∀ x ∈ l, -9223372036854775808 ≤ x ∧ x ≤ 9223372036854775807) :
    Does Tryz.prog 8 [.slice a l.length c] G [] (fun v G' Ho => ∃ (b : Option Addr) (r : List IV) (c' : Nat), v = .slice b r.length c' ∧ Arr G' b r ∧ Bigs G' r l ∧ r.length ≤ c' ∧ Ho = []) := by
  refine Does.enter Tryz.func8 rfl Tryz.ntmps8 rfl (fun w => ?_)
  refine Wc.nilRow 9 (Row 63 ([] : List IV) []) ?_
  refine Wc.gc 19 [] ?_
  refine Wc.loopG (ι := Nat × Imm × List IV × (Option Addr × Nat × List Value)) (fun (i, Gx, r, (o, d, j)) => ([(8, .int .i64 (i : Int)), (3, .slice o r.length d), (7, Go.Value.int Go.IntKind.i64 (↑(List.length l) : Int)), (6, Go.Value.slice a (List.length l) c), (2, Go.Value.slice Option.none 0 0)], [(9, o.map (·.block), Row 63 r j)])) (fun (i, Gx, r, (o, d, j)) => Gx) (fun (i, Gx, r, (o, d, j)) => i ≤ l.length ∧ G.le Gx ∧ r.length = i ∧ Bigs Gx r (l.take i) ∧ OwnA o d r j) (fun (i, Gx, r, (o, d, j)) => l.length - i) ((0, G, [], (none, 0, []))) (⟨Nat.zero_le _, Imm.le_refl _, rfl, by rw [List.take_zero]; exact Bigs.nil _, OwnA.nil⟩) rfl ⟨rfl, rfl, rfl, rfl, rfl, trivial⟩ ⟨rfl, trivial⟩ (fun ⟨i, Gx, r, (o, d, j)⟩ => fun (hk : i ≤ l.length ∧ G.le Gx ∧ r.length = i ∧ Bigs Gx r (l.take i) ∧ OwnA o d r j) => ?_)
  obtain ⟨hi, hgx, hri, hbs, hob⟩ := hk
  replace ha := ha.up hgx
  rcases Nat.lt_or_ge i l.length with hil | hil
  · have hi9 : -9223372036854775808 ≤ l[((i : Nat) : Int).toNat]?.getD default ∧ l[((i : Nat) : Int).toNat]?.getD default ≤ 9223372036854775807 := by
      rw [Int.toNat_natCast, List.getElem?_eq_getElem hil]; exact hl _ (List.getElem_mem hil)
    refine Wc.gl 13 [1] ?_
    refine Wl.q rfl (Qy.at (α := Int) T.sl35 rfl rfl (by assumption) (by omega)) ?_
    refine Wl.q rfl (Qy.loadG T.one2 rfl (Arr.cell (by assumption) (by omega) 0 rfl rfl)) ?_
    refine Wl.gl 6 [] ?_
    refine Wl.call 10 rfl T.fn23 rfl (c23 _ _ hi9) (tags_of trivial) (fun v1 G1 Ho1 hle1 hp => ?_)
    obtain ⟨ro1, rfl, hro1, rfl⟩ := hp
    replace hbs := hbs.up hle1
    replace ha := ha.up hle1
    refine Wl.lit (α := IV) 10 [(ro1)] rfl T.sl36 T.el63 rfl rfl rfl rfl rfl (fun b1 => ?_)
    refine Wl.append (α := IV) 9 rfl T.sl36 T.el63 rfl rfl rfl (by first | assumption | exact OwnA.nil | exact OwnA.made (by simp)) (Src.row 10 rfl) (by first | omega | (simp only [List.length_append, List.length_cons, List.length_nil, maxLen]; omega)) (by first | omega | (simp only [List.length_append, List.length_cons, List.length_nil, maxLen]; omega)) (fun a1 c1 junk1 ho1 => ?_)
    refine Wl.ga 8 [] ?_
    refine Ar.again ((i + 1, G1, r ++ [ro1], (a1, c1, junk1))) ?_ ?_ rfl ⟨rfl, rfl, rfl, rfl, rfl, trivial⟩ ⟨rfl, trivial⟩
    · refine ⟨by omega, Imm.le_trans hgx hle1, by rw [List.length_append, hri]; rfl, ?_, ho1⟩
      have e : l.take (i + 1) = l.take i ++ [l[((i : Nat) : Int).toNat]?.getD default] := by
        rw [List.take_add_one, Int.toNat_natCast, List.getElem?_eq_getElem hil]; rfl
      rw [e]
      exact Bigs.snoc hbs hro1
    · show l.length - (i + 1) < l.length - i
      omega
  · have hii : i = l.length := by omega
    subst hii
    refine Wc.ga 19 [0] ?_
    refine Ar.freezeRow 9 rfl hob (fun G9 hle9 hA => ?_)
    refine Ar.out1 (.inr rfl) (Ho := []) rfl (.tmp rfl) trivial ?_
    refine ⟨o, r, d, rfl, hA, ?_, hob.le, rfl⟩
    rw [List.take_length] at hbs
    exact hbs.up hle9
theorem c30 (G : Imm) (x y : IV) (zx zy : Int) (hx9 : Big G x zx) (hy9 : Big G y zy) (hx5 : x.n ≤ 1073741824) (hy5 : y.n ≤ 1073741824) :
    Does Tryz.prog 30 [.agg (Cells.enc x).toArray, .agg (Cells.enc y).toArray] G [] (fun v G' Ho => v = .bool (decide (zx = zy)) ∧ G' = G ∧ Ho = []) := by
  refine Does.enter Tryz.func30 rfl Tryz.ntmps30 rfl (fun w => ?_)
  refine Wc.gl 2 [] ?_
  refine Wl.box 0 rfl rfl rfl (fun b1 => ?_)
  refine Wl.box 1 rfl rfl rfl (fun b2 => ?_)
  refine Wl.gl 7 [0, 1] ?_
  refine Wl.call0 rfl T.fn31 rfl (c31 _ _ _ _ _ hx9 hy9 hx5 hy5) ?_
  refine Wl.ga 5 [] ?_
  refine Ar.out1 (.inr rfl) (Ho := Hp.only _ []) rfl (.tmp rfl) (Hp.sub_only _ _) ?_
  exact ⟨by rw [decide_eq_decide.2 (show cmpZ zx zy = 0 ↔ zx = zy from ⟨cmpZ_zero, cmpZ_eq⟩)], rfl, rfl⟩
theorem c29 (G : Imm) (a b : Option Addr) (ca cb : Nat) (la lb : List IV) (za zb : List Int) (ha : Arr G a la) (hb : Arr G b lb) (hA : Bigs G la za) (hB : Bigs G lb zb) (h1 : la.length ≤ 1048576) (h2 : lb.length ≤ 1048576) (m : Nat) (hm : m ≤ 268435456) (ba : Below m za) (bb : Below m zb) :
    Does Tryz.prog 29 [.slice a la.length ca, .slice b lb.length cb, .func (.func 30) #[] #[]] G [] (fun v G' Ho => v = .bool (decide (za = zb)) ∧ G' = G ∧ Ho = []) := by
  have e1 := hA.1
  have e2 := hB.1
  refine Does.enter Tryz.func29 rfl Tryz.ntmps29 rfl (fun w => ?_)
  by_cases hn : la.length = lb.length
  · refine Wc.gc 27 [0] ?_
    refine Wc.loop (ι := Nat) (fun i => ([(17, .int .i64 (i : Int)), (16, Go.Value.int Go.IntKind.i64 (↑(List.length la) : Int)), (15, Go.Value.slice a (List.length la) ca), (1, Go.Value.slice b (List.length lb) cb), (2, Go.Value.func (Go.Fn.func 30) #[] #[])], [])) (fun i => i ≤ la.length ∧ za.take i = zb.take i) (fun i => la.length - i) (0) (⟨Nat.zero_le _, rfl⟩) ⟨rfl, rfl, rfl, rfl, rfl, trivial⟩ trivial (fun i => fun (hk : i ≤ la.length ∧ za.take i = zb.take i) => ?_)
    obtain ⟨hi, hz⟩ := hk
    rcases Nat.lt_or_ge i la.length with hia | hia
    · have hx9 := hA.at (k := (i : Int)) (by omega)
      have hy9 := hB.at (k := (i : Int)) (by omega)
      have hx5 := Nat.le_trans (Big.len hx9 (ba.at _)) (Nat.le_trans hm (show 268435456 ≤ 1073741824 by decide))
      have hy5 := Nat.le_trans (Big.len hy9 (bb.at _)) (Nat.le_trans hm (show 268435456 ≤ 1073741824 by decide))
      refine Wc.gl 14 [1] ?_
      refine Wl.q rfl (Qy.at (α := IV) T.sl36 rfl rfl (by assumption) (by omega)) ?_
      refine Wl.q rfl (Qy.loadsG T.agg63 rfl (Arr.elem (by assumption) (by omega)) rfl) ?_
      refine Wl.alloc 0 rfl T.zero63 (fun b1 => ?_)
      refine Wl.gl 8 [0] ?_
      refine Wl.q rfl (Qy.at (α := IV) T.sl36 rfl rfl (by assumption) (by omega)) ?_
      refine Wl.q rfl (Qy.loadsG T.agg63 rfl (Arr.elem (by assumption) (by omega)) rfl) ?_
      refine Wl.alloc 1 rfl T.zero63 (fun b2 => ?_)
      refine Wl.gl 8 [1, 0, 1] ?_
      refine Wl.callV (fst := []) (cap := []) 2 rfl T.fn30 rfl rfl (c30 _ _ _ _ _ hx9 hy9 hx5 hy5) (tags_of trivial) (fun v1 G1 Ho1 hle1 hp => ?_)
      obtain ⟨rfl, rfl, rfl⟩ := hp
      refine Wl.q rfl (Qy.notD rfl) ?_
      refine Wl.gc 2 [] ?_
      refine Wc.cond rfl (fun hc1 => ?_) (fun hc1 => ?_)
      refine Wc.ga 11 [] ?_
      refine Ar.out1 (.inr rfl) (Ho := Hp.only _ []) rfl (.tmp rfl) (Hp.sub_only _ _) ?_
      rotate_left
      refine Wc.ga 7 [] ?_
      rotate_left
      · exact ⟨by rw [decide_eq_false (fun h => hc1 (by rw [h]))], rfl, rfl⟩
      · refine Ar.again (i + 1) ?_ ?_ rfl ⟨rfl, rfl, rfl, rfl, rfl, trivial⟩ trivial
        · exact ⟨by omega, take_next hz (by omega) (by omega) (Decidable.not_not.1 hc1)⟩
        · omega
    · have hii : i = la.length := by omega
      subst hii
      rw [List.take_of_length_le (by omega), List.take_of_length_le (by omega)] at hz
      refine Wc.ga 18 [0] ?_
      refine Ar.out1 (.inr rfl) (Ho := Hp.only _ []) rfl (.tmp rfl) (Hp.sub_only _ _) ?_
      exact ⟨by rw [decide_eq_true hz], rfl, rfl⟩
  · have hne : za ≠ zb := fun h => hn (by rw [e1, e2, h])
    refine Wc.ga 23 [1] ?_
    refine Ar.out1 (.inr rfl) (Ho := Hp.only _ []) rfl (.tmp rfl) (Hp.sub_only _ _) ?_
    exact ⟨by rw [decide_eq_false hne], rfl, rfl⟩
theorem c12 (G : Imm) (a b : Option Addr) (ca cb : Nat) (la lb : List IV) (za zb : List Int) (ha : Arr G a la) (hb : Arr G b lb) (hA : Bigs G la za) (hB : Bigs G lb zb) (h1 : la.length ≤ 1048576) (h2 : lb.length ≤ 1048576) (m : Nat) (hm : m ≤ 268435456) (ba : Below m za) (bb : Below m zb) :
    Does Tryz.prog 12 [.slice a la.length ca, .slice b lb.length cb] G [] (fun v G' Ho => v = .bool (decide (za = zb)) ∧ G' = G ∧ Ho = []) := by
  refine Does.enter Tryz.func12 rfl Tryz.ntmps12 rfl (fun w => ?_)
  refine Wc.gl 9 [] ?_
  refine Wl.call0 rfl T.fn29 rfl (c29 G _ _ _ _ _ _ za zb ha hb hA hB h1 h2 m hm ba bb) ?_
  refine Wl.ga 4 [] ?_
  refine Ar.out1 (.inr rfl) (Ho := Hp.only _ []) rfl (.tmp rfl) (Hp.sub_only _ _) ?_
  exact ⟨rfl, rfl, rfl⟩
end Go.Proofs.YtbppmiimeccclaaGreatDoor
set_option maxRecDepth 100000
set_option linter.unusedVariables false
namespace Go.Proofs.YtbppmiimeccclaaGreatDoor
open Go Go.Sl
set_option maxHeartbeats 4000000
/-- a grid over which a program may be run -/
def GoodG (p : PV) (gs : List (List Int)) : Prop := (gs.length : Int) = p.ins ∧ ∃ N : Nat, N ≤ 4096 ∧ ∀ z ∈ gs, z.length = N
attribute [local irreducible] valB pb cmpZ lstWp p2 cst doI doZ
theorem c10E (G : Imm) (p : PV) (ac ao ga : Option Addr) (cc co gc : Nat) (gl : List SV) (h67 : Does Tryz.prog 24 [.agg #[.int .i64 p.ins, .int .i64 p.regs, .slice ac p.code.length cc, .slice ao p.outs.length co], .slice ga gl.length gc] G [] (fun v G' Ho => v = .tuple #[.slice none 0 0, .int .i64 5] ∧ Ho = [])) :
    Does Tryz.prog 10 [.agg #[.int .i64 p.ins, .int .i64 p.regs, .slice ac p.code.length cc, .slice ao p.outs.length co], .slice ga gl.length gc] G [] (fun v G' Ho => v = .tuple #[.slice none 0 0, .int .i64 0, .int .i64 5] ∧ Ho = []) := by
  refine Does.enter Tryz.func10 rfl Tryz.ntmps10 rfl (fun w => ?_)
  refine Wc.gl 2 [] ?_
  refine Wl.box 0 rfl rfl rfl (fun b1 => ?_)
  refine Wl.gl 9 [0] ?_
  refine Wl.k 1 rfl (h67) (fun v1 G1 Ho1 hle1 hp => ?_)
  obtain ⟨rfl, rfl⟩ := hp
  refine Wl.ga 25 [1] ?_
  refine Ar.e3 ?_
  exact ⟨rfl, rfl⟩
theorem c12Y (G : Imm) (s t : SV) (os : List Int) (hs : BRow G s os) (ht : BRow G t os) (hl : os.length ≤ 1048576) (hb : Below 49154 os) :
    Does Tryz.prog 12 [.slice s.a s.n s.c, .slice t.a t.n t.c] G [] (fun v G' Ho => v = .bool true ∧ G' = G ∧ Ho = []) := by
  obtain ⟨l, e1, e2, e3, e4⟩ := hs
  obtain ⟨m, g1, g2, g3, g4⟩ := ht
  have h := c12 G s.a t.a s.c t.c l m os os e3 g3 e4 g4 (by rw [e4.1]; exact hl) (by rw [g4.1]; exact hl) 49154 (by decide) hb hb
  rw [e1, g1, decide_eq_true rfl] at h
  exact h
theorem c11T (G : Imm) (a b : Option Addr) (ca cb : Nat) (l m : List SV) (os : List (List Int)) (N : Nat) (ha : Arr G a l) (hb : Arr G b m) (hl : BGrid G l os) (hm : BGrid G m os) (hev : EvenB 49154 N os) (hN : N ≤ 4096) (h1 : l.length ≤ 1048576) :
    Does Tryz.prog 11 [.slice a l.length ca, .slice b m.length cb, .func (.func 12) #[] #[]] G [] (fun v G' Ho => v = .bool true ∧ G' = G ∧ Ho = []) := by
  have hl1 := hl.1
  have hm1 := hm.1
  refine Does.enter Tryz.func11 rfl Tryz.ntmps11 rfl (fun w => ?_)
  refine Wc.gc 27 [0] ?_
  refine Wc.loop (ι := Nat) (fun i => ([(17, .int .i64 (i : Int)), (16, Go.Value.int Go.IntKind.i64 (↑(List.length l) : Int)), (15, Go.Value.slice a (List.length l) ca), (1, Go.Value.slice b (List.length m) cb), (2, Go.Value.func (Go.Fn.func 12) #[] #[])], [])) (fun i => i ≤ l.length) (fun i => l.length - i) (0) (Nat.zero_le _) ⟨rfl, rfl, rfl, rfl, rfl, trivial⟩ trivial (fun i => fun (hk : i ≤ l.length) => ?_)
  rcases Nat.lt_or_ge i l.length with hil | hil
  · have hx : BRow G (l[((i : Nat) : Int).toNat]?.getD default) (os[i]?.getD []) := hl.2 i hil
    have hy : BRow G (m[((i : Nat) : Int).toNat]?.getD default) (os[i]?.getD []) := hm.2 i (by omega)
    obtain ⟨hN1, hok⟩ := hev.at (k := i) (by omega)
    have hn : (os[i]?.getD []).length ≤ 1048576 := by omega
    refine Wc.gl 14 [1] ?_
    refine Wl.q rfl (Qy.at (α := SV) T.sl34 rfl rfl (by assumption) (by omega)) ?_
    refine Wl.q rfl (Qy.loadG T.one36 rfl (Arr.cell (by assumption) (by omega) 0 rfl rfl)) ?_
    refine Wl.gl 8 [] ?_
    refine Wl.q rfl (Qy.at (α := SV) T.sl34 rfl rfl (by assumption) (by omega)) ?_
    refine Wl.q rfl (Qy.loadG T.one36 rfl (Arr.cell (by assumption) (by omega) 0 rfl rfl)) ?_
    refine Wl.gl 8 [] ?_
    refine Wl.callV (fst := []) (cap := []) 0 rfl T.fn12 rfl rfl (c12Y _ _ _ _ (by assumption) (by assumption) (by assumption) (by assumption)) (tags_of trivial) (fun v1 G1 Ho1 hle1 hp => ?_)
    obtain ⟨rfl, rfl, rfl⟩ := hp
    refine Wl.ga 11 [0] ?_
    refine Ar.again (i + 1) ?_ ?_ rfl ⟨rfl, rfl, rfl, rfl, rfl, trivial⟩ trivial
    · show i + 1 ≤ l.length
      omega
    · show l.length - (i + 1) < l.length - i
      omega
  · refine Wc.ga 18 [0] ?_
    refine Ar.e1 ?_
    exact ⟨rfl, rfl, rfl⟩
end Go.Proofs.YtbppmiimeccclaaGreatDoor
set_option linter.unusedVariables false
namespace Go.Proofs.YtbppmiimeccclaaGreatDoor
open Go Go.Sl
section
variable {D : Type} [Inhabited D]
/-- code run over registers -/
def runG (st : Sl.Instr → List D → Option D) : List Sl.Instr → List D → Option (List D)
  | [], rs => some rs
  | i :: l, rs => (st i rs).bind fun x => runG st l (rs.set i.to.toNat x)
theorem runG_snoc (st : Sl.Instr → List D → Option D) (l : List Sl.Instr) (i : Sl.Instr) (rs : List D) : runG st (l ++ [i]) rs = (runG st l rs).bind fun r => (st i r).map fun x => r.set i.to.toNat x := by
  induction l generalizing rs with
  | nil =>
    show (st i rs).bind (fun x => some (rs.set i.to.toNat x)) = (st i rs).map _
    cases st i rs <;> rfl
  | cons j l ih =>
    show (st j rs).bind (fun x => runG st (l ++ [i]) (rs.set j.to.toNat x)) = ((st j rs).bind fun x => runG st l (rs.set j.to.toNat x)).bind _
    cases st j rs with
    | none => rfl
    | some x => exact ih _
theorem get_setG (r : List D) (n k : Nat) (x : D) : (r.set n x)[k]?.getD default = if n = k ∧ k < r.length then x else r[k]?.getD default := by
  rw [List.getElem?_set]
  by_cases h : n = k
  · subst h
    by_cases h2 : n < r.length
    · rw [if_pos rfl, if_pos h2, if_pos ⟨rfl, h2⟩]; rfl
    · rw [if_pos rfl, if_neg h2, if_neg (fun h => h2 h.2), List.getElem?_eq_none (by omega)]
  · rw [if_neg h, if_neg (fun h2 => h h2.1)]
end
theorem runTo_runG (p : PV) (gs : List (List Int)) : ∀ k, k ≤ p.code.length → runTo p gs k = runG doI (p.code.take k) (regs0 p gs)
  | 0, _ => by rw [List.take_zero]; rfl
  | k + 1, hk => by
    have htk : p.code.take (k + 1) = p.code.take k ++ [p.code[((k : Nat) : Int).toNat]?.getD default] := by
      rw [List.take_add_one, Int.toNat_natCast, List.getElem?_eq_getElem (by omega)]; rfl
    rw [htk, runG_snoc, ← runTo_runG p gs k (by omega)]
    rfl
end Go.Proofs.YtbppmiimeccclaaGreatDoor
set_option linter.unusedVariables false
namespace Go.Proofs.YtbppmiimeccclaaGreatDoor
open Go Go.Sl
abbrev QZ := Int × Int
def lowQ (n d : Int) : QZ := (n / (Int.gcd n d : Int), d / (Int.gcd n d : Int) - 1)
def makeQ (n d : Int) : QZ := if d = 0 then (0, 0) else if d < 0 then lowQ (-n) (-d) else lowQ n d
def wholeQ (z : Int) : QZ := (z, 0)
def negQ (x : QZ) : QZ := (-x.1, x.2)
def addQ (x y : QZ) : QZ := lowQ (x.1 * (y.2 + 1) + y.1 * (x.2 + 1)) ((x.2 + 1) * (y.2 + 1))
def subQ (x y : QZ) : QZ := addQ x (negQ y)
def mulQ (x y : QZ) : QZ := lowQ (x.1 * y.1) ((x.2 + 1) * (y.2 + 1))
def overQ (x y : QZ) : QZ := makeQ (x.1 * (y.2 + 1)) ((x.2 + 1) * y.1)
/-- what an instruction makes of what it asks, at one place -/
def doQ (i : Sl.Instr) (a b : QZ) : QZ :=
  if i.op = 2 then negQ a
  else if i.op = 3 then addQ a b
  else if i.op = 4 then subQ a b
  else if i.op = 5 ∨ i.op = 7 then mulQ a (wholeQ (cst i))
  else if i.op = 6 ∨ i.op = 8 then overQ a (wholeQ (cst i))
  else a
/-- how many bits a number has -/
def bitsZ (z : Int) : Nat := if z = 0 then 0 else z.natAbs.log2 + 1
def wideQ (x : QZ) : Bool := decide (65536 < bitsZ x.1) || decide (65536 < bitsZ (x.2 + 1))
def rowQ (i : Sl.Instr) (a b : List QZ) : List QZ := if i.op = 3 ∨ i.op = 4 then List.zipWith (doQ i) a b else a.map fun x => doQ i x (0, 0)
def stepQ (i : Sl.Instr) (rs : List (List QZ)) : Option (List QZ) :=
  let row := rowQ i (rs[i.a.toNat]?.getD []) (rs[i.b.toNat]?.getD [])
  if row.any wideQ = true then none else some row
def unitsQ (p : PV) : List (List QZ) := (List.range p.regs.toNat).map fun k => (List.range p.ins.toNat).map fun j => if k = j then ((1, 0) : QZ) else (0, 0)
/-- what a program denotes; none: too wide -/
def denP (p : PV) : Option (List (List QZ)) := (runG stepQ p.code (unitsQ p)).map fun rs => p.outs.map fun r => rs[r.toNat]?.getD []
theorem units_len (p : PV) : (unitsQ p).length = p.regs.toNat := by unfold unitsQ; rw [List.length_map, List.length_range]
end Go.Proofs.YtbppmiimeccclaaGreatDoor
set_option maxRecDepth 100000
set_option linter.unusedVariables false
namespace Go.Proofs.YtbppmiimeccclaaGreatDoor
open Go Go.Sl
set_option maxHeartbeats 4000000
attribute [local irreducible] valB pb cmpZ lstWp lowQ
theorem big_sgn (G : Imm) (x : IV) (z : Int) (hx : Big G x z) (h1 : x.n ≤ 1073741824) :
    Does Tryz.prog 76 [.agg (Cells.enc x).toArray] G [] (fun v G' Ho => v = .int .i64 (sgZ z) ∧ G' = G ∧ Ho = []) := big_sign G x z hx h1
theorem c113 (G : Imm) (x y : IV) (zx zy : Int) (hx : Big G x zx) (hy : Big G y zy) (h1 : x.n ≤ 268435456) (h2 : y.n ≤ 268435456) :
    Does Tryz.prog 113 [.agg (Cells.enc x).toArray, .agg (Cells.enc y).toArray] G [] (fun v G' Ho => ∃ r : IV, v = .agg (Cells.enc r).toArray ∧ Big G' r (Int.gcd zx zy : Int) ∧ Ho = []) := by
  refine Does.enter Tryz.func113 rfl Tryz.ntmps113 rfl (fun w => ?_)
  refine Wc.gl 2 [] ?_
  refine Wl.box 0 rfl rfl rfl (fun b1 => ?_)
  refine Wl.box 1 rfl rfl rfl (fun b2 => ?_)
  refine Wl.alloc 2 rfl T.zero63 (fun b3 => ?_)
  refine Wl.gc 2 [] ?_
  refine Wc.scope ?_
  refine Wc.meet (ι := Nat × Nat × IV × IV) (fun (p, q, ra1, ra2) => ([(5, .pointer (some ⟨p, 0, none⟩)), (6, .pointer (some ⟨q, 0, none⟩)), (4, .pointer (some ⟨b3, 0, none⟩))], [(60, some p, .cells (Cells.enc ra1).toArray 63), (61, some q, .cells (Cells.enc ra2).toArray 63), (2, some b3, .cells #[.bool false, .slice none 0 0] 63), (1, Option.some b2, Go.Obj.cells (List.toArray (Go.Sl.Cells.enc y)) 63), (0, Option.some b1, Go.Obj.cells (List.toArray (Go.Sl.Cells.enc x)) 63)])) (fun (p, q, ra1, ra2) => Big G ra1 (zx.natAbs : Int) ∧ Big G ra2 (zy.natAbs : Int)) ?_ (fun ⟨p, q, ra1, ra2⟩ => fun (hk : Big G ra1 (zx.natAbs : Int) ∧ Big G ra2 (zy.natAbs : Int)) => ?_)
  · refine Wc.draw [0, 1, 2] [] T.mixed rfl ?_
    refine Gm.c 0 [0] [0] ?_
    refine Gm.c 2 [1] [1] ?_
    refine Gm.o3 1 4 5 ?_ ?_ ?_
    refine Wl.k 3 rfl (c104 _ _ _ (by assumption) (by omega)) (fun v1 G1 Ho1 hle1 hp => ?_)
    obtain ⟨ra1, rfl, hra1, rfl, rfl⟩ := hp
    replace hx := hx.up hle1
    replace hy := hy.up hle1
    refine Wl.on0 ?_
    refine Gm.o3 3 4 5 ?_ ?_ ?_
    refine Wl.k 3 rfl (c104 _ _ _ (by assumption) (by omega)) (fun v2 G2 Ho2 hle2 hp => ?_)
    obtain ⟨ra2, rfl, hra2, rfl, rfl⟩ := hp
    replace hra1 := hra1.up hle2
    replace hx := hx.up hle2
    replace hy := hy.up hle2
    refine Wl.on0 ?_
    refine Gm.o2 4 5 ?_ ?_
    refine Wl.alloc 3 rfl T.zero63 (fun b4 => ?_)
    refine Wl.on0 ?_
    refine Gm.o1 5 ?_
    refine Wl.alloc 4 rfl T.zero63 (fun b5 => ?_)
    refine Wl.on0 ?_
    refine Gm.o1 6 ?_
    refine Wl.ll0 1 [3] ?_
    refine Wl.on0 ?_
    refine Gm.o1 7 ?_
    refine Wl.ll0 1 [4] ?_
    refine Wl.on0 ?_
    refine Gm.fin ?_
    rotate_left
    refine Wl.alloc 3 rfl T.zero63 (fun b4 => ?_)
    refine Wl.on0 ?_
    refine Gm.o1 4 ?_
    refine Wl.alloc 4 rfl T.zero63 (fun b5 => ?_)
    refine Wl.on0 ?_
    refine Gm.o1 6 ?_
    refine Wl.ll0 1 [4] ?_
    refine Wl.on0 ?_
    refine Gm.o1 7 ?_
    refine Wl.ll0 1 [3] ?_
    refine Wl.on0 ?_
    refine Gm.fin ?_
    rotate_left
    refine Wl.alloc 3 rfl T.zero63 (fun b4 => ?_)
    refine Wl.on0 ?_
    refine Gm.o2 3 5 ?_ ?_
    refine Wl.k 4 rfl (c104 _ _ _ (by assumption) (by omega)) (fun v2 G2 Ho2 hle2 hp => ?_)
    obtain ⟨ra2, rfl, hra2, rfl, rfl⟩ := hp
    replace hra1 := hra1.up hle2
    replace hx := hx.up hle2
    replace hy := hy.up hle2
    refine Wl.on0 ?_
    refine Gm.o1 5 ?_
    refine Wl.alloc 4 rfl T.zero63 (fun b5 => ?_)
    refine Wl.on0 ?_
    refine Gm.o1 6 ?_
    refine Wl.ll0 1 [3] ?_
    refine Wl.on0 ?_
    refine Gm.o1 7 ?_
    refine Wl.ll0 1 [4] ?_
    refine Wl.on0 ?_
    refine Gm.fin ?_
    rotate_left
    refine Wl.alloc 4 rfl T.zero63 (fun b5 => ?_)
    refine Wl.on0 ?_
    refine Gm.o1 3 ?_
    refine Wl.k 5 rfl (c104 _ _ _ (by assumption) (by omega)) (fun v2 G2 Ho2 hle2 hp => ?_)
    obtain ⟨ra2, rfl, hra2, rfl, rfl⟩ := hp
    replace hra1 := hra1.up hle2
    replace hx := hx.up hle2
    replace hy := hy.up hle2
    refine Wl.on0 ?_
    refine Gm.o1 6 ?_
    refine Wl.ll0 1 [3] ?_
    refine Wl.on0 ?_
    refine Gm.o1 7 ?_
    refine Wl.ll0 1 [4] ?_
    refine Wl.on0 ?_
    refine Gm.fin ?_
    rotate_left
    refine Wl.alloc 3 rfl T.zero63 (fun b4 => ?_)
    refine Wl.on0 ?_
    refine Gm.o2 3 4 ?_ ?_
    refine Wl.k 4 rfl (c104 _ _ _ (by assumption) (by omega)) (fun v2 G2 Ho2 hle2 hp => ?_)
    obtain ⟨ra2, rfl, hra2, rfl, rfl⟩ := hp
    replace hra1 := hra1.up hle2
    replace hx := hx.up hle2
    replace hy := hy.up hle2
    refine Wl.on0 ?_
    refine Gm.o1 4 ?_
    refine Wl.alloc 4 rfl T.zero63 (fun b5 => ?_)
    refine Wl.on0 ?_
    refine Gm.o1 6 ?_
    refine Wl.ll0 1 [4] ?_
    refine Wl.on0 ?_
    refine Gm.o1 7 ?_
    refine Wl.ll0 1 [3] ?_
    refine Wl.on0 ?_
    refine Gm.fin ?_
    rotate_left
    refine Wl.alloc 4 rfl T.zero63 (fun b5 => ?_)
    refine Wl.on0 ?_
    refine Gm.o1 3 ?_
    refine Wl.k 5 rfl (c104 _ _ _ (by assumption) (by omega)) (fun v2 G2 Ho2 hle2 hp => ?_)
    obtain ⟨ra2, rfl, hra2, rfl, rfl⟩ := hp
    replace hra1 := hra1.up hle2
    replace hx := hx.up hle2
    replace hy := hy.up hle2
    refine Wl.on0 ?_
    refine Gm.o1 6 ?_
    refine Wl.ll0 1 [4] ?_
    refine Wl.on0 ?_
    refine Gm.o1 7 ?_
    refine Wl.ll0 1 [3] ?_
    refine Wl.on0 ?_
    refine Gm.fin ?_
    rotate_left
    refine Wl.alloc 3 rfl T.zero63 (fun b4 => ?_)
    refine Wl.on0 ?_
    refine Gm.o2 1 5 ?_ ?_
    refine Wl.k 4 rfl (c104 _ _ _ (by assumption) (by omega)) (fun v1 G1 Ho1 hle1 hp => ?_)
    obtain ⟨ra1, rfl, hra1, rfl, rfl⟩ := hp
    replace hx := hx.up hle1
    replace hy := hy.up hle1
    refine Wl.on0 ?_
    refine Gm.o2 3 5 ?_ ?_
    refine Wl.k 4 rfl (c104 _ _ _ (by assumption) (by omega)) (fun v2 G2 Ho2 hle2 hp => ?_)
    obtain ⟨ra2, rfl, hra2, rfl, rfl⟩ := hp
    replace hra1 := hra1.up hle2
    replace hx := hx.up hle2
    replace hy := hy.up hle2
    refine Wl.on0 ?_
    refine Gm.o1 5 ?_
    refine Wl.alloc 4 rfl T.zero63 (fun b5 => ?_)
    refine Wl.on0 ?_
    refine Gm.o1 6 ?_
    refine Wl.ll0 1 [3] ?_
    refine Wl.on0 ?_
    refine Gm.o1 7 ?_
    refine Wl.ll0 1 [4] ?_
    refine Wl.on0 ?_
    refine Gm.fin ?_
    rotate_left
    refine Wl.alloc 4 rfl T.zero63 (fun b5 => ?_)
    refine Wl.on0 ?_
    refine Gm.o1 3 ?_
    refine Wl.k 5 rfl (c104 _ _ _ (by assumption) (by omega)) (fun v2 G2 Ho2 hle2 hp => ?_)
    obtain ⟨ra2, rfl, hra2, rfl, rfl⟩ := hp
    replace hra1 := hra1.up hle2
    replace hx := hx.up hle2
    replace hy := hy.up hle2
    refine Wl.on0 ?_
    refine Gm.o1 6 ?_
    refine Wl.ll0 1 [3] ?_
    refine Wl.on0 ?_
    refine Gm.o1 7 ?_
    refine Wl.ll0 1 [4] ?_
    refine Wl.on0 ?_
    refine Gm.fin ?_
    rotate_left
    refine Wl.alloc 4 rfl T.zero63 (fun b5 => ?_)
    refine Wl.on0 ?_
    refine Gm.o1 1 ?_
    refine Wl.k 5 rfl (c104 _ _ _ (by assumption) (by omega)) (fun v1 G1 Ho1 hle1 hp => ?_)
    obtain ⟨ra1, rfl, hra1, rfl, rfl⟩ := hp
    replace hx := hx.up hle1
    replace hy := hy.up hle1
    refine Wl.on0 ?_
    refine Gm.o1 3 ?_
    refine Wl.k 5 rfl (c104 _ _ _ (by assumption) (by omega)) (fun v2 G2 Ho2 hle2 hp => ?_)
    obtain ⟨ra2, rfl, hra2, rfl, rfl⟩ := hp
    replace hra1 := hra1.up hle2
    replace hx := hx.up hle2
    replace hy := hy.up hle2
    refine Wl.on0 ?_
    refine Gm.o1 6 ?_
    refine Wl.ll0 1 [3] ?_
    refine Wl.on0 ?_
    refine Gm.o1 7 ?_
    refine Wl.ll0 1 [4] ?_
    refine Wl.on0 ?_
    refine Gm.fin ?_
    rotate_left
    refine Wl.alloc 3 rfl T.zero63 (fun b4 => ?_)
    refine Wl.on0 ?_
    refine Gm.o2 1 4 ?_ ?_
    refine Wl.k 4 rfl (c104 _ _ _ (by assumption) (by omega)) (fun v1 G1 Ho1 hle1 hp => ?_)
    obtain ⟨ra1, rfl, hra1, rfl, rfl⟩ := hp
    replace hx := hx.up hle1
    replace hy := hy.up hle1
    refine Wl.on0 ?_
    refine Gm.o2 3 4 ?_ ?_
    refine Wl.k 4 rfl (c104 _ _ _ (by assumption) (by omega)) (fun v2 G2 Ho2 hle2 hp => ?_)
    obtain ⟨ra2, rfl, hra2, rfl, rfl⟩ := hp
    replace hra1 := hra1.up hle2
    replace hx := hx.up hle2
    replace hy := hy.up hle2
    refine Wl.on0 ?_
    refine Gm.o1 4 ?_
    refine Wl.alloc 4 rfl T.zero63 (fun b5 => ?_)
    refine Wl.on0 ?_
    refine Gm.o1 6 ?_
    refine Wl.ll0 1 [4] ?_
    refine Wl.on0 ?_
    refine Gm.o1 7 ?_
    refine Wl.ll0 1 [3] ?_
    refine Wl.on0 ?_
    refine Gm.fin ?_
    rotate_left
    refine Wl.alloc 4 rfl T.zero63 (fun b5 => ?_)
    refine Wl.on0 ?_
    refine Gm.o1 3 ?_
    refine Wl.k 5 rfl (c104 _ _ _ (by assumption) (by omega)) (fun v2 G2 Ho2 hle2 hp => ?_)
    obtain ⟨ra2, rfl, hra2, rfl, rfl⟩ := hp
    replace hra1 := hra1.up hle2
    replace hx := hx.up hle2
    replace hy := hy.up hle2
    refine Wl.on0 ?_
    refine Gm.o1 6 ?_
    refine Wl.ll0 1 [4] ?_
    refine Wl.on0 ?_
    refine Gm.o1 7 ?_
    refine Wl.ll0 1 [3] ?_
    refine Wl.on0 ?_
    refine Gm.fin ?_
    rotate_left
    refine Wl.alloc 4 rfl T.zero63 (fun b5 => ?_)
    refine Wl.on0 ?_
    refine Gm.o1 1 ?_
    refine Wl.k 5 rfl (c104 _ _ _ (by assumption) (by omega)) (fun v1 G1 Ho1 hle1 hp => ?_)
    obtain ⟨ra1, rfl, hra1, rfl, rfl⟩ := hp
    replace hx := hx.up hle1
    replace hy := hy.up hle1
    refine Wl.on0 ?_
    refine Gm.o1 3 ?_
    refine Wl.k 5 rfl (c104 _ _ _ (by assumption) (by omega)) (fun v2 G2 Ho2 hle2 hp => ?_)
    obtain ⟨ra2, rfl, hra2, rfl, rfl⟩ := hp
    replace hra1 := hra1.up hle2
    replace hx := hx.up hle2
    replace hy := hy.up hle2
    refine Wl.on0 ?_
    refine Gm.o1 6 ?_
    refine Wl.ll0 1 [4] ?_
    refine Wl.on0 ?_
    refine Gm.o1 7 ?_
    refine Wl.ll0 1 [3] ?_
    refine Wl.on0 ?_
    refine Gm.fin ?_
    rotate_left
    all_goals first | (refine Ar.retag 3 60 rfl rfl (Ar.retag 4 61 rfl rfl (Ar.meet (b4, b5, ra1, ra2) ⟨hra1, hra2⟩ rfl ?_ ?_)) <;> (repeat (first | exact trivial | refine ⟨rfl, ?_⟩)); done) | (refine Ar.retag 4 60 rfl rfl (Ar.retag 3 61 rfl rfl (Ar.meet (b5, b4, ra1, ra2) ⟨hra1, hra2⟩ rfl ?_ ?_)) <;> (repeat (first | exact trivial | refine ⟨rfl, ?_⟩)); done) | (refine Ar.retag 3 60 rfl rfl (Ar.retag 4 61 rfl rfl (Ar.meet (b5, b4, ra1, ra2) ⟨hra1, hra2⟩ rfl ?_ ?_)) <;> (repeat (first | exact trivial | refine ⟨rfl, ?_⟩)); done) | (refine Ar.retag 4 60 rfl rfl (Ar.retag 3 61 rfl rfl (Ar.meet (b4, b5, ra1, ra2) ⟨hra1, hra2⟩ rfl ?_ ?_)) <;> (repeat (first | exact trivial | refine ⟨rfl, ?_⟩)); done)
  have hn1 : ra1.n ≤ 268435456 := Nat.le_trans (Big.len hk.1 (m := x.n) (by rw [Int.natAbs_natCast]; exact Big.lt hx)) h1
  have hn2 : ra2.n ≤ 268435456 := Nat.le_trans (Big.len hk.2 (m := y.n) (by rw [Int.natAbs_natCast]; exact Big.lt hy)) h2
  refine Wc.gc 5 [] ?_
  refine Wc.loopG (ι := Nat × Nat × Imm × IV × IV) (fun (α, β, Gx, ra, rb) => ([(5, .pointer (some ⟨p, 0, none⟩)), (6, .pointer (some ⟨q, 0, none⟩)), (4, .pointer (some ⟨b3, 0, none⟩))], [(61, some q, .cells (Cells.enc rb).toArray 63), (60, some p, .cells (Cells.enc ra).toArray 63), (2, some b3, .cells #[.bool false, .slice none 0 0] 63), (1, Option.some b2, Go.Obj.cells (List.toArray (Go.Sl.Cells.enc y)) 63), (0, Option.some b1, Go.Obj.cells (List.toArray (Go.Sl.Cells.enc x)) 63)])) (fun (α, β, Gx, ra, rb) => Gx) (fun (α, β, Gx, ra, rb) => G.le Gx ∧ Big Gx ra (α : Int) ∧ Big Gx rb (β : Int) ∧ ra.n ≤ 268435456 ∧ rb.n ≤ 268435456 ∧ Nat.gcd α β = Int.gcd zx zy) (fun (α, β, Gx, ra, rb) => β) ((zx.natAbs, zy.natAbs, G, ra1, ra2)) (⟨Imm.le_refl _, hk.1, hk.2, hn1, hn2, rfl⟩) rfl ⟨rfl, rfl, rfl, trivial⟩ ⟨rfl, rfl, rfl, rfl, rfl, trivial⟩ (fun ⟨α, β, Gx, ra, rb⟩ => fun (hk : G.le Gx ∧ Big Gx ra (α : Int) ∧ Big Gx rb (β : Int) ∧ ra.n ≤ 268435456 ∧ rb.n ≤ 268435456 ∧ Nat.gcd α β = Int.gcd zx zy) => ?_)
  obtain ⟨hgx, hra, hrb, hna, hnb, hg⟩ := hk
  by_cases hb0 : β = 0
  · have hs0 : sgZ (β : Int) = 0 := sgZ_zero.2 (by omega)
    refine Wc.gl 4 [61] ?_
    refine Wl.k0 rfl (big_sgn _ _ _ (by assumption) (by omega)) ?_
    refine Wl.ga 16 [0, 60, 2] ?_
    refine Ar.scopeR ?_
    refine Ar.out1 (.inr rfl) (Ho := Hp.only _ []) rfl (.agg 2 rfl rfl T.agg63) (Hp.sub_only _ _) ?_
    refine ⟨ra, rfl, ?_, rfl⟩
    have e : Int.gcd zx zy = α := by rw [← hg, hb0, Nat.gcd_zero_right]
    rw [e]; exact hra
  · have hs0 : sgZ (β : Int) ≠ 0 := fun e => hb0 (by have := sgZ_zero.1 e; omega)
    refine Wc.gl 4 [61] ?_
    refine Wl.k0 rfl (big_sgn _ _ _ (by assumption) (by omega)) ?_
    refine Wl.gl 11 [1, 60, 61] ?_
    refine Wl.k 62 rfl (c77 _ _ _ _ _ (by assumption) (by assumption) (by omega) (by omega) (by omega)) (fun v1 G1 Ho1 hle1 hp => ?_)
    obtain ⟨q1, r1, rfl, hq1, hr1, rfl⟩ := hp
    replace hra := hra.up hle1
    replace hrb := hrb.up hle1
    refine Wl.ll0 4 [] ?_
    refine Wl.alloc 62 rfl T.zero63 (fun b4 => ?_)
    refine Wl.alloc 63 rfl T.zero63 (fun b5 => ?_)
    refine Wl.gc 6 [62, 63] ?_
    refine Wc.draw [0, 1, 2, 60, 61, 62, 63] [(61, 3), (60, 2)] T.mixed rfl ?_
    refine Gm.c 0 [61] [61] ?_
    refine Gm.c 1 [63] [63] ?_
    refine Gm.o1 2 ?_
    refine Wl.ll0 1 [60] ?_
    refine Wl.on0 ?_
    refine Gm.o1 3 ?_
    refine Wl.ll0 1 [61] ?_
    refine Wl.on0 ?_
    refine Gm.fin ?_
    refine Ar.ga 3 [] ?_
    refine Ar.again ((β, α % β, G1, rb, r1)) ?_ ?_ rfl ⟨rfl, rfl, rfl, trivial⟩ ⟨rfl, rfl, rfl, rfl, rfl, trivial⟩
    · have e1 : ((α % β : Nat) : Int) = (α : Int) % (β : Int) := Int.natCast_emod α β
      have hlt : (((α : Int) % (β : Int)).natAbs : Int) < pb rb.n := by
        have h3 := Big.lt hrb
        have h4 : α % β < β := Nat.mod_lt _ (by omega)
        rw [← e1, Int.natAbs_natCast]
        rw [Int.natAbs_natCast] at h3
        omega
      refine ⟨Imm.le_trans hgx hle1, hrb, by rw [e1]; exact hr1, hnb, Nat.le_trans (Big.len hr1 hlt) hnb, ?_⟩
      rw [← hg, Nat.gcd_comm α β, Nat.gcd_rec β α, Nat.gcd_comm]
    · show α % β < β
      exact Nat.mod_lt _ (by omega)
end Go.Proofs.YtbppmiimeccclaaGreatDoor
set_option maxRecDepth 100000
set_option linter.unusedVariables false
namespace Go.Proofs.YtbppmiimeccclaaGreatDoor
open Go Go.Sl
/-- a fraction's handle -/
structure QV where
  num : IV
  less : IV
instance : Inhabited QV := ⟨⟨default, default⟩⟩
instance : Cells QV := ⟨4, fun x => [.bool x.num.neg, .slice x.num.a x.num.n x.num.c, .bool x.less.neg, .slice x.less.a x.less.n x.less.c], fun _ => rfl, fun _ => rfl⟩
def BigQ (G : Imm) (r : QV) (q : QZ) : Prop := Big G r.num q.1 ∧ Big G r.less q.2
theorem BigQ.up {G G' : Imm} {r : QV} {q : QZ} (h : BigQ G r q) (hl : G.le G') : BigQ G' r q := ⟨h.1.up hl, h.2.up hl⟩
/-- a number of so many limbs -/
def Lt (m : Nat) (z : Int) : Prop := (z.natAbs : Int) < pb m
theorem Lt.mono {m k : Nat} {z : Int} (h : Lt m z) (hk : m ≤ k) : Lt k z := Int.lt_of_lt_of_le h (pb_le hk)
theorem Lt.mul {m k : Nat} {x y : Int} (hx : Lt m x) (hy : Lt k y) : Lt (m + k) (x * y) := mul_lt_pb hx hy
theorem Lt.le {m : Nat} {x y : Int} (hx : Lt m x) (h : y.natAbs ≤ x.natAbs) : Lt m y := by unfold Lt at *; omega
theorem pb_two {m : Nat} : 2 * pb m ≤ pb (m + 1) := by
  have h1 := pb_pos m
  have h2 : pb (m + 1) = 4294967296 * pb m := by
    unfold pb
    rw [Nat.pow_succ, Nat.mul_comm]; rfl
  rw [h2]; omega
theorem Lt.add {m : Nat} {x y : Int} (hx : Lt m x) (hy : Lt m y) : Lt (m + 1) (x + y) := by
  unfold Lt at *
  have := pb_two (m := m)
  omega
theorem Lt.neg {m : Nat} {x : Int} (hx : Lt m x) : Lt m (-x) := by unfold Lt at *; omega
theorem Lt.sub {m : Nat} {x y : Int} (hx : Lt m x) (hy : Lt m y) : Lt (m + 1) (x - y) := by
  unfold Lt at *
  have := pb_two (m := m)
  omega
theorem Lt.one {m : Nat} (hm : 1 ≤ m) : Lt m 1 := Lt.mono one_lt hm
theorem Lt.succ {m : Nat} {x : Int} (hx : Lt m x) (hm : 1 ≤ m) : Lt (m + 1) (x + 1) := Lt.add hx (Lt.one hm)
theorem Lt.n {m : Nat} {G : Imm} {x : IV} {z : Int} (h : Lt m z) (hx : Big G x z) : x.n ≤ m := Big.len hx h
/-- a fraction in lowest terms, of so many limbs -/
theorem lowQ_def (n d : Int) : lowQ n d = (n / (Int.gcd n d : Int), d / (Int.gcd n d : Int) - 1) := rfl
def OkQ (m : Nat) (q : QZ) : Prop := Lt m q.1 ∧ Lt m q.2 ∧ 0 ≤ q.2
set_option maxHeartbeats 4000000
attribute [local irreducible] valB pb cmpZ lstWp lowQ Lt
theorem v57 (G : Imm) : Does Tryz.prog 23 [.int .i64 1] G [] (fun v G' Ho => ∃ r : IV, v = .agg (Cells.enc r).toArray ∧ Big G' r 1 ∧ Ho = []) := c23 G 1 (by decide)
theorem v101 (G : Imm) (x y : IV) (zx zy : Int) (hx : Big G x zx) (hy : Big G y zy) (h1 : Lt 100000 zx) (h2 : Lt 100000 zy) :
    Does Tryz.prog 74 [.agg (Cells.enc x).toArray, .agg (Cells.enc y).toArray] G [] (fun v G' Ho => ∃ r : IV, v = .agg (Cells.enc r).toArray ∧ Big G' r (zx + zy) ∧ Ho = []) := c74 G x y zx zy hx hy (Nat.le_trans (h1.n hx) (by decide)) (Nat.le_trans (h2.n hy) (by decide))
theorem v102 (G : Imm) (x y : IV) (zx zy : Int) (hx : Big G x zx) (hy : Big G y zy) (h1 : Lt 100000 zx) (h2 : Lt 100000 zy) :
    Does Tryz.prog 75 [.agg (Cells.enc x).toArray, .agg (Cells.enc y).toArray] G [] (fun v G' Ho => ∃ r : IV, v = .agg (Cells.enc r).toArray ∧ Big G' r (zx - zy) ∧ Ho = []) := c75 G x y zx zy hx hy (Nat.le_trans (h1.n hx) (by decide)) (Nat.le_trans (h2.n hy) (by decide))
theorem v103 (G : Imm) (x y : IV) (zx zy : Int) (hx : Big G x zx) (hy : Big G y zy) (h1 : Lt 100000 zx) (h2 : Lt 100000 zy) :
    Does Tryz.prog 66 [.agg (Cells.enc x).toArray, .agg (Cells.enc y).toArray] G [] (fun v G' Ho => ∃ r : IV, v = .agg (Cells.enc r).toArray ∧ Big G' r (zx * zy) ∧ Ho = []) := c66 G x y zx zy hx hy (Nat.le_trans (h1.n hx) (by decide)) (Nat.le_trans (h2.n hy) (by decide))
theorem v100 (G : Imm) (x : IV) (z : Int) (hx : Big G x z) (h1 : Lt 100000 z) :
    Does Tryz.prog 72 [.agg (Cells.enc x).toArray] G [] (fun v G' Ho => ∃ r : IV, v = .agg (Cells.enc r).toArray ∧ Big G' r (-z) ∧ G' = G ∧ Ho = []) := c72 G x z hx (Nat.le_trans (h1.n hx) (by decide))
theorem v105 (G : Imm) (x y : IV) (zx zy : Int) (hx : Big G x zx) (hy : Big G y zy) (h1 : Lt 100000 zx) (h2 : Lt 100000 zy) (hy0 : zy ≠ 0) :
    Does Tryz.prog 77 [.agg (Cells.enc x).toArray, .agg (Cells.enc y).toArray] G [] (fun v G' Ho => ∃ q r : IV, v = .tuple #[.agg (Cells.enc q).toArray, .agg (Cells.enc r).toArray, .int .i64 0] ∧ Big G' q (zx / zy) ∧ Big G' r (zx % zy) ∧ Ho = []) := c77 G x y zx zy hx hy (Nat.le_trans (h1.n hx) (by decide)) (Nat.le_trans (h2.n hy) (by decide)) hy0
theorem v215 (G : Imm) (x y : IV) (zx zy : Int) (hx : Big G x zx) (hy : Big G y zy) (h1 : Lt 100000 zx) (h2 : Lt 100000 zy) :
    Does Tryz.prog 113 [.agg (Cells.enc x).toArray, .agg (Cells.enc y).toArray] G [] (fun v G' Ho => ∃ r : IV, v = .agg (Cells.enc r).toArray ∧ Big G' r (Int.gcd zx zy : Int) ∧ Ho = []) := c113 G x y zx zy hx hy (Nat.le_trans (h1.n hx) (by decide)) (Nat.le_trans (h2.n hy) (by decide))
theorem v60 (G : Imm) (x y : IV) (zx zy : Int) (hx : Big G x zx) (hy : Big G y zy) (h1 : Lt 100000 zx) (h2 : Lt 100000 zy) :
    Does Tryz.prog 31 [.agg (Cells.enc x).toArray, .agg (Cells.enc y).toArray] G [] (fun v G' Ho => v = .int .i64 (cmpZ zx zy) ∧ G' = G ∧ Ho = []) := c31 G x y zx zy hx hy (Nat.le_trans (h1.n hx) (by decide)) (Nat.le_trans (h2.n hy) (by decide))
theorem v106 (G : Imm) (x : IV) (z : Int) (hx : Big G x z) (h1 : Lt 100000 z) :
    Does Tryz.prog 76 [.agg (Cells.enc x).toArray] G [] (fun v G' Ho => v = .int .i64 (sgZ z) ∧ G' = G ∧ Ho = []) := big_sgn G x z hx (Nat.le_trans (h1.n hx) (by decide))
theorem quot_lt {m : Nat} {x y : Int} (h : Lt m x) : Lt m (x / y) := Lt.le h (Int.natAbs_ediv_le_natAbs x y)
theorem gcd_lt {m : Nat} {x y : Int} (h : Lt m y) (hy : 0 < y) : Lt m (Int.gcd x y : Int) := Lt.le h (by
  have h1 : Int.gcd x y ∣ y.natAbs := Nat.gcd_dvd_right _ _
  have h2 := Nat.le_of_dvd (by omega) h1
  rw [Int.natAbs_natCast]; exact h2)
theorem gcd_ne {x y : Int} (hy : 0 < y) : (Int.gcd x y : Int) ≠ 0 := fun e => by
  have h1 : Int.gcd x y = 0 := by omega
  have := (Int.gcd_eq_zero_iff.1 h1).2
  omega
theorem c64 (G : Imm) (x : IV) (z : Int) (hx : Big G x z) :
    Does Tryz.prog 64 [.agg (Cells.enc x).toArray] G [] (fun v G' Ho => ∃ r : QV, v = .agg (Cells.enc r).toArray ∧ BigQ G' r (wholeQ z) ∧ G' = G ∧ Ho = []) := by
  refine Does.enter Tryz.func64 rfl Tryz.ntmps64 rfl (fun w => ?_)
  refine Wc.gl 2 [] ?_
  refine Wl.box 0 rfl rfl rfl (fun b1 => ?_)
  refine Wl.alloc 1 rfl T.zero92 (fun b2 => ?_)
  refine Wl.gl 5 [0] ?_
  refine Wl.q rfl (Qy.build (cs := [_, _, _, _]) T.st92 rfl rfl rfl) ?_
  refine Wl.ga 4 [1] ?_
  refine Ar.out1 (.inr rfl) (Ho := Hp.only _ []) rfl (.agg 1 rfl rfl T.agg92) (Hp.sub_only _ _) ?_
  exact ⟨⟨x, default⟩, rfl, ⟨hx, Big.zero _⟩, rfl, rfl⟩
theorem c96 (G : Imm) (x : QV) :
    Does Tryz.prog 96 [.agg (Cells.enc x).toArray] G [] (fun v G' Ho => v = .agg (Cells.enc x.num).toArray ∧ G' = G ∧ Ho = []) := by
  refine Does.enter Tryz.func96 rfl Tryz.ntmps96 rfl (fun w => ?_)
  refine Wc.gl 2 [] ?_
  refine Wl.box 0 rfl rfl rfl (fun b1 => ?_)
  refine Wl.alloc 1 rfl T.zero63 (fun b2 => ?_)
  refine Wl.gl 5 [] ?_
  refine Wl.q rfl (Qy.loads 0 T.agg63 rfl rfl rfl rfl) ?_
  refine Wl.ga 4 [1] ?_
  refine Ar.out1 (.inr rfl) (Ho := Hp.only _ []) rfl (.agg 1 rfl rfl T.agg63) (Hp.sub_only _ _) ?_
  exact ⟨rfl, rfl, rfl⟩
theorem c67 (G : Imm) (x : QV) (q : QZ) (hx : BigQ G x q) (h1 : Lt 100000 q.2) :
    Does Tryz.prog 67 [.agg (Cells.enc x).toArray] G [] (fun v G' Ho => ∃ r : IV, v = .agg (Cells.enc r).toArray ∧ Big G' r (q.2 + 1) ∧ Ho = []) := by
  have hl : Big G x.less q.2 := hx.2
  have h2 : Lt 100000 1 := Lt.one (by decide)
  refine Does.enter Tryz.func67 rfl Tryz.ntmps67 rfl (fun w => ?_)
  refine Wc.gl 2 [] ?_
  refine Wl.box 0 rfl rfl rfl (fun b1 => ?_)
  refine Wl.alloc 1 rfl T.zero63 (fun b2 => ?_)
  refine Wl.gc 3 [] ?_
  refine Wc.draw [0, 1] [(1, 4)] T.mixed rfl ?_
  refine Gm.c 0 [] [] ?_
  refine Gm.u 1 [0] rfl (Qy.loads 0 T.agg63 rfl rfl rfl rfl) ?_
  refine Gm.o1 2 ?_
  refine Wl.k 2 rfl (v57 _) (fun v1 G1 Ho1 hle1 hp => ?_)
  obtain ⟨ri1, rfl, hri1, rfl⟩ := hp
  replace hx := hx.up hle1
  replace hl := hl.up hle1
  refine Wl.on0 ?_
  refine Gm.o1 3 ?_
  refine Wl.k 2 rfl (v101 _ _ _ _ _ (by assumption) (by assumption) (by assumption) (by assumption)) (fun v2 G2 Ho2 hle2 hp => ?_)
  obtain ⟨ri2, rfl, hri2, rfl⟩ := hp
  replace hri1 := hri1.up hle2
  replace hx := hx.up hle2
  replace hl := hl.up hle2
  refine Wl.on0 ?_
  refine Gm.o1 4 ?_
  refine Wl.ll0 1 [1] ?_
  refine Wl.on0 ?_
  refine Gm.fin ?_
  refine Ar.ga 2 [] ?_
  refine Ar.out1 (.inr rfl) (Ho := Hp.only _ []) rfl (.agg 1 rfl rfl T.agg63) (Hp.sub_only _ _) ?_
  exact ⟨_, rfl, hri2, rfl⟩
theorem c105 (G : Imm) (x y : IV) (zx zy : Int) (hx : Big G x zx) (hy : Big G y zy) (h1 : Lt 100000 zx) (h2 : Lt 100000 zy) (h0 : 0 < zy) :
    Does Tryz.prog 105 [.agg (Cells.enc x).toArray, .agg (Cells.enc y).toArray] G [] (fun v G' Ho => ∃ r : QV, v = .agg (Cells.enc r).toArray ∧ BigQ G' r (lowQ zx zy) ∧ Ho = []) := by
  have hg1 : Lt 100000 (Int.gcd zx zy : Int) := gcd_lt h2 h0
  have hg0 : (Int.gcd zx zy : Int) ≠ 0 := gcd_ne h0
  have hq1 : Lt 100000 (zy / (Int.gcd zx zy : Int)) := quot_lt h2
  have ho : Lt 100000 1 := Lt.one (by decide)
  refine Does.enter Tryz.func105 rfl Tryz.ntmps105 rfl (fun w => ?_)
  refine Wc.gl 2 [] ?_
  refine Wl.box 0 rfl rfl rfl (fun b1 => ?_)
  refine Wl.box 1 rfl rfl rfl (fun b2 => ?_)
  refine Wl.alloc 2 rfl T.zero92 (fun b3 => ?_)
  refine Wl.gl 6 [0, 1] ?_
  refine Wl.k 3 rfl (v215 _ _ _ _ _ (by assumption) (by assumption) (by assumption) (by assumption)) (fun v1 G1 Ho1 hle1 hp => ?_)
  obtain ⟨ri1, rfl, hri1, rfl⟩ := hp
  replace hx := hx.up hle1
  replace hy := hy.up hle1
  refine Wl.alloc 3 rfl T.zero63 (fun b4 => ?_)
  refine Wl.gl 7 [3, 0, 3] ?_
  refine Wl.k 4 rfl (v105 _ _ _ _ _ (by assumption) (by assumption) (by assumption) (by assumption) (by assumption)) (fun v2 G2 Ho2 hle2 hp => ?_)
  obtain ⟨q2, r2, rfl, hq2, hr2, rfl⟩ := hp
  replace hri1 := hri1.up hle2
  replace hx := hx.up hle2
  replace hy := hy.up hle2
  refine Wl.gl 11 [0, 1, 3] ?_
  refine Wl.k 4 rfl (v105 _ _ _ _ _ (by assumption) (by assumption) (by assumption) (by assumption) (by assumption)) (fun v3 G3 Ho3 hle3 hp => ?_)
  obtain ⟨q3, r3, rfl, hq3, hr3, rfl⟩ := hp
  replace hq2 := hq2.up hle3
  replace hr2 := hr2.up hle3
  replace hri1 := hri1.up hle3
  replace hx := hx.up hle3
  replace hy := hy.up hle3
  refine Wl.gc 8 [1] ?_
  refine Wc.draw [2, 3, 0, 1] [(2, 5)] T.mixed rfl ?_
  refine Gm.c 0 [0] [0] ?_
  refine Gm.c 1 [1] [1] ?_
  refine Gm.o1 2 ?_
  refine Wl.k 4 rfl (v57 _) (fun v4 G4 Ho4 hle4 hp => ?_)
  obtain ⟨ri4, rfl, hri4, rfl⟩ := hp
  replace hq3 := hq3.up hle4
  replace hr3 := hr3.up hle4
  replace hq2 := hq2.up hle4
  replace hr2 := hr2.up hle4
  replace hri1 := hri1.up hle4
  replace hx := hx.up hle4
  replace hy := hy.up hle4
  refine Wl.on0 ?_
  refine Gm.o1 3 ?_
  refine Wl.k 4 rfl (v102 _ _ _ _ _ (by assumption) (by assumption) (by assumption) (by assumption)) (fun v5 G5 Ho5 hle5 hp => ?_)
  obtain ⟨ri5, rfl, hri5, rfl⟩ := hp
  replace hri4 := hri4.up hle5
  replace hq3 := hq3.up hle5
  replace hr3 := hr3.up hle5
  replace hq2 := hq2.up hle5
  replace hr2 := hr2.up hle5
  replace hri1 := hri1.up hle5
  replace hx := hx.up hle5
  replace hy := hy.up hle5
  refine Wl.on0 ?_
  refine Gm.u 4 [] rfl (Qy.build (cs := [_, _, _, _]) T.st92 rfl rfl rfl) ?_
  refine Gm.o1 5 ?_
  refine Wl.ll0 1 [2] ?_
  refine Wl.on0 ?_
  refine Gm.fin ?_
  refine Ar.ga 2 [] ?_
  refine Ar.out1 (.inr rfl) (Ho := Hp.only _ []) rfl (.agg 2 rfl rfl T.agg92) (Hp.sub_only _ _) ?_
  exact ⟨⟨q2, ri5⟩, rfl, by rw [lowQ_def]; exact ⟨hq2, hri5⟩, rfl⟩
theorem c114 (G : Imm) (x y : IV) (zx zy : Int) (hx : Big G x zx) (hy : Big G y zy) (h1 : Lt 100000 zx) (h2 : Lt 100000 zy) (h0 : zy ≠ 0) :
    Does Tryz.prog 114 [.agg (Cells.enc x).toArray, .agg (Cells.enc y).toArray] G [] (fun v G' Ho => ∃ r : QV, v = .tuple #[.agg (Cells.enc r).toArray, .int .i64 0] ∧ BigQ G' r (makeQ zx zy) ∧ Ho = []) := by
  have h3 : Lt 100000 (-zx) := h1.neg
  have h4 : Lt 100000 (-zy) := h2.neg
  refine Does.enter Tryz.func114 rfl Tryz.ntmps114 rfl (fun w => ?_)
  rcases Int.lt_or_lt_of_ne h0 with hs | hs
  · have hg := sgZ_lt hs
    have h9 : 0 < -zy := by omega
    have em : makeQ zx zy = lowQ (-zx) (-zy) := by unfold makeQ; rw [if_neg h0, if_pos hs]
    refine Wc.gl 2 [] ?_
    refine Wl.box 0 rfl rfl rfl (fun b1 => ?_)
    refine Wl.box 1 rfl rfl rfl (fun b2 => ?_)
    refine Wl.alloc 2 rfl T.zero92 (fun b3 => ?_)
    refine Wl.gl 7 [1] ?_
    refine Wl.k0 rfl (v106 _ _ _ (by assumption) (by assumption)) ?_
    refine Wl.gc 17 [0, 1] ?_
    refine Wc.draw [0, 1, 2] [(1, 5), (0, 4)] T.mixed rfl ?_
    refine Gm.c 0 [0] [0] ?_
    refine Gm.c 2 [1] [1] ?_
    refine Gm.o1 1 ?_
    refine Wl.k 3 rfl (v100 _ _ _ (by assumption) (by assumption)) (fun v1 G1 Ho1 hle1 hp => ?_)
    obtain ⟨ri1, rfl, hri1, rfl, rfl⟩ := hp
    replace hx := hx.up hle1
    replace hy := hy.up hle1
    refine Wl.on0 ?_
    refine Gm.o1 3 ?_
    refine Wl.k 3 rfl (v100 _ _ _ (by assumption) (by assumption)) (fun v2 G2 Ho2 hle2 hp => ?_)
    obtain ⟨ri2, rfl, hri2, rfl, rfl⟩ := hp
    replace hri1 := hri1.up hle2
    replace hx := hx.up hle2
    replace hy := hy.up hle2
    refine Wl.on0 ?_
    refine Gm.o1 4 ?_
    refine Wl.ll0 1 [0] ?_
    refine Wl.on0 ?_
    refine Gm.o1 5 ?_
    refine Wl.ll0 1 [1] ?_
    refine Wl.on0 ?_
    refine Gm.fin ?_
    refine Ar.gl 6 [0, 1] ?_
    refine Wl.k 3 rfl (c105 _ _ _ _ _ (by assumption) (by assumption) (by assumption) (by assumption) (by assumption)) (fun v3 G3 Ho3 hle3 hp => ?_)
    obtain ⟨rr3, rfl, hrr3, rfl⟩ := hp
    replace hri2 := hri2.up hle3
    replace hri1 := hri1.up hle3
    replace hx := hx.up hle3
    replace hy := hy.up hle3
    refine Wl.ga 5 [2] ?_
    refine Ar.out2 (.inr rfl) (Ho := Hp.only _ []) rfl (.agg 2 rfl rfl T.agg92) (.tmp rfl) (Hp.sub_only _ _) ?_
    all_goals exact ⟨_, rfl, by rw [em]; assumption, rfl⟩
  · have hg := sgZ_gt hs
    have em : makeQ zx zy = lowQ zx zy := by unfold makeQ; rw [if_neg h0, if_neg (by omega)]
    refine Wc.gl 2 [] ?_
    refine Wl.box 0 rfl rfl rfl (fun b1 => ?_)
    refine Wl.box 1 rfl rfl rfl (fun b2 => ?_)
    refine Wl.alloc 2 rfl T.zero92 (fun b3 => ?_)
    refine Wl.gl 7 [1] ?_
    refine Wl.k0 rfl (v106 _ _ _ (by assumption) (by assumption)) ?_
    refine Wl.gl 24 [0, 0, 0, 1] ?_
    refine Wl.k 3 rfl (c105 _ _ _ _ _ (by assumption) (by assumption) (by assumption) (by assumption) (by assumption)) (fun v1 G1 Ho1 hle1 hp => ?_)
    obtain ⟨rr1, rfl, hrr1, rfl⟩ := hp
    replace hx := hx.up hle1
    replace hy := hy.up hle1
    refine Wl.ga 5 [2] ?_
    refine Ar.out2 (.inr rfl) (Ho := Hp.only _ []) rfl (.agg 2 rfl rfl T.agg92) (.tmp rfl) (Hp.sub_only _ _) ?_
    all_goals exact ⟨_, rfl, by rw [em]; assumption, rfl⟩
theorem c82 (G : Imm) (x : QV) (q : QZ) (hx : BigQ G x q) (h1 : Lt 100000 q.1) :
    Does Tryz.prog 82 [.agg (Cells.enc x).toArray] G [] (fun v G' Ho => ∃ r : QV, v = .agg (Cells.enc r).toArray ∧ BigQ G' r (negQ q) ∧ G' = G ∧ Ho = []) := by
  have hn : Big G x.num q.1 := hx.1
  have hl : Big G x.less q.2 := hx.2
  refine Does.enter Tryz.func82 rfl Tryz.ntmps82 rfl (fun w => ?_)
  refine Wc.gl 2 [] ?_
  refine Wl.box 0 rfl rfl rfl (fun b1 => ?_)
  refine Wl.alloc 1 rfl T.zero92 (fun b2 => ?_)
  refine Wl.gc 3 [] ?_
  refine Wc.draw [0, 1] [(1, 6)] T.mixed rfl ?_
  refine Gm.c 0 [] [] ?_
  refine Gm.u 1 [0] rfl (Qy.loads 0 T.agg63 rfl rfl rfl rfl) ?_
  refine Gm.c 3 [] [] ?_
  refine Gm.u 4 [0] rfl (Qy.loads 0 T.agg63 rfl rfl rfl rfl) ?_
  refine Gm.o1 2 ?_
  refine Wl.k 2 rfl (v100 _ _ _ (by assumption) (by assumption)) (fun v1 G1 Ho1 hle1 hp => ?_)
  obtain ⟨ri1, rfl, hri1, rfl, rfl⟩ := hp
  replace hx := hx.up hle1
  replace hn := hn.up hle1
  replace hl := hl.up hle1
  refine Wl.on0 ?_
  refine Gm.u 5 [] rfl (Qy.build (cs := [_, _, _, _]) T.st92 rfl rfl rfl) ?_
  refine Gm.o1 6 ?_
  refine Wl.ll0 1 [1] ?_
  refine Wl.on0 ?_
  refine Gm.fin ?_
  refine Ar.ga 2 [] ?_
  refine Ar.out1 (.inr rfl) (Ho := Hp.only _ []) rfl (.agg 1 rfl rfl T.agg92) (Hp.sub_only _ _) ?_
  exact ⟨⟨ri1, x.less⟩, rfl, ⟨hri1, hl⟩, rfl, rfl⟩
theorem c84 (G : Imm) (x y : QV) (p q : QZ) (hx : BigQ G x p) (hy : BigQ G y q) (h1 : OkQ 2100 p) (h2 : OkQ 2100 q) :
    Does Tryz.prog 84 [.agg (Cells.enc x).toArray, .agg (Cells.enc y).toArray] G [] (fun v G' Ho => ∃ r : QV, v = .agg (Cells.enc r).toArray ∧ BigQ G' r (addQ p q) ∧ Ho = []) := by
  have hxn : Big G x.num p.1 := hx.1
  have hyn : Big G y.num q.1 := hy.1
  have a1 := h1.1
  have a2 := h1.2.1.succ (by decide)
  have b1 := h2.1
  have b2 := h2.2.1.succ (by decide)
  have a3 := (a1.mono (show 2100 ≤ 2101 by decide)).mul b2
  have b3 := (b1.mono (show 2100 ≤ 2101 by decide)).mul a2
  have c1 := (a3.add b3).mono (show 2101 + 2101 + 1 ≤ 100000 by decide)
  have d1 := (a2.mul b2).mono (show 2101 + 2101 ≤ 100000 by decide)
  have e1 := a1.mono (show 2100 ≤ 100000 by decide)
  have e2 := a2.mono (show 2100 + 1 ≤ 100000 by decide)
  have e3 := b1.mono (show 2100 ≤ 100000 by decide)
  have e4 := b2.mono (show 2100 + 1 ≤ 100000 by decide)
  have e5 := a3.mono (show 2101 + 2101 ≤ 100000 by decide)
  have e6 := b3.mono (show 2101 + 2101 ≤ 100000 by decide)
  have e7 := h1.2.1.mono (show 2100 ≤ 100000 by decide)
  have e8 := h2.2.1.mono (show 2100 ≤ 100000 by decide)
  have h0 : 0 < (p.2 + 1) * (q.2 + 1) := Int.mul_pos (by have := h1.2.2; omega) (by have := h2.2.2; omega)
  refine Does.enter Tryz.func84 rfl Tryz.ntmps84 rfl (fun w => ?_)
  refine Wc.gl 2 [] ?_
  refine Wl.box 0 rfl rfl rfl (fun b4 => ?_)
  refine Wl.box 1 rfl rfl rfl (fun b5 => ?_)
  refine Wl.alloc 2 rfl T.zero92 (fun b6 => ?_)
  refine Wl.gc 2 [] ?_
  refine Wc.meetG (ι := Nat × Nat × Imm × IV × IV) (fun (s, t, Gx, ra, rb) => ([(5, .pointer (some ⟨s, 0, none⟩)), (6, .pointer (some ⟨t, 0, none⟩)), (4, .pointer (some ⟨b6, 0, none⟩)), (3, .pointer (some ⟨b5, 0, none⟩)), (2, .pointer (some ⟨b4, 0, none⟩))], [(60, some s, .cells (Cells.enc ra).toArray 63), (61, some t, .cells (Cells.enc rb).toArray 63), (2, some b6, .cells #[.bool false, .slice none 0 0, .bool false, .slice none 0 0] 92), (1, some b5, .cells (Cells.enc y).toArray 92), (0, some b4, .cells (Cells.enc x).toArray 92)])) (fun (_, _, Gx, _, _) => Gx) (fun (_, _, Gx, ra, rb) => G.le Gx ∧ Big Gx ra (p.2 + 1) ∧ Big Gx rb (q.2 + 1)) ?_ (fun (s, t, Gx, ra, rb) hk => ?_)
  · refine Wc.draw [0, 1, 2] [] T.mixed rfl ?_
    refine Gm.c 0 [0] [0] ?_
    refine Gm.c 2 [1] [1] ?_
    refine Gm.o3 1 4 5 ?_ ?_ ?_
    refine Wl.k 3 rfl (c67 _ _ _ (by assumption) (by assumption)) (fun v1 G1 Ho1 hle1 hp => ?_)
    obtain ⟨ri1, rfl, hri1, rfl⟩ := hp
    replace hx := hx.up hle1
    replace hy := hy.up hle1
    replace hxn := hxn.up hle1
    replace hyn := hyn.up hle1
    refine Wl.on0 ?_
    refine Gm.o3 3 4 5 ?_ ?_ ?_
    refine Wl.k 3 rfl (c67 _ _ _ (by assumption) (by assumption)) (fun v2 G2 Ho2 hle2 hp => ?_)
    obtain ⟨ri2, rfl, hri2, rfl⟩ := hp
    replace hri1 := hri1.up hle2
    replace hx := hx.up hle2
    replace hy := hy.up hle2
    replace hxn := hxn.up hle2
    replace hyn := hyn.up hle2
    refine Wl.on0 ?_
    refine Gm.o2 4 5 ?_ ?_
    refine Wl.alloc 3 rfl T.zero63 (fun b7 => ?_)
    refine Wl.on0 ?_
    refine Gm.o1 5 ?_
    refine Wl.alloc 4 rfl T.zero63 (fun b8 => ?_)
    refine Wl.on0 ?_
    refine Gm.o1 6 ?_
    refine Wl.ll0 1 [3] ?_
    refine Wl.on0 ?_
    refine Gm.o1 7 ?_
    refine Wl.ll0 1 [4] ?_
    refine Wl.on0 ?_
    refine Gm.fin ?_
    rotate_left
    refine Wl.alloc 3 rfl T.zero63 (fun b7 => ?_)
    refine Wl.on0 ?_
    refine Gm.o1 4 ?_
    refine Wl.alloc 4 rfl T.zero63 (fun b8 => ?_)
    refine Wl.on0 ?_
    refine Gm.o1 6 ?_
    refine Wl.ll0 1 [4] ?_
    refine Wl.on0 ?_
    refine Gm.o1 7 ?_
    refine Wl.ll0 1 [3] ?_
    refine Wl.on0 ?_
    refine Gm.fin ?_
    rotate_left
    refine Wl.alloc 3 rfl T.zero63 (fun b7 => ?_)
    refine Wl.on0 ?_
    refine Gm.o2 3 5 ?_ ?_
    refine Wl.k 4 rfl (c67 _ _ _ (by assumption) (by assumption)) (fun v2 G2 Ho2 hle2 hp => ?_)
    obtain ⟨ri2, rfl, hri2, rfl⟩ := hp
    replace hri1 := hri1.up hle2
    replace hx := hx.up hle2
    replace hy := hy.up hle2
    replace hxn := hxn.up hle2
    replace hyn := hyn.up hle2
    refine Wl.on0 ?_
    refine Gm.o1 5 ?_
    refine Wl.alloc 4 rfl T.zero63 (fun b8 => ?_)
    refine Wl.on0 ?_
    refine Gm.o1 6 ?_
    refine Wl.ll0 1 [3] ?_
    refine Wl.on0 ?_
    refine Gm.o1 7 ?_
    refine Wl.ll0 1 [4] ?_
    refine Wl.on0 ?_
    refine Gm.fin ?_
    rotate_left
    refine Wl.alloc 4 rfl T.zero63 (fun b8 => ?_)
    refine Wl.on0 ?_
    refine Gm.o1 3 ?_
    refine Wl.k 5 rfl (c67 _ _ _ (by assumption) (by assumption)) (fun v2 G2 Ho2 hle2 hp => ?_)
    obtain ⟨ri2, rfl, hri2, rfl⟩ := hp
    replace hri1 := hri1.up hle2
    replace hx := hx.up hle2
    replace hy := hy.up hle2
    replace hxn := hxn.up hle2
    replace hyn := hyn.up hle2
    refine Wl.on0 ?_
    refine Gm.o1 6 ?_
    refine Wl.ll0 1 [3] ?_
    refine Wl.on0 ?_
    refine Gm.o1 7 ?_
    refine Wl.ll0 1 [4] ?_
    refine Wl.on0 ?_
    refine Gm.fin ?_
    rotate_left
    refine Wl.alloc 3 rfl T.zero63 (fun b7 => ?_)
    refine Wl.on0 ?_
    refine Gm.o2 3 4 ?_ ?_
    refine Wl.k 4 rfl (c67 _ _ _ (by assumption) (by assumption)) (fun v2 G2 Ho2 hle2 hp => ?_)
    obtain ⟨ri2, rfl, hri2, rfl⟩ := hp
    replace hri1 := hri1.up hle2
    replace hx := hx.up hle2
    replace hy := hy.up hle2
    replace hxn := hxn.up hle2
    replace hyn := hyn.up hle2
    refine Wl.on0 ?_
    refine Gm.o1 4 ?_
    refine Wl.alloc 4 rfl T.zero63 (fun b8 => ?_)
    refine Wl.on0 ?_
    refine Gm.o1 6 ?_
    refine Wl.ll0 1 [4] ?_
    refine Wl.on0 ?_
    refine Gm.o1 7 ?_
    refine Wl.ll0 1 [3] ?_
    refine Wl.on0 ?_
    refine Gm.fin ?_
    rotate_left
    refine Wl.alloc 4 rfl T.zero63 (fun b8 => ?_)
    refine Wl.on0 ?_
    refine Gm.o1 3 ?_
    refine Wl.k 5 rfl (c67 _ _ _ (by assumption) (by assumption)) (fun v2 G2 Ho2 hle2 hp => ?_)
    obtain ⟨ri2, rfl, hri2, rfl⟩ := hp
    replace hri1 := hri1.up hle2
    replace hx := hx.up hle2
    replace hy := hy.up hle2
    replace hxn := hxn.up hle2
    replace hyn := hyn.up hle2
    refine Wl.on0 ?_
    refine Gm.o1 6 ?_
    refine Wl.ll0 1 [4] ?_
    refine Wl.on0 ?_
    refine Gm.o1 7 ?_
    refine Wl.ll0 1 [3] ?_
    refine Wl.on0 ?_
    refine Gm.fin ?_
    rotate_left
    refine Wl.alloc 3 rfl T.zero63 (fun b7 => ?_)
    refine Wl.on0 ?_
    refine Gm.o2 1 5 ?_ ?_
    refine Wl.k 4 rfl (c67 _ _ _ (by assumption) (by assumption)) (fun v1 G1 Ho1 hle1 hp => ?_)
    obtain ⟨ri1, rfl, hri1, rfl⟩ := hp
    replace hx := hx.up hle1
    replace hy := hy.up hle1
    replace hxn := hxn.up hle1
    replace hyn := hyn.up hle1
    refine Wl.on0 ?_
    refine Gm.o2 3 5 ?_ ?_
    refine Wl.k 4 rfl (c67 _ _ _ (by assumption) (by assumption)) (fun v2 G2 Ho2 hle2 hp => ?_)
    obtain ⟨ri2, rfl, hri2, rfl⟩ := hp
    replace hri1 := hri1.up hle2
    replace hx := hx.up hle2
    replace hy := hy.up hle2
    replace hxn := hxn.up hle2
    replace hyn := hyn.up hle2
    refine Wl.on0 ?_
    refine Gm.o1 5 ?_
    refine Wl.alloc 4 rfl T.zero63 (fun b8 => ?_)
    refine Wl.on0 ?_
    refine Gm.o1 6 ?_
    refine Wl.ll0 1 [3] ?_
    refine Wl.on0 ?_
    refine Gm.o1 7 ?_
    refine Wl.ll0 1 [4] ?_
    refine Wl.on0 ?_
    refine Gm.fin ?_
    rotate_left
    refine Wl.alloc 4 rfl T.zero63 (fun b8 => ?_)
    refine Wl.on0 ?_
    refine Gm.o1 3 ?_
    refine Wl.k 5 rfl (c67 _ _ _ (by assumption) (by assumption)) (fun v2 G2 Ho2 hle2 hp => ?_)
    obtain ⟨ri2, rfl, hri2, rfl⟩ := hp
    replace hri1 := hri1.up hle2
    replace hx := hx.up hle2
    replace hy := hy.up hle2
    replace hxn := hxn.up hle2
    replace hyn := hyn.up hle2
    refine Wl.on0 ?_
    refine Gm.o1 6 ?_
    refine Wl.ll0 1 [3] ?_
    refine Wl.on0 ?_
    refine Gm.o1 7 ?_
    refine Wl.ll0 1 [4] ?_
    refine Wl.on0 ?_
    refine Gm.fin ?_
    rotate_left
    refine Wl.alloc 4 rfl T.zero63 (fun b8 => ?_)
    refine Wl.on0 ?_
    refine Gm.o1 1 ?_
    refine Wl.k 5 rfl (c67 _ _ _ (by assumption) (by assumption)) (fun v1 G1 Ho1 hle1 hp => ?_)
    obtain ⟨ri1, rfl, hri1, rfl⟩ := hp
    replace hx := hx.up hle1
    replace hy := hy.up hle1
    replace hxn := hxn.up hle1
    replace hyn := hyn.up hle1
    refine Wl.on0 ?_
    refine Gm.o1 3 ?_
    refine Wl.k 5 rfl (c67 _ _ _ (by assumption) (by assumption)) (fun v2 G2 Ho2 hle2 hp => ?_)
    obtain ⟨ri2, rfl, hri2, rfl⟩ := hp
    replace hri1 := hri1.up hle2
    replace hx := hx.up hle2
    replace hy := hy.up hle2
    replace hxn := hxn.up hle2
    replace hyn := hyn.up hle2
    refine Wl.on0 ?_
    refine Gm.o1 6 ?_
    refine Wl.ll0 1 [3] ?_
    refine Wl.on0 ?_
    refine Gm.o1 7 ?_
    refine Wl.ll0 1 [4] ?_
    refine Wl.on0 ?_
    refine Gm.fin ?_
    rotate_left
    refine Wl.alloc 3 rfl T.zero63 (fun b7 => ?_)
    refine Wl.on0 ?_
    refine Gm.o2 1 4 ?_ ?_
    refine Wl.k 4 rfl (c67 _ _ _ (by assumption) (by assumption)) (fun v1 G1 Ho1 hle1 hp => ?_)
    obtain ⟨ri1, rfl, hri1, rfl⟩ := hp
    replace hx := hx.up hle1
    replace hy := hy.up hle1
    replace hxn := hxn.up hle1
    replace hyn := hyn.up hle1
    refine Wl.on0 ?_
    refine Gm.o2 3 4 ?_ ?_
    refine Wl.k 4 rfl (c67 _ _ _ (by assumption) (by assumption)) (fun v2 G2 Ho2 hle2 hp => ?_)
    obtain ⟨ri2, rfl, hri2, rfl⟩ := hp
    replace hri1 := hri1.up hle2
    replace hx := hx.up hle2
    replace hy := hy.up hle2
    replace hxn := hxn.up hle2
    replace hyn := hyn.up hle2
    refine Wl.on0 ?_
    refine Gm.o1 4 ?_
    refine Wl.alloc 4 rfl T.zero63 (fun b8 => ?_)
    refine Wl.on0 ?_
    refine Gm.o1 6 ?_
    refine Wl.ll0 1 [4] ?_
    refine Wl.on0 ?_
    refine Gm.o1 7 ?_
    refine Wl.ll0 1 [3] ?_
    refine Wl.on0 ?_
    refine Gm.fin ?_
    rotate_left
    refine Wl.alloc 4 rfl T.zero63 (fun b8 => ?_)
    refine Wl.on0 ?_
    refine Gm.o1 3 ?_
    refine Wl.k 5 rfl (c67 _ _ _ (by assumption) (by assumption)) (fun v2 G2 Ho2 hle2 hp => ?_)
    obtain ⟨ri2, rfl, hri2, rfl⟩ := hp
    replace hri1 := hri1.up hle2
    replace hx := hx.up hle2
    replace hy := hy.up hle2
    replace hxn := hxn.up hle2
    replace hyn := hyn.up hle2
    refine Wl.on0 ?_
    refine Gm.o1 6 ?_
    refine Wl.ll0 1 [4] ?_
    refine Wl.on0 ?_
    refine Gm.o1 7 ?_
    refine Wl.ll0 1 [3] ?_
    refine Wl.on0 ?_
    refine Gm.fin ?_
    rotate_left
    refine Wl.alloc 4 rfl T.zero63 (fun b8 => ?_)
    refine Wl.on0 ?_
    refine Gm.o1 1 ?_
    refine Wl.k 5 rfl (c67 _ _ _ (by assumption) (by assumption)) (fun v1 G1 Ho1 hle1 hp => ?_)
    obtain ⟨ri1, rfl, hri1, rfl⟩ := hp
    replace hx := hx.up hle1
    replace hy := hy.up hle1
    replace hxn := hxn.up hle1
    replace hyn := hyn.up hle1
    refine Wl.on0 ?_
    refine Gm.o1 3 ?_
    refine Wl.k 5 rfl (c67 _ _ _ (by assumption) (by assumption)) (fun v2 G2 Ho2 hle2 hp => ?_)
    obtain ⟨ri2, rfl, hri2, rfl⟩ := hp
    replace hri1 := hri1.up hle2
    replace hx := hx.up hle2
    replace hy := hy.up hle2
    replace hxn := hxn.up hle2
    replace hyn := hyn.up hle2
    refine Wl.on0 ?_
    refine Gm.o1 6 ?_
    refine Wl.ll0 1 [4] ?_
    refine Wl.on0 ?_
    refine Gm.o1 7 ?_
    refine Wl.ll0 1 [3] ?_
    refine Wl.on0 ?_
    refine Gm.fin ?_
    rotate_left
    all_goals first | (refine Ar.retag 3 60 rfl rfl (Ar.retag 4 61 rfl rfl (Ar.meet (b7, b8, G2, ri1, ri2) ⟨Imm.le_trans hle1 hle2, hri1, hri2⟩ rfl ?_ ?_)) <;> (repeat (first | exact trivial | refine ⟨rfl, ?_⟩)); done) | (refine Ar.retag 4 60 rfl rfl (Ar.retag 3 61 rfl rfl (Ar.meet (b8, b7, G2, ri1, ri2) ⟨Imm.le_trans hle1 hle2, hri1, hri2⟩ rfl ?_ ?_)) <;> (repeat (first | exact trivial | refine ⟨rfl, ?_⟩)); done) | (refine Ar.retag 3 60 rfl rfl (Ar.retag 4 61 rfl rfl (Ar.meet (b8, b7, G2, ri1, ri2) ⟨Imm.le_trans hle1 hle2, hri1, hri2⟩ rfl ?_ ?_)) <;> (repeat (first | exact trivial | refine ⟨rfl, ?_⟩)); done) | (refine Ar.retag 4 60 rfl rfl (Ar.retag 3 61 rfl rfl (Ar.meet (b7, b8, G2, ri1, ri2) ⟨Imm.le_trans hle1 hle2, hri1, hri2⟩ rfl ?_ ?_)) <;> (repeat (first | exact trivial | refine ⟨rfl, ?_⟩)); done)
  obtain ⟨hgx, hra, hrb⟩ := hk
  replace hxn := hxn.up hgx
  replace hyn := hyn.up hgx
  show Wc _ _ _ _ ⟨_, _, _, Gx⟩ _
  refine Wc.seq ?_
  refine Wc.draw [0, 1, 2, 61, 60] [(2, 13)] T.mixed rfl ?_
  refine Gm.c 0 [] [] ?_
  refine Gm.u 1 [0] rfl (Qy.loads 0 T.agg63 rfl rfl rfl rfl) ?_
  refine Gm.c 2 [61] [61] ?_
  refine Gm.c 4 [] [] ?_
  refine Gm.u 5 [1] rfl (Qy.loads 1 T.agg63 rfl rfl rfl rfl) ?_
  refine Gm.c 6 [60] [60] ?_
  refine Gm.c 9 [60] [60] ?_
  refine Gm.c 10 [61] [61] ?_
  refine Gm.o1 3 ?_
  refine Wl.k 62 rfl (v103 _ _ _ _ _ (by assumption) (by assumption) (by assumption) (by assumption)) (fun v1 G1 Ho1 hle1 hp => ?_)
  obtain ⟨ri1, rfl, hri1, rfl⟩ := hp
  replace hra := hra.up hle1
  replace hrb := hrb.up hle1
  replace hxn := hxn.up hle1
  replace hyn := hyn.up hle1
  refine Wl.on0 ?_
  refine Gm.o1 7 ?_
  refine Wl.k 62 rfl (v103 _ _ _ _ _ (by assumption) (by assumption) (by assumption) (by assumption)) (fun v2 G2 Ho2 hle2 hp => ?_)
  obtain ⟨ri2, rfl, hri2, rfl⟩ := hp
  replace hri1 := hri1.up hle2
  replace hra := hra.up hle2
  replace hrb := hrb.up hle2
  replace hxn := hxn.up hle2
  replace hyn := hyn.up hle2
  refine Wl.on0 ?_
  refine Gm.o1 8 ?_
  refine Wl.k 62 rfl (v101 _ _ _ _ _ (by assumption) (by assumption) (by assumption) (by assumption)) (fun v3 G3 Ho3 hle3 hp => ?_)
  obtain ⟨ri3, rfl, hri3, rfl⟩ := hp
  replace hri2 := hri2.up hle3
  replace hri1 := hri1.up hle3
  replace hra := hra.up hle3
  replace hrb := hrb.up hle3
  replace hxn := hxn.up hle3
  replace hyn := hyn.up hle3
  refine Wl.on0 ?_
  refine Gm.o1 11 ?_
  refine Wl.k 62 rfl (v103 _ _ _ _ _ (by assumption) (by assumption) (by assumption) (by assumption)) (fun v4 G4 Ho4 hle4 hp => ?_)
  obtain ⟨ri4, rfl, hri4, rfl⟩ := hp
  replace hri3 := hri3.up hle4
  replace hri2 := hri2.up hle4
  replace hri1 := hri1.up hle4
  replace hra := hra.up hle4
  replace hrb := hrb.up hle4
  replace hxn := hxn.up hle4
  replace hyn := hyn.up hle4
  refine Wl.on0 ?_
  refine Gm.o1 12 ?_
  refine Wl.k 62 rfl (c105 _ _ _ _ _ (by assumption) (by assumption) (by assumption) (by assumption) (by assumption)) (fun v5 G5 Ho5 hle5 hp => ?_)
  obtain ⟨rr5, rfl, hrr5, rfl⟩ := hp
  replace hri4 := hri4.up hle5
  replace hri3 := hri3.up hle5
  replace hri2 := hri2.up hle5
  replace hri1 := hri1.up hle5
  replace hra := hra.up hle5
  replace hrb := hrb.up hle5
  replace hxn := hxn.up hle5
  replace hyn := hyn.up hle5
  refine Wl.on0 ?_
  refine Gm.o1 13 ?_
  refine Wl.ll0 1 [2] ?_
  refine Wl.on0 ?_
  refine Gm.fin ?_
  refine Ar.ga 2 [] ?_
  refine Ar.out1 (.inr rfl) (Ho := Hp.only _ []) rfl (.agg 2 rfl rfl T.agg92) (Hp.sub_only _ _) ?_
  all_goals exact ⟨_, rfl, by assumption, rfl⟩
theorem c86 (G : Imm) (x y : QV) (p q : QZ) (hx : BigQ G x p) (hy : BigQ G y q) (h1 : OkQ 2100 p) (h2 : OkQ 2100 q) :
    Does Tryz.prog 86 [.agg (Cells.enc x).toArray, .agg (Cells.enc y).toArray] G [] (fun v G' Ho => ∃ r : QV, v = .agg (Cells.enc r).toArray ∧ BigQ G' r (subQ p q) ∧ Ho = []) := by
  have h3 : OkQ 2100 (negQ q) := ⟨h2.1.neg, h2.2⟩
  have e3 := h2.1.mono (show 2100 ≤ 100000 by decide)
  refine Does.enter Tryz.func86 rfl Tryz.ntmps86 rfl (fun w => ?_)
  refine Wc.gl 2 [] ?_
  refine Wl.box 0 rfl rfl rfl (fun b1 => ?_)
  refine Wl.box 1 rfl rfl rfl (fun b2 => ?_)
  refine Wl.alloc 2 rfl T.zero92 (fun b3 => ?_)
  refine Wl.gc 3 [] ?_
  refine Wc.draw [0, 1, 2] [(2, 4)] T.mixed rfl ?_
  refine Gm.c 0 [0] [0] ?_
  refine Gm.c 1 [1] [1] ?_
  refine Gm.o1 2 ?_
  refine Wl.k 3 rfl (c82 _ _ _ (by assumption) (by assumption)) (fun v1 G1 Ho1 hle1 hp => ?_)
  obtain ⟨rr1, rfl, hrr1, rfl, rfl⟩ := hp
  replace hx := hx.up hle1
  replace hy := hy.up hle1
  refine Wl.on0 ?_
  refine Gm.o1 3 ?_
  refine Wl.k 3 rfl (c84 _ _ _ _ _ (by assumption) (by assumption) (by assumption) (by assumption)) (fun v2 G2 Ho2 hle2 hp => ?_)
  obtain ⟨rr2, rfl, hrr2, rfl⟩ := hp
  replace hrr1 := hrr1.up hle2
  replace hx := hx.up hle2
  replace hy := hy.up hle2
  refine Wl.on0 ?_
  refine Gm.o1 4 ?_
  refine Wl.ll0 1 [2] ?_
  refine Wl.on0 ?_
  refine Gm.fin ?_
  refine Ar.ga 2 [] ?_
  refine Ar.out1 (.inr rfl) (Ho := Hp.only _ []) rfl (.agg 2 rfl rfl T.agg92) (Hp.sub_only _ _) ?_
  all_goals exact ⟨_, rfl, by assumption, rfl⟩
theorem c88 (G : Imm) (x y : QV) (p q : QZ) (hx : BigQ G x p) (hy : BigQ G y q) (h1 : OkQ 2100 p) (h2 : OkQ 2100 q) :
    Does Tryz.prog 88 [.agg (Cells.enc x).toArray, .agg (Cells.enc y).toArray] G [] (fun v G' Ho => ∃ r : QV, v = .agg (Cells.enc r).toArray ∧ BigQ G' r (mulQ p q) ∧ Ho = []) := by
  have hxn : Big G x.num p.1 := hx.1
  have hyn : Big G y.num q.1 := hy.1
  have a2 := h1.2.1.succ (by decide)
  have b2 := h2.2.1.succ (by decide)
  have c1 := (h1.1.mul h2.1).mono (show 2100 + 2100 ≤ 100000 by decide)
  have d1 := (a2.mul b2).mono (show 2101 + 2101 ≤ 100000 by decide)
  have e1 := h1.1.mono (show 2100 ≤ 100000 by decide)
  have e2 := a2.mono (show 2100 + 1 ≤ 100000 by decide)
  have e3 := h2.1.mono (show 2100 ≤ 100000 by decide)
  have e4 := b2.mono (show 2100 + 1 ≤ 100000 by decide)
  have e7 := h1.2.1.mono (show 2100 ≤ 100000 by decide)
  have e8 := h2.2.1.mono (show 2100 ≤ 100000 by decide)
  have h0 : 0 < (p.2 + 1) * (q.2 + 1) := Int.mul_pos (by have := h1.2.2; omega) (by have := h2.2.2; omega)
  refine Does.enter Tryz.func88 rfl Tryz.ntmps88 rfl (fun w => ?_)
  refine Wc.gl 2 [] ?_
  refine Wl.box 0 rfl rfl rfl (fun b1 => ?_)
  refine Wl.box 1 rfl rfl rfl (fun b3 => ?_)
  refine Wl.alloc 2 rfl T.zero92 (fun b4 => ?_)
  refine Wl.gc 3 [] ?_
  refine Wc.draw [0, 1, 2] [(2, 11)] T.mixed rfl ?_
  refine Gm.c 0 [] [] ?_
  refine Gm.u 1 [0] rfl (Qy.loads 0 T.agg63 rfl rfl rfl rfl) ?_
  refine Gm.c 2 [] [] ?_
  refine Gm.u 3 [1] rfl (Qy.loads 1 T.agg63 rfl rfl rfl rfl) ?_
  refine Gm.c 5 [0] [0] ?_
  refine Gm.c 7 [1] [1] ?_
  refine Gm.o1 4 ?_
  refine Wl.k 3 rfl (v103 _ _ _ _ _ (by assumption) (by assumption) (by assumption) (by assumption)) (fun v1 G1 Ho1 hle1 hp => ?_)
  obtain ⟨ri1, rfl, hri1, rfl⟩ := hp
  replace hx := hx.up hle1
  replace hy := hy.up hle1
  replace hxn := hxn.up hle1
  replace hyn := hyn.up hle1
  refine Wl.on0 ?_
  refine Gm.o1 6 ?_
  refine Wl.k 3 rfl (c67 _ _ _ (by assumption) (by assumption)) (fun v2 G2 Ho2 hle2 hp => ?_)
  obtain ⟨ri2, rfl, hri2, rfl⟩ := hp
  replace hri1 := hri1.up hle2
  replace hx := hx.up hle2
  replace hy := hy.up hle2
  replace hxn := hxn.up hle2
  replace hyn := hyn.up hle2
  refine Wl.on0 ?_
  refine Gm.o1 8 ?_
  refine Wl.k 3 rfl (c67 _ _ _ (by assumption) (by assumption)) (fun v3 G3 Ho3 hle3 hp => ?_)
  obtain ⟨ri3, rfl, hri3, rfl⟩ := hp
  replace hri2 := hri2.up hle3
  replace hri1 := hri1.up hle3
  replace hx := hx.up hle3
  replace hy := hy.up hle3
  replace hxn := hxn.up hle3
  replace hyn := hyn.up hle3
  refine Wl.on0 ?_
  refine Gm.o1 9 ?_
  refine Wl.k 3 rfl (v103 _ _ _ _ _ (by assumption) (by assumption) (by assumption) (by assumption)) (fun v4 G4 Ho4 hle4 hp => ?_)
  obtain ⟨ri4, rfl, hri4, rfl⟩ := hp
  replace hri3 := hri3.up hle4
  replace hri2 := hri2.up hle4
  replace hri1 := hri1.up hle4
  replace hx := hx.up hle4
  replace hy := hy.up hle4
  replace hxn := hxn.up hle4
  replace hyn := hyn.up hle4
  refine Wl.on0 ?_
  refine Gm.o1 10 ?_
  refine Wl.k 3 rfl (c105 _ _ _ _ _ (by assumption) (by assumption) (by assumption) (by assumption) (by assumption)) (fun v5 G5 Ho5 hle5 hp => ?_)
  obtain ⟨rr5, rfl, hrr5, rfl⟩ := hp
  replace hri4 := hri4.up hle5
  replace hri3 := hri3.up hle5
  replace hri2 := hri2.up hle5
  replace hri1 := hri1.up hle5
  replace hx := hx.up hle5
  replace hy := hy.up hle5
  replace hxn := hxn.up hle5
  replace hyn := hyn.up hle5
  refine Wl.on0 ?_
  refine Gm.o1 11 ?_
  refine Wl.ll0 1 [2] ?_
  refine Wl.on0 ?_
  refine Gm.fin ?_
  refine Ar.ga 2 [] ?_
  refine Ar.out1 (.inr rfl) (Ho := Hp.only _ []) rfl (.agg 2 rfl rfl T.agg92) (Hp.sub_only _ _) ?_
  all_goals exact ⟨_, rfl, by assumption, rfl⟩
theorem c106 (G : Imm) (x y : QV) (p q : QZ) (hx : BigQ G x p) (hy : BigQ G y q) (h1 : OkQ 2100 p) (h2 : OkQ 2100 q) (h3 : q.1 ≠ 0) :
    Does Tryz.prog 106 [.agg (Cells.enc x).toArray, .agg (Cells.enc y).toArray] G [] (fun v G' Ho => ∃ r : QV, v = .tuple #[.agg (Cells.enc r).toArray, .int .i64 0] ∧ BigQ G' r (overQ p q) ∧ Ho = []) := by
  have hxn : Big G x.num p.1 := hx.1
  have hyn : Big G y.num q.1 := hy.1
  have a2 := h1.2.1.succ (by decide)
  have b2 := h2.2.1.succ (by decide)
  have c1 := ((h1.1.mono (show 2100 ≤ 2101 by decide)).mul b2).mono (show 2101 + 2101 ≤ 100000 by decide)
  have d1 := (a2.mul (h2.1.mono (show 2100 ≤ 2101 by decide))).mono (show 2101 + 2101 ≤ 100000 by decide)
  have e1 := h1.1.mono (show 2100 ≤ 100000 by decide)
  have e2 := a2.mono (show 2100 + 1 ≤ 100000 by decide)
  have e3 := h2.1.mono (show 2100 ≤ 100000 by decide)
  have e4 := b2.mono (show 2100 + 1 ≤ 100000 by decide)
  have e7 := h1.2.1.mono (show 2100 ≤ 100000 by decide)
  have e8 := h2.2.1.mono (show 2100 ≤ 100000 by decide)
  have h0 : (p.2 + 1) * q.1 ≠ 0 := fun e => by
    rcases Int.mul_eq_zero.1 e with e | e
    · have := h1.2.2; omega
    · exact h3 e
  refine Does.enter Tryz.func106 rfl Tryz.ntmps106 rfl (fun w => ?_)
  refine Wc.gl 2 [] ?_
  refine Wl.box 0 rfl rfl rfl (fun b1 => ?_)
  refine Wl.box 1 rfl rfl rfl (fun b3 => ?_)
  refine Wl.alloc 2 rfl T.zero92 (fun b4 => ?_)
  refine Wl.gc 4 [] ?_
  refine Wc.draw [0, 1, 2] [(2, 13)] T.mixed rfl ?_
  refine Gm.c 0 [] [] ?_
  refine Gm.u 1 [0] rfl (Qy.loads 0 T.agg63 rfl rfl rfl rfl) ?_
  refine Gm.c 2 [1] [1] ?_
  refine Gm.c 5 [0] [0] ?_
  refine Gm.c 7 [] [] ?_
  refine Gm.u 8 [1] rfl (Qy.loads 1 T.agg63 rfl rfl rfl rfl) ?_
  refine Gm.o1 3 ?_
  refine Wl.k 3 rfl (c67 _ _ _ (by assumption) (by assumption)) (fun v1 G1 Ho1 hle1 hp => ?_)
  obtain ⟨ri1, rfl, hri1, rfl⟩ := hp
  replace hx := hx.up hle1
  replace hy := hy.up hle1
  replace hxn := hxn.up hle1
  replace hyn := hyn.up hle1
  refine Wl.on0 ?_
  refine Gm.o1 4 ?_
  refine Wl.k 3 rfl (v103 _ _ _ _ _ (by assumption) (by assumption) (by assumption) (by assumption)) (fun v2 G2 Ho2 hle2 hp => ?_)
  obtain ⟨ri2, rfl, hri2, rfl⟩ := hp
  replace hri1 := hri1.up hle2
  replace hx := hx.up hle2
  replace hy := hy.up hle2
  replace hxn := hxn.up hle2
  replace hyn := hyn.up hle2
  refine Wl.on0 ?_
  refine Gm.o1 6 ?_
  refine Wl.k 3 rfl (c67 _ _ _ (by assumption) (by assumption)) (fun v3 G3 Ho3 hle3 hp => ?_)
  obtain ⟨ri3, rfl, hri3, rfl⟩ := hp
  replace hri2 := hri2.up hle3
  replace hri1 := hri1.up hle3
  replace hx := hx.up hle3
  replace hy := hy.up hle3
  replace hxn := hxn.up hle3
  replace hyn := hyn.up hle3
  refine Wl.on0 ?_
  refine Gm.o1 9 ?_
  refine Wl.k 3 rfl (v103 _ _ _ _ _ (by assumption) (by assumption) (by assumption) (by assumption)) (fun v4 G4 Ho4 hle4 hp => ?_)
  obtain ⟨ri4, rfl, hri4, rfl⟩ := hp
  replace hri3 := hri3.up hle4
  replace hri2 := hri2.up hle4
  replace hri1 := hri1.up hle4
  replace hx := hx.up hle4
  replace hy := hy.up hle4
  replace hxn := hxn.up hle4
  replace hyn := hyn.up hle4
  refine Wl.on0 ?_
  refine Gm.o1 10 ?_
  refine Wl.k 3 rfl (c114 _ _ _ _ _ (by assumption) (by assumption) (by assumption) (by assumption) (by assumption)) (fun v5 G5 Ho5 hle5 hp => ?_)
  obtain ⟨rr5, rfl, hrr5, rfl⟩ := hp
  replace hri4 := hri4.up hle5
  replace hri3 := hri3.up hle5
  replace hri2 := hri2.up hle5
  replace hri1 := hri1.up hle5
  replace hx := hx.up hle5
  replace hy := hy.up hle5
  replace hxn := hxn.up hle5
  replace hyn := hyn.up hle5
  refine Wl.on0 ?_
  refine Gm.c 11 [] [] ?_
  refine Gm.c 12 [] [] ?_
  refine Gm.o1 13 ?_
  refine Wl.ll0 1 [2] ?_
  refine Wl.on0 ?_
  refine Gm.c 14 [] [] ?_
  refine Gm.fin ?_
  refine Ar.ga 2 [] ?_
  refine Ar.out2 (.inr rfl) (Ho := Hp.only _ []) rfl (.agg 2 rfl rfl T.agg92) (.tmp rfl) (Hp.sub_only _ _) ?_
  all_goals exact ⟨_, rfl, by assumption, rfl⟩
theorem c43 (G : Imm) (x y : QV) (p q : QZ) (hx : BigQ G x p) (hy : BigQ G y q) (h1 : OkQ 2100 p) (h2 : OkQ 2100 q) :
    Does Tryz.prog 43 [.agg (Cells.enc x).toArray, .agg (Cells.enc y).toArray] G [] (fun v G' Ho => v = .int .i64 (cmpZ (p.1 * (q.2 + 1)) (q.1 * (p.2 + 1))) ∧ Ho = []) := by
  have hxn : Big G x.num p.1 := hx.1
  have hyn : Big G y.num q.1 := hy.1
  have a2 := h1.2.1.succ (by decide)
  have b2 := h2.2.1.succ (by decide)
  have c1 := ((h1.1.mono (show 2100 ≤ 2101 by decide)).mul b2).mono (show 2101 + 2101 ≤ 100000 by decide)
  have d1 := ((h2.1.mono (show 2100 ≤ 2101 by decide)).mul a2).mono (show 2101 + 2101 ≤ 100000 by decide)
  have e1 := h1.1.mono (show 2100 ≤ 100000 by decide)
  have e2 := a2.mono (show 2100 + 1 ≤ 100000 by decide)
  have e3 := h2.1.mono (show 2100 ≤ 100000 by decide)
  have e4 := b2.mono (show 2100 + 1 ≤ 100000 by decide)
  have e7 := h1.2.1.mono (show 2100 ≤ 100000 by decide)
  have e8 := h2.2.1.mono (show 2100 ≤ 100000 by decide)
  refine Does.enter Tryz.func43 rfl Tryz.ntmps43 rfl (fun w => ?_)
  refine Wc.gl 2 [] ?_
  refine Wl.box 0 rfl rfl rfl (fun b1 => ?_)
  refine Wl.box 1 rfl rfl rfl (fun b3 => ?_)
  refine Wl.gc 4 [] ?_
  refine Wc.draw [0, 1] [] T.mixed rfl ?_
  refine Gm.c 0 [] [] ?_
  refine Gm.u 1 [0] rfl (Qy.loads 0 T.agg63 rfl rfl rfl rfl) ?_
  refine Gm.c 2 [1] [1] ?_
  refine Gm.c 5 [] [] ?_
  refine Gm.u 6 [1] rfl (Qy.loads 1 T.agg63 rfl rfl rfl rfl) ?_
  refine Gm.c 7 [0] [0] ?_
  refine Gm.o1 3 ?_
  refine Wl.k 2 rfl (c67 _ _ _ (by assumption) (by assumption)) (fun v1 G1 Ho1 hle1 hp => ?_)
  obtain ⟨ri1, rfl, hri1, rfl⟩ := hp
  replace hx := hx.up hle1
  replace hy := hy.up hle1
  replace hxn := hxn.up hle1
  replace hyn := hyn.up hle1
  refine Wl.on0 ?_
  refine Gm.o1 4 ?_
  refine Wl.k 2 rfl (v103 _ _ _ _ _ (by assumption) (by assumption) (by assumption) (by assumption)) (fun v2 G2 Ho2 hle2 hp => ?_)
  obtain ⟨ri2, rfl, hri2, rfl⟩ := hp
  replace hri1 := hri1.up hle2
  replace hx := hx.up hle2
  replace hy := hy.up hle2
  replace hxn := hxn.up hle2
  replace hyn := hyn.up hle2
  refine Wl.on0 ?_
  refine Gm.o1 8 ?_
  refine Wl.k 2 rfl (c67 _ _ _ (by assumption) (by assumption)) (fun v3 G3 Ho3 hle3 hp => ?_)
  obtain ⟨ri3, rfl, hri3, rfl⟩ := hp
  replace hri2 := hri2.up hle3
  replace hri1 := hri1.up hle3
  replace hx := hx.up hle3
  replace hy := hy.up hle3
  replace hxn := hxn.up hle3
  replace hyn := hyn.up hle3
  refine Wl.on0 ?_
  refine Gm.o1 9 ?_
  refine Wl.k 2 rfl (v103 _ _ _ _ _ (by assumption) (by assumption) (by assumption) (by assumption)) (fun v4 G4 Ho4 hle4 hp => ?_)
  obtain ⟨ri4, rfl, hri4, rfl⟩ := hp
  replace hri3 := hri3.up hle4
  replace hri2 := hri2.up hle4
  replace hri1 := hri1.up hle4
  replace hx := hx.up hle4
  replace hy := hy.up hle4
  replace hxn := hxn.up hle4
  replace hyn := hyn.up hle4
  refine Wl.on0 ?_
  refine Gm.o1 10 ?_
  refine Wl.k0 rfl (v60 _ _ _ _ _ (by assumption) (by assumption) (by assumption) (by assumption)) ?_
  refine Wl.on0 ?_
  refine Gm.c 11 [] [] ?_
  refine Gm.fin ?_
  refine Ar.ga 2 [] ?_
  refine Ar.e1 ?_
  all_goals exact ⟨rfl, rfl⟩
theorem c90 (G : Imm) (x y : QV) (p q : QZ) (hx : BigQ G x p) (hy : BigQ G y q) (h1 : OkQ 2100 p) (h2 : OkQ 2100 q) (h3 : q.1 ≠ 0) :
    Does Tryz.prog 90 [.agg (Cells.enc x).toArray, .agg (Cells.enc y).toArray] G [] (fun v G' Ho => ∃ r : QV, v = .agg (Cells.enc r).toArray ∧ BigQ G' r (overQ p q) ∧ Ho = []) := by
  refine Does.enter Tryz.func90 rfl Tryz.ntmps90 rfl (fun w => ?_)
  refine Wc.gl 2 [] ?_
  refine Wl.box 0 rfl rfl rfl (fun b1 => ?_)
  refine Wl.box 1 rfl rfl rfl (fun b2 => ?_)
  refine Wl.alloc 2 rfl T.zero92 (fun b3 => ?_)
  refine Wl.gl 6 [0, 1] ?_
  refine Wl.k 3 rfl (c106 _ _ _ _ _ (by assumption) (by assumption) (by assumption) (by assumption) (by assumption)) (fun v1 G1 Ho1 hle1 hp => ?_)
  obtain ⟨rr1, rfl, hrr1, rfl⟩ := hp
  replace hx := hx.up hle1
  replace hy := hy.up hle1
  refine Wl.ll0 3 [] ?_
  refine Wl.alloc 3 rfl T.zero92 (fun b4 => ?_)
  refine Wl.ga 11 [3, 3, 2] ?_
  refine Ar.out1 (.inr rfl) (Ho := Hp.only _ []) rfl (.agg 2 rfl rfl T.agg92) (Hp.sub_only _ _) ?_
  all_goals exact ⟨_, rfl, by assumption, rfl⟩
end Go.Proofs.YtbppmiimeccclaaGreatDoor
set_option maxRecDepth 100000
set_option linter.unusedVariables false
namespace Go.Proofs.YtbppmiimeccclaaGreatDoor
open Go Go.Sl
theorem pb_pow (n : Nat) : pb n = ((2 ^ (32 * n) : Nat) : Int) := by
  unfold pb
  rw [show (4294967296 : Nat) = 2 ^ 32 from rfl, ← Nat.pow_mul]
theorem bits_abs (z : Int) : bitsZ (z.natAbs : Int) = bitsZ z := by
  unfold bitsZ
  rw [Int.natAbs_natCast]
  by_cases h : z = 0
  · rw [if_pos h, if_pos (by omega)]
  · rw [if_neg h, if_neg (by omega)]
theorem bits_top {m : List U32} {n : Nat} (hd : Lims m) (hn : m.length = n + 1) (ht : lg m n ≠ 0) : bitsZ (valB m) = 32 * n + Lib.bitLen (lg m n).toNat := by
  have h1 := valB_take_succ (l := m) (k := n) (by omega)
  rw [show n + 1 = m.length from hn.symm, List.take_length] at h1
  have h1' : valB m = valB (m.take n) + pb n * lg m n := h1
  have h2 := valB_nonneg (hd.take n)
  have h3 := valB_lt (hd.take n)
  rw [List.length_take, Nat.min_eq_left (by omega)] at h3
  have ht2 := lg_lt hd (show n < m.length by omega)
  obtain ⟨t, ht3⟩ : ∃ t : Nat, lg m n = (t : Int) := ⟨(lg m n).toNat, by omega⟩
  rw [ht3] at h1' ht2 ht ⊢
  rw [Int.toNat_natCast]
  have hb := bitAux_bounds 64 t (by omega) (by omega)
  unfold Lib.bitLen
  generalize Lib.bitLenAux 64 t = L at *
  obtain ⟨b1, b2, b3, b4⟩ := hb
  have hp := pb_pow n
  obtain ⟨V, hV⟩ : ∃ V : Nat, valB m = (V : Int) := ⟨(valB m).toNat, by have := valB_nonneg hd; omega⟩
  obtain ⟨R, hR⟩ : ∃ R : Nat, valB (m.take n) = (R : Int) := ⟨(valB (m.take n)).toNat, by omega⟩
  rw [hV, hR, hp] at h1'
  rw [hR, hp] at h3
  have e1 : V = R + 2 ^ (32 * n) * t := by
    have : ((R + 2 ^ (32 * n) * t : Nat) : Int) = (V : Int) := by rw [h1', Int.natCast_add, Int.natCast_mul]
    omega
  have e2 : R < 2 ^ (32 * n) := by omega
  have l1 : 2 ^ (32 * n + (L - 1)) ≤ V := by
    rw [Nat.pow_add, e1]
    exact Nat.le_trans (Nat.mul_le_mul_left _ b3) (Nat.le_add_left _ _)
  have l2 : V < 2 ^ (32 * n + (L - 1) + 1) := by
    rw [show 32 * n + (L - 1) + 1 = 32 * n + L by omega, Nat.pow_add, e1]
    calc R + 2 ^ (32 * n) * t < 2 ^ (32 * n) + 2 ^ (32 * n) * t := by omega
      _ = 2 ^ (32 * n) * (t + 1) := by rw [Nat.mul_add, Nat.mul_one, Nat.add_comm]
      _ ≤ 2 ^ (32 * n) * 2 ^ L := Nat.mul_le_mul_left _ (by omega)
  have hV0 : V ≠ 0 := by
    have := Nat.pow_pos (n := 32 * n + (L - 1)) (show 0 < 2 by decide)
    omega
  have hl : V.log2 = 32 * n + (L - 1) := (Nat.log2_eq_iff hV0).2 ⟨l1, l2⟩
  unfold bitsZ
  rw [hV, if_neg (by omega), Int.natAbs_natCast, hl]
  omega
theorem bits_zero : bitsZ 0 = 0 := rfl
set_option maxHeartbeats 4000000
attribute [local irreducible] valB pb cmpZ lstWp lowQ Lt bitsZ Lib.bitLen
theorem c115 (G : Imm) (x : Int) (h0 : 0 ≤ x) (h1 : x ≤ 4294967295) : Does Tryz.prog 115 [.int .u32 x] G [] (fun v G' Ho => v = .int .i64 (Lib.bitLen x.toNat : Int) ∧ G' = G ∧ Ho = []) :=
  Does.pureCalls fun w => Tryz.bits_Len32 x w h0 h1
theorem c107 (G : Imm) (a : Option Addr) (c : Nat) (l : List U32) (ha : Arr G a l) (hd : Lims l) (h1 : l.length ≤ 1073741824) (hc : l.length ≤ c) :
    Does Tryz.prog 107 [.slice a l.length c] G [] (fun v G' Ho => v = .int .i64 (bitsZ (valB l) : Int) ∧ G' = G ∧ Ho = []) := by
  refine Does.enter Tryz.func107 rfl Tryz.ntmps107 rfl (fun w => ?_)
  refine Wc.gl 8 [] ?_
  refine Wl.k 0 rfl (c78 _ _ _ _ (by assumption) (by omega) (by assumption)) (fun v1 G1 Ho1 hle1 hp => ?_)
  obtain ⟨na1, nm1, rfl, hna1, hne1, hnt1, hnl1, rfl, rfl⟩ := hp
  replace ha := ha.up hle1
  refine Wl.gc 11 [] ?_
  refine Wc.cond rfl (fun hc1 => ?_) (fun hc1 => ?_)
  refine Wc.ga 7 [] ?_
  refine Ar.e1 ?_
  rotate_left
  refine Wc.gl 7 [] ?_
  refine Wl.q rfl (Qy.mul rfl rfl (by omega)) ?_
  refine Wl.ll0 4 [] ?_
  refine Wl.q rfl (Qy.at (α := U32) T.sl61 rfl rfl (by assumption) (by omega)) ?_
  refine Wl.q rfl (Qy.loadG T.one97 rfl (Arr.cell (by assumption) (by omega) 0 rfl rfl)) ?_
  rotate_left
  · have e : valB l = 0 := by
      rw [← trim_val hne1 hnt1, show nm1 = [] from List.eq_nil_of_length_eq_zero (by omega), valB_nil]
    exact ⟨by rw [e, bits_zero]; rfl, rfl, rfl⟩
  · have hdm := trim_lims hne1 hd
    have hlim := hdm.at (m := (nm1.length : Int) - 1) (by omega)
    have hb32 := Lib.bitLen_le (nm1[((nm1.length : Int) - 1).toNat]?.getD default).v.toNat 32 (by omega) (by omega)
    obtain ⟨n, hn⟩ : ∃ n, nm1.length = n + 1 := ⟨nm1.length - 1, by omega⟩
    have hv := trim_val hne1 hnt1
    have htop : lg nm1 n ≠ 0 := by
      rcases hnt1.2.2 with h | h
      · omega
      · unfold lg
        rw [Int.toNat_natCast]
        have e1 : nm1.length - 1 = n := by omega
        rw [e1] at h
        rw [hne1, List.getElem?_take_of_lt (by omega)]
        exact h
    have hbits := bits_top hdm hn htop
    have elg : (nm1[((nm1.length : Int) - 1).toNat]?.getD default).v = lg nm1 n := by
      unfold lg
      rw [show ((nm1.length : Int) - 1) = ((n : Nat) : Int) by omega]
    refine Wl.k 0 rfl (c115 _ _ hlim.1 (by omega)) (fun v1 G2 Ho1 hle2 hp => ?_)
    obtain ⟨rfl, rfl, rfl⟩ := hp
    rw [elg] at hb32 ⊢
    refine Wl.ga 5 [] ?_
    refine Ar.e1 ?_
    refine ⟨?_, rfl, rfl⟩
    rw [← hv, hbits]
    congr 1
    rw [Int.natCast_add, Int.natCast_mul]
    omega
theorem c97 (G : Imm) (x : IV) (z : Int) (hx : Big G x z) (h1 : Lt 100000 z) :
    Does Tryz.prog 97 [.agg (Cells.enc x).toArray] G [] (fun v G' Ho => v = .int .i64 (bitsZ z : Int) ∧ G' = G ∧ Ho = []) := by
  have hn := h1.n hx
  obtain ⟨neg, a, n, c⟩ := x
  obtain ⟨l, rfl, hlc, hA, hI⟩ := hx
  have hd := hI.digs
  have h2 : l.length ≤ 1073741824 := Nat.le_trans hn (by decide)
  have hlc' : l.length ≤ c := hlc
  have hA' : Arr G a l := hA
  have hv := hI.abs
  show Does Tryz.prog 97 [.agg #[.bool neg, .slice a l.length c]] G [] _
  refine Does.enter Tryz.func97 rfl Tryz.ntmps97 rfl (fun w => ?_)
  refine Wc.gl 2 [] ?_
  refine Wl.box 0 rfl rfl rfl (fun b1 => ?_)
  refine Wl.gl 7 [0] ?_
  refine Wl.k0 rfl (c107 _ _ _ _ (by assumption) (by assumption) (by assumption) (by assumption)) ?_
  refine Wl.ga 4 [] ?_
  refine Ar.e1 ?_
  exact ⟨by rw [hv, bits_abs], rfl, rfl⟩
/-- not wide: of so many limbs -/
theorem bits_lt {z : Int} {m : Nat} (h : ¬ 32 * m < bitsZ z) : Lt m z := by
  unfold Lt
  rw [pb_pow]
  unfold bitsZ at h
  by_cases h0 : z = 0
  · subst h0; exact Int.ofNat_lt.2 (Nat.pow_pos (by decide))
  · rw [if_neg h0] at h
    have h1 : z.natAbs ≠ 0 := by omega
    have h2 : z.natAbs < 2 ^ (z.natAbs.log2 + 1) := (Nat.log2_lt h1).1 (by omega)
    have h3 : 2 ^ (z.natAbs.log2 + 1) ≤ 2 ^ (32 * m) := Nat.pow_le_pow_right (by decide) (by omega)
    exact Int.ofNat_lt.2 (Nat.lt_of_lt_of_le h2 h3)
theorem wide_ok {q : QZ} (h : wideQ q = false) (h0 : 0 ≤ q.2) : OkQ 2100 q := by
  unfold wideQ at h
  rw [Bool.or_eq_false_iff] at h
  have h1 := bits_lt (m := 2048) (by have := of_decide_eq_false h.1; omega)
  have h2 := bits_lt (m := 2048) (by have := of_decide_eq_false h.2; omega)
  exact ⟨h1.mono (by decide), Lt.mono (Lt.le h2 (by omega)) (by decide), h0⟩
theorem c63 (G : Imm) (x : QV) (q : QZ) (hx : BigQ G x q) (h1 : Lt 99999 q.1) (h2 : Lt 99999 q.2) :
    Does Tryz.prog 63 [.agg (Cells.enc x).toArray] G [] (fun v G' Ho => v = .bool (wideQ q) ∧ Ho = []) := by
  have hn : Big G x.num q.1 := hx.1
  have h3 : Lt 100000 q.1 := h1.mono (by decide)
  have h4 : Lt 100000 q.2 := h2.mono (by decide)
  have h5 : Lt 100000 (q.2 + 1) := h2.succ (by decide)
  refine Does.enter Tryz.func63 rfl Tryz.ntmps63 rfl (fun w => ?_)
  by_cases hw : (65536 : Int) < (bitsZ q.1 : Int)
  · have e : wideQ q = true := by unfold wideQ; rw [decide_eq_true (show 65536 < bitsZ q.1 by omega)]; rfl
    refine Wc.gl 2 [] ?_
    refine Wl.box 0 rfl rfl rfl (fun b1 => ?_)
    refine Wl.gl 6 [0] ?_
    refine Wl.k0 rfl (c96 _ _) ?_
    refine Wl.k0 rfl (c97 _ _ _ (by assumption) (by assumption)) ?_
    refine Wl.ll0 2 [] ?_
    refine Wl.yes 7 rfl (by first | assumption | omega) ?_
    refine Wl.ga 9 [] ?_
    refine Ar.e1 ?_
    all_goals exact ⟨by rw [e], rfl⟩
  · have e : wideQ q = decide ((65536 : Int) < (bitsZ (q.2 + 1) : Int)) := by
      unfold wideQ
      rw [decide_eq_false (show ¬ 65536 < bitsZ q.1 by omega), Bool.false_or]
      exact decide_eq_decide.2 (by omega)
    refine Wc.gl 2 [] ?_
    refine Wl.box 0 rfl rfl rfl (fun b1 => ?_)
    refine Wl.gl 6 [0] ?_
    refine Wl.k0 rfl (c96 _ _) ?_
    refine Wl.k0 rfl (c97 _ _ _ (by assumption) (by assumption)) ?_
    refine Wl.ll0 2 [] ?_
    refine Wl.no 7 rfl (by first | assumption | omega) ?_
    refine Wl.ll0 3 [0] ?_
    refine Wl.k 1 rfl (c67 _ _ _ (by assumption) (by assumption)) (fun v1 G1 Ho1 hle1 hp => ?_)
    obtain ⟨ri1, rfl, hri1, rfl⟩ := hp
    replace hx := hx.up hle1
    replace hn := hn.up hle1
    refine Wl.ll0 1 [] ?_
    refine Wl.k0 rfl (c97 _ _ _ (by assumption) (by assumption)) ?_
    refine Wl.ga 7 [] ?_
    refine Ar.e1 ?_
    all_goals exact ⟨by rw [e], rfl⟩
end Go.Proofs.YtbppmiimeccclaaGreatDoor
set_option maxRecDepth 100000
set_option linter.unusedVariables false
namespace Go.Proofs.YtbppmiimeccclaaGreatDoor
open Go Go.Sl
set_option maxHeartbeats 4000000
theorem low_pos {n d : Int} (h : 0 < d) : 0 ≤ (lowQ n d).2 := by
  show 0 ≤ d / (Int.gcd n d : Int) - 1
  have h1 : (Int.gcd n d : Int) ∣ d := Int.gcd_dvd_right _ _
  obtain ⟨k, hk⟩ := h1
  have h2 : 0 ≤ (Int.gcd n d : Int) := Int.natCast_nonneg _
  have h0 : (Int.gcd n d : Int) ≠ 0 := fun e => by rw [e, Int.zero_mul] at hk; omega
  have h3 : 0 < k := by
    rcases Int.lt_or_le 0 k with hp | hn
    · exact hp
    · have := Int.mul_nonpos_of_nonneg_of_nonpos h2 hn
      omega
  have h4 : d / (Int.gcd n d : Int) = k := Int.ediv_eq_of_eq_mul_right h0 hk
  omega
theorem make_pos {n d : Int} : 0 ≤ (makeQ n d).2 := by
  unfold makeQ
  split
  · exact Int.le_refl _
  · split
    · exact low_pos (by omega)
    · exact low_pos (by omega)
theorem do_pos {i : Sl.Instr} {a b : QZ} (ha : 0 ≤ a.2) (hb : 0 ≤ b.2) : 0 ≤ (doQ i a b).2 := by
  have hc : ∀ z, 0 ≤ (wholeQ z).2 := fun z => Int.le_refl _
  have hp : ∀ x y : QZ, 0 ≤ x.2 → 0 ≤ y.2 → 0 < (x.2 + 1) * (y.2 + 1) := fun x y h1 h2 => Int.mul_pos (by omega) (by omega)
  unfold doQ
  split
  · exact ha
  · split
    · exact low_pos (hp _ _ ha hb)
    · split
      · exact low_pos (hp _ _ ha hb)
      · split
        · exact low_pos (hp _ _ ha (hc _))
        · split
          · exact make_pos
          · exact ha
theorem whole_ok {z : Int} (h : Lt 2100 z) : OkQ 2100 (wholeQ z) := ⟨h, Lt.mono (m := 0) (show ((0 : Int).natAbs : Int) < pb 0 by decide) (by decide), Int.le_refl _⟩
attribute [local irreducible] valB pb cmpZ lstWp lowQ Lt bitsZ p2 cst
/-- a function that does an instruction, at one place -/
def OpFn (G : Imm) (v : Value) (i : Sl.Instr) : Prop := ∃ (f : Nat) (caps : List Value), v = .func (.func f) #[] caps.toArray ∧ isFn Tryz.prog f ∧ ∀ (G' : Imm) (a b : QV) (p q : QZ), G.le G' → BigQ G' a p → BigQ G' b q → OkQ 2100 p → OkQ 2100 q →
  Does Tryz.prog f ([] ++ [.agg (Cells.enc a).toArray, .agg (Cells.enc b).toArray] ++ caps) G' [] (fun v G'' Ho => ∃ r : QV, v = .agg (Cells.enc r).toArray ∧ BigQ G'' r (doQ i p q) ∧ Ho = [])
theorem OpFn.up {G G' : Imm} {v : Value} {i : Sl.Instr} (h : OpFn G v i) (hl : G.le G') : OpFn G' v i := by
  obtain ⟨f, caps, h1, h2, h3⟩ := h
  exact ⟨f, caps, h1, h2, fun G'' a b p q hg => h3 G'' a b p q (Imm.le_trans hl hg)⟩
theorem c99p (G : Imm) (x : IV) (n : Nat) (hx : Big G x 1) (hn : n ≤ 64) :
    Does Tryz.prog 99 [.agg (Cells.enc x).toArray, .int .i64 (n : Int)] G [] (fun v G' Ho => ∃ r : IV, v = .tuple #[.agg (Cells.enc r).toArray, .int .i64 0] ∧ Big G' r (p2 n) ∧ Ho = []) := by
  have h := c99 G x 1 (n / 32) (n % 32) hx (Nat.le_trans (Big.len hx one_lt) (by decide)) (Nat.mod_lt _ (by decide)) (by omega)
  rw [Nat.div_add_mod] at h
  exact h.mono fun v G' Ho _ ⟨r, e1, e2, e3⟩ => ⟨r, e1, Big.out e2 (by rw [Int.one_mul, p2_def]), e3⟩
theorem c92 (G : Imm) (n : Nat) (hn : n ≤ 64) :
    Does Tryz.prog 92 [.int .i64 (n : Int)] G [] (fun v G' Ho => ∃ r : QV, v = .agg (Cells.enc r).toArray ∧ BigQ G' r (wholeQ (p2 n)) ∧ Ho = []) := by
  refine Does.enter Tryz.func92 rfl Tryz.ntmps92 rfl (fun w => ?_)
  refine Wc.gl 2 [] ?_
  refine Wl.alloc 0 rfl T.zero92 (fun b1 => ?_)
  refine Wl.gl 4 [] ?_
  refine Wl.k 1 rfl (c23 _ _ (by decide)) (fun v1 G1 Ho1 hle1 hp => ?_)
  obtain ⟨ri1, rfl, hri1, rfl⟩ := hp
  refine Wl.ll0 1 [] ?_
  refine Wl.k 1 rfl (c99p _ _ _ (by assumption) (by assumption)) (fun v2 G2 Ho2 hle2 hp => ?_)
  obtain ⟨ri2, rfl, hri2, rfl⟩ := hp
  replace hri1 := hri1.up hle2
  refine Wl.ll0 3 [] ?_
  refine Wl.alloc 1 rfl T.zero63 (fun b2 => ?_)
  refine Wl.gl 7 [1, 1] ?_
  refine Wl.k 2 rfl (c64 _ _ _ (by assumption)) (fun v3 G3 Ho3 hle3 hp => ?_)
  obtain ⟨rr3, rfl, hrr3, rfl, rfl⟩ := hp
  replace hri2 := hri2.up hle3
  replace hri1 := hri1.up hle3
  refine Wl.ga 4 [0] ?_
  refine Ar.out1 (.inr rfl) (Ho := Hp.only _ []) rfl (.agg 0 rfl rfl T.agg92) (Hp.sub_only _ _) ?_
  exact ⟨_, rfl, by assumption, rfl⟩
theorem c81 (G : Imm) (a b : QV) (p q : QZ) (ha : BigQ G a p) (h1 : OkQ 2100 p) : Does Tryz.prog 81 [.agg (Cells.enc a).toArray, .agg (Cells.enc b).toArray] G [] (fun v G' Ho => ∃ r : QV, v = .agg (Cells.enc r).toArray ∧ BigQ G' r (negQ p) ∧ Ho = []) := by
  have e := h1.1.mono (show 2100 ≤ 100000 by decide)
  refine Does.enter Tryz.func81 rfl Tryz.ntmps81 rfl (fun w => ?_)
  refine Wc.gl 2 [] ?_
  refine Wl.box 0 rfl rfl rfl (fun b1 => ?_)
  refine Wl.box 1 rfl rfl rfl (fun b2 => ?_)
  refine Wl.alloc 2 rfl T.zero92 (fun b3 => ?_)
  refine Wl.gl 5 [0] ?_
  refine Wl.k 3 rfl (c82 _ _ _ (by assumption) (by assumption)) (fun v1 G1 Ho1 hle1 hp => ?_)
  obtain ⟨rr1, rfl, hrr1, rfl, rfl⟩ := hp
  replace ha := ha.up hle1
  refine Wl.ga 4 [2] ?_
  refine Ar.out1 (.inr rfl) (Ho := Hp.only _ []) rfl (.agg 2 rfl rfl T.agg92) (Hp.sub_only _ _) ?_
  all_goals exact ⟨_, rfl, by assumption, rfl⟩
theorem c83 (G : Imm) (a b : QV) (p q : QZ) (ha : BigQ G a p) (hb : BigQ G b q) (h1 : OkQ 2100 p) (h2 : OkQ 2100 q) : Does Tryz.prog 83 [.agg (Cells.enc a).toArray, .agg (Cells.enc b).toArray] G [] (fun v G' Ho => ∃ r : QV, v = .agg (Cells.enc r).toArray ∧ BigQ G' r (addQ p q) ∧ Ho = []) := by
  refine Does.enter Tryz.func83 rfl Tryz.ntmps83 rfl (fun w => ?_)
  refine Wc.gl 2 [] ?_
  refine Wl.box 0 rfl rfl rfl (fun b1 => ?_)
  refine Wl.box 1 rfl rfl rfl (fun b2 => ?_)
  refine Wl.alloc 2 rfl T.zero92 (fun b3 => ?_)
  refine Wl.gl 6 [0, 1] ?_
  refine Wl.k 3 rfl (c84 _ _ _ _ _ (by assumption) (by assumption) (by assumption) (by assumption)) (fun v1 G1 Ho1 hle1 hp => ?_)
  obtain ⟨rr1, rfl, hrr1, rfl⟩ := hp
  replace ha := ha.up hle1
  replace hb := hb.up hle1
  refine Wl.ga 4 [2] ?_
  refine Ar.out1 (.inr rfl) (Ho := Hp.only _ []) rfl (.agg 2 rfl rfl T.agg92) (Hp.sub_only _ _) ?_
  all_goals exact ⟨_, rfl, by assumption, rfl⟩
theorem c85 (G : Imm) (a b : QV) (p q : QZ) (ha : BigQ G a p) (hb : BigQ G b q) (h1 : OkQ 2100 p) (h2 : OkQ 2100 q) : Does Tryz.prog 85 [.agg (Cells.enc a).toArray, .agg (Cells.enc b).toArray] G [] (fun v G' Ho => ∃ r : QV, v = .agg (Cells.enc r).toArray ∧ BigQ G' r (subQ p q) ∧ Ho = []) := by
  refine Does.enter Tryz.func85 rfl Tryz.ntmps85 rfl (fun w => ?_)
  refine Wc.gl 2 [] ?_
  refine Wl.box 0 rfl rfl rfl (fun b1 => ?_)
  refine Wl.box 1 rfl rfl rfl (fun b2 => ?_)
  refine Wl.alloc 2 rfl T.zero92 (fun b3 => ?_)
  refine Wl.gl 6 [0, 1] ?_
  refine Wl.k 3 rfl (c86 _ _ _ _ _ (by assumption) (by assumption) (by assumption) (by assumption)) (fun v1 G1 Ho1 hle1 hp => ?_)
  obtain ⟨rr1, rfl, hrr1, rfl⟩ := hp
  replace ha := ha.up hle1
  replace hb := hb.up hle1
  refine Wl.ga 4 [2] ?_
  refine Ar.out1 (.inr rfl) (Ho := Hp.only _ []) rfl (.agg 2 rfl rfl T.agg92) (Hp.sub_only _ _) ?_
  all_goals exact ⟨_, rfl, by assumption, rfl⟩
theorem c94 (G : Imm) (a b : QV) (p : QZ) (ha : BigQ G a p) : Does Tryz.prog 94 [.agg (Cells.enc a).toArray, .agg (Cells.enc b).toArray] G [] (fun v G' Ho => ∃ r : QV, v = .agg (Cells.enc r).toArray ∧ BigQ G' r p ∧ Ho = []) := by
  refine Does.enter Tryz.func94 rfl Tryz.ntmps94 rfl (fun w => ?_)
  refine Wc.gl 2 [] ?_
  refine Wl.box 0 rfl rfl rfl (fun b1 => ?_)
  refine Wl.box 1 rfl rfl rfl (fun b2 => ?_)
  refine Wl.alloc 2 rfl T.zero92 (fun b3 => ?_)
  refine Wl.ga 9 [0, 2] ?_
  refine Ar.out1 (.inr rfl) (Ho := Hp.only _ []) rfl (.agg 2 rfl rfl T.agg92) (Hp.sub_only _ _) ?_
  all_goals exact ⟨_, rfl, by assumption, rfl⟩
theorem row_all {G : Imm} {b : Nat} {cs : List Value} {T : TypeId} {fz : Nat × Nat} (h : G b = some (.cells cs.toArray T fz)) : G.row b 0 cs := by
  intro i v hi; simp only [Imm.cell, h, Nat.zero_add]; simpa using hi
theorem c87 (G : Imm) (a b c : QV) (p z : QZ) (bc : Nat) (hc : G bc = some (.cells (Cells.enc c).toArray 92)) (hz : BigQ G c z) (ha : BigQ G a p) (h1 : OkQ 2100 p) (h2 : OkQ 2100 z) : Does Tryz.prog 87 [.agg (Cells.enc a).toArray, .agg (Cells.enc b).toArray, .pointer (some ⟨bc, 0, none⟩)] G [] (fun v G' Ho => ∃ r : QV, v = .agg (Cells.enc r).toArray ∧ BigQ G' r (mulQ p z) ∧ Ho = []) := by
  have hr : G.row bc 0 (Cells.enc c) := row_all hc
  refine Does.enter Tryz.func87 rfl Tryz.ntmps87 rfl (fun w => ?_)
  refine Wc.gl 2 [] ?_
  refine Wl.box 0 rfl rfl rfl (fun b1 => ?_)
  refine Wl.box 1 rfl rfl rfl (fun b2 => ?_)
  refine Wl.alloc 2 rfl T.zero92 (fun b3 => ?_)
  refine Wl.gl 5 [0] ?_
  refine Wl.q rfl (Qy.loadsG T.agg92 rfl (by assumption) rfl) ?_
  refine Wl.k 3 rfl (c88 _ _ _ _ _ (by assumption) (by assumption) (by assumption) (by assumption)) (fun v1 G1 Ho1 hle1 hp => ?_)
  obtain ⟨rr1, rfl, hrr1, rfl⟩ := hp
  replace hz := hz.up hle1
  replace ha := ha.up hle1
  refine Wl.ga 4 [2] ?_
  refine Ar.out1 (.inr rfl) (Ho := Hp.only _ []) rfl (.agg 2 rfl rfl T.agg92) (Hp.sub_only _ _) ?_
  all_goals exact ⟨_, rfl, by assumption, rfl⟩
theorem c89 (G : Imm) (a b c : QV) (p z : QZ) (bc : Nat) (hc : G bc = some (.cells (Cells.enc c).toArray 92)) (hz : BigQ G c z) (ha : BigQ G a p) (h1 : OkQ 2100 p) (h2 : OkQ 2100 z) (h3 : z.1 ≠ 0) : Does Tryz.prog 89 [.agg (Cells.enc a).toArray, .agg (Cells.enc b).toArray, .pointer (some ⟨bc, 0, none⟩)] G [] (fun v G' Ho => ∃ r : QV, v = .agg (Cells.enc r).toArray ∧ BigQ G' r (overQ p z) ∧ Ho = []) := by
  have hr : G.row bc 0 (Cells.enc c) := row_all hc
  refine Does.enter Tryz.func89 rfl Tryz.ntmps89 rfl (fun w => ?_)
  refine Wc.gl 2 [] ?_
  refine Wl.box 0 rfl rfl rfl (fun b1 => ?_)
  refine Wl.box 1 rfl rfl rfl (fun b2 => ?_)
  refine Wl.alloc 2 rfl T.zero92 (fun b3 => ?_)
  refine Wl.gl 5 [0] ?_
  refine Wl.q rfl (Qy.loadsG T.agg92 rfl (by assumption) rfl) ?_
  refine Wl.k 3 rfl (c90 _ _ _ _ _ (by assumption) (by assumption) (by assumption) (by assumption) (by assumption)) (fun v1 G1 Ho1 hle1 hp => ?_)
  obtain ⟨rr1, rfl, hrr1, rfl⟩ := hp
  replace hz := hz.up hle1
  replace ha := ha.up hle1
  refine Wl.ga 4 [2] ?_
  refine Ar.out1 (.inr rfl) (Ho := Hp.only _ []) rfl (.agg 2 rfl rfl T.agg92) (Hp.sub_only _ _) ?_
  all_goals exact ⟨_, rfl, by assumption, rfl⟩
theorem c91 (G : Imm) (a b : QV) (p : QZ) (i : Sl.Instr) (n : Nat) (bi : Nat) (hc : G bi = some (.cells (Cells.enc i).toArray 46)) (hi : i.c = (n : Int)) (hn : n ≤ 64) (ha : BigQ G a p) (h1 : OkQ 2100 p) (h2 : OkQ 2100 (wholeQ (p2 n))) : Does Tryz.prog 91 [.agg (Cells.enc a).toArray, .agg (Cells.enc b).toArray, .pointer (some ⟨bi, 0, none⟩)] G [] (fun v G' Ho => ∃ r : QV, v = .agg (Cells.enc r).toArray ∧ BigQ G' r (mulQ p (wholeQ (p2 n))) ∧ Ho = []) := by
  have hr : G.cell bi (0 + 4) = some (.int .i64 (n : Int)) := cell_oneZ hc 4 (by rw [← hi]; rfl)
  refine Does.enter Tryz.func91 rfl Tryz.ntmps91 rfl (fun w => ?_)
  refine Wc.gl 2 [] ?_
  refine Wl.box 0 rfl rfl rfl (fun b1 => ?_)
  refine Wl.box 1 rfl rfl rfl (fun b2 => ?_)
  refine Wl.alloc 2 rfl T.zero92 (fun b3 => ?_)
  refine Wl.gc 3 [] ?_
  refine Wc.draw [0, 1, 2] [(2, 5)] T.mixed rfl ?_
  refine Gm.c 0 [0] [0] ?_
  refine Gm.c 1 [] [] ?_
  refine Gm.u 2 [] rfl (Qy.loadG T.one3 rfl (by assumption)) ?_
  refine Gm.o1 3 ?_
  refine Wl.k 3 rfl (c92 _ _ (by omega)) (fun v1 G1 Ho1 hle1 hp => ?_)
  obtain ⟨rr1, rfl, hrr1, rfl⟩ := hp
  replace ha := ha.up hle1
  refine Wl.on0 ?_
  refine Gm.o1 4 ?_
  refine Wl.k 3 rfl (c88 _ _ _ _ _ (by assumption) (by assumption) (by assumption) (by assumption)) (fun v2 G2 Ho2 hle2 hp => ?_)
  obtain ⟨rr2, rfl, hrr2, rfl⟩ := hp
  replace hrr1 := hrr1.up hle2
  replace ha := ha.up hle2
  refine Wl.on0 ?_
  refine Gm.o1 5 ?_
  refine Wl.ll0 1 [2] ?_
  refine Wl.on0 ?_
  refine Gm.fin ?_
  refine Ar.ga 2 [] ?_
  refine Ar.out1 (.inr rfl) (Ho := Hp.only _ []) rfl (.agg 2 rfl rfl T.agg92) (Hp.sub_only _ _) ?_
  all_goals exact ⟨_, rfl, by assumption, rfl⟩
theorem c93 (G : Imm) (a b : QV) (p : QZ) (i : Sl.Instr) (n : Nat) (bi : Nat) (hc : G bi = some (.cells (Cells.enc i).toArray 46)) (hi : i.c = (n : Int)) (hn : n ≤ 64) (ha : BigQ G a p) (h1 : OkQ 2100 p) (h2 : OkQ 2100 (wholeQ (p2 n))) (h3 : (wholeQ (p2 n)).1 ≠ 0) : Does Tryz.prog 93 [.agg (Cells.enc a).toArray, .agg (Cells.enc b).toArray, .pointer (some ⟨bi, 0, none⟩)] G [] (fun v G' Ho => ∃ r : QV, v = .agg (Cells.enc r).toArray ∧ BigQ G' r (overQ p (wholeQ (p2 n))) ∧ Ho = []) := by
  have hr : G.cell bi (0 + 4) = some (.int .i64 (n : Int)) := cell_oneZ hc 4 (by rw [← hi]; rfl)
  refine Does.enter Tryz.func93 rfl Tryz.ntmps93 rfl (fun w => ?_)
  refine Wc.gl 2 [] ?_
  refine Wl.box 0 rfl rfl rfl (fun b1 => ?_)
  refine Wl.box 1 rfl rfl rfl (fun b2 => ?_)
  refine Wl.alloc 2 rfl T.zero92 (fun b3 => ?_)
  refine Wl.gc 3 [] ?_
  refine Wc.draw [0, 1, 2] [(2, 5)] T.mixed rfl ?_
  refine Gm.c 0 [0] [0] ?_
  refine Gm.c 1 [] [] ?_
  refine Gm.u 2 [] rfl (Qy.loadG T.one3 rfl (by assumption)) ?_
  refine Gm.o1 3 ?_
  refine Wl.k 3 rfl (c92 _ _ (by omega)) (fun v1 G1 Ho1 hle1 hp => ?_)
  obtain ⟨rr1, rfl, hrr1, rfl⟩ := hp
  replace ha := ha.up hle1
  refine Wl.on0 ?_
  refine Gm.o1 4 ?_
  refine Wl.k 3 rfl (c90 _ _ _ _ _ (by assumption) (by assumption) (by assumption) (by assumption) (by assumption)) (fun v2 G2 Ho2 hle2 hp => ?_)
  obtain ⟨rr2, rfl, hrr2, rfl⟩ := hp
  replace hrr1 := hrr1.up hle2
  replace ha := ha.up hle2
  refine Wl.on0 ?_
  refine Gm.o1 5 ?_
  refine Wl.ll0 1 [2] ?_
  refine Wl.on0 ?_
  refine Gm.fin ?_
  refine Ar.ga 2 [] ?_
  refine Ar.out1 (.inr rfl) (Ho := Hp.only _ []) rfl (.agg 2 rfl rfl T.agg92) (Hp.sub_only _ _) ?_
  all_goals exact ⟨_, rfl, by assumption, rfl⟩
theorem c61 (G : Imm) (i : Sl.Instr) (hop : 1 ≤ i.op ∧ i.op ≤ 8) (hcc : -9223372036854775808 ≤ i.c ∧ i.c ≤ 9223372036854775807) (hk : i.op = 5 ∨ i.op = 6 ∨ i.op = 7 ∨ i.op = 8 → Lt 2100 (cst i) ∧ cst i ≠ 0) (h78 : i.op = 7 ∨ i.op = 8 → 0 ≤ i.c ∧ i.c ≤ 64) :
    Does Tryz.prog 61 [.agg (Cells.enc i).toArray] G [] (fun v G' Ho => OpFn G' v i ∧ Ho = []) := by
  refine Does.enter Tryz.func61 rfl Tryz.ntmps61 rfl (fun w => ?_)
  by_cases h2 : i.op = 2
  · refine Wc.gl 2 [] ?_
    refine Wl.box 0 rfl rfl rfl (fun b1 => ?_)
    refine Wl.gl 7 [0] ?_
    refine Wl.k 1 rfl (c23 _ _ hcc) (fun v1 G1 Ho1 hle1 hp => ?_)
    obtain ⟨ri1, rfl, hri1, rfl⟩ := hp
    refine Wl.k 1 rfl (c64 _ _ _ (by assumption)) (fun v2 G2 Ho2 hle2 hp => ?_)
    obtain ⟨rr2, rfl, hrr2, rfl, rfl⟩ := hp
    replace hri1 := hri1.up hle2
    refine Wl.alloc 1 rfl T.zero92 (fun b2 => ?_)
    refine Wl.ga 26 [1, 0, 1] ?_
    refine Ar.e1 ?_
    exact ⟨⟨81, [], rfl, T.fn81, fun G' a b p q hg ha hb h1 h2' => (c81 G' a b p q ha h1).mono fun v G'' Ho _ ⟨r, e1, e2, e3⟩ => ⟨r, e1, by unfold doQ; rw [if_pos h2]; exact e2, e3⟩⟩, rfl⟩
  by_cases h3 : i.op = 3
  · refine Wc.gl 2 [] ?_
    refine Wl.box 0 rfl rfl rfl (fun b1 => ?_)
    refine Wl.gl 7 [0] ?_
    refine Wl.k 1 rfl (c23 _ _ hcc) (fun v1 G1 Ho1 hle1 hp => ?_)
    obtain ⟨ri1, rfl, hri1, rfl⟩ := hp
    refine Wl.k 1 rfl (c64 _ _ _ (by assumption)) (fun v2 G2 Ho2 hle2 hp => ?_)
    obtain ⟨rr2, rfl, hrr2, rfl, rfl⟩ := hp
    replace hri1 := hri1.up hle2
    refine Wl.alloc 1 rfl T.zero92 (fun b2 => ?_)
    refine Wl.ga 33 [1, 0, 0, 1] ?_
    refine Ar.e1 ?_
    exact ⟨⟨83, [], rfl, T.fn83, fun G' a b p q hg ha hb h1 h2' => (c83 G' a b p q ha hb h1 h2').mono fun v G'' Ho _ ⟨r, e1, e2, e3⟩ => ⟨r, e1, by unfold doQ; rw [if_neg h2, if_pos h3]; exact e2, e3⟩⟩, rfl⟩
  by_cases h4 : i.op = 4
  · refine Wc.gl 2 [] ?_
    refine Wl.box 0 rfl rfl rfl (fun b1 => ?_)
    refine Wl.gl 7 [0] ?_
    refine Wl.k 1 rfl (c23 _ _ hcc) (fun v1 G1 Ho1 hle1 hp => ?_)
    obtain ⟨ri1, rfl, hri1, rfl⟩ := hp
    refine Wl.k 1 rfl (c64 _ _ _ (by assumption)) (fun v2 G2 Ho2 hle2 hp => ?_)
    obtain ⟨rr2, rfl, hrr2, rfl, rfl⟩ := hp
    replace hri1 := hri1.up hle2
    refine Wl.alloc 1 rfl T.zero92 (fun b2 => ?_)
    refine Wl.ga 40 [1, 0, 0, 0, 1] ?_
    refine Ar.e1 ?_
    exact ⟨⟨85, [], rfl, T.fn85, fun G' a b p q hg ha hb h1 h2' => (c85 G' a b p q ha hb h1 h2').mono fun v G'' Ho _ ⟨r, e1, e2, e3⟩ => ⟨r, e1, by unfold doQ; rw [if_neg h2, if_neg h3, if_pos h4]; exact e2, e3⟩⟩, rfl⟩
  by_cases h1 : i.op = 1
  · refine Wc.gl 2 [] ?_
    refine Wl.box 0 rfl rfl rfl (fun b1 => ?_)
    refine Wl.gl 7 [0] ?_
    refine Wl.k 1 rfl (c23 _ _ hcc) (fun v1 G1 Ho1 hle1 hp => ?_)
    obtain ⟨ri1, rfl, hri1, rfl⟩ := hp
    refine Wl.k 1 rfl (c64 _ _ _ (by assumption)) (fun v2 G2 Ho2 hle2 hp => ?_)
    obtain ⟨rr2, rfl, hrr2, rfl, rfl⟩ := hp
    replace hri1 := hri1.up hle2
    refine Wl.alloc 1 rfl T.zero92 (fun b2 => ?_)
    refine Wl.ga 69 [1, 0, 0, 0, 0, 0, 0, 0, 0] ?_
    refine Ar.e1 ?_
    exact ⟨⟨94, [], rfl, T.fn94, fun G' a b p q hg ha hb h1' h2' => (c94 G' a b p ha).mono fun v G'' Ho _ ⟨r, e1, e2, e3⟩ => ⟨r, e1, by unfold doQ; rw [if_neg h2, if_neg h3, if_neg h4, if_neg (by omega), if_neg (by omega)]; exact e2, e3⟩⟩, rfl⟩
  obtain ⟨hk1, hk2⟩ := hk (by omega)
  by_cases h5 : i.op = 5
  · have e5 : cst i = i.c := cst_c (.inl h5)
    rw [e5] at hk1
    refine Wc.gl 2 [] ?_
    refine Wl.box 0 rfl rfl rfl (fun b1 => ?_)
    refine Wl.gl 7 [0] ?_
    refine Wl.k 1 rfl (c23 _ _ hcc) (fun v1 G1 Ho1 hle1 hp => ?_)
    obtain ⟨ri1, rfl, hri1, rfl⟩ := hp
    refine Wl.k 1 rfl (c64 _ _ _ (by assumption)) (fun v2 G2 Ho2 hle2 hp => ?_)
    obtain ⟨rr2, rfl, hrr2, rfl, rfl⟩ := hp
    replace hri1 := hri1.up hle2
    refine Wl.alloc 1 rfl T.zero92 (fun b2 => ?_)
    refine Wl.gl 41 [1, 0, 0, 0, 0, 1] ?_
    refine Wl.q rfl (Qy.makeFunc rfl rfl) ?_
    refine Wl.ga 6 [] ?_
    refine Ar.freeze 1 rfl (fun G3 hle3 hb3 => ?_)
    refine Ar.e1 ?_
    exact ⟨⟨87, [.pointer (some ⟨b2, 0, none⟩)], rfl, T.fn87, fun G' a b p q hg ha hb h1' h2' => (c87 G' a b rr2 p (wholeQ i.c) b2 (hg _ _ hb3) ((hrr2.up hle3).up hg) ha h1' (whole_ok hk1)).mono fun v G'' Ho _ ⟨r, e1, e2, e3⟩ => ⟨r, e1, by unfold doQ; rw [if_neg h2, if_neg h3, if_neg h4, if_pos (.inl h5), e5]; exact e2, e3⟩⟩, rfl⟩
  by_cases h6 : i.op = 6
  · have e5 : cst i = i.c := cst_c (.inr h6)
    rw [e5] at hk1 hk2
    refine Wc.gl 2 [] ?_
    refine Wl.box 0 rfl rfl rfl (fun b1 => ?_)
    refine Wl.gl 7 [0] ?_
    refine Wl.k 1 rfl (c23 _ _ hcc) (fun v1 G1 Ho1 hle1 hp => ?_)
    obtain ⟨ri1, rfl, hri1, rfl⟩ := hp
    refine Wl.k 1 rfl (c64 _ _ _ (by assumption)) (fun v2 G2 Ho2 hle2 hp => ?_)
    obtain ⟨rr2, rfl, hrr2, rfl, rfl⟩ := hp
    replace hri1 := hri1.up hle2
    refine Wl.alloc 1 rfl T.zero92 (fun b2 => ?_)
    refine Wl.gl 48 [1, 0, 0, 0, 0, 0, 1] ?_
    refine Wl.q rfl (Qy.makeFunc rfl rfl) ?_
    refine Wl.ga 6 [] ?_
    refine Ar.freeze 1 rfl (fun G3 hle3 hb3 => ?_)
    refine Ar.e1 ?_
    exact ⟨⟨89, [.pointer (some ⟨b2, 0, none⟩)], rfl, T.fn89, fun G' a b p q hg ha hb h1' h2' => (c89 G' a b rr2 p (wholeQ i.c) b2 (hg _ _ hb3) ((hrr2.up hle3).up hg) ha h1' (whole_ok hk1) hk2).mono fun v G'' Ho _ ⟨r, e1, e2, e3⟩ => ⟨r, e1, by unfold doQ; rw [if_neg h2, if_neg h3, if_neg h4, if_neg (by omega), if_pos (.inl h6), e5]; exact e2, e3⟩⟩, rfl⟩
  have e5 : cst i = p2 i.c.toNat := cst_p (by omega)
  rw [e5] at hk1 hk2
  have hc := h78 (by omega)
  have hn : i.c = (i.c.toNat : Int) := by omega
  by_cases h7 : i.op = 7
  · skip
    refine Wc.gl 2 [] ?_
    refine Wl.box 0 rfl rfl rfl (fun b1 => ?_)
    refine Wl.gl 7 [0] ?_
    refine Wl.k 1 rfl (c23 _ _ hcc) (fun v1 G1 Ho1 hle1 hp => ?_)
    obtain ⟨ri1, rfl, hri1, rfl⟩ := hp
    refine Wl.k 1 rfl (c64 _ _ _ (by assumption)) (fun v2 G2 Ho2 hle2 hp => ?_)
    obtain ⟨rr2, rfl, hrr2, rfl, rfl⟩ := hp
    replace hri1 := hri1.up hle2
    refine Wl.alloc 1 rfl T.zero92 (fun b2 => ?_)
    refine Wl.gl 55 [1, 0, 0, 0, 0, 0, 0, 1] ?_
    refine Wl.q rfl (Qy.makeFunc rfl rfl) ?_
    refine Wl.ga 6 [] ?_
    refine Ar.freeze 0 rfl (fun G3 hle3 hb3 => ?_)
    refine Ar.e1 ?_
    exact ⟨⟨91, [.pointer (some ⟨b1, 0, none⟩)], rfl, T.fn91, fun G' a b p q hg ha hb h1' h2' => (c91 G' a b p i i.c.toNat b1 (hg _ _ hb3) hn (by omega) ha h1' (whole_ok hk1)).mono fun v G'' Ho _ ⟨r, e1, e2, e3⟩ => ⟨r, e1, by unfold doQ; rw [if_neg h2, if_neg h3, if_neg h4, if_pos (.inr h7), e5]; exact e2, e3⟩⟩, rfl⟩
  · have h8 : i.op = 8 := by omega
    refine Wc.gl 2 [] ?_
    refine Wl.box 0 rfl rfl rfl (fun b1 => ?_)
    refine Wl.gl 7 [0] ?_
    refine Wl.k 1 rfl (c23 _ _ hcc) (fun v1 G1 Ho1 hle1 hp => ?_)
    obtain ⟨ri1, rfl, hri1, rfl⟩ := hp
    refine Wl.k 1 rfl (c64 _ _ _ (by assumption)) (fun v2 G2 Ho2 hle2 hp => ?_)
    obtain ⟨rr2, rfl, hrr2, rfl, rfl⟩ := hp
    replace hri1 := hri1.up hle2
    refine Wl.alloc 1 rfl T.zero92 (fun b2 => ?_)
    refine Wl.gl 62 [1, 0, 0, 0, 0, 0, 0, 0, 1] ?_
    refine Wl.q rfl (Qy.makeFunc rfl rfl) ?_
    refine Wl.ga 6 [] ?_
    refine Ar.freeze 0 rfl (fun G3 hle3 hb3 => ?_)
    refine Ar.e1 ?_
    exact ⟨⟨93, [.pointer (some ⟨b1, 0, none⟩)], rfl, T.fn93, fun G' a b p q hg ha hb h1' h2' => (c93 G' a b p i i.c.toNat b1 (hg _ _ hb3) hn (by omega) ha h1' (whole_ok hk1) hk2).mono fun v G'' Ho _ ⟨r, e1, e2, e3⟩ => ⟨r, e1, by unfold doQ; rw [if_neg h2, if_neg h3, if_neg h4, if_neg (by omega), if_pos (.inr h8), e5]; exact e2, e3⟩⟩, rfl⟩
end Go.Proofs.YtbppmiimeccclaaGreatDoor
