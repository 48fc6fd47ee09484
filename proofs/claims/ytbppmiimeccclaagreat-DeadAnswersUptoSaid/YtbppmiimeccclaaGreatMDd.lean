/- Parts of the proof (part 4): what the rows' text needs of the texts that lead to it. -/
import Derived.Test.YtbppmiimeccclaaGreatMDc
set_option linter.unusedVariables false
set_option linter.unusedSimpArgs false
set_option linter.unusedSectionVars false
set_option maxRecDepth 100000
set_option linter.unusedVariables false
namespace Go.Proofs.YtbppmiimeccclaaGreat
open Go Go.Sl
set_option maxHeartbeats 4000000
attribute [local irreducible] valB pb cmpZ lstWp
theorem cell_oneZ {G : Imm} {b : Nat} {cs : List Value} {T : TypeId} {fz : Nat × Nat} (h : G b = some (.cells cs.toArray T fz)) (k : Nat) {v : Value} (hv : cs[k]? = some v) : G.cell b k = some v := by
  simp only [Imm.cell, h]; simpa using hv
theorem upP_map (xs : List Int) (f : Int → Int) : upP (fun k => f (xs[k]?.getD 0)) xs.length = xs.map f := by
  unfold upP
  apply List.ext_getElem
  · rw [List.length_map, List.length_map, List.length_range]
  · intro i h1 h2
    rw [List.length_map] at h2
    rw [List.getElem_map, List.getElem_range, List.getElem_map, List.getElem?_eq_getElem h2]; rfl
theorem upP_zip (xs ys : List Int) (f : Int → Int → Int) (h : xs.length = ys.length) : upP (fun k => f (xs[k]?.getD 0) (ys[k]?.getD 0)) xs.length = List.zipWith f xs ys := by
  unfold upP
  apply List.ext_getElem
  · rw [List.length_map, List.length_range, List.length_zipWith, h, Nat.min_self]
  · intro i h1 h2
    rw [List.length_zipWith] at h2
    rw [List.getElem_map, List.getElem_range, List.getElem_zipWith, List.getElem?_eq_getElem (show i < xs.length by omega), List.getElem?_eq_getElem (show i < ys.length by omega)]; rfl
/-- a row that a function answers -/
def RowPost (G' : Imm) (v : Value) (zs : List Int) : Prop := ∃ (s : Option Addr) (r : List IV) (d : Nat), v = .slice s r.length d ∧ Arr G' s r ∧ r.length ≤ d ∧ Bigs G' r zs
theorem bigs_n {G : Imm} {l : List IV} {xs : List Int} {m : Nat} (h : Bigs G l xs) (hm : Below m xs) {k : Nat} (hk : k < l.length) : (l[k]?.getD default).n ≤ m := Big.len (h.2 k hk) (hm.at k)
theorem c118 (G : Imm) (a : Option Addr) (c : Nat) (l : List IV) (xs : List Int) (m : Nat) (ha : Arr G a l) (hb : Bigs G l xs) (hm : Below m xs) (hmm : m ≤ 268435456) (hl : l.length ≤ 1048576) :
    Does Tryz.prog 118 [.slice a l.length c] G [] (fun v G' Ho => RowPost G' v (xs.map fun x => -x) ∧ Ho = []) := by
  have hf : ∀ k : Nat, k < l.length → ∀ G', G.le G' → Does Tryz.prog 100 ([] ++ [.agg (Cells.enc (l[((k : Nat) : Int).toNat]?.getD default)).toArray] ++ []) G' [] (fun v G'' Ho => ∃ r : IV, v = .agg (Cells.enc r).toArray ∧ Big G'' r (-(xs[k]?.getD 0)) ∧ Ho = []) := fun k hk G' hG => by
    have h1 := bigs_n hb hm hk
    exact (c100 G' _ _ ((hb.2 k hk).up hG) (by omega)).mono fun v G'' Ho _ ⟨r, e1, e2, e3, e4⟩ => ⟨r, e1, e2, e4⟩
  have h180 := c180P G a c l 100 [] (fun k => -(xs[k]?.getD 0)) T.fn100 ha hl hf
  rw [hb.1, upP_map xs (fun x => -x), ← hb.1] at h180
  refine Does.enter Tryz.func118 rfl Tryz.ntmps118 rfl (fun w => ?_)
  refine Wc.gl 8 [] ?_
  refine Wl.call 0 rfl T.fn180 rfl (h180) (tags_of trivial) (fun v1 G1 Ho1 hle1 hp => ?_)
  obtain ⟨s1, r1, d1, rfl, hA1, hl81, hB1, rfl⟩ := hp
  replace ha := ha.up hle1
  replace hb := hb.up hle1
  refine Wl.ga 4 [] ?_
  refine Ar.out1 (.inr rfl) (Ho := []) rfl (.tmp rfl) trivial ?_
  exact ⟨⟨_, _, _, rfl, hA1, hl81, hB1⟩, rfl⟩
theorem c200 (G : Imm) (bk bf bb h : Nat) (x : IV) (k : Nat) (a' : Option Addr) (c' : Nat) (ys : List IV) (R : Int) (hgh : isFn Tryz.prog h) (hy : Arr G a' ys) (hk : k < ys.length) (hkl : k ≤ 1048576) (hf : G bf = some (.cells [.func (.func h) #[] #[]].toArray 106)) (hb : G bb = some (.cells [.slice a' ys.length c'].toArray 44))
    (hh : Does Tryz.prog h ([] ++ [.agg (Cells.enc x).toArray, .agg (Cells.enc (ys[((k : Nat) : Int).toNat]?.getD default)).toArray] ++ []) G [] (fun v G'' Ho => ∃ r : IV, v = .agg (Cells.enc r).toArray ∧ Big G'' r R ∧ Ho = [])) :
    Does Tryz.prog 200 [.agg (Cells.enc x).toArray, .pointer (some ⟨bk, 0, none⟩), .pointer (some ⟨bf, 0, none⟩), .pointer (some ⟨bb, 0, none⟩)] G [(0, some bk, .cells #[.int .i64 ((k : Int) - 1)] 3)]
      (fun v G' Ho => ∃ r : IV, v = .agg (Cells.enc r).toArray ∧ Big G' r R ∧ Ho = [(0, some bk, .cells #[.int .i64 (((k + 1 : Nat) : Int) - 1)] 3)]) := by
  have hfc := cell_oneZ hf 0 rfl
  have hbc := cell_oneZ hb 0 rfl
  have e : ((k : Nat) : Int).toNat = (((k : Int) - 1) + 1).toNat := by omega
  rw [e] at hh
  refine Does.enter Tryz.func200 rfl Tryz.ntmps200 rfl (fun w => ?_)
  refine Wc.gl 2 [] ?_
  refine Wl.box 1 rfl rfl rfl (fun b1 => ?_)
  refine Wl.alloc 2 rfl T.zero104 (fun b2 => ?_)
  refine Wl.gc 10 [0, 0] ?_
  refine Wc.draw [1, 2, 0] [(2, 7), (0, 6), (2, 6), (1, 6)] T.mixed rfl ?_
  refine Gm.q 0 [] (by kernel_rfl) rfl rfl (Qy.loadG T.one106 rfl (by assumption)) ?_
  refine Gm.q 1 [1] (by kernel_rfl) rfl rfl (Qy.loadAll 1 T.agg104 rfl rfl rfl) ?_
  refine Gm.q 2 [] (by kernel_rfl) rfl rfl (Qy.loadG T.one44 rfl (by assumption)) ?_
  refine Gm.one 3 ⟨rfl, rfl, rfl, trivial⟩ (by first | exact Imm.le_refl _ | repeat (first | assumption | refine Imm.le_trans ?_ (by assumption))) (by kernel_rfl) rfl ?_
  refine Wl.q rfl (Qy.load 0 T.one3 rfl rfl rfl) ?_
  refine Wl.on0 ?_
  refine Gm.q 4 [] (by kernel_rfl) rfl rfl (Qy.at (α := IV) T.sl44 rfl rfl (by assumption) (by omega)) ?_
  refine Gm.q 5 [] (by kernel_rfl) rfl rfl (Qy.loadsG T.agg104 rfl (Arr.elem (by assumption) (by omega)) rfl) ?_
  refine Gm.one 6 ⟨rfl, rfl, rfl, trivial⟩ (by first | exact Imm.le_refl _ | repeat (first | assumption | refine Imm.le_trans ?_ (by assumption))) (by kernel_rfl) rfl ?_
  refine Wl.callV (fst := []) (cap := []) 20 rfl hgh rfl rfl hh (tags_of trivial) (fun v1 G1 Ho1 hle1 hp => ?_)
  obtain ⟨r1, rfl, hr1, rfl⟩ := hp
  refine Wl.on0 ?_
  refine Gm.one 7 trivial (by first | exact Imm.le_refl _ | repeat (first | assumption | refine Imm.le_trans ?_ (by assumption))) (by kernel_rfl) rfl ?_
  refine Wl.storeAll 2 T.size104 rfl rfl rfl rfl rfl rfl ?_
  refine Wl.on0 ?_
  refine Gm.doneA (by kernel_rfl) trivial (by first | exact Imm.le_refl _ | repeat (first | assumption | refine Imm.le_trans ?_ (by assumption))) ?_
  refine Ar.ga 2 [] ?_
  refine Ar.reH 0 (.cells #[.int .i64 (((k + 1 : Nat) : Int) - 1)] 3) rfl (by rw [show (((k + 1 : Nat) : Int) - 1) = (k : Int) - 1 + 1 by omega]; rfl) ?_
  refine Ar.out1 (.inr rfl) (Ho := [(0, some bk, .cells #[.int .i64 (((k + 1 : Nat) : Int) - 1)] 3)]) rfl (.agg 2 rfl rfl T.agg104) ⟨rfl, trivial⟩ ?_
  exact ⟨r1, rfl, hr1, rfl⟩
theorem c181 (G : Imm) (h : Nat) (a a' : Option Addr) (c c' : Nat) (l l' : List IV) (F : Nat → Int) (hgh : isFn Tryz.prog h) (ha : Arr G a l) (ha' : Arr G a' l') (hlen : l.length = l'.length) (hl : l.length ≤ 1048576)
    (hh : ∀ k : Nat, k < l.length → ∀ G', G.le G' → Does Tryz.prog h ([] ++ [.agg (Cells.enc (l[((k : Nat) : Int).toNat]?.getD default)).toArray, .agg (Cells.enc (l'[((k : Nat) : Int).toNat]?.getD default)).toArray] ++ []) G' [] (fun v G'' Ho => ∃ r : IV, v = .agg (Cells.enc r).toArray ∧ Big G'' r (F k) ∧ Ho = [])) :
    Does Tryz.prog 181 [.slice a l.length c, .slice a' l'.length c', .func (.func h) #[] #[]] G [] (fun v G' Ho => ∃ (s : Option Addr) (r : List IV) (d : Nat), v = .tuple #[.slice s r.length d, .int .i64 0] ∧ Arr G' s r ∧ r.length ≤ d ∧ Bigs G' r (upP F l.length) ∧ Ho = []) := by
  refine Does.enter Tryz.func181 rfl Tryz.ntmps181 rfl (fun w => ?_)
  refine Wc.gl 2 [] ?_
  refine Wl.box 0 rfl rfl rfl (fun b1 => ?_)
  refine Wl.box 1 rfl rfl rfl (fun b2 => ?_)
  refine Wl.gl 19 [0, 0] ?_
  refine Wl.alloc 2 rfl T.zero3 (fun b3 => ?_)
  refine Wl.gl 6 [2] ?_
  refine Wl.q rfl (Qy.makeFunc rfl rfl) ?_
  refine Wl.freeze 1 rfl (fun G1 hg1 hb1 => ?_)
  refine Wl.freeze 0 rfl (fun G2 hg2 hb2 => ?_)
  replace hb1 := hg2 _ _ hb1
  have hG := Imm.le_trans hg1 hg2
  replace ha := ha.up hG
  replace ha' := ha'.up hG
  refine Wl.reH 2 (.cells #[.int .i64 (-1)] 3) rfl rfl ?_
  refine Wl.call 2 rfl T.fn180 rfl (c180S _ a c l 200 b3 [.pointer (some ⟨b3, 0, none⟩), .pointer (some ⟨b2, 0, none⟩), .pointer (some ⟨b1, 0, none⟩)] F T.fn200 ha hl
    (fun k hk G' hG' => c200 G' b3 b2 b1 h _ k a' c' l' (F k) hgh (ha'.up hG') (by omega) (by omega) (hG' _ _ hb1) (hG' _ _ hb2) (hh k hk G' (Imm.le_trans hG hG')))) (tags_of ⟨rfl, trivial⟩) (fun v1 G3 Ho1 hle1 hp => ?_)
  obtain ⟨s, r, d, rfl, hA, hd, hB, rfl⟩ := hp
  refine Wl.ga 5 [] ?_
  refine Ar.out2 (.inr rfl) (Ho := []) rfl (.tmp rfl) (.tmp rfl) trivial ?_
  exact ⟨s, r, d, rfl, hA, hd, hB, rfl⟩
theorem c120 (G : Imm) (a a' : Option Addr) (c c' : Nat) (l l' : List IV) (xs ys : List Int) (m : Nat) (ha : Arr G a l) (ha' : Arr G a' l') (hb : Bigs G l xs) (hb' : Bigs G l' ys) (hm : Below m xs) (hm' : Below m ys) (hmm : m ≤ 268435456) (hlen : l.length = l'.length) (hl : l.length ≤ 1048576) :
    Does Tryz.prog 120 [.slice a l.length c, .slice a' l'.length c'] G [] (fun v G' Ho => ∃ (s : Option Addr) (r : List IV) (d : Nat), v = .tuple #[.slice s r.length d, .int .i64 0] ∧ Arr G' s r ∧ r.length ≤ d ∧ Bigs G' r (List.zipWith (· + ·) xs ys) ∧ Ho = []) := by
  have h181 := c181 G 101 a a' c c' l l' (fun k => xs[k]?.getD 0 + ys[k]?.getD 0) T.fn101 ha ha' hlen hl (fun k hk G' hG => by
    have h1 := bigs_n hb hm hk
    have h2 := bigs_n hb' hm' (show k < l'.length by omega)
    exact c101 G' _ _ _ _ ((hb.2 k hk).up hG) ((hb'.2 k (by omega)).up hG) (by rw [Int.toNat_natCast]; omega) (by rw [Int.toNat_natCast]; omega))
  rw [hb.1, upP_zip xs ys (· + ·) (by rw [← hb.1, ← hb'.1, hlen]), ← hb.1] at h181
  refine Does.enter Tryz.func120 rfl Tryz.ntmps120 rfl (fun w => ?_)
  refine Wc.gl 10 [] ?_
  refine Wl.call 0 rfl T.fn181 rfl (h181) (tags_of trivial) (fun v1 G1 Ho1 hle1 hp => ?_)
  obtain ⟨s1, r1, d1, rfl, hA1, hl81, hB1, rfl⟩ := hp
  replace ha := ha.up hle1
  replace ha' := ha'.up hle1
  replace hb := hb.up hle1
  replace hb' := hb'.up hle1
  refine Wl.ga 7 [] ?_
  refine Ar.out2 (.inr rfl) (Ho := []) rfl (.tmp rfl) (.tmp rfl) trivial ?_
  exact ⟨_, _, _, rfl, hA1, hl81, hB1, rfl⟩
theorem c122 (G : Imm) (a a' : Option Addr) (c c' : Nat) (l l' : List IV) (xs ys : List Int) (m : Nat) (ha : Arr G a l) (ha' : Arr G a' l') (hb : Bigs G l xs) (hb' : Bigs G l' ys) (hm : Below m xs) (hm' : Below m ys) (hmm : m ≤ 268435456) (hlen : l.length = l'.length) (hl : l.length ≤ 1048576) :
    Does Tryz.prog 122 [.slice a l.length c, .slice a' l'.length c'] G [] (fun v G' Ho => ∃ (s : Option Addr) (r : List IV) (d : Nat), v = .tuple #[.slice s r.length d, .int .i64 0] ∧ Arr G' s r ∧ r.length ≤ d ∧ Bigs G' r (List.zipWith (· - ·) xs ys) ∧ Ho = []) := by
  have h181 := c181 G 102 a a' c c' l l' (fun k => xs[k]?.getD 0 - ys[k]?.getD 0) T.fn102 ha ha' hlen hl (fun k hk G' hG => by
    have h1 := bigs_n hb hm hk
    have h2 := bigs_n hb' hm' (show k < l'.length by omega)
    exact c102 G' _ _ _ _ ((hb.2 k hk).up hG) ((hb'.2 k (by omega)).up hG) (by rw [Int.toNat_natCast]; omega) (by rw [Int.toNat_natCast]; omega))
  rw [hb.1, upP_zip xs ys (· - ·) (by rw [← hb.1, ← hb'.1, hlen]), ← hb.1] at h181
  refine Does.enter Tryz.func122 rfl Tryz.ntmps122 rfl (fun w => ?_)
  refine Wc.gl 10 [] ?_
  refine Wl.call 0 rfl T.fn181 rfl (h181) (tags_of trivial) (fun v1 G1 Ho1 hle1 hp => ?_)
  obtain ⟨s1, r1, d1, rfl, hA1, hl81, hB1, rfl⟩ := hp
  replace ha := ha.up hle1
  replace ha' := ha'.up hle1
  replace hb := hb.up hle1
  replace hb' := hb'.up hle1
  refine Wl.ga 7 [] ?_
  refine Ar.out2 (.inr rfl) (Ho := []) rfl (.tmp rfl) (.tmp rfl) trivial ?_
  exact ⟨_, _, _, rfl, hA1, hl81, hB1, rfl⟩
theorem c123 (G : Imm) (a : Option Addr) (c : Nat) (l : List IV) (xs : List Int) (y : IV) (z : Int) (m : Nat) (ha : Arr G a l) (hb : Bigs G l xs) (hm : Below m xs) (hmm : m ≤ 268435456) (hl : l.length ≤ 1048576) (hy : Big G y z) (hyn : y.n ≤ 268435456) :
    Does Tryz.prog 123 [.slice a l.length c, .agg (Cells.enc y).toArray] G [] (fun v G' Ho => RowPost G' v (xs.map fun x => z * x) ∧ Ho = []) := by
  have hf : ∀ k : Nat, k < l.length → ∀ G', G.le G' → Does Tryz.prog 103 ([.agg (Cells.enc y).toArray] ++ [.agg (Cells.enc (l[((k : Nat) : Int).toNat]?.getD default)).toArray] ++ []) G' [] (fun v G'' Ho => ∃ r : IV, v = .agg (Cells.enc r).toArray ∧ Big G'' r (z * xs[k]?.getD 0) ∧ Ho = []) := fun k hk G' hG => by
    have h1 := bigs_n hb hm hk
    exact c103 G' _ _ _ _ (hy.up hG) ((hb.2 k hk).up hG) (by omega) (by rw [Int.toNat_natCast]; omega)
  have h180 := c180P G a c l 103 [.agg (Cells.enc y).toArray] (fun k => z * xs[k]?.getD 0) T.fn103 ha hl hf
  rw [hb.1, upP_map xs (fun x => z * x), ← hb.1] at h180
  refine Does.enter Tryz.func123 rfl Tryz.ntmps123 rfl (fun w => ?_)
  refine Wc.gl 2 [] ?_
  refine Wl.box 0 rfl rfl rfl (fun b1 => ?_)
  refine Wl.gl 7 [0] ?_
  refine Wl.q rfl (Qy.makeFunc rfl rfl) ?_
  refine Wl.call 1 rfl T.fn180 rfl (h180) (tags_of trivial) (fun v1 G1 Ho1 hle1 hp => ?_)
  obtain ⟨s1, r1, d1, rfl, hA1, hl81, hB1, rfl⟩ := hp
  replace ha := ha.up hle1
  replace hb := hb.up hle1
  replace hy := hy.up hle1
  refine Wl.ga 4 [] ?_
  refine Ar.out1 (.inr rfl) (Ho := []) rfl (.tmp rfl) trivial ?_
  exact ⟨⟨_, _, _, rfl, hA1, hl81, hB1⟩, rfl⟩
theorem upP_div (xs : List Int) (z : Int) : upP (fun k => xs[k]?.getD 0 / z) xs.length = xs.map (· / z) := upP_map xs (· / z)
theorem c125 (G : Imm) (a : Option Addr) (c : Nat) (l : List IV) (xs : List Int) (y : IV) (z : Int) (m : Nat) (ha : Arr G a l) (hb : Bigs G l xs) (hm : Below m xs) (hmm : m ≤ 268435456) (hl : l.length ≤ 1048576) (hy : Big G y z) (hyn : y.n ≤ 268435456) (hy0 : z ≠ 0) :
    Does Tryz.prog 125 [.slice a l.length c, .agg (Cells.enc y).toArray] G [] (fun v G' Ho => ((∀ i : Nat, i < xs.length → xs[i]?.getD 0 % z = 0) → ∃ (s : Option Addr) (r : List IV) (d : Nat), v = .tuple #[.slice s r.length d, .int .i64 0] ∧ Arr G' s r ∧ r.length ≤ d ∧ Bigs G' r (xs.map (· / z))) ∧
      (¬ (∀ i : Nat, i < xs.length → xs[i]?.getD 0 % z = 0) → v = .tuple #[.slice none 0 0, .int .i64 20]) ∧ Ho = []) := by
  have hxl := hb.1
  refine Does.enter Tryz.func125 rfl Tryz.ntmps125 rfl (fun w => ?_)
  refine Wc.nilRow 9 (Row 104 ([] : List IV) []) ?_
  have hz0 : ¬ sgZ z = 0 := fun h => hy0 (sgZ_zero.1 h)
  refine Wc.gl 2 [] ?_
  refine Wl.box 10 rfl rfl rfl (fun b1 => ?_)
  refine Wl.gl 8 [10] ?_
  refine Wl.call0 rfl T.fn106 rfl (big_sign _ y z hy (Nat.le_trans hyn (by decide))) ?_
  refine Wl.gc 20 [0] ?_
  refine Wc.loopG (ι := Nat × Imm × List IV × (Option Addr × Nat × List Value)) (fun (k, Gx, r, (o, d, j)) => ([(17, .int .i64 (k : Int)), (6, .slice o r.length d), (16, Go.Value.int Go.IntKind.i64 (↑(List.length l) : Int)), (15, Go.Value.slice a (List.length l) c), (3, Go.Value.pointer (Option.some (Go.Addr.mk b1 0 Option.none)))], [(9, o.map (·.block), Row 104 r j), (10, Option.some b1, Go.Obj.cells (List.toArray (Go.Sl.Cells.enc y)) 104)])) (fun (k, Gx, r, (o, d, j)) => Gx) (fun (k, Gx, r, (o, d, j)) => k ≤ l.length ∧ G.le Gx ∧ r.length = k ∧ Bigs Gx r (upP (fun k => xs[k]?.getD 0 / z) k) ∧ OwnA o d r j ∧ (∀ i : Nat, i < k → xs[i]?.getD 0 % z = 0)) (fun (k, Gx, r, (o, d, j)) => l.length - k) ((0, G, [], (none, 0, []))) (⟨Nat.zero_le _, Imm.le_refl _, rfl, ⟨rfl, fun i h => absurd h (by simp)⟩, OwnA.nil, fun i h => absurd h (by omega)⟩) rfl ⟨rfl, rfl, rfl, rfl, rfl, trivial⟩ ⟨rfl, rfl, trivial⟩ (fun ⟨k, Gx, r, (o, d, j)⟩ => fun (hk : k ≤ l.length ∧ G.le Gx ∧ r.length = k ∧ Bigs Gx r (upP (fun k => xs[k]?.getD 0 / z) k) ∧ OwnA o d r j ∧ (∀ i : Nat, i < k → xs[i]?.getD 0 % z = 0)) => ?_)
  obtain ⟨hk1, hk2, hk3, hk4, hk5, hk6⟩ := hk
  replace ha := ha.up hk2
  replace hb := hb.up hk2
  replace hy := hy.up hk2
  rcases Nat.lt_or_ge k l.length with hkl | hkl
  · have hx := hb.2 k hkl
    have hxn : (l[((k : Nat) : Int).toNat]?.getD default).n ≤ 268435456 := by rw [Int.toNat_natCast]; exact Nat.le_trans (bigs_n hb hm hkl) hmm
    have hx : Big Gx (l[((k : Nat) : Int).toNat]?.getD default) (xs[k]?.getD 0) := by rw [Int.toNat_natCast]; exact hx
    have hlt : ((xs[k]?.getD 0 % z).natAbs : Int) < pb y.n := by
      have e2 := emod_small (x := xs[k]?.getD 0) hy0
      have e3 := Big.lt hy
      omega
    refine Wc.gl 13 [1] ?_
    refine Wl.q rfl (Qy.at (α := IV) T.sl44 rfl rfl (by assumption) (by omega)) ?_
    refine Wl.q rfl (Qy.loadsG T.agg104 rfl (Arr.elem (by assumption) (by omega)) rfl) ?_
    refine Wl.alloc 11 rfl T.zero104 (fun b2 => ?_)
    refine Wl.gl 7 [11, 11, 10] ?_
    refine Wl.call 12 rfl T.fn105 rfl (c105 _ _ _ _ _ hx hy hxn hyn hy0) (tags_of trivial) (fun v1 G1 Ho1 hle1 hp => ?_)
    obtain ⟨q1, r1, rfl, hq1, hr1, rfl⟩ := hp
    replace hk4 := hk4.up hle1
    replace ha := ha.up hle1
    replace hb := hb.up hle1
    replace hy := hy.up hle1
    replace hx := hx.up hle1
    refine Wl.ll0 4 [] ?_
    refine Wl.alloc 12 rfl T.zero104 (fun b3 => ?_)
    refine Wl.alloc 13 rfl T.zero104 (fun b4 => ?_)
    refine Wl.gl 9 [12, 13, 13] ?_
    refine Wl.call0 rfl T.fn106 rfl (big_sign _ r1 (xs[k]?.getD 0 % z) hr1 (Nat.le_trans (Big.len hr1 hlt) (Nat.le_trans hyn (by decide)))) ?_
    refine Wl.gc 3 [] ?_
    refine Wc.cond rfl (fun hc1 => ?_) (fun hc1 => ?_)
    refine Wc.ga 13 [] ?_
    rotate_left
    refine Wc.gl 5 [12] ?_
    refine Wl.lit (α := IV) 14 [(q1)] rfl T.sl44 T.el104 rfl rfl rfl rfl rfl (fun b5 => ?_)
    refine Wl.append (α := IV) 9 rfl T.sl44 T.el104 rfl rfl rfl (by first | assumption | exact OwnA.nil | exact OwnA.made (by simp)) (Src.row 14 rfl) (by first | omega | (simp only [List.length_append, List.length_cons, List.length_nil, maxLen]; omega)) (by first | omega | (simp only [List.length_append, List.length_cons, List.length_nil, maxLen]; omega)) (fun a1 c1 junk1 ho1 => ?_)
    refine Wl.ga 8 [] ?_
    rotate_left
    · refine Ar.out2 (.inr rfl) (Ho := []) rfl (.tmp rfl) (.tmp rfl) trivial ?_
      have hno : ¬ (∀ i : Nat, i < xs.length → xs[i]?.getD 0 % z = 0) := fun h => hc1 (sgZ_zero.2 (h k (by omega)))
      exact ⟨fun h => absurd h hno, fun _ => rfl, rfl⟩
    · have hdz : xs[k]?.getD 0 % z = 0 := sgZ_zero.1 (Classical.byContradiction fun h => hc1 h)
      refine Ar.re 17 rfl (show _ = Value.int .i64 ((k + 1 : Nat) : Int) from rfl) ?_
      refine Ar.again ((k + 1, _, r ++ [q1], (a1, c1, junk1))) ?_ ?_ rfl ⟨rfl, rfl, rfl, rfl, rfl, trivial⟩ ⟨rfl, rfl, trivial⟩
      · refine ⟨hkl, Imm.le_trans hk2 hle1, by rw [List.length_append, hk3]; rfl, ?_, ho1, fun i hi => ?_⟩
        · rw [upP_succ]; exact bigs_snoc hk4 hq1
        · rcases Nat.lt_or_ge i k with h | h
          · exact hk6 i h
          · have e : i = k := by omega
            rw [e]; exact hdz
      · show l.length - (k + 1) < l.length - k
        omega
  · have hkl : k = l.length := by omega
    subst hkl
    refine Wc.ga 20 [0] ?_
    refine Ar.freezeRow 9 rfl hk5 (fun G8 hle8 hA8 => ?_)
    refine Ar.out2 (.inr rfl) (Ho := []) rfl (.tmp rfl) (.tmp rfl) trivial ?_
    rw [hxl] at hk6
    refine ⟨fun _ => ⟨o, r, d, rfl, hA8, hk5.le, ?_⟩, fun h => absurd hk6 h, rfl⟩
    rw [← upP_div, ← hxl]; exact hk4.up hle8
theorem c119 (G : Imm) (a a' : Option Addr) (c c' : Nat) (l l' : List IV) (xs ys : List Int) (m : Nat) (ha : Arr G a l) (ha' : Arr G a' l') (hb : Bigs G l xs) (hb' : Bigs G l' ys) (hm : Below m xs) (hm' : Below m ys) (hmm : m ≤ 268435456) (hlen : l.length = l'.length) (hl : l.length ≤ 1048576) :
    Does Tryz.prog 119 [.slice a l.length c, .slice a' l'.length c'] G [] (fun v G' Ho => RowPost G' v (List.zipWith (· + ·) xs ys) ∧ Ho = []) := by
  refine Does.enter Tryz.func119 rfl Tryz.ntmps119 rfl (fun w => ?_)
  refine Wc.gl 9 [] ?_
  refine Wl.call 0 rfl T.fn120 rfl (c120 _ a a' c c' l l' xs ys m ha ha' hb hb' hm hm' hmm hlen hl) (tags_of trivial) (fun v1 G1 Ho1 hle1 hp => ?_)
  obtain ⟨s1, r1, d1, rfl, hA1, hl81, hB1, rfl⟩ := hp
  replace ha := ha.up hle1
  replace ha' := ha'.up hle1
  replace hb := hb.up hle1
  replace hb' := hb'.up hle1
  refine Wl.ga 14 [] ?_
  refine Ar.out1 (.inr rfl) (Ho := []) rfl (.tmp rfl) trivial ?_
  exact ⟨⟨_, _, _, rfl, hA1, hl81, hB1⟩, rfl⟩
theorem c121 (G : Imm) (a a' : Option Addr) (c c' : Nat) (l l' : List IV) (xs ys : List Int) (m : Nat) (ha : Arr G a l) (ha' : Arr G a' l') (hb : Bigs G l xs) (hb' : Bigs G l' ys) (hm : Below m xs) (hm' : Below m ys) (hmm : m ≤ 268435456) (hlen : l.length = l'.length) (hl : l.length ≤ 1048576) :
    Does Tryz.prog 121 [.slice a l.length c, .slice a' l'.length c'] G [] (fun v G' Ho => RowPost G' v (List.zipWith (· - ·) xs ys) ∧ Ho = []) := by
  refine Does.enter Tryz.func121 rfl Tryz.ntmps121 rfl (fun w => ?_)
  refine Wc.gl 9 [] ?_
  refine Wl.call 0 rfl T.fn122 rfl (c122 _ a a' c c' l l' xs ys m ha ha' hb hb' hm hm' hmm hlen hl) (tags_of trivial) (fun v1 G1 Ho1 hle1 hp => ?_)
  obtain ⟨s1, r1, d1, rfl, hA1, hl81, hB1, rfl⟩ := hp
  replace ha := ha.up hle1
  replace ha' := ha'.up hle1
  replace hb := hb.up hle1
  replace hb' := hb'.up hle1
  refine Wl.ga 14 [] ?_
  refine Ar.out1 (.inr rfl) (Ho := []) rfl (.tmp rfl) trivial ?_
  exact ⟨⟨_, _, _, rfl, hA1, hl81, hB1⟩, rfl⟩
/-- rows divided: a row, and whether it is one -/
theorem c124 (G : Imm) (a : Option Addr) (c : Nat) (l : List IV) (xs : List Int) (y : IV) (z : Int) (m : Nat) (ha : Arr G a l) (hb : Bigs G l xs) (hm : Below m xs) (hmm : m ≤ 268435456) (hl : l.length ≤ 1048576) (hy : Big G y z) (hyn : y.n ≤ 268435456) (hy0 : z ≠ 0) :
    Does Tryz.prog 124 [.slice a l.length c, .agg (Cells.enc y).toArray] G [] (fun v G' Ho => ((∀ i : Nat, i < xs.length → xs[i]?.getD 0 % z = 0) → ∃ (s : Option Addr) (r : List IV) (d : Nat), v = .tuple #[.slice s r.length d, .bool true] ∧ Arr G' s r ∧ r.length ≤ d ∧ Bigs G' r (xs.map (· / z))) ∧
      (¬ (∀ i : Nat, i < xs.length → xs[i]?.getD 0 % z = 0) → v = .tuple #[.slice none 0 0, .bool false]) ∧ Ho = []) := by
  have h := c125 G a c l xs y z m ha hb hm hmm hl hy hyn hy0
  by_cases hd : ∀ i : Nat, i < xs.length → xs[i]?.getD 0 % z = 0
  · have h1 := h.mono fun v G' Ho _ ⟨p1, p2, p3⟩ => (⟨p1 hd, p3⟩ : (∃ (s : Option Addr) (r : List IV) (d : Nat), v = Value.tuple #[.slice s r.length d, .int .i64 0] ∧ Arr G' s r ∧ r.length ≤ d ∧ Bigs G' r (xs.map (· / z))) ∧ Ho = [])
    refine Does.enter Tryz.func124 rfl Tryz.ntmps124 rfl (fun w => ?_)
    refine Wc.gl 2 [] ?_
    refine Wl.box 0 rfl rfl rfl (fun b1 => ?_)
    refine Wl.gl 8 [0] ?_
    refine Wl.call 1 rfl T.fn125 rfl (h1) (tags_of trivial) (fun v1 G1 Ho1 hle1 hp => ?_)
    obtain ⟨⟨s1, r1, d1, rfl, hA1, hl81, hB1⟩, rfl⟩ := hp
    replace ha := ha.up hle1
    replace hb := hb.up hle1
    replace hy := hy.up hle1
    refine Wl.ga 17 [] ?_
    refine Ar.out2 (.inr rfl) (Ho := []) rfl (.tmp rfl) (.tmp rfl) trivial ?_
    exact ⟨fun _ => ⟨_, _, _, rfl, hA1, hl81, hB1⟩, fun h => absurd hd h, rfl⟩
  · have h1 := h.mono fun v G' Ho _ ⟨p1, p2, p3⟩ => (⟨p2 hd, p3⟩ : v = Value.tuple #[.slice none 0 0, .int .i64 20] ∧ Ho = [])
    refine Does.enter Tryz.func124 rfl Tryz.ntmps124 rfl (fun w => ?_)
    refine Wc.gl 2 [] ?_
    refine Wl.box 0 rfl rfl rfl (fun b1 => ?_)
    refine Wl.gl 8 [0] ?_
    refine Wl.call 1 rfl T.fn125 rfl (h1) (tags_of trivial) (fun v1 G1 Ho1 hle1 hp => ?_)
    obtain ⟨rfl, rfl⟩ := hp
    replace ha := ha.up hle1
    replace hb := hb.up hle1
    replace hy := hy.up hle1
    refine Wl.ga 17 [] ?_
    refine Ar.out2 (.inr rfl) (Ho := []) rfl (.tmp rfl) (.tmp rfl) trivial ?_
    exact ⟨fun h => absurd h hd, fun _ => rfl, rfl⟩
def waysR : Value := .agg #[.func (.func 118) #[] #[], .func (.func 119) #[] #[], .func (.func 121) #[] #[], .func (.func 123) #[] #[], .func (.func 124) #[] #[]]
theorem c69 (G : Imm) : Does Tryz.prog 69 [] G [] (fun v G' Ho => v = waysR ∧ G' = G ∧ Ho = []) := by
  refine Does.enter Tryz.func69 rfl Tryz.ntmps69 rfl (fun w => ?_)
  refine Wc.gl 2 [] ?_
  refine Wl.alloc 0 rfl T.zero131 (fun b1 => ?_)
  refine Wl.gl 4 [] ?_
  refine Wl.q rfl (Qy.build (cs := [_, _, _, _, _]) T.st131 rfl rfl rfl) ?_
  refine Wl.ga 4 [0] ?_
  refine Ar.out1 (.inr rfl) (Ho := []) rfl (.agg 0 rfl rfl T.agg131) trivial ?_
  exact ⟨rfl, rfl, rfl⟩
end Go.Proofs.YtbppmiimeccclaaGreat
namespace Go.Proofs.YtbppmiimeccclaaGreat
open Go Go.Sl
set_option maxRecDepth 100000
instance : DecidableEq PV := fun a b => by
  cases a; cases b; simp only [PV.mk.injEq]; infer_instance
theorem take_eq_step {α : Type} [Inhabited α] {l m : List α} {k : Nat} (hl : k < l.length) (hm : k < m.length) (h : l.take k = m.take k)
    (he : l[((k : Nat) : Int).toNat]?.getD default = m[((k : Nat) : Int).toNat]?.getD default) : l.take (k + 1) = m.take (k + 1) := by
  rw [Int.toNat_natCast, List.getElem?_eq_getElem hl, List.getElem?_eq_getElem hm] at he
  rw [List.take_add_one, List.take_add_one, h, List.getElem?_eq_getElem hl, List.getElem?_eq_getElem hm]
  simp only [Option.getD_some] at he
  rw [he]
theorem c45 (G : Imm) (p q : PV) (ac ao bc bo : Option Addr) (cc co dc do_ : Nat) (hc : Arr G ac p.code) (ho : Arr G ao p.outs) (hc' : Arr G bc q.code) (ho' : Arr G bo q.outs) (h1 : p.code.length ≤ 1099511627776) (h2 : p.outs.length ≤ 1099511627776) :
    Does Tryz.prog 45 [.agg #[.int .i64 p.ins, .int .i64 p.regs, .slice ac p.code.length cc, .slice ao p.outs.length co], .agg #[.int .i64 q.ins, .int .i64 q.regs, .slice bc q.code.length dc, .slice bo q.outs.length do_]] G []
      (fun v G' Ho => v = .bool (decide (p = q)) ∧ G' = G ∧ Ho = []) := by
  refine Does.enter Tryz.func45 rfl Tryz.ntmps45 rfl (fun w => ?_)
  refine Wc.gl 2 [] ?_
  refine Wl.box 0 rfl rfl rfl (fun b1 => ?_)
  refine Wl.box 1 rfl rfl rfl (fun b2 => ?_)
  refine Wl.gl 12 [0, 1] ?_
  apply Wl.joinOr 6 12 18 rfl
  intro hg1
  refine Wl.ll0 11 [0, 1] ?_
  exact Wl.back 6 0 rfl rfl rfl rfl rfl
  intro hg1
  refine Wl.ll0 6 [] ?_
  exact Wl.back 6 0 rfl rfl rfl rfl rfl
  refine Wl.q rfl (Qy.move rfl) ?_
  apply Wl.joinOr 8 19 27 rfl
  intro hg1
  refine Wl.ll0 15 [0, 1] ?_
  exact Wl.back 8 0 rfl rfl rfl rfl rfl
  intro hg1
  refine Wl.ll0 8 [] ?_
  exact Wl.back 8 0 rfl rfl rfl rfl rfl
  refine Wl.q rfl (Qy.move rfl) ?_
  apply Wl.joinOr 8 28 36 rfl
  intro hg1
  refine Wl.ll0 15 [0, 1] ?_
  exact Wl.back 8 0 rfl rfl rfl rfl rfl
  intro hg1
  refine Wl.ll0 8 [] ?_
  exact Wl.back 8 0 rfl rfl rfl rfl rfl
  refine Wl.gc 2 [] ?_
  refine Wc.cond rfl (fun hc1 => ?_) (fun hc1 => ?_)
  refine Wc.ga 7 [] ?_
  refine Ar.out1 (.inr rfl) (Ho := Hp.only _ []) rfl (.tmp rfl) (Hp.sub_only _ _) ?_
  rotate_left
  refine Wc.gc 9 [] ?_
  rotate_left
  · refine ⟨?_, rfl, rfl⟩
    have : p ≠ q := by rintro rfl; omega
    simp [this]
  · simp only [not_or, ne_eq, Decidable.not_not] at hc1
    obtain ⟨⟨⟨e1, e2⟩, e3⟩, e4⟩ := hc1
    refine Wc.loop (ι := Nat) (fun k => ([(5, .int .i64 (k : Int)), (3, Go.Value.pointer (Option.some (Go.Addr.mk b2 0 Option.none))), (2, Go.Value.pointer (Option.some (Go.Addr.mk b1 0 Option.none)))], [(1, Option.some b2, Go.Obj.cells #[Go.Value.int Go.IntKind.i64 (Go.Proofs.YtbppmiimeccclaaGreat.PV.ins q), Go.Value.int Go.IntKind.i64 (Go.Proofs.YtbppmiimeccclaaGreat.PV.regs q), Go.Value.slice bc (List.length (Go.Proofs.YtbppmiimeccclaaGreat.PV.code q)) dc, Go.Value.slice bo (List.length (Go.Proofs.YtbppmiimeccclaaGreat.PV.outs q)) do_] 25), (0, Option.some b1, Go.Obj.cells #[Go.Value.int Go.IntKind.i64 (Go.Proofs.YtbppmiimeccclaaGreat.PV.ins p), Go.Value.int Go.IntKind.i64 (Go.Proofs.YtbppmiimeccclaaGreat.PV.regs p), Go.Value.slice ac (List.length (Go.Proofs.YtbppmiimeccclaaGreat.PV.code p)) cc, Go.Value.slice ao (List.length (Go.Proofs.YtbppmiimeccclaaGreat.PV.outs p)) co] 25)])) (fun k => k ≤ p.code.length ∧ p.code.take k = q.code.take k) (fun k => p.code.length - k) (0) (⟨Nat.zero_le _, rfl⟩) ⟨rfl, rfl, rfl, trivial⟩ ⟨rfl, rfl, trivial⟩ (fun k => fun (hk : k ≤ p.code.length ∧ p.code.take k = q.code.take k) => ?_)
    obtain ⟨hk1, hk2⟩ := hk
    refine Wc.gc 10 [0] ?_
    refine Wc.cond rfl (fun hc1 => ?_) (fun hc1 => ?_)
    refine Wc.gc 5 [] ?_
    refine Wc.draw [0, 1] [] T.mixed rfl ?_
    refine Gm.q 0 [] (by kernel_rfl) rfl rfl (Qy.fieldAddr T.fa25_2 rfl) ?_
    refine Gm.q 1 [0] (by kernel_rfl) rfl rfl (Qy.load 0 T.one22 rfl rfl rfl) ?_
    refine Gm.q 2 [] (by kernel_rfl) rfl rfl (Qy.move rfl) ?_
    refine Gm.q 3 [] (by kernel_rfl) rfl rfl (Qy.at (α := Instr) T.sl22 rfl rfl (by assumption) (by omega)) ?_
    refine Gm.q 4 [] (by kernel_rfl) rfl rfl (Qy.loadsG T.agg93 rfl (Arr.elem (by assumption) (by omega)) rfl) ?_
    refine Gm.q 5 [] (by kernel_rfl) rfl rfl (Qy.fieldAddr T.fa25_2 rfl) ?_
    refine Gm.q 6 [1] (by kernel_rfl) rfl rfl (Qy.load 1 T.one22 rfl rfl rfl) ?_
    refine Gm.q 7 [] (by kernel_rfl) rfl rfl (Qy.move rfl) ?_
    refine Gm.q 8 [] (by kernel_rfl) rfl rfl (Qy.at (α := Instr) T.sl22 rfl rfl (by assumption) (by omega)) ?_
    refine Gm.q 9 [] (by kernel_rfl) rfl rfl (Qy.loadsG T.agg93 rfl (Arr.elem (by assumption) (by omega)) rfl) ?_
    refine Gm.q 10 [] (by kernel_rfl) rfl rfl (Qy.neqInstr T.ai93 rfl rfl) ?_
    refine Gm.doneA (by kernel_rfl) ⟨rfl, rfl, trivial⟩ (by first | exact Imm.le_refl _ | assumption | (refine Imm.le_trans ?_ (by assumption); first | assumption | (refine Imm.le_trans ?_ (by assumption); assumption))) ?_
    refine Ar.next ?_
    refine Wc.cond rfl (fun hc2 => ?_) (fun hc2 => ?_)
    refine Wc.ga 11 [] ?_
    refine Ar.out1 (.inr rfl) (Ho := Hp.only _ []) rfl (.tmp rfl) (Hp.sub_only _ _) ?_
    rotate_left
    refine Wc.ga 8 [] ?_
    rotate_left
    refine Wc.gc 12 [] ?_
    rotate_left
    · refine ⟨?_, rfl, rfl⟩
      have : p ≠ q := by rintro rfl; exact hc2 rfl
      simp [this]
    · refine Ar.again (k + 1) ?_ ?_ rfl ⟨rfl, rfl, rfl, trivial⟩ ⟨rfl, rfl, trivial⟩
      · exact ⟨by omega, take_eq_step (by omega) (by omega) hk2 (Decidable.not_not.1 hc2)⟩
      · omega
    · have hcode : p.code = q.code := by
        have : k = p.code.length := by omega
        subst this
        rw [List.take_length, List.take_of_length_le (by omega)] at hk2
        exact hk2
      clear hk1 hk2 hc1
      refine Wc.loop (ι := Nat) (fun k => ([(6, .int .i64 (k : Int)), (3, Go.Value.pointer (Option.some (Go.Addr.mk b2 0 Option.none))), (2, Go.Value.pointer (Option.some (Go.Addr.mk b1 0 Option.none)))], [(1, Option.some b2, Go.Obj.cells #[Go.Value.int Go.IntKind.i64 (Go.Proofs.YtbppmiimeccclaaGreat.PV.ins q), Go.Value.int Go.IntKind.i64 (Go.Proofs.YtbppmiimeccclaaGreat.PV.regs q), Go.Value.slice bc (List.length (Go.Proofs.YtbppmiimeccclaaGreat.PV.code q)) dc, Go.Value.slice bo (List.length (Go.Proofs.YtbppmiimeccclaaGreat.PV.outs q)) do_] 25), (0, Option.some b1, Go.Obj.cells #[Go.Value.int Go.IntKind.i64 (Go.Proofs.YtbppmiimeccclaaGreat.PV.ins p), Go.Value.int Go.IntKind.i64 (Go.Proofs.YtbppmiimeccclaaGreat.PV.regs p), Go.Value.slice ac (List.length (Go.Proofs.YtbppmiimeccclaaGreat.PV.code p)) cc, Go.Value.slice ao (List.length (Go.Proofs.YtbppmiimeccclaaGreat.PV.outs p)) co] 25)])) (fun k => k ≤ p.outs.length ∧ p.outs.take k = q.outs.take k) (fun k => p.outs.length - k) (0) (⟨Nat.zero_le _, rfl⟩) ⟨rfl, rfl, rfl, trivial⟩ ⟨rfl, rfl, trivial⟩ (fun k => fun (hk : k ≤ p.outs.length ∧ p.outs.take k = q.outs.take k) => ?_)
      obtain ⟨hk1, hk2⟩ := hk
      refine Wc.gc 10 [0] ?_
      refine Wc.cond rfl (fun hc1 => ?_) (fun hc1 => ?_)
      refine Wc.gc 5 [] ?_
      refine Wc.draw [0, 1] [] T.mixed rfl ?_
      refine Gm.q 0 [] (by kernel_rfl) rfl rfl (Qy.fieldAddr T.fa25_3 rfl) ?_
      refine Gm.q 1 [0] (by kernel_rfl) rfl rfl (Qy.load 0 T.one23 rfl rfl rfl) ?_
      refine Gm.q 2 [] (by kernel_rfl) rfl rfl (Qy.move rfl) ?_
      refine Gm.q 3 [] (by kernel_rfl) rfl rfl (Qy.at (α := Int) T.sl23 rfl rfl (by assumption) (by omega)) ?_
      refine Gm.q 4 [0] (by kernel_rfl) rfl rfl (Qy.loadG T.one3 rfl (Arr.cell (by assumption) (by omega) 0 rfl rfl)) ?_
      refine Gm.q 5 [] (by kernel_rfl) rfl rfl (Qy.fieldAddr T.fa25_3 rfl) ?_
      refine Gm.q 6 [1] (by kernel_rfl) rfl rfl (Qy.load 1 T.one23 rfl rfl rfl) ?_
      refine Gm.q 7 [] (by kernel_rfl) rfl rfl (Qy.move rfl) ?_
      refine Gm.q 8 [] (by kernel_rfl) rfl rfl (Qy.at (α := Int) T.sl23 rfl rfl (by assumption) (by omega)) ?_
      refine Gm.q 9 [0] (by kernel_rfl) rfl rfl (Qy.loadG T.one3 rfl (Arr.cell (by assumption) (by omega) 0 rfl rfl)) ?_
      refine Gm.q 10 [] (by kernel_rfl) rfl rfl (Qy.neq rfl rfl) ?_
      refine Gm.doneA (by kernel_rfl) ⟨rfl, rfl, trivial⟩ (by first | exact Imm.le_refl _ | assumption | (refine Imm.le_trans ?_ (by assumption); first | assumption | (refine Imm.le_trans ?_ (by assumption); assumption))) ?_
      refine Ar.next ?_
      refine Wc.cond rfl (fun hc2 => ?_) (fun hc2 => ?_)
      refine Wc.ga 11 [] ?_
      refine Ar.out1 (.inr rfl) (Ho := Hp.only _ []) rfl (.tmp rfl) (Hp.sub_only _ _) ?_
      rotate_left
      refine Wc.ga 8 [] ?_
      rotate_left
      refine Wc.ga 11 [] ?_
      refine Ar.out1 (.inr rfl) (Ho := Hp.only _ []) rfl (.tmp rfl) (Hp.sub_only _ _) ?_
      rotate_left
      · refine ⟨?_, rfl, rfl⟩
        have : p ≠ q := by rintro rfl; exact hc2 rfl
        simp [this]
      · refine Ar.again (k + 1) ?_ ?_ rfl ⟨rfl, rfl, rfl, trivial⟩ ⟨rfl, rfl, trivial⟩
        · exact ⟨by omega, take_eq_step (by omega) (by omega) hk2 (Decidable.not_not.1 hc2)⟩
        · omega
      · refine ⟨?_, rfl, rfl⟩
        have houts : p.outs = q.outs := by
          have : k = p.outs.length := by omega
          subst this
          rw [List.take_length, List.take_of_length_le (by omega)] at hk2
          exact hk2
        have : p = q := by cases p; cases q; simp_all
        simp [this]
/-- the table: what registers hold, what is known, who was first, the next value -/
structure Tab where
  held : List Int
  known : List (K4 × Int)
  first : List (K4 × Int)
  next : Int
end Go.Proofs.YtbppmiimeccclaaGreat
namespace Go.Proofs.YtbppmiimeccclaaGreat
open Go Go.Sl
set_option maxRecDepth 100000
set_option maxHeartbeats 2000000
theorem right_facts {p : PV} (h : rightP p = true) : 1 ≤ p.ins ∧ p.ins ≤ p.regs ∧ p.regs ≤ 128 ∧ p.code.length ≤ 16384 ∧ 1 ≤ p.outs.length ∧ p.outs.length ≤ 128 ∧ (∀ r ∈ p.outs, 0 ≤ r ∧ r < p.regs) ∧ (∀ i ∈ p.code, mayOk i p.regs = true) := by
  unfold rightP checkP at h
  by_cases hh : headOk p = false
  · rw [if_pos hh] at h; cases h
  · rw [if_neg hh] at h
    have hb : badAt p = none := by
      cases hb : badAt p with
      | none => rfl
      | some k => rw [hb] at h; cases h
    have hh' : headOk p = true := by simpa using hh
    unfold headOk at hh'
    rw [Bool.and_eq_true, decide_eq_true_eq, List.all_eq_true] at hh'
    unfold badAt at hb
    rw [List.findIdx?_eq_none_iff] at hb
    obtain ⟨⟨g1, g2, g3, g4, g5, g6⟩, g7⟩ := hh'
    refine ⟨g1, g2, g3, g4, g5, g6, fun r hr => ?_, fun i hi => ?_⟩
    · have := g7 r hr; rw [decide_eq_true_eq] at this; exact this
    · simpa using hb i hi
section
variable {t : Tab} {out : List Sl.Instr} {n : Int} {i : Sl.Instr}
end
end Go.Proofs.YtbppmiimeccclaaGreat
namespace Go.Proofs.YtbppmiimeccclaaGreat
open Go Go.Sl
set_option linter.unusedVariables false
theorem get_mem {l : List Int} {r : Int} (h : 0 ≤ r ∧ r < l.length) : l[r.toNat]?.getD default ∈ l := by
  have hlt : r.toNat < l.length := by omega
  rw [List.getElem?_eq_getElem hlt]; exact List.getElem_mem hlt
end Go.Proofs.YtbppmiimeccclaaGreat
set_option linter.unusedVariables false
namespace Go.Proofs.YtbppmiimeccclaaGreat
open Go Go.Sl
def AllDiv (y : Int) (xs : List Int) : Prop := ∀ i : Nat, i < xs.length → xs[i]?.getD 0 % y = 0
instance (y : Int) (xs : List Int) : Decidable (AllDiv y xs) := by unfold AllDiv; infer_instance
/-- one instruction over all columns -/
def doI (i : Sl.Instr) (rs : List (List Int)) : Option (List Int) :=
  let a := rs[i.a.toNat]?.getD []
  if i.op = 2 then some (a.map (fun x => -1 * x))
  else if i.op = 3 then some (List.zipWith (fun x y => x + 1 * y) a (rs[i.b.toNat]?.getD []))
  else if i.op = 4 then some (List.zipWith (fun x y => x + (-1) * y) a (rs[i.b.toNat]?.getD []))
  else if i.op = 5 ∨ i.op = 7 then some (a.map (fun x => cst i * x))
  else if i.op = 6 ∨ i.op = 8 then (if AllDiv (cst i) a then some (a.map (· / cst i)) else none)
  else some a
/-- the registers at first -/
def regs0 (p : PV) (gs : List (List Int)) : List (List Int) := (List.range p.regs.toNat).map fun k => if k < gs.length then gs[k]?.getD [] else List.replicate (gs[0]?.getD []).length 0
/-- the registers after k instructions -/
def runTo (p : PV) (gs : List (List Int)) : Nat → Option (List (List Int))
  | 0 => some (regs0 p gs)
  | k + 1 => (runTo p gs k).bind fun rs => (doI (p.code[((k : Nat) : Int).toNat]?.getD default) rs).map fun x => rs.set (p.code[((k : Nat) : Int).toNat]?.getD default).to.toNat x
/-- the answers' rows -/
def outsOf (p : PV) (rs : List (List Int)) : List (List Int) := p.outs.map fun r => rs[r.toNat]?.getD []
def followP (p : PV) (gs : List (List Int)) : Option (List (List Int)) := (runTo p gs p.code.length).map (outsOf p)
theorem runTo_succ {p : PV} {gs : List (List Int)} {k : Nat} {rs x : List (List Int)} {y : List Int} (h : runTo p gs k = some rs) (hd : doI (p.code[((k : Nat) : Int).toNat]?.getD default) rs = some y) :
    runTo p gs (k + 1) = some (rs.set (p.code[((k : Nat) : Int).toNat]?.getD default).to.toNat y) := by
  unfold runTo; rw [h]; simp only [Option.bind_some, hd, Option.map_some]
theorem runTo_none {p : PV} {gs : List (List Int)} {k : Nat} (h : runTo p gs k = none) (j : Nat) : runTo p gs (k + j) = none := by
  induction j with
  | zero => exact h
  | succ j ih => rw [← Nat.add_assoc]; unfold runTo; rw [ih]; rfl
theorem runTo_stop {p : PV} {gs : List (List Int)} {k : Nat} {rs : List (List Int)} (h : runTo p gs k = some rs) (hd : doI (p.code[((k : Nat) : Int).toNat]?.getD default) rs = none) (hk : k < p.code.length) : followP p gs = none := by
  have h1 : runTo p gs (k + 1) = none := by unfold runTo; rw [h]; simp only [Option.bind_some, hd, Option.map_none]
  have h2 := runTo_none h1 (p.code.length - (k + 1))
  rw [show k + 1 + (p.code.length - (k + 1)) = p.code.length by omega] at h2
  unfold followP; rw [h2]; rfl
theorem p2_64_lt : ∀ c : Nat, c ≤ 64 → ((p2 c).natAbs : Int) < pw 5 := fun c hc => by
  have h1 := p2_le hc
  have h2 := p2_pos c
  have h3 : p2 64 < pw 5 := by unfold p2 pw; decide
  omega
theorem may_facts {i : Sl.Instr} {regs : Int} (h : mayOk i regs = true) : (1 ≤ i.op ∧ i.op ≤ 8) ∧ (0 ≤ i.to ∧ i.to < regs) ∧ (0 ≤ i.a ∧ i.a < regs) ∧ (i.op = 3 ∨ i.op = 4 → 0 ≤ i.b ∧ i.b < regs) ∧ constOk i.op i.c = true ∧
    (i.op ≠ 1 → i.op ≠ 2 → i.op ≠ 3 → i.op ≠ 4 → cst i ≠ 0 ∧ ((cst i).natAbs : Int) < pw 5) ∧ (i.op = 5 ∨ i.op = 6 → -9223372036854775808 ≤ i.c ∧ i.c ≤ 9223372036854775807) ∧ (¬ (i.op = 5 ∨ i.op = 6) → 0 ≤ i.c ∧ i.c ≤ 64) := by
  unfold mayOk at h
  rw [Bool.and_eq_true, Bool.and_eq_true, decide_eq_true_eq, List.all_eq_true] at h
  obtain ⟨⟨⟨g1, g2, g3, g4, g5⟩, g6⟩, g7⟩ := h
  have hA : ∀ r ∈ asks i, 0 ≤ r ∧ r < regs := fun r hr => by have := g7 r hr; rwa [decide_eq_true_eq] at this
  have ha : i.a ∈ asks i := by
    unfold asks
    split
    · exact List.mem_cons_self
    · rw [if_pos ⟨g1, g2⟩]; exact List.mem_cons_self
  have hc := g6
  unfold constOk at g6
  have k1 : i.op = 5 ∨ i.op = 6 → i.c ≠ 0 ∧ -512 ≤ i.c ∧ i.c ≤ 512 := fun h => by rw [if_pos h, decide_eq_true_eq] at g6; exact g6
  have k2 : ¬ (i.op = 5 ∨ i.op = 6) → (i.op = 7 ∨ i.op = 8 → 1 ≤ i.c ∧ i.c ≤ 64) ∧ (¬ (i.op = 7 ∨ i.op = 8) → i.c = 0) := fun h => by
    rw [if_neg h] at g6
    refine ⟨fun h2 => ?_, fun h2 => ?_⟩
    · rw [if_pos h2, decide_eq_true_eq] at g6; exact g6
    · rw [if_neg h2, decide_eq_true_eq] at g6; exact g6
  refine ⟨⟨g1, g2⟩, ⟨g3, g4⟩, hA _ ha, fun h34 => hA _ (by unfold asks; rw [if_pos h34]; exact List.mem_cons_of_mem _ List.mem_cons_self), hc, fun n1 n2 n3 n4 => ?_, fun h56 => by have := k1 h56; omega, fun h56 => ?_⟩
  · by_cases h56 : i.op = 5 ∨ i.op = 6
    · rw [cst_c h56]
      have := k1 h56
      have h3 : (65536 : Int) < pw 5 := by unfold pw; decide
      exact ⟨this.1, by omega⟩
    · rw [cst_p h56]
      have h2 := (k2 h56).1 (by omega)
      have := p2_pos i.c.toNat
      exact ⟨by omega, p2_64_lt _ (by omega)⟩
  · by_cases h78 : i.op = 7 ∨ i.op = 8
    · have := (k2 h56).1 h78; omega
    · have := (k2 h56).2 h78; omega
theorem regs0_len (p : PV) (gs : List (List Int)) : (regs0 p gs).length = p.regs.toNat := by unfold regs0; rw [List.length_map, List.length_range]
theorem regs0_at {p : PV} {gs : List (List Int)} {k : Nat} (hk : k < p.regs.toNat) : (regs0 p gs)[k]?.getD [] = if k < gs.length then gs[k]?.getD [] else List.replicate (gs[0]?.getD []).length 0 := by
  unfold regs0
  rw [List.getElem?_map, List.getElem?_range hk]; rfl
end Go.Proofs.YtbppmiimeccclaaGreat
set_option maxRecDepth 100000
set_option linter.unusedVariables false
namespace Go.Proofs.YtbppmiimeccclaaGreat
open Go Go.Sl
def near (a b : Int) : Prop := -16 ≤ a ∧ a ≤ 16 ∧ -16 ≤ b ∧ b ≤ 16
instance (a b : Int) : Decidable (near a b) := inferInstanceAs (Decidable (_ ∧ _))
theorem c30 (G : Imm) (a b : Int) : Does Tryz.prog 30 [.agg #[.int .i64 a, .int .i64 b]] G [] (fun v G' Ho => v = .bool (decide (near a b)) ∧ G' = G ∧ Ho = []) := by
  refine Does.enter Tryz.func30 rfl Tryz.ntmps30 rfl (fun w => ?_)
  refine Wc.gl 2 [] ?_
  refine Wl.box 0 rfl rfl rfl (fun b1 => ?_)
  refine Wl.gl 9 [0] ?_
  apply Wl.joinAnd 4 6 10 rfl
  intro hg1
  refine Wl.ll0 7 [0] ?_
  exact Wl.back 4 0 rfl rfl rfl rfl rfl
  intro hg1
  refine Wl.ll0 4 [] ?_
  exact Wl.back 4 0 rfl rfl rfl rfl rfl
  refine Wl.q rfl (Qy.move rfl) ?_
  apply Wl.joinAnd 4 11 15 rfl
  intro hg1
  refine Wl.ll0 7 [0] ?_
  exact Wl.back 4 0 rfl rfl rfl rfl rfl
  intro hg1
  refine Wl.ll0 4 [] ?_
  exact Wl.back 4 0 rfl rfl rfl rfl rfl
  refine Wl.q rfl (Qy.move rfl) ?_
  apply Wl.joinAnd 4 16 20 rfl
  intro hg1
  refine Wl.ll0 7 [0] ?_
  exact Wl.back 4 0 rfl rfl rfl rfl rfl
  intro hg1
  refine Wl.ll0 4 [] ?_
  exact Wl.back 4 0 rfl rfl rfl rfl rfl
  refine Wl.ga 4 [] ?_
  refine Ar.out1 (.inr rfl) (Ho := Hp.only _ []) rfl (.tmp rfl) (Hp.sub_only _ _) ?_
  exact ⟨by congr 1; exact decide_eq_decide.mpr (by unfold near; omega), rfl, rfl⟩
theorem c31 (G : Imm) (a b : Int) : Does Tryz.prog 31 [.agg #[.int .i64 a, .int .i64 b]] G [] (fun v G' Ho => v = .bool (decide (a = 0 ∧ b = 0)) ∧ G' = G ∧ Ho = []) := by
  refine Does.enter Tryz.func31 rfl Tryz.ntmps31 rfl (fun w => ?_)
  refine Wc.gl 2 [] ?_
  refine Wl.box 0 rfl rfl rfl (fun b1 => ?_)
  refine Wl.gl 9 [0] ?_
  apply Wl.joinAnd 4 6 10 rfl
  intro hg1
  refine Wl.ll0 7 [0] ?_
  exact Wl.back 4 0 rfl rfl rfl rfl rfl
  intro hg1
  refine Wl.ll0 4 [] ?_
  exact Wl.back 4 0 rfl rfl rfl rfl rfl
  refine Wl.ga 4 [] ?_
  refine Ar.out1 (.inr rfl) (Ho := Hp.only _ []) rfl (.tmp rfl) (Hp.sub_only _ _) ?_
  exact ⟨rfl, rfl, rfl⟩
def normG (a b : Int) : Int := if b < 0 ∨ (b = 0 ∧ a < 0) then -(Int.gcd a b : Int) else (Int.gcd a b : Int)
def nrm (a b : Int) : Int × Int := if a = 0 ∧ b = 0 then (a, b) else (a.tdiv (normG a b), b.tdiv (normG a b))
def same (a b c d : Int) : Prop := nrm a b = nrm c d
instance (a b c d : Int) : Decidable (same a b c d) := inferInstanceAs (Decidable (_ = _))
theorem mul_rng {a b c d : Int} (h : near a b) (k : near c d) : -256 ≤ a * d ∧ a * d ≤ 256 := by
  unfold near at *
  have h1 : (a * d).natAbs ≤ 16 * 16 := by rw [Int.natAbs_mul]; exact Nat.mul_le_mul (by omega) (by omega)
  omega
end Go.Proofs.YtbppmiimeccclaaGreat
set_option maxRecDepth 100000
set_option linter.unusedVariables false
namespace Go.Proofs.YtbppmiimeccclaaGreat
open Go Go.Sl
def okP (p : R2) : Prop := near p.a p.b ∧ ¬ (p.a = 0 ∧ p.b = 0)
end Go.Proofs.YtbppmiimeccclaaGreat
set_option maxRecDepth 100000
set_option linter.unusedVariables false
namespace Go.Proofs.YtbppmiimeccclaaGreat
open Go Go.Sl
theorem c129 (G : Imm) (a b c d : Int) (hp : near a b) (hq : near c d) : Does Tryz.prog 129 [.agg #[.int .i64 a, .int .i64 b], .agg #[.int .i64 c, .int .i64 d]] G [] (fun v G' Ho => v = .int .i64 (a * d - c * b) ∧ G' = G ∧ Ho = []) := by
  refine Does.enter Tryz.func129 rfl Tryz.ntmps129 rfl (fun w => ?_)
  have m1 := mul_rng hp hq
  have m2 := mul_rng hq hp
  refine Wc.gl 2 [] ?_
  refine Wl.box 0 rfl rfl rfl (fun b1 => ?_)
  refine Wl.box 1 rfl rfl rfl (fun b2 => ?_)
  refine Wl.gl 9 [0, 1] ?_
  refine Wl.q rfl (Qy.mul rfl rfl (by omega)) ?_
  refine Wl.ll0 4 [1, 0] ?_
  refine Wl.q rfl (Qy.mul rfl rfl (by omega)) ?_
  refine Wl.ga 5 [] ?_
  refine Ar.out1 (.inr rfl) (Ho := Hp.only _ []) rfl (.tmp rfl) (Hp.sub_only _ _) ?_
  exact ⟨rfl, rfl, rfl⟩
instance (a b c d : Int) : Decidable (if (a = 0 ∧ b = 0) ∨ (c = 0 ∧ d = 0) then (a = 0 ∧ b = 0) ∧ (c = 0 ∧ d = 0) else a * d - c * b = 0) := by split <;> infer_instance
def oneR (a b c d : Int) : Prop := if (a = 0 ∧ b = 0) ∨ (c = 0 ∧ d = 0) then (a = 0 ∧ b = 0) ∧ (c = 0 ∧ d = 0) else a * d - c * b = 0
instance (a b c d : Int) : Decidable (oneR a b c d) := inferInstanceAs (Decidable (if (a = 0 ∧ b = 0) ∨ (c = 0 ∧ d = 0) then (a = 0 ∧ b = 0) ∧ (c = 0 ∧ d = 0) else a * d - c * b = 0))
theorem c78 (G : Imm) (a b c d : Int) (hp : near a b) (hq : near c d) : Does Tryz.prog 78 [.agg #[.int .i64 a, .int .i64 b], .agg #[.int .i64 c, .int .i64 d]] G [] (fun v G' Ho => v = .bool (decide (oneR a b c d)) ∧ G' = G ∧ Ho = []) := by
  refine Does.enter Tryz.func78 rfl Tryz.ntmps78 rfl (fun w => ?_)
  refine Wc.gl 2 [] ?_
  refine Wl.box 0 rfl rfl rfl (fun b1 => ?_)
  refine Wl.box 1 rfl rfl rfl (fun b2 => ?_)
  refine Wl.gl 7 [0] ?_
  refine Wl.call0 rfl T.fn31 rfl (by apply c31 <;> first | assumption | omega | rfl) ?_
  refine Wl.q rfl (Qy.move rfl) ?_
  apply Wl.joinOr 3 7 10 rfl
  intro hg1
  refine Wl.ll0 3 [1] ?_
  refine Wl.call0 rfl T.fn31 rfl (by apply c31 <;> first | assumption | omega | rfl) ?_
  refine Wl.q rfl (Qy.pick rfl rfl) ?_
  exact Wl.back 3 0 rfl rfl rfl rfl rfl
  intro hg1
  refine Wl.ll0 3 [] ?_
  exact Wl.back 3 0 rfl rfl rfl rfl rfl
  refine Wl.gc 2 [] ?_
  refine Wc.cond rfl (fun hc1 => ?_) (fun hc1 => ?_)
  refine Wc.gl 3 [0] ?_
  refine Wl.call0 rfl T.fn31 rfl (by apply c31 <;> first | assumption | omega | rfl) ?_
  refine Wl.q rfl (Qy.move rfl) ?_
  apply Wl.joinAnd 3 13 16 rfl
  intro hg1
  refine Wl.ll0 3 [1] ?_
  refine Wl.call0 rfl T.fn31 rfl (by apply c31 <;> first | assumption | omega | rfl) ?_
  refine Wl.q rfl (Qy.pick rfl rfl) ?_
  exact Wl.back 3 0 rfl rfl rfl rfl rfl
  intro hg1
  refine Wl.ll0 3 [] ?_
  exact Wl.back 3 0 rfl rfl rfl rfl rfl
  refine Wl.ga 5 [] ?_
  refine Ar.out1 (.inr rfl) (Ho := Hp.only _ []) rfl (.tmp rfl) (Hp.sub_only _ _) ?_
  rotate_left
  refine Wc.gl 6 [0, 1] ?_
  refine Wl.call0 rfl T.fn129 rfl (c129 _ _ _ _ _ (by assumption) (by assumption)) ?_
  refine Wl.ga 5 [] ?_
  refine Ar.out1 (.inr rfl) (Ho := Hp.only _ []) rfl (.tmp rfl) (Hp.sub_only _ _) ?_
  rotate_left
  · exact ⟨by congr 1; exact decide_eq_decide.mpr (by unfold oneR; rw [if_pos hc1]), rfl, rfl⟩
  · exact ⟨by congr 1; exact decide_eq_decide.mpr (by unfold oneR; rw [if_neg hc1]), rfl, rfl⟩
def alikeR (p q : R2) : Prop := near p.a p.b ∧ near q.a q.b ∧ oneR p.a p.b q.a q.b
def TwinR (l : List R2) : Prop := ∃ j, j < l.length ∧ ∃ i, i < j ∧ alikeR (l[i]?.getD default) (l[j]?.getD default)
theorem c32 (G : Imm) (a : Option Addr) (c : Nat) (l : List R2) (ha : Arr G a l) (h1 : l.length ≤ 1048576) (hc : l.length ≤ c) : Does Tryz.prog 32 [.slice a l.length c] G [] (fun v G' Ho => ∃ (i j : Int) (b : Bool), v = .tuple #[.int .i64 i, .int .i64 j, .bool b] ∧ (b = true ↔ TwinR l) ∧ G' = G ∧ Ho = []) := by
  refine Does.enter Tryz.func32 rfl Tryz.ntmps32 rfl (fun w => ?_)
  refine Wc.gc 14 [] ?_
  refine Wc.loop (ι := Nat) (fun j => ([(5, .int .i64 (j : Int)), (0, .slice a l.length c)], [])) (fun j => j ≤ l.length ∧ (∀ j', j' < j → ∀ i, i < j' → ¬ alikeR (l[i]?.getD default) (l[j']?.getD default))) (fun j => l.length - j) (0) (⟨Nat.zero_le _, fun j' h => absurd h (by omega)⟩) ⟨rfl, rfl, trivial⟩ trivial (fun j => fun (hk : j ≤ l.length ∧ (∀ j', j' < j → ∀ i, i < j' → ¬ alikeR (l[i]?.getD default) (l[j']?.getD default))) => ?_)
  obtain ⟨hj, hno⟩ := hk
  refine Wc.gc 9 [] ?_
  refine Wc.cond rfl (fun hc1 => ?_) (fun hc1 => ?_)
  refine Wc.gc 10 [] ?_
  rotate_left
  refine Wc.ga 13 [] ?_
  refine Ar.out3 (.inr rfl) (Ho := Hp.only _ []) rfl (.tmp rfl) (.tmp rfl) (.tmp rfl) (Hp.sub_only _ _) ?_
  rotate_left
  · refine Wc.loop (ι := Nat) (fun i => ([(6, .int .i64 (i : Int)), (5, .int .i64 (j : Int)), (0, .slice a l.length c)], [])) (fun i => i ≤ j ∧ (∀ i', i' < i → ¬ alikeR (l[i']?.getD default) (l[j]?.getD default))) (fun i => j - i) (0) (⟨Nat.zero_le _, fun i' h => absurd h (by omega)⟩) ⟨rfl, rfl, rfl, trivial⟩ trivial (fun i => fun (hk : i ≤ j ∧ (∀ i', i' < i → ¬ alikeR (l[i']?.getD default) (l[j]?.getD default))) => ?_)
    obtain ⟨hi, hni⟩ := hk
    have eti : l[((i : Nat) : Int).toNat]?.getD default = l[i]?.getD default := rfl
    have etj : l[((j : Nat) : Int).toNat]?.getD default = l[j]?.getD default := rfl
    refine Wc.gc 8 [] ?_
    refine Wc.cond rfl (fun hc2 => ?_) (fun hc2 => ?_)
    refine Wc.gc 5 [] ?_
    refine Wc.draw [] [] T.mixed rfl ?_
    refine Gm.q 0 [] (by kernel_rfl) rfl rfl (Qy.move rfl) ?_
    refine Gm.q 1 [] (by kernel_rfl) rfl rfl (Qy.move rfl) ?_
    refine Gm.q 2 [] (by kernel_rfl) rfl rfl (Qy.at (α := R2) T.sl26 rfl rfl (by assumption) (by omega)) ?_
    refine Gm.q 3 [] (by kernel_rfl) rfl rfl (Qy.loadsG T.agg59 rfl (Arr.elem (by assumption) (by omega)) rfl) ?_
    refine Gm.one 4 trivial (by first | exact Imm.le_refl _ | assumption | (refine Imm.le_trans ?_ (by assumption); first | assumption | (refine Imm.le_trans ?_ (by assumption); assumption))) (by kernel_rfl) rfl ?_
    refine Wl.call0 rfl T.fn30 rfl (by apply c30 <;> first | assumption | omega | rfl) ?_
    refine Wl.on0 ?_
    refine Gm.q 5 [] (by kernel_rfl) rfl rfl (Qy.move rfl) ?_
    refine Gm.cases 23 rfl (fun hg1 => ?_) (fun hg1 => ?_)
    refine Gm.qYes 6 [] (by kernel_rfl) rfl rfl rfl rfl (Qy.move rfl) ?_
    refine Gm.qYes 7 [] (by kernel_rfl) rfl rfl rfl rfl (Qy.move rfl) ?_
    refine Gm.qYes 8 [] (by kernel_rfl) rfl rfl rfl rfl (Qy.at (α := R2) T.sl26 rfl rfl (by assumption) (by omega)) ?_
    refine Gm.qYes 9 [] (by kernel_rfl) rfl rfl rfl rfl (Qy.loadsG T.agg59 rfl (Arr.elem (by assumption) (by omega)) rfl) ?_
    refine Gm.one 10 trivial (by first | exact Imm.le_refl _ | assumption | (refine Imm.le_trans ?_ (by assumption); first | assumption | (refine Imm.le_trans ?_ (by assumption); assumption))) (by kernel_rfl) rfl ?_
    refine Wl.want rfl rfl ?_
    refine Wl.call0 rfl T.fn30 rfl (by apply c30 <;> first | assumption | omega | rfl) ?_
    refine Wl.on0 ?_
    refine Gm.q 11 [] (by kernel_rfl) rfl rfl (Qy.pick rfl rfl) ?_
    refine Gm.q 12 [] (by kernel_rfl) rfl rfl (Qy.move rfl) ?_
    refine Gm.cases 30 rfl (fun hg2 => ?_) (fun hg2 => ?_)
    refine Gm.qYes 13 [] (by kernel_rfl) rfl rfl rfl rfl (Qy.move rfl) ?_
    refine Gm.qYes 14 [] (by kernel_rfl) rfl rfl rfl rfl (Qy.move rfl) ?_
    refine Gm.qYes 15 [] (by kernel_rfl) rfl rfl rfl rfl (Qy.at (α := R2) T.sl26 rfl rfl (by assumption) (by omega)) ?_
    refine Gm.qYes 16 [] (by kernel_rfl) rfl rfl rfl rfl (Qy.loadsG T.agg59 rfl (Arr.elem (by assumption) (by omega)) rfl) ?_
    refine Gm.qYes 17 [] (by kernel_rfl) rfl rfl rfl rfl (Qy.move rfl) ?_
    refine Gm.qYes 18 [] (by kernel_rfl) rfl rfl rfl rfl (Qy.move rfl) ?_
    refine Gm.qYes 19 [] (by kernel_rfl) rfl rfl rfl rfl (Qy.at (α := R2) T.sl26 rfl rfl (by assumption) (by omega)) ?_
    refine Gm.qYes 20 [] (by kernel_rfl) rfl rfl rfl rfl (Qy.loadsG T.agg59 rfl (Arr.elem (by assumption) (by omega)) rfl) ?_
    refine Gm.one 21 trivial (by first | exact Imm.le_refl _ | assumption | (refine Imm.le_trans ?_ (by assumption); first | assumption | (refine Imm.le_trans ?_ (by assumption); assumption))) (by kernel_rfl) rfl ?_
    refine Wl.want rfl rfl ?_
    refine Wl.call0 rfl T.fn78 rfl (c78 _ _ _ _ _ (by first | assumption | exact And.left (by assumption)) (by first | assumption | exact And.right (by assumption))) ?_
    refine Wl.on0 ?_
    refine Gm.q 22 [] (by kernel_rfl) rfl rfl (Qy.pick rfl rfl) ?_
    refine Gm.doneA (by kernel_rfl) trivial (by first | exact Imm.le_refl _ | assumption | (refine Imm.le_trans ?_ (by assumption); first | assumption | (refine Imm.le_trans ?_ (by assumption); assumption))) ?_
    refine Ar.next ?_
    refine Wc.cond rfl (fun hc3 => ?_) (fun hc3 => ?_)
    refine Wc.ga 19 [] ?_
    refine Ar.out3 (.inr rfl) (Ho := Hp.only _ []) rfl (.tmp rfl) (.tmp rfl) (.tmp rfl) (Hp.sub_only _ _) ?_
    rotate_left
    refine Wc.ga 8 [] ?_
    rotate_left
    refine Gm.qNo 13 (by kernel_rfl) rfl rfl rfl rfl ?_
    refine Gm.qNo 14 (by kernel_rfl) rfl rfl rfl rfl ?_
    refine Gm.qNo 15 (by kernel_rfl) rfl rfl rfl rfl ?_
    refine Gm.qNo 16 (by kernel_rfl) rfl rfl rfl rfl ?_
    refine Gm.qNo 17 (by kernel_rfl) rfl rfl rfl rfl ?_
    refine Gm.qNo 18 (by kernel_rfl) rfl rfl rfl rfl ?_
    refine Gm.qNo 19 (by kernel_rfl) rfl rfl rfl rfl ?_
    refine Gm.qNo 20 (by kernel_rfl) rfl rfl rfl rfl ?_
    refine Gm.qNo 21 (by kernel_rfl) rfl rfl rfl rfl ?_
    refine Gm.q 22 [] (by kernel_rfl) rfl rfl (Qy.pick rfl rfl) ?_
    refine Gm.doneA (by kernel_rfl) trivial (by first | exact Imm.le_refl _ | assumption | (refine Imm.le_trans ?_ (by assumption); first | assumption | (refine Imm.le_trans ?_ (by assumption); assumption))) ?_
    refine Ar.ga 10 [0] ?_
    rotate_left
    refine Gm.qNo 6 (by kernel_rfl) rfl rfl rfl rfl ?_
    refine Gm.qNo 7 (by kernel_rfl) rfl rfl rfl rfl ?_
    refine Gm.qNo 8 (by kernel_rfl) rfl rfl rfl rfl ?_
    refine Gm.qNo 9 (by kernel_rfl) rfl rfl rfl rfl ?_
    refine Gm.qNo 10 (by kernel_rfl) rfl rfl rfl rfl ?_
    refine Gm.q 11 [] (by kernel_rfl) rfl rfl (Qy.pick rfl rfl) ?_
    refine Gm.q 12 [] (by kernel_rfl) rfl rfl (Qy.move rfl) ?_
    refine Gm.qNo 13 (by kernel_rfl) rfl rfl rfl rfl ?_
    refine Gm.qNo 14 (by kernel_rfl) rfl rfl rfl rfl ?_
    refine Gm.qNo 15 (by kernel_rfl) rfl rfl rfl rfl ?_
    refine Gm.qNo 16 (by kernel_rfl) rfl rfl rfl rfl ?_
    refine Gm.qNo 17 (by kernel_rfl) rfl rfl rfl rfl ?_
    refine Gm.qNo 18 (by kernel_rfl) rfl rfl rfl rfl ?_
    refine Gm.qNo 19 (by kernel_rfl) rfl rfl rfl rfl ?_
    refine Gm.qNo 20 (by kernel_rfl) rfl rfl rfl rfl ?_
    refine Gm.qNo 21 (by kernel_rfl) rfl rfl rfl rfl ?_
    refine Gm.q 22 [] (by kernel_rfl) rfl rfl (Qy.pick rfl rfl) ?_
    refine Gm.doneA (by kernel_rfl) trivial (by first | exact Imm.le_refl _ | assumption | (refine Imm.le_trans ?_ (by assumption); first | assumption | (refine Imm.le_trans ?_ (by assumption); assumption))) ?_
    refine Ar.ga 10 [0] ?_
    rotate_left
    refine Wc.ga 11 [] ?_
    rotate_left
    · exact ⟨_, _, true, rfl, ⟨fun _ => ⟨j, by omega, i, by omega, hg1, hg2, hc3⟩, fun _ => rfl⟩, rfl, rfl⟩
    · refine Ar.re 6 rfl (show _ = Value.int .i64 ((i + 1 : Nat) : Int) from rfl) ?_
      refine Ar.again (i + 1) ?_ ?_ rfl ⟨rfl, rfl, rfl, trivial⟩ trivial
      · refine ⟨by omega, fun i' h2 => ?_⟩
        rcases Nat.lt_or_ge i' i with h | h
        · exact hni i' h
        · have e : i' = i := by omega
          subst e; exact fun hq => hc3 hq.2.2
      · omega
    · refine Ar.re 6 rfl (show _ = Value.int .i64 ((i + 1 : Nat) : Int) from rfl) ?_
      refine Ar.again (i + 1) ?_ ?_ rfl ⟨rfl, rfl, rfl, trivial⟩ trivial
      · refine ⟨by omega, fun i' h2 => ?_⟩
        rcases Nat.lt_or_ge i' i with h | h
        · exact hni i' h
        · have e : i' = i := by omega
          subst e; exact fun hq => hg2 hq.2.1
      · omega
    · refine Ar.re 6 rfl (show _ = Value.int .i64 ((i + 1 : Nat) : Int) from rfl) ?_
      refine Ar.again (i + 1) ?_ ?_ rfl ⟨rfl, rfl, rfl, trivial⟩ trivial
      · refine ⟨by omega, fun i' h2 => ?_⟩
        rcases Nat.lt_or_ge i' i with h | h
        · exact hni i' h
        · have e : i' = i := by omega
          subst e; exact fun hq => hg1 hq.1
      · omega
    · refine Ar.re 5 rfl (show _ = Value.int .i64 ((j + 1 : Nat) : Int) from rfl) ?_
      refine Ar.again (j + 1) ?_ ?_ rfl ⟨rfl, rfl, trivial⟩ trivial
      · refine ⟨by omega, fun j' h1 i h2 => ?_⟩
        rcases Nat.lt_or_ge j' j with h | h
        · exact hno j' h i h2
        · have e : j' = j := by omega
          subst e; exact hni i (by omega)
      · omega
  · refine ⟨0, 0, false, rfl, ⟨fun h => absurd h (by decide), fun ⟨j', h1, i', h2, h3⟩ => absurd h3 (hno j' (by omega) i' h2)⟩, rfl, rfl⟩
def RightR (l : List R2) : Prop := 1 ≤ l.length ∧ l.length ≤ 15 ∧ (∀ i, i < l.length → okP (l[i]?.getD default)) ∧ ¬ TwinR l
theorem c8 (G : Imm) (a : Option Addr) (c : Nat) (l : List R2) (ha : Arr G a l) (h1 : l.length ≤ 1048576) (hc : l.length ≤ c) : Does Tryz.prog 8 [.slice a l.length c] G [] (fun v G' Ho => ∃ b : Bool, v = .bool b ∧ (b = true ↔ RightR l) ∧ G' = G ∧ Ho = []) := by
  refine Does.enter Tryz.func8 rfl Tryz.ntmps8 rfl (fun w => ?_)
  refine Wc.gl 12 [] ?_
  apply Wl.joinOr 4 10 14 rfl
  intro hg1
  refine Wl.ll0 7 [] ?_
  exact Wl.back 4 0 rfl rfl rfl rfl rfl
  intro hg1
  refine Wl.ll0 4 [] ?_
  exact Wl.back 4 0 rfl rfl rfl rfl rfl
  refine Wl.gc 2 [] ?_
  refine Wc.cond rfl (fun hc1 => ?_) (fun hc1 => ?_)
  refine Wc.ga 7 [] ?_
  refine Ar.out1 (.inr rfl) (Ho := Hp.only _ []) rfl (.tmp rfl) (Hp.sub_only _ _) ?_
  rotate_left
  refine Wc.gc 9 [] ?_
  rotate_left
  · exact ⟨false, rfl, ⟨fun h => absurd h (by decide), fun h => absurd h.1 (by have := h.2.1; omega)⟩, rfl, rfl⟩
  refine Wc.loop (ι := Nat) (fun j => ([(3, .int .i64 (j : Int)), (0, .slice a l.length c)], [])) (fun j => j ≤ l.length ∧ (∀ i, i < j → okP (l[i]?.getD default))) (fun j => l.length - j) (0) (⟨Nat.zero_le _, fun j' h => absurd h (by omega)⟩) ⟨rfl, rfl, trivial⟩ trivial (fun j => fun (hk : j ≤ l.length ∧ (∀ i, i < j → okP (l[i]?.getD default))) => ?_)
  obtain ⟨hj, hno⟩ := hk
  have etj : l[((j : Nat) : Int).toNat]?.getD default = l[j]?.getD default := rfl
  refine Wc.gc 9 [] ?_
  refine Wc.cond rfl (fun hc2 => ?_) (fun hc2 => ?_)
  refine Wc.gl 8 [] ?_
  refine Wl.q rfl (Qy.at (α := R2) T.sl26 rfl rfl (by assumption) (by omega)) ?_
  refine Wl.q rfl (Qy.loadsG T.agg59 rfl (Arr.elem (by assumption) (by omega)) rfl) ?_
  refine Wl.call0 rfl T.fn30 rfl (by apply c30 <;> first | assumption | omega | rfl) ?_
  refine Wl.q rfl (Qy.notD rfl) ?_
  refine Wl.q rfl (Qy.move rfl) ?_
  apply Wl.joinOr 6 27 33 rfl
  intro hg1
  refine Wl.ll0 5 [] ?_
  refine Wl.q rfl (Qy.at (α := R2) T.sl26 rfl rfl (by assumption) (by omega)) ?_
  refine Wl.want rfl rfl ?_
  refine Wl.q rfl (Qy.loadsG T.agg59 rfl (Arr.elem (by assumption) (by omega)) rfl) ?_
  refine Wl.want rfl rfl ?_
  refine Wl.call0 rfl T.fn31 rfl (by apply c31 <;> first | assumption | omega | rfl) ?_
  refine Wl.q rfl (Qy.pick rfl rfl) ?_
  exact Wl.back 6 0 rfl rfl rfl rfl rfl
  intro hg1
  refine Wl.ll0 6 [] ?_
  exact Wl.back 6 0 rfl rfl rfl rfl rfl
  refine Wl.gc 2 [] ?_
  refine Wc.cond rfl (fun hc3 => ?_) (fun hc3 => ?_)
  refine Wc.ga 11 [] ?_
  refine Ar.out1 (.inr rfl) (Ho := Hp.only _ []) rfl (.tmp rfl) (Hp.sub_only _ _) ?_
  rotate_left
  refine Wc.ga 8 [] ?_
  rotate_left
  refine Wc.gl 8 [] ?_
  refine Wl.call 0 rfl T.fn32 rfl (c32 _ _ _ _ (by assumption) (by omega) (by first | assumption | omega)) (tags_of trivial) (fun v1 G1 Ho1 hle1 hp => ?_)
  obtain ⟨ti1, tj1, tb1, rfl, htb1, rfl, rfl⟩ := hp
  refine Wl.ga 17 [] ?_
  refine Ar.out1 (.inr rfl) (Ho := Hp.only _ []) rfl (.tmp rfl) (Hp.sub_only _ _) ?_
  rotate_left
  · exact ⟨false, rfl, ⟨fun h => absurd h (by decide), fun h => absurd (h.2.2.1 j (by omega)) (by show ¬ okP (l[((j : Nat) : Int).toNat]?.getD default); unfold okP; unfold near at *; omega)⟩, rfl, rfl⟩
  · refine Ar.re 3 rfl (show _ = Value.int .i64 ((j + 1 : Nat) : Int) from rfl) ?_
    refine Ar.again (j + 1) ?_ ?_ rfl ⟨rfl, rfl, trivial⟩ trivial
    · refine ⟨by omega, fun i' h2 => ?_⟩
      rcases Nat.lt_or_ge i' j with h | h
      · exact hno i' h
      · have e : i' = j := by omega
        subst e
        show okP (l[((i' : Nat) : Int).toNat]?.getD default)
        unfold okP; unfold near at *; omega
    · omega
  · refine ⟨!tb1, rfl, ?_, rfl, rfl⟩
    have e : (∀ i, i < l.length → okP (l[i]?.getD default)) := fun i hi => hno i (by omega)
    rw [Bool.not_eq_true', Bool.eq_false_iff, ne_eq, htb1]
    exact ⟨fun h => ⟨by omega, by omega, e, h⟩, fun h => h.2.2.2⟩
end Go.Proofs.YtbppmiimeccclaaGreat
set_option maxRecDepth 100000
set_option linter.unusedVariables false
namespace Go.Proofs.YtbppmiimeccclaaGreat
open Go Go.Sl
set_option maxHeartbeats 4000000
attribute [local irreducible] valB pb cmpZ lstWp p2
/-- a row of big numbers, by its slice -/
def BRow (G : Imm) (s : SV) (zs : List Int) : Prop := ∃ l : List IV, l.length = s.n ∧ s.n ≤ s.c ∧ Arr G s.a l ∧ Bigs G l zs
theorem BRow.up {G G' : Imm} {s : SV} {zs : List Int} (h : BRow G s zs) (hl : G.le G') : BRow G' s zs := by
  obtain ⟨l, h1, h2, h3, h4⟩ := h
  exact ⟨l, h1, h2, h3.up hl, h4.up hl⟩
def BGrid (G : Imm) (l : List SV) (rs : List (List Int)) : Prop := l.length = rs.length ∧ ∀ i : Nat, i < l.length → BRow G (l[i]?.getD default) (rs[i]?.getD [])
theorem BGrid.up {G G' : Imm} {l : List SV} {rs : List (List Int)} (h : BGrid G l rs) (hl : G.le G') : BGrid G' l rs := ⟨h.1, fun i hi => (h.2 i hi).up hl⟩
theorem BGrid.nil (G : Imm) : BGrid G [] [] := ⟨rfl, fun i hi => by simp at hi⟩
theorem BGrid.snoc {G : Imm} {l : List SV} {rs : List (List Int)} (h : BGrid G l rs) {s : SV} {zs : List Int} (hs : BRow G s zs) : BGrid G (l ++ [s]) (rs ++ [zs]) := by
  refine ⟨by rw [List.length_append, List.length_append, h.1]; rfl, fun i hi => ?_⟩
  rw [List.length_append, List.length_singleton] at hi
  rcases Nat.lt_or_ge i l.length with h1 | h1
  · rw [List.getElem?_append_left h1, List.getElem?_append_left (by rw [← h.1]; exact h1)]; exact h.2 i h1
  · have : i = l.length := by omega
    subst this
    rw [List.getElem?_append_right (Nat.le_refl _), List.getElem?_append_right (by rw [h.1]; exact Nat.le_refl _), Nat.sub_self, h.1, Nat.sub_self]
    exact hs
end Go.Proofs.YtbppmiimeccclaaGreat
set_option maxRecDepth 100000
set_option linter.unusedVariables false
namespace Go.Proofs.YtbppmiimeccclaaGreat
open Go Go.Sl
set_option maxHeartbeats 4000000
attribute [local irreducible] valB pb cmpZ lstWp p2 cst
/-- rows of one length, of numbers below a bound -/
def EvenB (m N : Nat) (rs : List (List Int)) : Prop := ∀ zs ∈ rs, zs.length = N ∧ Below m zs
theorem EvenB.at {m N : Nat} {rs : List (List Int)} (h : EvenB m N rs) {k : Nat} (hk : k < rs.length) : (rs[k]?.getD []).length = N ∧ Below m (rs[k]?.getD []) := by
  rw [List.getElem?_eq_getElem hk]; exact h _ (List.getElem_mem hk)
/-- what 'do' answers of rows -/
def DoRPost (i : Sl.Instr) (rs : List (List Int)) (H0 : Hp) (v : Value) (G' : Imm) (Ho : Hp) : Prop :=
  ∃ s : SV, v = .tuple #[.slice s.a s.n s.c, .bool (decide (doI i rs ≠ none))] ∧ (∀ z, doI i rs = some z → BRow G' s z) ∧ Ho = H0
theorem doR_some {i : Sl.Instr} {rs : List (List Int)} {H0 : Hp} {s : SV} {G' : Imm} {z : List Int} (h : doI i rs = some z) (hx : BRow G' s z) : DoRPost i rs H0 (.tuple #[.slice s.a s.n s.c, .bool true]) G' H0 :=
  ⟨s, by rw [decide_eq_true (show doI i rs ≠ none from fun e => by rw [e] at h; cases h)], fun z' h' => by rw [h] at h'; cases h'; exact hx, rfl⟩
theorem doR_none {i : Sl.Instr} {rs : List (List Int)} {H0 : Hp} {G' : Imm} (h : doI i rs = none) : DoRPost i rs H0 (.tuple #[.slice none 0 0, .bool false]) G' H0 :=
  ⟨⟨none, 0, 0⟩, by rw [decide_eq_false (show ¬ doI i rs ≠ none from fun e => e h)], (fun z hz => by rw [h] at hz; cases hz), rfl⟩
theorem brow_post {G : Imm} {s : Option Addr} {r : List IV} {d : Nat} {zs : List Int} (hA : Arr G s r) (hd : r.length ≤ d) (hB : Bigs G r zs) : BRow G ⟨s, r.length, d⟩ zs := ⟨r, rfl, hd, hA, hB⟩
theorem neg_rows (xs : List Int) : (xs.map fun x => -1 * x) = xs.map fun x => -x := by
  congr 1; funext x; rw [Int.neg_mul, Int.one_mul]
theorem add_rows (xs ys : List Int) : List.zipWith (fun x y => x + 1 * y) xs ys = List.zipWith (· + ·) xs ys := by
  congr 1; funext x y; rw [Int.one_mul]
theorem sub_rows (xs ys : List Int) : List.zipWith (fun x y => x + (-1) * y) xs ys = List.zipWith (· - ·) xs ys := by
  congr 1; funext x y; rw [Int.neg_mul, Int.one_mul]; rfl
theorem c117 (G : Imm) (i : Sl.Instr) (o : Option Addr) (d : Nat) (r : List SV) (j : List Value) (rs : List (List Int)) (m N : Nat) (hob : OwnA o d r j) (hg : BGrid G r rs) (hm : EvenB m N rs) (hN : N ≤ 1048576) (hm2 : m ≤ 268435456)
    (hop : 1 ≤ i.op ∧ i.op ≤ 8) (ha : 0 ≤ i.a ∧ i.a < r.length) (hb : 0 ≤ i.b ∧ i.b < r.length)
    (hcst : i.op ≠ 1 → i.op ≠ 2 → i.op ≠ 3 → i.op ≠ 4 → cst i ≠ 0 ∧ ((cst i).natAbs : Int) < pb 3)
    (hc1 : i.op = 5 ∨ i.op = 6 → -9223372036854775808 ≤ i.c ∧ i.c ≤ 9223372036854775807) (hc2 : ¬ (i.op = 5 ∨ i.op = 6) → 0 ≤ i.c ∧ i.c ≤ 64) :
    Does Tryz.prog 117 [waysR, .slice o r.length d, .agg (Cells.enc i).toArray] G [(0, o.map (·.block), Row 44 r j)] (fun v G' Ho => DoRPost i rs [(0, o.map (·.block), Row 44 r j)] v G' Ho) := by
  have hca := hob.le
  obtain ⟨la, a1, a2, a3, a4⟩ := hg.2 i.a.toNat (by omega)
  obtain ⟨lb, b1, b2, b3, b4⟩ := hg.2 i.b.toNat (by omega)
  have hrl := hg.1
  obtain ⟨na, ma⟩ := hm.at (k := i.a.toNat) (by omega)
  obtain ⟨nb, mb⟩ := hm.at (k := i.b.toNat) (by omega)
  have hla : la.length ≤ 1048576 := by rw [a4.1, na]; exact hN
  have hlab : la.length = lb.length := by rw [a4.1, b4.1, na, nb]
  refine Does.enter Tryz.func117 rfl Tryz.ntmps117 rfl (fun w => ?_)
  have h118 := c118 G _ (r[i.a.toNat]?.getD default).c la _ m a3 a4 ma hm2 hla
  have h119 := c119 G _ _ (r[i.a.toNat]?.getD default).c (r[i.b.toNat]?.getD default).c la lb _ _ m a3 b3 a4 b4 ma mb hm2 hlab hla
  have h121 := c121 G _ _ (r[i.a.toNat]?.getD default).c (r[i.b.toNat]?.getD default).c la lb _ _ m a3 b3 a4 b4 ma mb hm2 hlab hla
  rw [a1] at h118
  rw [a1, b1] at h119 h121
  have h123 : ∀ G1 y z, G.le G1 → Big G1 y z → y.n ≤ 268435456 → Does Tryz.prog 123 [.slice (r[i.a.toNat]?.getD default).a (r[i.a.toNat]?.getD default).n (r[i.a.toNat]?.getD default).c, .agg (Cells.enc y).toArray] G1 [] (fun v G' Ho => RowPost G' v ((rs[i.a.toNat]?.getD []).map fun x => z * x) ∧ Ho = []) := fun G1 y z hG hy hyn => by
    have h := c123 G1 _ (r[i.a.toNat]?.getD default).c la _ y z m (a3.up hG) (a4.up hG) ma hm2 hla hy hyn
    rw [a1] at h; exact h
  have h124 : ∀ G1 y z, G.le G1 → Big G1 y z → y.n ≤ 268435456 → z ≠ 0 → Does Tryz.prog 124 [.slice (r[i.a.toNat]?.getD default).a (r[i.a.toNat]?.getD default).n (r[i.a.toNat]?.getD default).c, .agg (Cells.enc y).toArray] G1 [] (fun v G' Ho => (AllDiv z (rs[i.a.toNat]?.getD []) → ∃ (s : Option Addr) (r' : List IV) (d : Nat), v = .tuple #[.slice s r'.length d, .bool true] ∧ Arr G' s r' ∧ r'.length ≤ d ∧ Bigs G' r' ((rs[i.a.toNat]?.getD []).map (· / z))) ∧
      (¬ AllDiv z (rs[i.a.toNat]?.getD []) → v = .tuple #[.slice none 0 0, .bool false]) ∧ Ho = []) := fun G1 y z hG hy hyn hz => by
    have h := c124 G1 _ (r[i.a.toNat]?.getD default).c la _ y z m (a3.up hG) (a4.up hG) ma hm2 hla hy hyn hz
    rw [a1] at h; exact h
  by_cases h2 : i.op = 2
  · refine Wc.gl 2 [] ?_
    refine Wl.box 1 rfl rfl rfl (fun b5 => ?_)
    refine Wl.box 2 rfl rfl rfl (fun b6 => ?_)
    refine Wl.gc 5 [] ?_
    refine Wc.draw [0, 1, 2] [] T.mixed rfl ?_
    refine Gm.c 0 [] [] ?_
    refine Gm.c 1 [] [] ?_
    refine Gm.c 2 [2] [2] ?_
    refine Gm.u 3 [] rfl (Qy.indexAddrO (α := SV) T.sl53 rfl rfl (by assumption) (by omega)) ?_
    refine Gm.u 4 [0] rfl (Qy.loadO 0 0 T.one44 rfl rfl (by assumption) (by omega) rfl rfl) ?_
    refine Gm.c 5 [] [] ?_
    refine Gm.c 6 [] [] ?_
    refine Gm.c 7 [2] [2] ?_
    refine Gm.u 8 [] rfl (Qy.indexAddrO (α := SV) T.sl53 rfl rfl (by assumption) (by omega)) ?_
    refine Gm.u 9 [0] rfl (Qy.loadO 0 0 T.one44 rfl rfl (by assumption) (by omega) rfl rfl) ?_
    refine Gm.c 10 [] [] ?_
    refine Gm.c 11 [] [] ?_
    refine Gm.fin ?_
    refine Ar.gl 21 [2, 1, 1] ?_
    refine Wl.callV (fst := []) (cap := []) 3 rfl T.fn118 rfl rfl (h118) (tags_of trivial) (fun v1 G1 Ho1 hle1 hp => ?_)
    obtain ⟨⟨s1, r1, d1, rfl, hA1, hl81, hB1⟩, rfl⟩ := hp
    replace a3 := a3.up hle1
    replace a4 := a4.up hle1
    replace b3 := b3.up hle1
    replace b4 := b4.up hle1
    refine Wl.ga 7 [] ?_
    refine Ar.out2 (.inr rfl) (Ho := Hp.only _ [0]) rfl (.tmp rfl) (.tmp rfl) (Hp.sub_only _ _) ?_
    exact doR_some (by unfold doI; simp only [h2, if_true]; rw [neg_rows]) (brow_post hA1 hl81 hB1)
  by_cases h3 : i.op = 3
  · refine Wc.gl 2 [] ?_
    refine Wl.box 1 rfl rfl rfl (fun b5 => ?_)
    refine Wl.box 2 rfl rfl rfl (fun b6 => ?_)
    refine Wl.gc 5 [] ?_
    refine Wc.draw [0, 1, 2] [] T.mixed rfl ?_
    refine Gm.c 0 [] [] ?_
    refine Gm.c 1 [] [] ?_
    refine Gm.c 2 [2] [2] ?_
    refine Gm.u 3 [] rfl (Qy.indexAddrO (α := SV) T.sl53 rfl rfl (by assumption) (by omega)) ?_
    refine Gm.u 4 [0] rfl (Qy.loadO 0 0 T.one44 rfl rfl (by assumption) (by omega) rfl rfl) ?_
    refine Gm.c 5 [] [] ?_
    refine Gm.c 6 [] [] ?_
    refine Gm.c 7 [2] [2] ?_
    refine Gm.u 8 [] rfl (Qy.indexAddrO (α := SV) T.sl53 rfl rfl (by assumption) (by omega)) ?_
    refine Gm.u 9 [0] rfl (Qy.loadO 0 0 T.one44 rfl rfl (by assumption) (by omega) rfl rfl) ?_
    refine Gm.c 10 [] [] ?_
    refine Gm.c 11 [] [] ?_
    refine Gm.fin ?_
    refine Ar.gl 29 [2, 0, 1, 1] ?_
    refine Wl.callV (fst := []) (cap := []) 3 rfl T.fn119 rfl rfl (h119) (tags_of trivial) (fun v1 G1 Ho1 hle1 hp => ?_)
    obtain ⟨⟨s1, r1, d1, rfl, hA1, hl81, hB1⟩, rfl⟩ := hp
    replace a3 := a3.up hle1
    replace a4 := a4.up hle1
    replace b3 := b3.up hle1
    replace b4 := b4.up hle1
    refine Wl.ga 7 [] ?_
    refine Ar.out2 (.inr rfl) (Ho := Hp.only _ [0]) rfl (.tmp rfl) (.tmp rfl) (Hp.sub_only _ _) ?_
    exact doR_some (by unfold doI; simp only [h3, if_true]; rw [if_neg (by decide), add_rows]) (brow_post hA1 hl81 hB1)
  by_cases h4 : i.op = 4
  · refine Wc.gl 2 [] ?_
    refine Wl.box 1 rfl rfl rfl (fun b5 => ?_)
    refine Wl.box 2 rfl rfl rfl (fun b6 => ?_)
    refine Wl.gc 5 [] ?_
    refine Wc.draw [0, 1, 2] [] T.mixed rfl ?_
    refine Gm.c 0 [] [] ?_
    refine Gm.c 1 [] [] ?_
    refine Gm.c 2 [2] [2] ?_
    refine Gm.u 3 [] rfl (Qy.indexAddrO (α := SV) T.sl53 rfl rfl (by assumption) (by omega)) ?_
    refine Gm.u 4 [0] rfl (Qy.loadO 0 0 T.one44 rfl rfl (by assumption) (by omega) rfl rfl) ?_
    refine Gm.c 5 [] [] ?_
    refine Gm.c 6 [] [] ?_
    refine Gm.c 7 [2] [2] ?_
    refine Gm.u 8 [] rfl (Qy.indexAddrO (α := SV) T.sl53 rfl rfl (by assumption) (by omega)) ?_
    refine Gm.u 9 [0] rfl (Qy.loadO 0 0 T.one44 rfl rfl (by assumption) (by omega) rfl rfl) ?_
    refine Gm.c 10 [] [] ?_
    refine Gm.c 11 [] [] ?_
    refine Gm.fin ?_
    refine Ar.gl 36 [2, 0, 0, 1, 1] ?_
    refine Wl.callV (fst := []) (cap := []) 3 rfl T.fn121 rfl rfl (h121) (tags_of trivial) (fun v1 G1 Ho1 hle1 hp => ?_)
    obtain ⟨⟨s1, r1, d1, rfl, hA1, hl81, hB1⟩, rfl⟩ := hp
    replace a3 := a3.up hle1
    replace a4 := a4.up hle1
    replace b3 := b3.up hle1
    replace b4 := b4.up hle1
    refine Wl.ga 7 [] ?_
    refine Ar.out2 (.inr rfl) (Ho := Hp.only _ [0]) rfl (.tmp rfl) (.tmp rfl) (Hp.sub_only _ _) ?_
    exact doR_some (by unfold doI; simp only [h4, if_true]; rw [if_neg (by decide), if_neg (by decide), sub_rows]) (brow_post hA1 hl81 hB1)
  by_cases h1 : i.op = 1
  · refine Wc.gl 2 [] ?_
    refine Wl.box 1 rfl rfl rfl (fun b5 => ?_)
    refine Wl.box 2 rfl rfl rfl (fun b6 => ?_)
    refine Wl.gc 5 [] ?_
    refine Wc.draw [0, 1, 2] [] T.mixed rfl ?_
    refine Gm.c 0 [] [] ?_
    refine Gm.c 1 [] [] ?_
    refine Gm.c 2 [2] [2] ?_
    refine Gm.u 3 [] rfl (Qy.indexAddrO (α := SV) T.sl53 rfl rfl (by assumption) (by omega)) ?_
    refine Gm.u 4 [0] rfl (Qy.loadO 0 0 T.one44 rfl rfl (by assumption) (by omega) rfl rfl) ?_
    refine Gm.c 5 [] [] ?_
    refine Gm.c 6 [] [] ?_
    refine Gm.c 7 [2] [2] ?_
    refine Gm.u 8 [] rfl (Qy.indexAddrO (α := SV) T.sl53 rfl rfl (by assumption) (by omega)) ?_
    refine Gm.u 9 [0] rfl (Qy.loadO 0 0 T.one44 rfl rfl (by assumption) (by omega) rfl rfl) ?_
    refine Gm.c 10 [] [] ?_
    refine Gm.c 11 [] [] ?_
    refine Gm.fin ?_
    refine Ar.ga 69 [2, 0, 0, 0, 0, 0, 0, 0] ?_
    refine Ar.out2 (.inr rfl) (Ho := Hp.only _ [0]) rfl (.tmp rfl) (.tmp rfl) (Hp.sub_only _ _) ?_
    exact doR_some (by unfold doI; simp only [h1]; rfl) ⟨la, a1, a2, a3, a4⟩
  obtain ⟨hk0, hk3⟩ := hcst h1 h2 h3 h4
  by_cases h5 : i.op = 5
  · have hc9 := hc1 (.inl h5)
    have e5 : cst i = i.c := cst_c (.inl h5)
    rw [e5] at hk3
    refine Wc.gl 2 [] ?_
    refine Wl.box 1 rfl rfl rfl (fun b5 => ?_)
    refine Wl.box 2 rfl rfl rfl (fun b6 => ?_)
    refine Wl.gc 5 [] ?_
    refine Wc.draw [0, 1, 2] [] T.mixed rfl ?_
    refine Gm.c 0 [] [] ?_
    refine Gm.c 1 [] [] ?_
    refine Gm.c 2 [2] [2] ?_
    refine Gm.u 3 [] rfl (Qy.indexAddrO (α := SV) T.sl53 rfl rfl (by assumption) (by omega)) ?_
    refine Gm.u 4 [0] rfl (Qy.loadO 0 0 T.one44 rfl rfl (by assumption) (by omega) rfl rfl) ?_
    refine Gm.c 5 [] [] ?_
    refine Gm.c 6 [] [] ?_
    refine Gm.c 7 [2] [2] ?_
    refine Gm.u 8 [] rfl (Qy.indexAddrO (α := SV) T.sl53 rfl rfl (by assumption) (by omega)) ?_
    refine Gm.u 9 [0] rfl (Qy.loadO 0 0 T.one44 rfl rfl (by assumption) (by omega) rfl rfl) ?_
    refine Gm.c 10 [] [] ?_
    refine Gm.c 11 [] [] ?_
    refine Gm.fin ?_
    refine Ar.gc 38 [2, 0, 0, 0, 1] ?_
    refine Wc.draw [0, 1, 2] [(2, 6), (1, 6), (0, 6)] T.mixed rfl ?_
    refine Gm.c 0 [] [] ?_
    refine Gm.c 1 [1] [1] ?_
    refine Gm.c 2 [] [] ?_
    refine Gm.c 3 [] [] ?_
    refine Gm.o1 4 ?_
    refine Wl.ll0 1 [2] ?_
    refine Wl.on0 ?_
    refine Gm.o1 5 ?_
    refine Wl.k 3 rfl (c57 _ i.c hc9) (fun v1 G1 Ho1 hle1 hp => ?_)
    obtain ⟨rk, rfl, hrk, rfl⟩ := hp
    replace a3 := a3.up hle1
    replace a4 := a4.up hle1
    replace b3 := b3.up hle1
    replace b4 := b4.up hle1
    refine Wl.on0 ?_
    refine Gm.o1 6 ?_
    refine Wl.callV (fst := []) (cap := []) 3 rfl T.fn123 rfl rfl (h123 _ rk _ (by assumption) hrk (Nat.le_trans (Big.len hrk hk3) (by decide))) (tags_of trivial) (fun v2 G2 Ho2 hle2 hp => ?_)
    obtain ⟨⟨s2, r2, d2, rfl, hA2, hl82, hB2⟩, rfl⟩ := hp
    replace hrk := hrk.up hle2
    replace a3 := a3.up hle2
    replace a4 := a4.up hle2
    replace b3 := b3.up hle2
    replace b4 := b4.up hle2
    refine Wl.on0 ?_
    refine Gm.c 7 [] [] ?_
    refine Gm.c 8 [] [] ?_
    refine Gm.doneA (by kernel_rfl) trivial (by first | exact Imm.le_refl _ | repeat (first | assumption | refine Imm.le_trans ?_ (by assumption))) ?_
    refine Ar.ga 4 [] ?_
    refine Ar.out2 (.inr rfl) (Ho := Hp.only _ [0]) rfl (.tmp rfl) (.tmp rfl) (Hp.sub_only _ _) ?_
    all_goals exact doR_some (by unfold doI; simp only [h5, true_or, if_true]; rw [if_neg (by decide), if_neg (by decide), if_neg (by decide), e5]) (brow_post (by assumption) (by assumption) (by assumption))
  by_cases h6 : i.op = 6
  · have hc9 := hc1 (.inr h6)
    have e5 : cst i = i.c := cst_c (.inr h6)
    rw [e5] at hk3 hk0
    have h124Y : AllDiv (i.c) (rs[i.a.toNat]?.getD []) → ∀ G1 y, G.le G1 → Big G1 y (i.c) → y.n ≤ 268435456 → Does Tryz.prog 124 [.slice (r[i.a.toNat]?.getD default).a (r[i.a.toNat]?.getD default).n (r[i.a.toNat]?.getD default).c, .agg (Cells.enc y).toArray] G1 [] (fun v G' Ho => (∃ (s : Option Addr) (r' : List IV) (d : Nat), v = .tuple #[.slice s r'.length d, .bool true] ∧ Arr G' s r' ∧ r'.length ≤ d ∧ Bigs G' r' ((rs[i.a.toNat]?.getD []).map (· / (i.c)))) ∧ Ho = []) :=
      fun hd G1 y hG hy hyn => (h124 G1 y _ hG hy hyn hk0).mono fun v G' Ho _ ⟨p1, p2, p3⟩ => ⟨p1 hd, p3⟩
    have h124N : ¬ AllDiv (i.c) (rs[i.a.toNat]?.getD []) → ∀ G1 y, G.le G1 → Big G1 y (i.c) → y.n ≤ 268435456 → Does Tryz.prog 124 [.slice (r[i.a.toNat]?.getD default).a (r[i.a.toNat]?.getD default).n (r[i.a.toNat]?.getD default).c, .agg (Cells.enc y).toArray] G1 [] (fun v G' Ho => v = .tuple #[.slice none 0 0, .bool false] ∧ Ho = []) :=
      fun hd G1 y hG hy hyn => (h124 G1 y _ hG hy hyn hk0).mono fun v G' Ho _ ⟨p1, p2, p3⟩ => ⟨p2 hd, p3⟩
    by_cases hd : AllDiv (i.c) (rs[i.a.toNat]?.getD [])
    · skip
      refine Wc.gl 2 [] ?_
      refine Wl.box 1 rfl rfl rfl (fun b5 => ?_)
      refine Wl.box 2 rfl rfl rfl (fun b6 => ?_)
      refine Wl.gc 5 [] ?_
      refine Wc.draw [0, 1, 2] [] T.mixed rfl ?_
      refine Gm.c 0 [] [] ?_
      refine Gm.c 1 [] [] ?_
      refine Gm.c 2 [2] [2] ?_
      refine Gm.u 3 [] rfl (Qy.indexAddrO (α := SV) T.sl53 rfl rfl (by assumption) (by omega)) ?_
      refine Gm.u 4 [0] rfl (Qy.loadO 0 0 T.one44 rfl rfl (by assumption) (by omega) rfl rfl) ?_
      refine Gm.c 5 [] [] ?_
      refine Gm.c 6 [] [] ?_
      refine Gm.c 7 [2] [2] ?_
      refine Gm.u 8 [] rfl (Qy.indexAddrO (α := SV) T.sl53 rfl rfl (by assumption) (by omega)) ?_
      refine Gm.u 9 [0] rfl (Qy.loadO 0 0 T.one44 rfl rfl (by assumption) (by omega) rfl rfl) ?_
      refine Gm.c 10 [] [] ?_
      refine Gm.c 11 [] [] ?_
      refine Gm.fin ?_
      refine Ar.gc 52 [2, 0, 0, 0, 0, 0, 1] ?_
      refine Wc.draw [0, 1, 2] [(2, 6), (1, 6), (0, 6)] T.mixed rfl ?_
      refine Gm.c 0 [] [] ?_
      refine Gm.c 1 [1] [1] ?_
      refine Gm.c 2 [] [] ?_
      refine Gm.c 3 [] [] ?_
      refine Gm.o1 4 ?_
      refine Wl.ll0 1 [2] ?_
      refine Wl.on0 ?_
      refine Gm.o1 5 ?_
      refine Wl.k 3 rfl (c57 _ i.c hc9) (fun v1 G1 Ho1 hle1 hp => ?_)
      obtain ⟨rk, rfl, hrk, rfl⟩ := hp
      replace a3 := a3.up hle1
      replace a4 := a4.up hle1
      replace b3 := b3.up hle1
      replace b4 := b4.up hle1
      refine Wl.on0 ?_
      refine Gm.o1 6 ?_
      refine Wl.callV (fst := []) (cap := []) 3 rfl T.fn124 rfl rfl (h124Y hd _ rk (by assumption) hrk (Nat.le_trans (Big.len hrk hk3) (by decide))) (tags_of trivial) (fun v2 G2 Ho2 hle2 hp => ?_)
      obtain ⟨⟨s2, r2, d2, rfl, hA2, hl82, hB2⟩, rfl⟩ := hp
      replace hrk := hrk.up hle2
      replace a3 := a3.up hle2
      replace a4 := a4.up hle2
      replace b3 := b3.up hle2
      replace b4 := b4.up hle2
      refine Wl.on0 ?_
      refine Gm.c 7 [] [] ?_
      refine Gm.c 8 [] [] ?_
      refine Gm.c 9 [] [] ?_
      refine Gm.c 10 [] [] ?_
      refine Gm.doneA (by kernel_rfl) trivial (by first | exact Imm.le_refl _ | repeat (first | assumption | refine Imm.le_trans ?_ (by assumption))) ?_
      refine Ar.ga 4 [] ?_
      refine Ar.out2 (.inr rfl) (Ho := Hp.only _ [0]) rfl (.tmp rfl) (.tmp rfl) (Hp.sub_only _ _) ?_
      all_goals exact doR_some (by unfold doI; simp only [h6, true_or, if_true]; first | (rw [if_neg (by decide), if_neg (by decide), if_neg (by decide), if_neg (by decide), e5, if_pos hd]) | (rw [if_neg (by decide), if_neg (by decide), if_neg (by decide), if_neg (by decide)]; exact (by rw [e5]; exact if_pos hd))) (brow_post (by assumption) (by assumption) (by assumption))
    · skip
      refine Wc.gl 2 [] ?_
      refine Wl.box 1 rfl rfl rfl (fun b5 => ?_)
      refine Wl.box 2 rfl rfl rfl (fun b6 => ?_)
      refine Wl.gc 5 [] ?_
      refine Wc.draw [0, 1, 2] [] T.mixed rfl ?_
      refine Gm.c 0 [] [] ?_
      refine Gm.c 1 [] [] ?_
      refine Gm.c 2 [2] [2] ?_
      refine Gm.u 3 [] rfl (Qy.indexAddrO (α := SV) T.sl53 rfl rfl (by assumption) (by omega)) ?_
      refine Gm.u 4 [0] rfl (Qy.loadO 0 0 T.one44 rfl rfl (by assumption) (by omega) rfl rfl) ?_
      refine Gm.c 5 [] [] ?_
      refine Gm.c 6 [] [] ?_
      refine Gm.c 7 [2] [2] ?_
      refine Gm.u 8 [] rfl (Qy.indexAddrO (α := SV) T.sl53 rfl rfl (by assumption) (by omega)) ?_
      refine Gm.u 9 [0] rfl (Qy.loadO 0 0 T.one44 rfl rfl (by assumption) (by omega) rfl rfl) ?_
      refine Gm.c 10 [] [] ?_
      refine Gm.c 11 [] [] ?_
      refine Gm.fin ?_
      refine Ar.gc 52 [2, 0, 0, 0, 0, 0, 1] ?_
      refine Wc.draw [0, 1, 2] [(2, 6), (1, 6), (0, 6)] T.mixed rfl ?_
      refine Gm.c 0 [] [] ?_
      refine Gm.c 1 [1] [1] ?_
      refine Gm.c 2 [] [] ?_
      refine Gm.c 3 [] [] ?_
      refine Gm.o1 4 ?_
      refine Wl.ll0 1 [2] ?_
      refine Wl.on0 ?_
      refine Gm.o1 5 ?_
      refine Wl.k 3 rfl (c57 _ i.c hc9) (fun v1 G1 Ho1 hle1 hp => ?_)
      obtain ⟨rk, rfl, hrk, rfl⟩ := hp
      replace a3 := a3.up hle1
      replace a4 := a4.up hle1
      replace b3 := b3.up hle1
      replace b4 := b4.up hle1
      refine Wl.on0 ?_
      refine Gm.o1 6 ?_
      refine Wl.callV (fst := []) (cap := []) 3 rfl T.fn124 rfl rfl (h124N hd _ rk (by assumption) hrk (Nat.le_trans (Big.len hrk hk3) (by decide))) (tags_of trivial) (fun v2 G2 Ho2 hle2 hp => ?_)
      obtain ⟨rfl, rfl⟩ := hp
      replace hrk := hrk.up hle2
      replace a3 := a3.up hle2
      replace a4 := a4.up hle2
      replace b3 := b3.up hle2
      replace b4 := b4.up hle2
      refine Wl.on0 ?_
      refine Gm.c 7 [] [] ?_
      refine Gm.c 8 [] [] ?_
      refine Gm.c 9 [] [] ?_
      refine Gm.c 10 [] [] ?_
      refine Gm.doneA (by kernel_rfl) trivial (by first | exact Imm.le_refl _ | repeat (first | assumption | refine Imm.le_trans ?_ (by assumption))) ?_
      refine Ar.ga 4 [] ?_
      refine Ar.out2 (.inr rfl) (Ho := Hp.only _ [0]) rfl (.tmp rfl) (.tmp rfl) (Hp.sub_only _ _) ?_
      all_goals exact doR_none (by unfold doI; simp only [h6, true_or, if_true]; rw [if_neg (by decide), if_neg (by decide), if_neg (by decide), if_neg (by decide), e5, if_neg hd])
  have hc64 := hc2 (fun h => h.elim h5 h6)
  have e5 : cst i = p2 i.c.toNat := cst_p (fun h => h.elim h5 h6)
  rw [e5] at hk3 hk0
  by_cases h7 : i.op = 7
  · refine Wc.gl 2 [] ?_
    refine Wl.box 1 rfl rfl rfl (fun b5 => ?_)
    refine Wl.box 2 rfl rfl rfl (fun b6 => ?_)
    refine Wl.gc 5 [] ?_
    refine Wc.draw [0, 1, 2] [] T.mixed rfl ?_
    refine Gm.c 0 [] [] ?_
    refine Gm.c 1 [] [] ?_
    refine Gm.c 2 [2] [2] ?_
    refine Gm.u 3 [] rfl (Qy.indexAddrO (α := SV) T.sl53 rfl rfl (by assumption) (by omega)) ?_
    refine Gm.u 4 [0] rfl (Qy.loadO 0 0 T.one44 rfl rfl (by assumption) (by omega) rfl rfl) ?_
    refine Gm.c 5 [] [] ?_
    refine Gm.c 6 [] [] ?_
    refine Gm.c 7 [2] [2] ?_
    refine Gm.u 8 [] rfl (Qy.indexAddrO (α := SV) T.sl53 rfl rfl (by assumption) (by omega)) ?_
    refine Gm.u 9 [0] rfl (Qy.loadO 0 0 T.one44 rfl rfl (by assumption) (by omega) rfl rfl) ?_
    refine Gm.c 10 [] [] ?_
    refine Gm.c 11 [] [] ?_
    refine Gm.fin ?_
    refine Ar.gc 45 [2, 0, 0, 0, 0, 1] ?_
    refine Wc.draw [0, 1, 2] [(2, 6), (1, 6), (0, 6)] T.mixed rfl ?_
    refine Gm.c 0 [] [] ?_
    refine Gm.c 1 [1] [1] ?_
    refine Gm.c 2 [] [] ?_
    refine Gm.c 3 [] [] ?_
    refine Gm.o1 4 ?_
    refine Wl.ll0 1 [2] ?_
    refine Wl.on0 ?_
    refine Gm.o1 5 ?_
    refine Wl.k 3 rfl (c153i _ i.c hc64) (fun v1 G1 Ho1 hle1 hp => ?_)
    obtain ⟨rk, rfl, hrk, rfl⟩ := hp
    replace a3 := a3.up hle1
    replace a4 := a4.up hle1
    replace b3 := b3.up hle1
    replace b4 := b4.up hle1
    refine Wl.on0 ?_
    refine Gm.o1 6 ?_
    refine Wl.callV (fst := []) (cap := []) 3 rfl T.fn123 rfl rfl (h123 _ rk _ (by assumption) hrk (Nat.le_trans (Big.len hrk hk3) (by decide))) (tags_of trivial) (fun v2 G2 Ho2 hle2 hp => ?_)
    obtain ⟨⟨s2, r2, d2, rfl, hA2, hl82, hB2⟩, rfl⟩ := hp
    replace hrk := hrk.up hle2
    replace a3 := a3.up hle2
    replace a4 := a4.up hle2
    replace b3 := b3.up hle2
    replace b4 := b4.up hle2
    refine Wl.on0 ?_
    refine Gm.c 7 [] [] ?_
    refine Gm.c 8 [] [] ?_
    refine Gm.doneA (by kernel_rfl) trivial (by first | exact Imm.le_refl _ | repeat (first | assumption | refine Imm.le_trans ?_ (by assumption))) ?_
    refine Ar.ga 4 [] ?_
    refine Ar.out2 (.inr rfl) (Ho := Hp.only _ [0]) rfl (.tmp rfl) (.tmp rfl) (Hp.sub_only _ _) ?_
    all_goals exact doR_some (by unfold doI; simp only [h7, or_true, if_true]; rw [if_neg (by decide), if_neg (by decide), if_neg (by decide), e5]) (brow_post (by assumption) (by assumption) (by assumption))
  · have h8 : i.op = 8 := by omega
    have h124Y : AllDiv (p2 i.c.toNat) (rs[i.a.toNat]?.getD []) → ∀ G1 y, G.le G1 → Big G1 y (p2 i.c.toNat) → y.n ≤ 268435456 → Does Tryz.prog 124 [.slice (r[i.a.toNat]?.getD default).a (r[i.a.toNat]?.getD default).n (r[i.a.toNat]?.getD default).c, .agg (Cells.enc y).toArray] G1 [] (fun v G' Ho => (∃ (s : Option Addr) (r' : List IV) (d : Nat), v = .tuple #[.slice s r'.length d, .bool true] ∧ Arr G' s r' ∧ r'.length ≤ d ∧ Bigs G' r' ((rs[i.a.toNat]?.getD []).map (· / (p2 i.c.toNat)))) ∧ Ho = []) :=
      fun hd G1 y hG hy hyn => (h124 G1 y _ hG hy hyn hk0).mono fun v G' Ho _ ⟨p1, p2, p3⟩ => ⟨p1 hd, p3⟩
    have h124N : ¬ AllDiv (p2 i.c.toNat) (rs[i.a.toNat]?.getD []) → ∀ G1 y, G.le G1 → Big G1 y (p2 i.c.toNat) → y.n ≤ 268435456 → Does Tryz.prog 124 [.slice (r[i.a.toNat]?.getD default).a (r[i.a.toNat]?.getD default).n (r[i.a.toNat]?.getD default).c, .agg (Cells.enc y).toArray] G1 [] (fun v G' Ho => v = .tuple #[.slice none 0 0, .bool false] ∧ Ho = []) :=
      fun hd G1 y hG hy hyn => (h124 G1 y _ hG hy hyn hk0).mono fun v G' Ho _ ⟨p1, p2, p3⟩ => ⟨p2 hd, p3⟩
    by_cases hd : AllDiv (p2 i.c.toNat) (rs[i.a.toNat]?.getD [])
    · skip
      refine Wc.gl 2 [] ?_
      refine Wl.box 1 rfl rfl rfl (fun b5 => ?_)
      refine Wl.box 2 rfl rfl rfl (fun b6 => ?_)
      refine Wl.gc 5 [] ?_
      refine Wc.draw [0, 1, 2] [] T.mixed rfl ?_
      refine Gm.c 0 [] [] ?_
      refine Gm.c 1 [] [] ?_
      refine Gm.c 2 [2] [2] ?_
      refine Gm.u 3 [] rfl (Qy.indexAddrO (α := SV) T.sl53 rfl rfl (by assumption) (by omega)) ?_
      refine Gm.u 4 [0] rfl (Qy.loadO 0 0 T.one44 rfl rfl (by assumption) (by omega) rfl rfl) ?_
      refine Gm.c 5 [] [] ?_
      refine Gm.c 6 [] [] ?_
      refine Gm.c 7 [2] [2] ?_
      refine Gm.u 8 [] rfl (Qy.indexAddrO (α := SV) T.sl53 rfl rfl (by assumption) (by omega)) ?_
      refine Gm.u 9 [0] rfl (Qy.loadO 0 0 T.one44 rfl rfl (by assumption) (by omega) rfl rfl) ?_
      refine Gm.c 10 [] [] ?_
      refine Gm.c 11 [] [] ?_
      refine Gm.fin ?_
      refine Ar.gc 59 [2, 0, 0, 0, 0, 0, 0, 1] ?_
      refine Wc.draw [0, 1, 2] [(2, 6), (1, 6), (0, 6)] T.mixed rfl ?_
      refine Gm.c 0 [] [] ?_
      refine Gm.c 1 [1] [1] ?_
      refine Gm.c 2 [] [] ?_
      refine Gm.c 3 [] [] ?_
      refine Gm.o1 4 ?_
      refine Wl.ll0 1 [2] ?_
      refine Wl.on0 ?_
      refine Gm.o1 5 ?_
      refine Wl.k 3 rfl (c153i _ i.c hc64) (fun v1 G1 Ho1 hle1 hp => ?_)
      obtain ⟨rk, rfl, hrk, rfl⟩ := hp
      replace a3 := a3.up hle1
      replace a4 := a4.up hle1
      replace b3 := b3.up hle1
      replace b4 := b4.up hle1
      refine Wl.on0 ?_
      refine Gm.o1 6 ?_
      refine Wl.callV (fst := []) (cap := []) 3 rfl T.fn124 rfl rfl (h124Y hd _ rk (by assumption) hrk (Nat.le_trans (Big.len hrk hk3) (by decide))) (tags_of trivial) (fun v2 G2 Ho2 hle2 hp => ?_)
      obtain ⟨⟨s2, r2, d2, rfl, hA2, hl82, hB2⟩, rfl⟩ := hp
      replace hrk := hrk.up hle2
      replace a3 := a3.up hle2
      replace a4 := a4.up hle2
      replace b3 := b3.up hle2
      replace b4 := b4.up hle2
      refine Wl.on0 ?_
      refine Gm.c 7 [] [] ?_
      refine Gm.c 8 [] [] ?_
      refine Gm.c 9 [] [] ?_
      refine Gm.c 10 [] [] ?_
      refine Gm.doneA (by kernel_rfl) trivial (by first | exact Imm.le_refl _ | repeat (first | assumption | refine Imm.le_trans ?_ (by assumption))) ?_
      refine Ar.ga 4 [] ?_
      refine Ar.out2 (.inr rfl) (Ho := Hp.only _ [0]) rfl (.tmp rfl) (.tmp rfl) (Hp.sub_only _ _) ?_
      all_goals exact doR_some (by unfold doI; simp only [h8, or_true, if_true]; first | (rw [if_neg (by decide), if_neg (by decide), if_neg (by decide), if_neg (by decide), e5, if_pos hd]) | (rw [if_neg (by decide), if_neg (by decide), if_neg (by decide), if_neg (by decide)]; exact (by rw [e5]; exact if_pos hd))) (brow_post (by assumption) (by assumption) (by assumption))
    · skip
      refine Wc.gl 2 [] ?_
      refine Wl.box 1 rfl rfl rfl (fun b5 => ?_)
      refine Wl.box 2 rfl rfl rfl (fun b6 => ?_)
      refine Wl.gc 5 [] ?_
      refine Wc.draw [0, 1, 2] [] T.mixed rfl ?_
      refine Gm.c 0 [] [] ?_
      refine Gm.c 1 [] [] ?_
      refine Gm.c 2 [2] [2] ?_
      refine Gm.u 3 [] rfl (Qy.indexAddrO (α := SV) T.sl53 rfl rfl (by assumption) (by omega)) ?_
      refine Gm.u 4 [0] rfl (Qy.loadO 0 0 T.one44 rfl rfl (by assumption) (by omega) rfl rfl) ?_
      refine Gm.c 5 [] [] ?_
      refine Gm.c 6 [] [] ?_
      refine Gm.c 7 [2] [2] ?_
      refine Gm.u 8 [] rfl (Qy.indexAddrO (α := SV) T.sl53 rfl rfl (by assumption) (by omega)) ?_
      refine Gm.u 9 [0] rfl (Qy.loadO 0 0 T.one44 rfl rfl (by assumption) (by omega) rfl rfl) ?_
      refine Gm.c 10 [] [] ?_
      refine Gm.c 11 [] [] ?_
      refine Gm.fin ?_
      refine Ar.gc 59 [2, 0, 0, 0, 0, 0, 0, 1] ?_
      refine Wc.draw [0, 1, 2] [(2, 6), (1, 6), (0, 6)] T.mixed rfl ?_
      refine Gm.c 0 [] [] ?_
      refine Gm.c 1 [1] [1] ?_
      refine Gm.c 2 [] [] ?_
      refine Gm.c 3 [] [] ?_
      refine Gm.o1 4 ?_
      refine Wl.ll0 1 [2] ?_
      refine Wl.on0 ?_
      refine Gm.o1 5 ?_
      refine Wl.k 3 rfl (c153i _ i.c hc64) (fun v1 G1 Ho1 hle1 hp => ?_)
      obtain ⟨rk, rfl, hrk, rfl⟩ := hp
      replace a3 := a3.up hle1
      replace a4 := a4.up hle1
      replace b3 := b3.up hle1
      replace b4 := b4.up hle1
      refine Wl.on0 ?_
      refine Gm.o1 6 ?_
      refine Wl.callV (fst := []) (cap := []) 3 rfl T.fn124 rfl rfl (h124N hd _ rk (by assumption) hrk (Nat.le_trans (Big.len hrk hk3) (by decide))) (tags_of trivial) (fun v2 G2 Ho2 hle2 hp => ?_)
      obtain ⟨rfl, rfl⟩ := hp
      replace hrk := hrk.up hle2
      replace a3 := a3.up hle2
      replace a4 := a4.up hle2
      replace b3 := b3.up hle2
      replace b4 := b4.up hle2
      refine Wl.on0 ?_
      refine Gm.c 7 [] [] ?_
      refine Gm.c 8 [] [] ?_
      refine Gm.c 9 [] [] ?_
      refine Gm.c 10 [] [] ?_
      refine Gm.doneA (by kernel_rfl) trivial (by first | exact Imm.le_refl _ | repeat (first | assumption | refine Imm.le_trans ?_ (by assumption))) ?_
      refine Ar.ga 4 [] ?_
      refine Ar.out2 (.inr rfl) (Ho := Hp.only _ [0]) rfl (.tmp rfl) (.tmp rfl) (Hp.sub_only _ _) ?_
      all_goals exact doR_none (by unfold doI; simp only [h8, or_true, if_true]; rw [if_neg (by decide), if_neg (by decide), if_neg (by decide), if_neg (by decide), e5, if_neg hd])
end Go.Proofs.YtbppmiimeccclaaGreat
set_option maxRecDepth 100000
set_option linter.unusedVariables false
namespace Go.Proofs.YtbppmiimeccclaaGreat
open Go Go.Sl
set_option maxHeartbeats 4000000
theorem pw5_pb3 : pw 5 ≤ pb 3 := by unfold pw pb; decide
theorem mul_lt_pb {m k : Nat} {x y : Int} (hx : (x.natAbs : Int) < pb m) (hy : (y.natAbs : Int) < pb k) : ((x * y).natAbs : Int) < pb (m + k) := by
  rw [Int.natAbs_mul, Int.natCast_mul, pb_add]
  have h1 := Int.mul_le_mul_of_nonneg_left (Int.le_of_lt hy) (show (0 : Int) ≤ x.natAbs by omega)
  have h2 := Int.mul_lt_mul_of_pos_right hx (pb_pos k)
  omega
theorem doZ_small {i : Sl.Instr} {zs : List Int} {m : Nat} {z : Int} (hm : Below m zs) (hk : i.op = 5 ∨ i.op = 7 → ((cst i).natAbs : Int) < pb 3) (h : doZ i zs = some z) : (z.natAbs : Int) < pb (m + 3) := by
  have ha := hm.at i.a.toNat
  have hb := hm.at i.b.toNat
  have hp := pb_pos m
  have h4 : 4294967296 * pb m ≤ pb (m + 3) := by rw [← pb_succ]; exact pb_le (by omega)
  unfold doZ at h
  simp only at h
  split at h
  · cases h; omega
  · split at h
    · cases h; omega
    · split at h
      · cases h; omega
      · split at h
        · rename_i h57
          cases h
          exact mul_lt_pb ha (hk h57)
        · split at h
          · split at h
            · cases h
              have h1 : (zs[i.a.toNat]?.getD 0 / cst i).natAbs ≤ (zs[i.a.toNat]?.getD 0).natAbs := Int.natAbs_ediv_le_natAbs _ _
              omega
            · cases h
          · cases h
            omega
/-- the registers' numbers after k instructions -/
def stepsZ (p : PV) (zs : List Int) : Nat → Option (List Int)
  | 0 => some zs
  | k + 1 => (stepsZ p zs k).bind fun rs => (doZ (p.code[((k : Nat) : Int).toNat]?.getD default) rs).map fun x => rs.set (p.code[((k : Nat) : Int).toNat]?.getD default).to.toNat x
theorem stepsZ_succ {p : PV} {zs rs : List Int} {k : Nat} {y : Int} (h : stepsZ p zs k = some rs) (hd : doZ (p.code[((k : Nat) : Int).toNat]?.getD default) rs = some y) :
    stepsZ p zs (k + 1) = some (rs.set (p.code[((k : Nat) : Int).toNat]?.getD default).to.toNat y) := by
  unfold stepsZ; rw [h]; simp only [Option.bind_some, hd, Option.map_some]
theorem stepsZ_none {p : PV} {zs : List Int} {k : Nat} (h : stepsZ p zs k = none) (j : Nat) : stepsZ p zs (k + j) = none := by
  induction j with
  | zero => exact h
  | succ j ih => rw [← Nat.add_assoc]; unfold stepsZ; rw [ih]; rfl
theorem stepsZ_stop {p : PV} {zs rs : List Int} {k : Nat} (h : stepsZ p zs k = some rs) (hd : doZ (p.code[((k : Nat) : Int).toNat]?.getD default) rs = none) (hk : k < p.code.length) : stepsZ p zs p.code.length = none := by
  have h1 : stepsZ p zs (k + 1) = none := by unfold stepsZ; rw [h]; simp only [Option.bind_some, hd, Option.map_none]
  have h2 := stepsZ_none h1 (p.code.length - (k + 1))
  rw [show k + 1 + (p.code.length - (k + 1)) = p.code.length by omega] at h2
  exact h2
theorem below_set {m : Nat} {zs : List Int} {z : Int} (h : Below m zs) (hz : (z.natAbs : Int) < pb m) (k : Nat) : Below m (zs.set k z) := fun x hx => by
  rcases List.mem_or_eq_of_mem_set hx with h1 | h1
  · exact h x h1
  · rw [h1]; exact hz
theorem Below.mono {m k : Nat} {zs : List Int} (h : Below m zs) (hk : m ≤ k) : Below k zs := fun z hz => Int.lt_of_lt_of_le (h z hz) (pb_le hk)
attribute [local irreducible] valB pb cmpZ lstWp p2 cst doZ
theorem c56 (G : Imm) (k : Int) (x : IV) : Does Tryz.prog 56 [.int .i64 k, .agg (Cells.enc x).toArray] G [] (fun v G' Ho => v = .bool true ∧ G' = G ∧ Ho = []) := by
  refine Does.enter Tryz.func56 rfl Tryz.ntmps56 rfl (fun w => ?_)
  refine Wc.gl 2 [] ?_
  refine Wl.box 0 rfl rfl rfl (fun b1 => ?_)
  refine Wl.ga 9 [] ?_
  refine Ar.out1 (.inr rfl) (Ho := Hp.only _ []) rfl (.tmp rfl) (Hp.sub_only _ _) ?_
  exact ⟨rfl, rfl, rfl⟩
/-- the run of a program: its registers behind it, or that it fails -/
def RunPost (p : PV) (zs : List Int) (o : Option Addr) (d : Nat) (r : List IV) (j : List Value) (v : Value) (G' : Imm) (Ho : Hp) : Prop :=
  ∃ (r' : List IV) (k : Int), v = .int .i64 k ∧ Ho = [(0, o.map (·.block), Row 104 r' j)] ∧ r'.length = r.length ∧ OwnA o d r' j ∧
    ((∃ zs', stepsZ p zs p.code.length = some zs' ∧ k = -1 ∧ Bigs G' r' zs') ∨ (stepsZ p zs p.code.length = none ∧ 0 ≤ k))
theorem c54 (G : Imm) (p : PV) (ac ao : Option Addr) (cc co : Nat) (o : Option Addr) (d : Nat) (r : List IV) (j : List Value) (zs : List Int) (m : Nat) (hc : Arr G ac p.code) (hob : OwnA o d r j) (hg : Bigs G r zs) (hm : Below m zs)
    (hmm : m + 3 * p.code.length ≤ 268435456) (hlen : p.code.length ≤ 16384) (hr : (r.length : Int) = p.regs) (hrr : r.length ≤ 128) (hmay : ∀ i ∈ p.code, mayOk i p.regs = true) :
    Does Tryz.prog 54 [waysV, .agg #[.int .i64 p.ins, .int .i64 p.regs, .slice ac p.code.length cc, .slice ao p.outs.length co], .slice o r.length d, .func (.func 56) #[] #[]] G [(0, o.map (·.block), Row 104 r j)] (RunPost p zs o d r j) := by
  refine Does.enter Tryz.func54 rfl Tryz.ntmps54 rfl (fun w => ?_)
  refine Wc.gl 2 [] ?_
  refine Wl.box 1 rfl rfl rfl (fun b1 => ?_)
  refine Wl.box 2 rfl rfl rfl (fun b2 => ?_)
  refine Wl.gc 3 [] ?_
  refine Wc.scope ?_
  refine Wc.gc 13 [2] ?_
  refine Wc.loopG (ι := Nat × Imm × List IV × List Int) (fun (i, Gx, r2, rs) => ([(16, .int .i64 (i : Int)), (2, .slice o r2.length d), (15, Go.Value.int Go.IntKind.i64 (↑(List.length (Go.Proofs.YtbppmiimeccclaaGreat.PV.code p)) : Int)), (14, Go.Value.slice ac (List.length (Go.Proofs.YtbppmiimeccclaaGreat.PV.code p)) cc), (4, Go.Value.pointer (Option.some (Go.Addr.mk b1 0 Option.none))), (3, Go.Value.func (Go.Fn.func 56) #[] #[])], [(0, o.map (·.block), Row 104 r2 j), (2, Option.some b2, Go.Obj.cells #[Go.Value.int Go.IntKind.i64 (Go.Proofs.YtbppmiimeccclaaGreat.PV.ins p), Go.Value.int Go.IntKind.i64 (Go.Proofs.YtbppmiimeccclaaGreat.PV.regs p), Go.Value.slice ac (List.length (Go.Proofs.YtbppmiimeccclaaGreat.PV.code p)) cc, Go.Value.slice ao (List.length (Go.Proofs.YtbppmiimeccclaaGreat.PV.outs p)) co] 25), (1, Option.some b1, Go.Obj.cells #[Go.Value.func (Go.Fn.func 100) #[] #[], Go.Value.func (Go.Fn.func 101) #[] #[], Go.Value.func (Go.Fn.func 102) #[] #[], Go.Value.func (Go.Fn.func 103) #[] #[], Go.Value.func (Go.Fn.func 104) #[] #[]] 109)])) (fun (i, Gx, r2, rs) => Gx) (fun (i, Gx, r2, rs) => i ≤ p.code.length ∧ G.le Gx ∧ r2.length = r.length ∧ OwnA o d r2 j ∧ Bigs Gx r2 rs ∧ Below (m + 3 * i) rs ∧ stepsZ p zs i = some rs) (fun (i, Gx, r2, rs) => p.code.length - i) ((0, G, r, zs)) (⟨Nat.zero_le _, Imm.le_refl _, rfl, hob, hg, hm, rfl⟩) rfl ⟨rfl, rfl, rfl, rfl, rfl, rfl, trivial⟩ ⟨rfl, rfl, rfl, trivial⟩ (fun ⟨i, Gx, r2, rs⟩ => fun (hk : i ≤ p.code.length ∧ G.le Gx ∧ r2.length = r.length ∧ OwnA o d r2 j ∧ Bigs Gx r2 rs ∧ Below (m + 3 * i) rs ∧ stepsZ p zs i = some rs) => ?_)
  obtain ⟨hi0, hgx, hr2, ho2, hg2, hb2, hrun⟩ := hk
  replace hc := hc.up hgx
  rcases Nat.lt_or_ge i p.code.length with hic | hic
  · have hmem : (p.code[((i : Nat) : Int).toNat]?.getD default) ∈ p.code := by
      rw [Int.toNat_natCast, List.getElem?_eq_getElem hic]; exact List.getElem_mem hic
    have hmi := hmay _ hmem
    obtain ⟨m1, m2, m3, m4, m5, m6, m7, m8⟩ := may_facts hmi
    have hbz : (p.code[((i : Nat) : Int).toNat]?.getD default).op = 3 ∨ (p.code[((i : Nat) : Int).toNat]?.getD default).op = 4 ∨ (p.code[((i : Nat) : Int).toNat]?.getD default).b = 0 := by
      unfold mayOk at hmi
      rw [Bool.and_eq_true, Bool.and_eq_true, decide_eq_true_eq] at hmi
      exact hmi.1.1.2.2.2.2
    have mb : 0 ≤ (p.code[((i : Nat) : Int).toNat]?.getD default).b ∧ (p.code[((i : Nat) : Int).toNat]?.getD default).b < r2.length := by
      rcases hbz with h | h | h
      · have := m4 (.inl h); omega
      · have := m4 (.inr h); omega
      · omega
    have mt : 0 ≤ (p.code[((i : Nat) : Int).toNat]?.getD default).to ∧ (p.code[((i : Nat) : Int).toNat]?.getD default).to < r2.length := by omega
    have hk3 : (p.code[((i : Nat) : Int).toNat]?.getD default).op ≠ 1 → (p.code[((i : Nat) : Int).toNat]?.getD default).op ≠ 2 → (p.code[((i : Nat) : Int).toNat]?.getD default).op ≠ 3 → (p.code[((i : Nat) : Int).toNat]?.getD default).op ≠ 4 → cst (p.code[((i : Nat) : Int).toNat]?.getD default) ≠ 0 ∧ ((cst (p.code[((i : Nat) : Int).toNat]?.getD default)).natAbs : Int) < pb 3 := fun a b c d => ⟨(m6 a b c d).1, Int.lt_of_lt_of_le (m6 a b c d).2 pw5_pb3⟩
    refine Wc.gl 14 [1] ?_
    refine Wl.q rfl (Qy.at (α := Sl.Instr) T.sl22 rfl rfl (by assumption) (by omega)) ?_
    refine Wl.q rfl (Qy.loadsG T.agg93 rfl (Arr.elem (by assumption) (by omega)) rfl) ?_
    refine Wl.alloc 3 rfl T.zero93 (fun b3 => ?_)
    refine Wl.gl 9 [3, 1, 3] ?_
    refine Wl.call 0 rfl T.fn99 rfl (c99 _ (p.code[((i : Nat) : Int).toNat]?.getD default) o d r2 j rs (m + 3 * i) ho2 hg2 hb2 (by omega) m1 (by omega) mb hk3 m7 m8) (tags_of ⟨rfl, trivial⟩) (fun v1 G1 Ho1 hle1 hp => ?_)
    obtain ⟨x, rfl, hx, rfl⟩ := hp
    replace hc := hc.up hle1
    replace hg2 := hg2.up hle1
    by_cases hd : doZ (p.code[((i : Nat) : Int).toNat]?.getD default) rs = none
    · have hd2 : ¬ doZ (p.code[((i : Nat) : Int).toNat]?.getD default) rs ≠ none := fun h => h hd
      refine Wl.ll0 3 [] ?_
      refine Wl.alloc 4 rfl T.zero104 (fun b4 => ?_)
      refine Wl.gl 8 [4] ?_
      refine Wl.q rfl (Qy.notD rfl) ?_
      refine Wl.ga 16 [1] ?_
      refine Ar.scopeR ?_
      refine Ar.out1 (.inr rfl) (Ho := Hp.only _ [0]) rfl (.tmp rfl) (Hp.sub_only _ _) ?_
      exact ⟨r2, (i : Int), rfl, rfl, hr2, ho2, .inr ⟨stepsZ_stop hrun hd hic, by omega⟩⟩
    · obtain ⟨z, hz⟩ := Option.ne_none_iff_exists'.1 hd
      have hxz := hx z hz
      have hok : doZ (p.code[((i : Nat) : Int).toNat]?.getD default) rs ≠ none := hd
      refine Wl.ll0 3 [] ?_
      refine Wl.alloc 4 rfl T.zero104 (fun b4 => ?_)
      refine Wl.gl 8 [4] ?_
      refine Wl.q rfl (Qy.notD rfl) ?_
      refine Wl.gc 2 [] ?_
      refine Wc.cond rfl (fun hc1 => ?_) (fun hc1 => ?_)
      refine Wc.ga 13 [] ?_
      refine Ar.scopeR ?_
      refine Ar.out1 (.inr rfl) (Ho := Hp.only _ [0]) rfl (.tmp rfl) (Hp.sub_only _ _) ?_
      rotate_left
      refine Wc.gl 8 [3, 4] ?_
      refine Wl.q rfl (Qy.indexAddrO (α := IV) T.sl44 rfl rfl (by assumption) (by omega)) ?_
      rotate_left
      · exact absurd hok hc1
      refine Wl.setO (z := x) 0 T.size104 rfl rfl rfl (by assumption) (by omega) rfl (fun ho9 => ?_)
      refine Wl.gl 7 [4] ?_
      refine Wl.callV (fst := []) (cap := []) 5 rfl T.fn56 rfl rfl (c56 _ _ _) (tags_of trivial) (fun v2 G2 Ho2 hle2 hp => ?_)
      obtain ⟨rfl, rfl, rfl⟩ := hp
      refine Wl.ga 11 [0] ?_
      refine Ar.re 2 rfl (show _ = Value.slice o (r2.set (p.code[((i : Nat) : Int).toNat]?.getD default).to.toNat x).length d by rw [List.length_set]) ?_
      refine Ar.again ((i + 1, _, r2.set (p.code[((i : Nat) : Int).toNat]?.getD default).to.toNat x, rs.set (p.code[((i : Nat) : Int).toNat]?.getD default).to.toNat z)) ?_ ?_ rfl ⟨rfl, rfl, rfl, rfl, rfl, rfl, trivial⟩ ⟨rfl, rfl, rfl, trivial⟩
      · refine ⟨by omega, Imm.le_trans hgx hle1, by rw [List.length_set]; exact hr2, ho9, hg2.set _ hxz, ?_, stepsZ_succ hrun hz⟩
        have hs := doZ_small hb2 (fun h => (hk3 (by omega) (by omega) (by omega) (by omega)).2) hz
        rw [show m + 3 * (i + 1) = m + 3 * i + 3 by omega]
        exact below_set (hb2.mono (by omega)) hs _
      · show p.code.length - (i + 1) < p.code.length - i
        omega
  · have hii : i = p.code.length := by omega
    subst hii
    refine Wc.ga 18 [0] ?_
    refine Ar.scopeR ?_
    refine Ar.out1 (.inr rfl) (Ho := Hp.only _ [0]) rfl (.tmp rfl) (Hp.sub_only _ _) ?_
    exact ⟨r2, -1, rfl, rfl, hr2, ho2, .inl ⟨rs, hrun, rfl, hg2⟩⟩
end Go.Proofs.YtbppmiimeccclaaGreat
set_option maxRecDepth 100000
set_option linter.unusedVariables false
namespace Go.Proofs.YtbppmiimeccclaaGreat
open Go Go.Sl
set_option maxHeartbeats 4000000
/-- so many digits are left, if the noughts at the top are struck -/
def TrimTo (l : List U32) (n : Nat) : Prop := n ≤ l.length ∧ (∀ j, n ≤ j → j < l.length → (l[j]?.getD default).v = 0) ∧ (n = 0 ∨ (l[n - 1]?.getD default).v ≠ 0)
theorem arr_sub {α : Type} [Cells α] {G : Imm} {a : Option Addr} {c sz : Nat} {l : List α} (h : Arr G a l) (n : Nat) : Arr G (subA a c 0 sz) (l.take n) := by
  refine ⟨flat_length _, ?_⟩
  rcases h.2 with h0 | ⟨b, o, rfl, hr⟩
  · left; rw [List.length_take]; omega
  · refine .inr ⟨b, o, ?_, fun i v hi => hr i v ?_⟩
    · unfold subA
      split
      · rfl
      · simp [Addr.add]
    · have e : flat l = flat (l.take n) ++ flat (l.drop n) := by rw [← flat_append, List.take_append_drop]
      rw [e, List.getElem?_append_left (List.getElem?_eq_some_iff.1 hi).1]; exact hi
theorem TrimTo.val {l : List U32} {n : Nat} (h : TrimTo l n) : valL (l.take n) = valL l := valL_trim h.2.1
theorem TrimTo.top {l : List U32} {n : Nat} (h : TrimTo l n) : Top (l.take n) := by
  obtain ⟨h1, h2, h3⟩ := h
  rcases h3 with h3 | h3
  · subst h3; exact .inl rfl
  · by_cases h0 : n = 0
    · subst h0; exact .inl rfl
    · refine .inr ?_
      rw [List.length_take, Nat.min_eq_left h1, List.getElem?_take, if_pos (by omega)]
      exact h3
theorem TrimTo.len {l : List U32} {n : Nat} (h : TrimTo l n) : (l.take n).length = n := by rw [List.length_take, Nat.min_eq_left h.1]
theorem TrimTo.isInt {l : List U32} {n : Nat} (h : TrimTo l n) (hd : Digs l) (neg : Bool) : IsInt (neg && decide (0 < n)) (l.take n) (if neg = true then -valL l else valL l) := by
  refine ⟨hd.take n, h.top, fun e => ?_, ?_⟩
  · have hl := h.len
    rw [e] at hl
    have : n = 0 := by simpa using hl.symm
    subst this; simp
  · have hv := h.val
    rw [← hv]
    cases neg with
    | false => simp
    | true =>
      by_cases h0 : n = 0
      · subst h0; simp [valL_nil]
      · have : 0 < n := by omega
        simp [this]
/-- a number that is struck of a row that stays -/
theorem TrimTo.num {G : Imm} {a : Option Addr} {c : Nat} {l : List U32} {n : Nat} (h : TrimTo l n) (hd : Digs l) (hl : Arr G a l) (hc : l.length ≤ c) (neg : Bool) : Num G ⟨neg && decide (0 < n), subA a c 0 1, n, c⟩ (if neg = true then -valL l else valL l) := by
  refine ⟨l.take n, h.len, Nat.le_trans h.1 hc, ?_, h.isInt hd neg⟩
  exact arr_sub hl n
end Go.Proofs.YtbppmiimeccclaaGreat
set_option maxRecDepth 100000
set_option linter.unusedVariables false
namespace Go.Proofs.YtbppmiimeccclaaGreat
open Go Go.Sl
set_option maxHeartbeats 4000000
section
variable {B : Bs} {e : Env} {D : List Deferred} {H : Hp} {G : Imm}
/-- a block under another tag -/
theorem retagH {a : Act} {w : World} (hh : Hold B ⟨e, D, H, G⟩ a w) (t t' : Nat) {k : Option Nat} {o : Obj} (ht : H.get t = some (k, o)) (hn : t ≠ t') (hk : H.get t' = none ∨ True) : Hold B ⟨e, D, (t', k, o) :: (t, none, o) :: H, G⟩ a w := by
  have key : ∀ i b o', Hp.get ((t', k, o) :: (t, none, o) :: H) i = some (some b, o') → (i = t' ∧ H.get t = some (some b, o')) ∨ (i ≠ t' ∧ i ≠ t ∧ H.get i = some (some b, o')) := fun i b o' hx => by
    rw [Hp.get_cons] at hx
    split at hx
    · rename_i hi; left; refine ⟨hi.symm, ?_⟩; rw [ht]; exact hx
    · rename_i hi
      rw [Hp.get_cons] at hx
      split at hx
      · simp at hx
      · rename_i hi2; exact .inr ⟨fun h => hi h.symm, fun h => hi2 h.symm, hx⟩
  refine ⟨hh.size, hh.defers, hh.env, ⟨?_, ?_, hh.mem.imm, ?_⟩, hh.upd, ?_, hh.le, hh.new⟩
  · intro i b o' hx
    rcases key i b o' hx with ⟨_, h⟩ | ⟨_, _, h⟩
    · exact hh.mem.own _ b o' h
    · exact hh.mem.own _ b o' h
  · intro i i' b o1 o2 hx hy
    rcases key i b o1 hx with ⟨h1, h2⟩ | ⟨h1, h1', h2⟩ <;> rcases key i' b o2 hy with ⟨h3, h4⟩ | ⟨h3, h3', h4⟩
    · rw [h1, h3]
    · exact absurd (hh.mem.one _ _ b _ _ h2 h4).symm h3'
    · exact absurd (hh.mem.one _ _ b _ _ h2 h4) h1'
    · exact hh.mem.one _ _ b _ _ h2 h4
  · intro i b o' hx
    rcases key i b o' hx with ⟨_, h⟩ | ⟨_, _, h⟩
    · exact hh.mem.off _ b o' h
    · exact hh.mem.off _ b o' h
  · intro i b o' hx
    rcases key i b o' hx with ⟨_, h⟩ | ⟨_, _, h⟩
    · exact hh.mine _ b o' h
    · exact hh.mine _ b o' h
theorem Ar.retag {x : Exit} {Q : Exit → Act → World → Prop} (t t' : Nat) {k : Option Nat} {o : Obj} (ht : H.get t = some (k, o)) (hn : Nat.beq t t' = false) (h : Ar Q x B ⟨e, D, (t', k, o) :: (t, none, o) :: H, G⟩) : Ar Q x B ⟨e, D, H, G⟩ :=
  fun a w hh => h a w (retagH hh t t' ht (fun e => by subst e; simp at hn) (.inr trivial))
end
theorem Num.len {G : Imm} {x : IV} {z : Int} (h : Num G x z) {m : Nat} (hz : (z.natAbs : Int) < pw m) : x.n ≤ m := by
  obtain ⟨l, h1, _, _, h4⟩ := h
  rw [← h1]; exact h4.len hz
attribute [local irreducible] valL pw cmpZ p2
end Go.Proofs.YtbppmiimeccclaaGreat
set_option maxRecDepth 100000
set_option linter.unusedVariables false
namespace Go.Proofs.YtbppmiimeccclaaGreat
open Go Go.Sl
set_option maxHeartbeats 4000000
theorem Num.zero_iff {G : Imm} {x : IV} {z : Int} (h : Num G x z) : x.n = 0 ↔ z = 0 := by
  obtain ⟨l, h1, _, _, h4⟩ := h
  rw [← h1]; exact h4.zero_iff
theorem Num.out {G : Imm} {x : IV} {z z' : Int} (h : Num G x z) (e : z = z') : Num G x z' := e ▸ h
attribute [local irreducible] valL pw cmpZ p2
end Go.Proofs.YtbppmiimeccclaaGreat
set_option maxRecDepth 100000
set_option linter.unusedVariables false
namespace Go.Proofs.YtbppmiimeccclaaGreat
open Go Go.Sl
set_option maxHeartbeats 4000000
/-- the handle of a row of numbers -/
def RowS (G : Imm) (s : SV) (zs : List Int) : Prop := ∃ l : List IV, l.length = s.n ∧ s.n ≤ s.c ∧ Arr G s.a l ∧ Nums G l zs
theorem RowS.up {G G' : Imm} {s : SV} {zs : List Int} (h : RowS G s zs) (hl : G.le G') : RowS G' s zs := by
  obtain ⟨l, h1, h2, h3, h4⟩ := h
  exact ⟨l, h1, h2, h3.up hl, h4.up hl⟩
/-- rows of numbers -/
def Grid (G : Imm) (l : List SV) (rs : List (List Int)) : Prop := l.length = rs.length ∧ ∀ i : Nat, i < l.length → RowS G (l[i]?.getD default) (rs[i]?.getD [])
theorem Grid.up {G G' : Imm} {l : List SV} {rs : List (List Int)} (h : Grid G l rs) (hl : G.le G') : Grid G' l rs := ⟨h.1, fun i hi => (h.2 i hi).up hl⟩
theorem Grid.nil (G : Imm) : Grid G [] [] := ⟨rfl, fun i hi => by simp at hi⟩
theorem Grid.at {G : Imm} {l : List SV} {rs : List (List Int)} (h : Grid G l rs) {m : Int} (hm : 0 ≤ m ∧ m < l.length) : RowS G (l[m.toNat]?.getD default) (rs[m.toNat]?.getD []) := h.2 _ (by omega)
theorem Grid.snoc {G : Imm} {l : List SV} {rs : List (List Int)} (h : Grid G l rs) {s : SV} {zs : List Int} (hx : RowS G s zs) : Grid G (l ++ [s]) (rs ++ [zs]) := by
  refine ⟨by simp [h.1], fun i hi => ?_⟩
  rw [List.length_append, List.length_singleton] at hi
  by_cases hc : i < l.length
  · rw [List.getElem?_append_left hc, List.getElem?_append_left (by rw [← h.1]; exact hc)]
    exact h.2 i hc
  · have e : i = l.length := by omega
    subst e
    rw [List.getElem?_concat_length, h.1, List.getElem?_concat_length]
    exact hx
theorem Grid.set {G : Imm} {l : List SV} {rs : List (List Int)} (h : Grid G l rs) (k : Nat) {s : SV} {zs : List Int} (hx : RowS G s zs) : Grid G (l.set k s) (rs.set k zs) := by
  refine ⟨by rw [List.length_set, List.length_set]; exact h.1, fun i hi => ?_⟩
  rw [List.length_set] at hi
  have hi2 : i < rs.length := by rw [← h.1]; exact hi
  rw [List.getElem?_set, List.getElem?_set]
  by_cases hk : k = i
  · subst hk; rw [if_pos rfl, if_pos rfl, if_pos hi, if_pos hi2]; exact hx
  · rw [if_neg hk, if_neg hk]; exact h.2 i hi
attribute [local irreducible] valL pw cmpZ p2
/-- rows of one length, none too large -/
def Even (m N : Nat) (rs : List (List Int)) : Prop := ∀ zs ∈ rs, zs.length = N ∧ Go.Sl.Below m zs
theorem Even.at {m N : Nat} {rs : List (List Int)} (h : Even m N rs) {k : Int} (hk : 0 ≤ k ∧ k < rs.length) : (rs[k.toNat]?.getD []).length = N ∧ Go.Sl.Below m (rs[k.toNat]?.getD []) := by
  have h1 : k.toNat < rs.length := by omega
  rw [List.getElem?_eq_getElem h1]
  exact h _ (List.getElem_mem h1)
theorem RowS.len {G : Imm} {s : SV} {zs : List Int} (h : RowS G s zs) : s.n = zs.length := by
  obtain ⟨l, h1, _, _, h4⟩ := h
  rw [← h1]; exact h4.1
end Go.Proofs.YtbppmiimeccclaaGreat
set_option linter.unusedVariables false
namespace Go.Proofs.YtbppmiimeccclaaGreat
open Go Go.Sl
theorem Even.mono {m k N : Nat} {rs : List (List Int)} (h : Even m N rs) (hk : m ≤ k) : Even k N rs := fun zs hz => ⟨(h zs hz).1, (h zs hz).2.mono hk⟩
end Go.Proofs.YtbppmiimeccclaaGreat
set_option maxRecDepth 100000
set_option linter.unusedVariables false
namespace Go.Proofs.YtbppmiimeccclaaGreat
open Go Go.Sl
set_option maxHeartbeats 4000000
theorem belowB_map {m k : Nat} {xs : List Int} {f : Int → Int} (h : ∀ x : Int, (x.natAbs : Int) < pb m → ((f x).natAbs : Int) < pb k) (hx : Below m xs) : Below k (xs.map f) := fun z hz => by
  obtain ⟨x, h1, rfl⟩ := List.mem_map.1 hz
  exact h x (hx x h1)
theorem belowB_zip {m k : Nat} {xs ys : List Int} {f : Int → Int → Int} (h : ∀ x y : Int, (x.natAbs : Int) < pb m → (y.natAbs : Int) < pb m → ((f x y).natAbs : Int) < pb k) (hx : Below m xs) (hy : Below m ys) : Below k (List.zipWith f xs ys) := fun z hz => by
  rw [List.mem_iff_getElem] at hz
  obtain ⟨n, hn, rfl⟩ := hz
  rw [List.getElem_zipWith]
  exact h _ _ (hx _ (List.getElem_mem _)) (hy _ (List.getElem_mem _))
theorem doI_small {i : Sl.Instr} {rs : List (List Int)} {m N : Nat} {x : List Int} (he : EvenB m N rs) (ha : 0 ≤ i.a ∧ i.a < rs.length) (hb : i.op = 3 ∨ i.op = 4 → 0 ≤ i.b ∧ i.b < rs.length)
    (hz : i.op = 5 ∨ i.op = 7 → ((cst i).natAbs : Int) < pb 3) (h : doI i rs = some x) : x.length = N ∧ Below (m + 3) x := by
  obtain ⟨haL, haB⟩ := he.at (k := i.a.toNat) (by omega)
  have hp := pb_pos m
  have h4 : 4294967296 * pb m ≤ pb (m + 3) := by rw [← pb_succ]; exact pb_le (by omega)
  unfold doI at h
  simp only at h
  split at h
  · cases h
    exact ⟨by rw [List.length_map]; exact haL, belowB_map (fun x hx => by omega) haB⟩
  · split at h
    · rename_i h3
      obtain ⟨hbL, hbB⟩ := he.at (k := i.b.toNat) (by have := hb (.inl h3); omega)
      cases h
      exact ⟨by rw [List.length_zipWith, haL, hbL, Nat.min_self], belowB_zip (fun x y hx hy => by omega) haB hbB⟩
    · split at h
      · rename_i h4
        obtain ⟨hbL, hbB⟩ := he.at (k := i.b.toNat) (by have := hb (.inr h4); omega)
        cases h
        exact ⟨by rw [List.length_zipWith, haL, hbL, Nat.min_self], belowB_zip (fun x y hx hy => by omega) haB hbB⟩
      · split at h
        · rename_i h57
          cases h
          exact ⟨by rw [List.length_map]; exact haL, belowB_map (fun x hx => by rw [Nat.add_comm]; exact mul_lt_pb (hz h57) hx) haB⟩
        · split at h
          · split at h
            · cases h
              refine ⟨by rw [List.length_map]; exact haL, belowB_map (fun x hx => ?_) haB⟩
              have h1 : (x / cst i).natAbs ≤ x.natAbs := Int.natAbs_ediv_le_natAbs _ _
              omega
            · cases h
          · cases h
            exact ⟨haL, haB.mono (by omega)⟩
theorem EvenB.mono {m k N : Nat} {rs : List (List Int)} (h : EvenB m N rs) (hk : m ≤ k) : EvenB k N rs := fun zs hz => ⟨(h zs hz).1, (h zs hz).2.mono hk⟩
theorem evenB_set {m N : Nat} {rs : List (List Int)} {x : List Int} (h : EvenB m N rs) (hx : x.length = N ∧ Below m x) (k : Nat) : EvenB m N (rs.set k x) := fun zs hz => by
  rcases List.mem_or_eq_of_mem_set hz with h1 | h1
  · exact h zs h1
  · rw [h1]; exact hx
theorem BGrid.set {G : Imm} {r : List SV} {rs : List (List Int)} (h : BGrid G r rs) {s : SV} {x : List Int} (hs : BRow G s x) (k : Nat) : BGrid G (r.set k s) (rs.set k x) := by
  refine ⟨by rw [List.length_set, List.length_set]; exact h.1, fun i hi => ?_⟩
  rw [List.length_set] at hi
  have hrl := h.1
  rw [List.getElem?_set, List.getElem?_set]
  by_cases e : k = i
  · subst e
    rw [if_pos rfl, if_pos rfl, if_pos hi, if_pos (by omega)]
    exact hs
  · rw [if_neg e, if_neg e]
    exact h.2 i hi
attribute [local irreducible] valB pb cmpZ lstWp p2 cst doI
theorem c70 (G : Imm) (k : Int) (s : SV) : Does Tryz.prog 70 [.int .i64 k, .slice s.a s.n s.c] G [] (fun v G' Ho => v = .bool true ∧ G' = G ∧ Ho = []) := by
  refine Does.enter Tryz.func70 rfl Tryz.ntmps70 rfl (fun w => ?_)
  refine Wc.ga 11 [] ?_
  refine Ar.out1 (.inr rfl) (Ho := Hp.only _ []) rfl (.tmp rfl) (Hp.sub_only _ _) ?_
  exact ⟨rfl, rfl, rfl⟩
/-- the run of a program on rows: its registers behind it, or that it fails -/
def RunRPost (p : PV) (gs : List (List Int)) (m N : Nat) (o : Option Addr) (d : Nat) (r : List SV) (j : List Value) (v : Value) (G' : Imm) (Ho : Hp) : Prop :=
  ∃ (r' : List SV) (k : Int), v = .int .i64 k ∧ Ho = [(0, o.map (·.block), Row 44 r' j)] ∧ r'.length = r.length ∧ OwnA o d r' j ∧
    ((∃ rs', runTo p gs p.code.length = some rs' ∧ k = -1 ∧ BGrid G' r' rs' ∧ EvenB (m + 3 * p.code.length) N rs') ∨ (followP p gs = none ∧ 0 ≤ k))
theorem c68 (G : Imm) (p : PV) (gs : List (List Int)) (ac ao : Option Addr) (cc co : Nat) (o : Option Addr) (d : Nat) (r : List SV) (j : List Value) (m N : Nat) (hc : Arr G ac p.code) (hob : OwnA o d r j) (hg : BGrid G r (regs0 p gs)) (hm : EvenB m N (regs0 p gs)) (hN : N ≤ 1048576)
    (hmm : m + 3 * p.code.length ≤ 268435456) (hlen : p.code.length ≤ 16384) (hr : (r.length : Int) = p.regs) (hrr : r.length ≤ 128) (hmay : ∀ i ∈ p.code, mayOk i p.regs = true) :
    Does Tryz.prog 68 [waysR, .agg #[.int .i64 p.ins, .int .i64 p.regs, .slice ac p.code.length cc, .slice ao p.outs.length co], .slice o r.length d, .func (.func 70) #[] #[]] G [(0, o.map (·.block), Row 44 r j)] (RunRPost p gs m N o d r j) := by
  refine Does.enter Tryz.func68 rfl Tryz.ntmps68 rfl (fun w => ?_)
  refine Wc.gl 2 [] ?_
  refine Wl.box 1 rfl rfl rfl (fun b1 => ?_)
  refine Wl.box 2 rfl rfl rfl (fun b2 => ?_)
  refine Wl.gc 3 [] ?_
  refine Wc.scope ?_
  refine Wc.gc 13 [2] ?_
  refine Wc.loopG (ι := Nat × Imm × List SV × List (List Int)) (fun (i, Gx, r2, rs) => ([(16, .int .i64 (i : Int)), (2, .slice o r2.length d), (15, Go.Value.int Go.IntKind.i64 (↑(List.length (Go.Proofs.YtbppmiimeccclaaGreat.PV.code p)) : Int)), (14, Go.Value.slice ac (List.length (Go.Proofs.YtbppmiimeccclaaGreat.PV.code p)) cc), (4, Go.Value.pointer (Option.some (Go.Addr.mk b1 0 Option.none))), (3, Go.Value.func (Go.Fn.func 70) #[] #[])], [(0, o.map (·.block), Row 44 r2 j), (2, Option.some b2, Go.Obj.cells #[Go.Value.int Go.IntKind.i64 (Go.Proofs.YtbppmiimeccclaaGreat.PV.ins p), Go.Value.int Go.IntKind.i64 (Go.Proofs.YtbppmiimeccclaaGreat.PV.regs p), Go.Value.slice ac (List.length (Go.Proofs.YtbppmiimeccclaaGreat.PV.code p)) cc, Go.Value.slice ao (List.length (Go.Proofs.YtbppmiimeccclaaGreat.PV.outs p)) co] 25), (1, Option.some b1, Go.Obj.cells #[Go.Value.func (Go.Fn.func 118) #[] #[], Go.Value.func (Go.Fn.func 119) #[] #[], Go.Value.func (Go.Fn.func 121) #[] #[], Go.Value.func (Go.Fn.func 123) #[] #[], Go.Value.func (Go.Fn.func 124) #[] #[]] 131)])) (fun (i, Gx, r2, rs) => Gx) (fun (i, Gx, r2, rs) => i ≤ p.code.length ∧ G.le Gx ∧ r2.length = r.length ∧ OwnA o d r2 j ∧ BGrid Gx r2 rs ∧ EvenB (m + 3 * i) N rs ∧ runTo p gs i = some rs) (fun (i, Gx, r2, rs) => p.code.length - i) ((0, G, r, regs0 p gs)) (⟨Nat.zero_le _, Imm.le_refl _, rfl, hob, hg, hm, rfl⟩) rfl ⟨rfl, rfl, rfl, rfl, rfl, rfl, trivial⟩ ⟨rfl, rfl, rfl, trivial⟩ (fun ⟨i, Gx, r2, rs⟩ => fun (hk : i ≤ p.code.length ∧ G.le Gx ∧ r2.length = r.length ∧ OwnA o d r2 j ∧ BGrid Gx r2 rs ∧ EvenB (m + 3 * i) N rs ∧ runTo p gs i = some rs) => ?_)
  obtain ⟨hi0, hgx, hr2, ho2, hg2, hb2, hrun⟩ := hk
  replace hc := hc.up hgx
  have hrl := hg2.1
  rcases Nat.lt_or_ge i p.code.length with hic | hic
  · have hmem : (p.code[((i : Nat) : Int).toNat]?.getD default) ∈ p.code := by
      rw [Int.toNat_natCast, List.getElem?_eq_getElem hic]; exact List.getElem_mem hic
    have hmi := hmay _ hmem
    obtain ⟨m1, m2, m3, m4, m5, m6, m7, m8⟩ := may_facts hmi
    have m9 : (p.code[((i : Nat) : Int).toNat]?.getD default).a < rs.length := by omega
    have hbz : (p.code[((i : Nat) : Int).toNat]?.getD default).op = 3 ∨ (p.code[((i : Nat) : Int).toNat]?.getD default).op = 4 ∨ (p.code[((i : Nat) : Int).toNat]?.getD default).b = 0 := by
      unfold mayOk at hmi
      rw [Bool.and_eq_true, Bool.and_eq_true, decide_eq_true_eq] at hmi
      exact hmi.1.1.2.2.2.2
    have mb : 0 ≤ (p.code[((i : Nat) : Int).toNat]?.getD default).b ∧ (p.code[((i : Nat) : Int).toNat]?.getD default).b < r2.length := by
      rcases hbz with h | h | h
      · have := m4 (.inl h); omega
      · have := m4 (.inr h); omega
      · omega
    have mt : 0 ≤ (p.code[((i : Nat) : Int).toNat]?.getD default).to ∧ (p.code[((i : Nat) : Int).toNat]?.getD default).to < r2.length := by omega
    have ma : 0 ≤ (p.code[((i : Nat) : Int).toNat]?.getD default).a ∧ (p.code[((i : Nat) : Int).toNat]?.getD default).a < r2.length := by omega
    have hmi9 : m + 3 * i ≤ 268435456 := by omega
    have hk3 : (p.code[((i : Nat) : Int).toNat]?.getD default).op ≠ 1 → (p.code[((i : Nat) : Int).toNat]?.getD default).op ≠ 2 → (p.code[((i : Nat) : Int).toNat]?.getD default).op ≠ 3 → (p.code[((i : Nat) : Int).toNat]?.getD default).op ≠ 4 → cst (p.code[((i : Nat) : Int).toNat]?.getD default) ≠ 0 ∧ ((cst (p.code[((i : Nat) : Int).toNat]?.getD default)).natAbs : Int) < pb 3 := fun a b c d => ⟨(m6 a b c d).1, Int.lt_of_lt_of_le (m6 a b c d).2 pw5_pb3⟩
    refine Wc.gl 14 [1] ?_
    refine Wl.q rfl (Qy.at (α := Sl.Instr) T.sl22 rfl rfl (by assumption) (by omega)) ?_
    refine Wl.q rfl (Qy.loadsG T.agg93 rfl (Arr.elem (by assumption) (by omega)) rfl) ?_
    refine Wl.alloc 3 rfl T.zero93 (fun b3 => ?_)
    refine Wl.gl 9 [3, 1, 3] ?_
    refine Wl.call 0 rfl T.fn117 rfl (c117 _ (p.code[((i : Nat) : Int).toNat]?.getD default) o d r2 j rs (m + 3 * i) N ho2 hg2 hb2 hN hmi9 m1 ma mb hk3 m7 m8) (tags_of ⟨rfl, trivial⟩) (fun v1 G1 Ho1 hle1 hp => ?_)
    obtain ⟨x, rfl, hx, rfl⟩ := hp
    replace hc := hc.up hle1
    replace hg2 := hg2.up hle1
    by_cases hd : doI (p.code[((i : Nat) : Int).toNat]?.getD default) rs = none
    · have hd2 : ¬ doI (p.code[((i : Nat) : Int).toNat]?.getD default) rs ≠ none := fun h => h hd
      refine Wl.gl 11 [] ?_
      refine Wl.q rfl (Qy.notD rfl) ?_
      refine Wl.ga 16 [1] ?_
      refine Ar.scopeR ?_
      refine Ar.out1 (.inr rfl) (Ho := Hp.only _ [0]) rfl (.tmp rfl) (Hp.sub_only _ _) ?_
      exact ⟨r2, (i : Int), rfl, rfl, hr2, ho2, .inr ⟨runTo_stop hrun hd hic, by omega⟩⟩
    · obtain ⟨z, hz⟩ := Option.ne_none_iff_exists'.1 hd
      have hxz := hx z hz
      have hok : doI (p.code[((i : Nat) : Int).toNat]?.getD default) rs ≠ none := hd
      refine Wl.gl 11 [] ?_
      refine Wl.q rfl (Qy.notD rfl) ?_
      refine Wl.gc 2 [] ?_
      refine Wc.cond rfl (fun hc1 => ?_) (fun hc1 => ?_)
      refine Wc.ga 13 [] ?_
      refine Ar.scopeR ?_
      refine Ar.out1 (.inr rfl) (Ho := Hp.only _ [0]) rfl (.tmp rfl) (Hp.sub_only _ _) ?_
      rotate_left
      refine Wc.gl 8 [3] ?_
      refine Wl.q rfl (Qy.indexAddrO (α := SV) T.sl53 rfl rfl (by assumption) (by omega)) ?_
      refine Wl.setO (z := _) 0 T.size44 rfl rfl rfl (by assumption) (by omega) rfl (fun ho1 => ?_)
      refine Wl.gl 7 [] ?_
      refine Wl.callV (fst := []) (cap := []) 4 rfl T.fn70 rfl rfl (c70 _ _ _) (tags_of trivial) (fun v2 G2 Ho2 hle2 hp => ?_)
      obtain ⟨rfl, rfl, rfl⟩ := hp
      refine Wl.ga 11 [0] ?_
      rotate_left
      · exact absurd hok hc1
      refine Ar.re 2 rfl (show _ = Value.slice o (r2.set (p.code[((i : Nat) : Int).toNat]?.getD default).to.toNat x).length d by rw [List.length_set]) ?_
      refine Ar.again ((i + 1, _, r2.set (p.code[((i : Nat) : Int).toNat]?.getD default).to.toNat x, rs.set (p.code[((i : Nat) : Int).toNat]?.getD default).to.toNat z)) ?_ ?_ rfl ⟨rfl, rfl, rfl, rfl, rfl, rfl, trivial⟩ ⟨rfl, rfl, rfl, trivial⟩
      · refine ⟨by omega, Imm.le_trans hgx hle1, by rw [List.length_set]; exact hr2, by assumption, hg2.set hxz _, ?_, runTo_succ (x := rs) hrun hz⟩
        have hs := doI_small (i := p.code[((i : Nat) : Int).toNat]?.getD default) hb2 (by rw [← hrl]; exact ma) (fun _ => by rw [← hrl]; exact mb) (fun h => (hk3 (fun e => by rw [e] at h; omega) (fun e => by rw [e] at h; omega) (fun e => by rw [e] at h; omega) (fun e => by rw [e] at h; omega)).2) hz
        rw [show m + 3 * (i + 1) = m + 3 * i + 3 by omega]
        exact evenB_set (hb2.mono (by omega)) hs _
      · show p.code.length - (i + 1) < p.code.length - i
        omega
  · have hii : i = p.code.length := by omega
    subst hii
    refine Wc.ga 18 [0] ?_
    refine Ar.scopeR ?_
    refine Ar.out1 (.inr rfl) (Ho := Hp.only _ [0]) rfl (.tmp rfl) (Hp.sub_only _ _) ?_
    exact ⟨r2, -1, rfl, rfl, hr2, ho2, .inl ⟨rs, hrun, rfl, hg2, hb2⟩⟩
end Go.Proofs.YtbppmiimeccclaaGreat
set_option maxRecDepth 100000
set_option linter.unusedVariables false
namespace Go.Proofs.YtbppmiimeccclaaGreat
open Go Go.Sl
set_option maxHeartbeats 4000000
theorem c18R (G : Imm) (p : PV) (ac ao : Option Addr) (cc co : Nat) (hc : Arr G ac p.code) (ho : Arr G ao p.outs) (h1 : p.code.length ≤ 1099511627776) (h2 : p.outs.length ≤ 1099511627776) (hR : rightP p = true) :
    Does Tryz.prog 18 [.agg #[.int .i64 p.ins, .int .i64 p.regs, .slice ac p.code.length cc, .slice ao p.outs.length co]] G [] (fun v G' Ho => v = .tuple #[.int .i64 (checkP p).1, .int .i64 0] ∧ G' = G ∧ Ho = []) := by
  have hf : (checkP p).2 = false := by unfold rightP at hR; simpa using hR
  have h := c18 G p ac ao cc co hc ho h1 h2
  rw [hf] at h
  exact h
theorem cmpZ_zero {x y : Int} (h : cmpZ x y = 0) : x = y := by
  unfold cmpZ at h
  split at h
  · omega
  · split at h <;> omega
theorem take_next {za zb : List Int} {i : Nat} (h : za.take i = zb.take i) (h1 : i < za.length) (h2 : i < zb.length) (he : za[i]?.getD 0 = zb[i]?.getD 0) : za.take (i + 1) = zb.take (i + 1) := by
  rw [List.getElem?_eq_getElem h1, List.getElem?_eq_getElem h2] at he
  rw [List.take_add_one, List.take_add_one, h, List.getElem?_eq_getElem h1, List.getElem?_eq_getElem h2]
  have e : za[i] = zb[i] := he
  rw [e]
/-- the registers at first -/
def regs0Z (p : PV) (zs : List Int) : List Int := zs ++ List.replicate (p.regs.toNat - zs.length) 0
def outsZ (p : PV) (rs : List Int) : List Int := p.outs.map fun r => rs[r.toNat]?.getD 0
/-- the run on numbers -/
def ansZ (p : PV) (zs : List Int) : Option (List Int) := (stepsZ p (regs0Z p zs) p.code.length).map (outsZ p)
theorem bigs_append {G : Imm} {l m : List IV} {zs ys : List Int} (h : Bigs G l zs) (h2 : Bigs G m ys) : Bigs G (l ++ m) (zs ++ ys) := by
  have e1 := h.1
  have e2 := h2.1
  refine ⟨by rw [List.length_append, List.length_append]; omega, fun i hi => ?_⟩
  rw [List.length_append] at hi
  rcases Nat.lt_or_ge i l.length with h3 | h3
  · rw [List.getElem?_append_left h3, List.getElem?_append_left (by omega)]; exact h.2 i h3
  · rw [List.getElem?_append_right h3, List.getElem?_append_right (by omega), ← e1]; exact h2.2 _ (by omega)
theorem below_append {m : Nat} {zs ys : List Int} (h : Below m zs) (h2 : Below m ys) : Below m (zs ++ ys) := fun z hz => by
  rcases List.mem_append.1 hz with h1 | h1
  · exact h z h1
  · exact h2 z h1
theorem below_zeros (m n : Nat) : Below m (List.replicate n 0) := fun z hz => by rw [List.eq_of_mem_replicate hz]; exact pb_pos m
attribute [local irreducible] valB pb cmpZ lstWp p2 cst doZ checkP
theorem c53 (G : Imm) (p : PV) (ac ao : Option Addr) (cc co : Nat) (hc : Arr G ac p.code) (ho : Arr G ao p.outs) (h1 : p.code.length ≤ 1099511627776) (h2 : p.outs.length ≤ 1099511627776) (hR : rightP p = true) (n : Int) (hn : n = p.ins) :
    Does Tryz.prog 53 [.agg #[.int .i64 p.ins, .int .i64 p.regs, .slice ac p.code.length cc, .slice ao p.outs.length co], .int .i64 n] G [] (fun v G' Ho => v = .int .i64 0 ∧ G' = G ∧ Ho = []) := by
  refine Does.enter Tryz.func53 rfl Tryz.ntmps53 rfl (fun w => ?_)
  refine Wc.gl 2 [] ?_
  refine Wl.box 0 rfl rfl rfl (fun b1 => ?_)
  refine Wl.gl 6 [0] ?_
  refine Wl.call0 rfl T.fn18 rfl (c18R _ p _ _ _ _ hc ho h1 h2 hR) ?_
  refine Wl.ga 36 [0, 0, 0] ?_
  refine Ar.out1 (.inr rfl) (Ho := Hp.only _ []) rfl (.tmp rfl) (Hp.sub_only _ _) ?_
  exact ⟨rfl, rfl, rfl⟩
theorem c55 (G : Imm) : Does Tryz.prog 55 [] G [] (fun v G' Ho => v = waysV ∧ G' = G ∧ Ho = []) := by
  refine Does.enter Tryz.func55 rfl Tryz.ntmps55 rfl (fun w => ?_)
  refine Wc.gl 2 [] ?_
  refine Wl.alloc 0 rfl T.zero109 (fun b1 => ?_)
  refine Wl.gl 4 [] ?_
  refine Wl.q rfl (Qy.build (cs := [_, _, _, _, _]) T.st109 rfl rfl rfl) ?_
  refine Wl.ga 4 [0] ?_
  refine Ar.out1 (.inr rfl) (Ho := Hp.only _ []) rfl (.agg 0 rfl rfl T.agg109) (Hp.sub_only _ _) ?_
  exact ⟨rfl, rfl, rfl⟩
/-- what Run answers -/
def RunsPost (p : PV) (zs : List Int) (v : Value) (G' : Imm) (Ho : Hp) : Prop :=
  Ho = [] ∧ ((∃ os b r c', ansZ p zs = some os ∧ v = .tuple #[.slice b (List.length r) c', .int .i64 0, .int .i64 0] ∧ Arr G' b r ∧ Bigs G' r os ∧ List.length r = p.outs.length) ∨ (ansZ p zs = none ∧ ∃ k, v = .tuple #[.slice none 0 0, .int .i64 k, .int .i64 20]))
theorem c19 (G : Imm) (p : PV) (ac ao ai : Option Addr) (cc co ci : Nat) (li : List IV) (zs : List Int) (m : Nat) (hc : Arr G ac p.code) (ho : Arr G ao p.outs) (hi : Arr G ai li) (hb : Bigs G li zs) (hm : Below m zs) (hmm : m ≤ 1048576) (hR : rightP p = true) (hn : (li.length : Int) = p.ins) :
    Does Tryz.prog 19 [.agg #[.int .i64 p.ins, .int .i64 p.regs, .slice ac p.code.length cc, .slice ao p.outs.length co], .slice ai li.length ci] G [] (RunsPost p zs) := by
  obtain ⟨f1, f2, f3, f4, f5, f6, f7, f8⟩ := right_facts hR
  have h1 : p.code.length ≤ 1099511627776 := by omega
  have h2 : p.outs.length ≤ 1099511627776 := by omega
  obtain ⟨R, hRg⟩ : ∃ R, R = p.regs.toNat := ⟨_, rfl⟩
  have hb1 := hb.1
  obtain ⟨r0, hr0⟩ : ∃ r0, r0 = li ++ List.replicate (R - li.length) (default : IV) := ⟨_, rfl⟩
  have lr0 : r0.length = R := by rw [hr0, List.length_append, List.length_replicate]; omega
  have hg0 : Bigs G r0 (regs0Z p zs) := by
    unfold regs0Z
    rw [hr0, ← hb1, ← hRg]; exact bigs_append hb (Bigs.zeros G _)
  have hm0 : Below m (regs0Z p zs) := below_append hm (below_zeros m _)
  refine Does.enter Tryz.func19 rfl Tryz.ntmps19 rfl (fun w => ?_)
  refine Wc.nilRow 0 (Row 104 ([] : List IV) []) ?_
  refine Wc.gl 2 [] ?_
  refine Wl.box 1 rfl rfl rfl (fun b1 => ?_)
  refine Wl.gl 11 [1] ?_
  refine Wl.call0 rfl T.fn53 rfl (c53 _ p _ _ _ _ (by assumption) (by assumption) h1 h2 hR _ hn) ?_
  refine Wl.gl 16 [0, 1] ?_
  refine Wl.make (α := IV) 2 rfl T.sl44 T.el104 rfl rfl (by omega) (by omega) (fun b2 => ?_)
  refine Wl.gl 7 [] ?_
  refine Wl.copyRow (α := IV) 2 rfl T.sl44 rfl rfl rfl (Src.arr (by assumption)) (by first | omega | (simp only [List.length_append, List.length_cons, List.length_nil, List.length_replicate]; omega)) ?_
  refine Wl.gc 4 [] ?_
  refine Wc.draw [0, 1, 2] [(2, 3), (1, 3), (0, 3)] T.mixed rfl ?_
  refine Gm.q 1 [1] (by kernel_rfl) rfl rfl (Qy.loadAll 1 T.agg25 rfl rfl rfl) ?_
  refine Gm.q 2 [] (by kernel_rfl) rfl rfl (Qy.move rfl) ?_
  refine Gm.one 0 ⟨rfl, rfl, rfl, trivial⟩ (by first | exact Imm.le_refl _ | assumption | (refine Imm.le_trans ?_ (by assumption); first | assumption | (refine Imm.le_trans ?_ (by assumption); assumption))) (by kernel_rfl) rfl ?_
  refine Wl.call0 rfl T.fn55 rfl (c55 _) ?_
  refine Wl.on0 ?_
  refine Gm.one 3 ⟨rfl, rfl, rfl, trivial⟩ (by first | exact Imm.le_refl _ | assumption | (refine Imm.le_trans ?_ (by assumption); first | assumption | (refine Imm.le_trans ?_ (by assumption); assumption))) (by kernel_rfl) rfl ?_
  refine Wl.reH 2 (Row 104 r0 []) rfl (by rw [hr0, List.drop_replicate, ← hRg]) ?_
  refine Wl.re 28 rfl (show _ = Value.slice (some ⟨b2, 0, none⟩) r0.length R by rw [List.length_replicate, lr0, ← hRg]) ?_
  refine Wl.re 8 rfl (show _ = Value.slice (some ⟨b2, 0, none⟩) r0.length R by rw [List.length_replicate, lr0, ← hRg]) ?_
  refine Wl.call 2 rfl T.fn54 rfl (c54 _ p ac ao cc co (some ⟨b2, 0, none⟩) R r0 [] (regs0Z p zs) m hc (.inr ⟨b2, rfl, by rw [lr0]; rfl, by omega, by simp only [maxLen]; omega⟩) hg0 hm0 (by omega) f4 (by omega) (by omega) f8) (tags_of ⟨rfl, trivial⟩) (fun v9 G9 Ho9 hle9 hp => ?_)
  obtain ⟨r9, k9, rfl, rfl, hr9, ho9, hcase⟩ := hp
  replace ho := ho.up hle9
  rcases hcase with ⟨rs, hrs, rfl, hg9⟩ | ⟨hno, hk9⟩
  · have hrs1 := hg9.1
    refine Wl.on0 ?_
    refine Gm.q 4 [] (by kernel_rfl) rfl rfl (Qy.assign rfl) ?_
    refine Gm.doneA (by kernel_rfl) trivial (by first | exact Imm.le_refl _ | assumption | (refine Imm.le_trans ?_ (by assumption); first | assumption | (refine Imm.le_trans ?_ (by assumption); assumption))) ?_
    refine Ar.gc 25 [0, 1] ?_
    have lr9 : r9.length = R := by omega
    refine Wc.re 8 rfl (show _ = Value.slice (some ⟨b2, 0, none⟩) r9.length R by rw [lr9, lr0]) ?_
    refine Wc.loop (ι := Nat × List IV × (Option Addr × Nat × List Value)) (fun (i, q, (o, d, j)) => ([(36, .int .i64 (i : Int)), (10, .slice o q.length d), (8, Go.Value.slice (Option.some (Go.Addr.mk b2 0 Option.none)) (List.length r9) R), (35, Go.Value.int Go.IntKind.i64 (↑(List.length (Go.Proofs.YtbppmiimeccclaaGreat.PV.outs p)) : Int)), (34, Go.Value.slice ao (List.length (Go.Proofs.YtbppmiimeccclaaGreat.PV.outs p)) co), (6, Go.Value.int Go.IntKind.i64 0), (5, Go.Value.int Go.IntKind.i64 0), (4, Go.Value.slice Option.none 0 0)], [(0, o.map (·.block), Row 104 q j), (2, some b2, Row 104 r9 []), (1, Option.some b1, Go.Obj.cells #[Go.Value.int Go.IntKind.i64 (Go.Proofs.YtbppmiimeccclaaGreat.PV.ins p), Go.Value.int Go.IntKind.i64 (Go.Proofs.YtbppmiimeccclaaGreat.PV.regs p), Go.Value.slice ac (List.length (Go.Proofs.YtbppmiimeccclaaGreat.PV.code p)) cc, Go.Value.slice ao (List.length (Go.Proofs.YtbppmiimeccclaaGreat.PV.outs p)) co] 25)])) (fun (i, q, (o, d, j)) => i ≤ p.outs.length ∧ q.length = i ∧ Bigs G9 q ((outsZ p rs).take i) ∧ OwnA o d q j) (fun (i, q, (o, d, j)) => p.outs.length - i) ((0, [], (none, 0, []))) (⟨Nat.zero_le _, rfl, by rw [List.take_zero]; exact Bigs.nil _, OwnA.nil⟩) ⟨rfl, rfl, rfl, rfl, rfl, rfl, rfl, rfl, trivial⟩ ⟨rfl, rfl, rfl, trivial⟩ (fun ⟨i, q, (o, d, j)⟩ => fun (hk : i ≤ p.outs.length ∧ q.length = i ∧ Bigs G9 q ((outsZ p rs).take i) ∧ OwnA o d q j) => ?_)
    obtain ⟨hi0, hqi, hbq, hoq⟩ := hk
    rcases Nat.lt_or_ge i p.outs.length with hio | hio
    · have hmem : p.outs[((i : Nat) : Int).toNat]?.getD default ∈ p.outs := by
        rw [Int.toNat_natCast, List.getElem?_eq_getElem hio]; exact List.getElem_mem hio
      have hrg := f7 _ hmem
      refine Wc.gl 13 [1] ?_
      refine Wl.q rfl (Qy.at (α := Int) T.sl23 rfl rfl (by assumption) (by omega)) ?_
      refine Wl.q rfl (Qy.loadG T.one3 rfl (Arr.cell (by assumption) (by omega) 0 rfl rfl)) ?_
      refine Wl.gl 7 [] ?_
      refine Wl.q rfl (Qy.indexAddrO (α := IV) T.sl44 rfl rfl (by assumption) (by omega)) ?_
      refine Wl.q rfl (Qy.loadsO 2 T.agg104 rfl rfl (by assumption) (by omega)) ?_
      refine Wl.lit (α := IV) 3 [(Option.getD r9[Int.toNat (Option.getD (Go.Proofs.YtbppmiimeccclaaGreat.PV.outs p)[Int.toNat (↑i : Int)]? Inhabited.default)]? Inhabited.default)] rfl T.sl44 T.el104 rfl rfl rfl rfl rfl (fun b3 => ?_)
      refine Wl.append (α := IV) 0 rfl T.sl44 T.el104 rfl rfl rfl (by first | assumption | exact OwnA.nil | exact OwnA.made (by simp)) (Src.row 3 rfl) (by first | omega | (simp only [List.length_append, List.length_cons, List.length_nil, maxLen]; omega)) (by first | omega | (simp only [List.length_append, List.length_cons, List.length_nil, maxLen]; omega)) (fun a1 c1 junk1 ho1 => ?_)
      refine Wl.ga 8 [] ?_
      refine Ar.again ((i + 1, q ++ [r9[(p.outs[((i : Nat) : Int).toNat]?.getD default).toNat]?.getD default], (a1, c1, junk1))) ?_ ?_ rfl ⟨rfl, rfl, rfl, rfl, rfl, rfl, rfl, rfl, trivial⟩ ⟨rfl, rfl, rfl, trivial⟩
      · refine ⟨by omega, by rw [List.length_append, hqi]; rfl, ?_, ho1⟩
        have e : (outsZ p rs).take (i + 1) = (outsZ p rs).take i ++ [rs[(p.outs[((i : Nat) : Int).toNat]?.getD default).toNat]?.getD 0] := by
          rw [List.take_add_one]
          congr 1
          unfold outsZ
          rw [List.getElem?_map, Int.toNat_natCast, List.getElem?_eq_getElem hio]; rfl
        rw [e]
        exact Bigs.snoc hbq (hg9.at (by omega))
      · show p.outs.length - (i + 1) < p.outs.length - i
        omega
    · have hii : i = p.outs.length := by omega
      subst hii
      refine Wc.ga 21 [0] ?_
      refine Ar.freezeRow 0 rfl hoq (fun G8 hle8 hA => ?_)
      refine Ar.out3 (.inr rfl) (Ho := []) rfl (.tmp rfl) (.tmp rfl) (.tmp rfl) trivial ?_
      have hol : (outsZ p rs).length = p.outs.length := by unfold outsZ; rw [List.length_map]
      rw [List.take_of_length_le (by omega)] at hbq
      exact ⟨rfl, .inl ⟨outsZ p rs, o, q, d, by unfold ansZ; rw [hrs]; rfl, rfl, hA, hbq.up hle8, hqi⟩⟩
  · refine Wl.on0 ?_
    refine Gm.q 4 [] (by kernel_rfl) rfl rfl (Qy.assign rfl) ?_
    refine Gm.doneA (by kernel_rfl) trivial (by first | exact Imm.le_refl _ | assumption | (refine Imm.le_trans ?_ (by assumption); first | assumption | (refine Imm.le_trans ?_ (by assumption); assumption))) ?_
    refine Ar.ga 18 [1] ?_
    refine Ar.out3 (.inr rfl) (Ho := []) rfl (.tmp rfl) (.tmp rfl) (.tmp rfl) trivial ?_
    exact ⟨rfl, .inr ⟨by unfold ansZ; rw [hno]; rfl, k9, rfl⟩⟩
end Go.Proofs.YtbppmiimeccclaaGreat
set_option maxRecDepth 100000
set_option linter.unusedVariables false
namespace Go.Proofs.YtbppmiimeccclaaGreat
open Go Go.Sl
set_option maxHeartbeats 4000000
theorem brow_next {G : Imm} {r : List SV} {rs : List (List Int)} {k : Nat} {s : SV} (h : ∀ q : Nat, q < k → BRow G (r[q]?.getD default) (rs[q]?.getD [])) (hk : k < r.length) (hs : BRow G s (rs[k]?.getD [])) : ∀ q : Nat, q < k + 1 → BRow G ((r.set k s)[q]?.getD default) (rs[q]?.getD []) := fun q hq => by
  rw [List.getElem?_set]
  by_cases he : k = q
  · subst he; rw [if_pos rfl, if_pos hk]; exact hs
  · rw [if_neg he]; exact h q (by omega)
theorem brows_up {G G' : Imm} {r : List SV} {rs : List (List Int)} {k : Nat} (h : ∀ q : Nat, q < k → BRow G (r[q]?.getD default) (rs[q]?.getD [])) (hl : G.le G') : ∀ q : Nat, q < k → BRow G' (r[q]?.getD default) (rs[q]?.getD []) := fun q hq => (h q hq).up hl
attribute [local irreducible] valB pb cmpZ lstWp p2 cst doI
theorem c67 (G : Imm) (p : PV) (ac ao ga : Option Addr) (cc co gc : Nat) (gl : List SV) (gs : List (List Int)) (m N : Nat) (hc : Arr G ac p.code) (ho : Arr G ao p.outs) (hga : Arr G ga gl) (hgg : BGrid G gl gs) (hev : EvenB m N gs) (hN : N ≤ 4096) (hR : rightP p = true) (hgi : (gl.length : Int) = p.ins) :
    Does Tryz.prog 67 [.agg #[.int .i64 p.ins, .int .i64 p.regs, .slice ac p.code.length cc, .slice ao p.outs.length co], .slice ga gl.length gc] G [] (fun v G' Ho => ∃ b r, v = .tuple #[.slice (some ⟨b, 0, none⟩) r.length p.regs.toNat, .int .i64 0] ∧ BGrid G' r (regs0 p gs) ∧ r.length = p.regs.toNat ∧ Ho = [(1, some b, Row 44 r [])]) := by
  obtain ⟨f1, f2, f3, f4, f5, f6, f7, f8⟩ := right_facts hR
  have h1 : p.code.length ≤ 1099511627776 := by omega
  have h2 : p.outs.length ≤ 1099511627776 := by omega
  have hgl := hgg.1
  obtain ⟨R, hRR⟩ : ∃ R : Nat, p.regs = (R : Int) := ⟨p.regs.toNat, by omega⟩
  refine Does.enter Tryz.func67 rfl Tryz.ntmps67 rfl (fun w => ?_)
  have hM : p.regs.toNat = R := by omega
  have hrl0 := regs0_len p gs
  rw [hM] at hrl0
  have hgl0 : 0 < gl.length := by omega
  obtain ⟨h0L, h0B⟩ := hev.at (k := 0) (by omega)
  obtain ⟨l0, e1, e2, e3, e4⟩ := hgg.2 0 (by omega)
  have h0n : (gl[(0 : Int).toNat]?.getD default).n = N := by
    show (gl[0]?.getD default).n = N
    rw [← e1, e4.1, h0L]
  refine Wc.gl 2 [] ?_
  refine Wl.box 0 rfl rfl rfl (fun b1 => ?_)
  refine Wl.gl 10 [0] ?_
  refine Wl.call0 rfl T.fn53 rfl (c53 _ p _ _ _ _ (by assumption) (by assumption) h1 h2 hR _ hgi) ?_
  refine Wl.gl 15 [0] ?_
  refine Wl.q rfl (Qy.at (α := SV) T.sl53 rfl rfl (by assumption) (by omega)) ?_
  refine Wl.q rfl (Qy.loadG T.one44 rfl (Arr.cell (by assumption) (by omega) 0 rfl rfl)) ?_
  refine Wl.gl 8 [0] ?_
  refine Wl.make (α := SV) 1 rfl T.sl53 T.el44 rfl rfl (by omega) (by omega) (fun b2 => ?_)
  refine Wl.gc 12 [] ?_
  rw [hM]
  have hown : ∀ r : List SV, r.length = R → OwnA (some ⟨b2, 0, none⟩) R r [] := fun r hr => .inr ⟨b2, rfl, by rw [hr]; rfl, by omega, by simp only [maxLen]; omega⟩
  refine Wc.re 8 rfl (show _ = Value.slice (some ⟨b2, 0, none⟩) (List.replicate R (default : SV)).length R by rw [List.length_replicate]) ?_
  refine Wc.re 7 rfl (show _ = Value.int .i64 (N : Int) by rw [h0n]) ?_
  refine Wc.re 25 rfl (show _ = Value.int .i64 (R : Int) by rw [List.length_replicate]) ?_
  refine Wc.loopG (ι := Nat × Imm × List SV) (fun (k, Gx, r) => ([(26, .int .i64 (k : Int)), (8, .slice (some ⟨b2, 0, none⟩) r.length R), (25, Go.Value.int Go.IntKind.i64 (↑R : Int)), (7, Go.Value.int Go.IntKind.i64 (↑N : Int)), (1, Go.Value.slice ga (List.length gl) gc)], [(1, some b2, Row 44 r []), (0, Option.some b1, Go.Obj.cells #[Go.Value.int Go.IntKind.i64 (Go.Proofs.YtbppmiimeccclaaGreat.PV.ins p), Go.Value.int Go.IntKind.i64 (Go.Proofs.YtbppmiimeccclaaGreat.PV.regs p), Go.Value.slice ac (List.length (Go.Proofs.YtbppmiimeccclaaGreat.PV.code p)) cc, Go.Value.slice ao (List.length (Go.Proofs.YtbppmiimeccclaaGreat.PV.outs p)) co] 25)])) (fun (k, Gx, r) => Gx) (fun (k, Gx, r) => k ≤ R ∧ G.le Gx ∧ r.length = R ∧ ∀ q : Nat, q < k → BRow Gx (r[q]?.getD default) ((regs0 p gs)[q]?.getD [])) (fun (k, Gx, r) => R - k) ((0, G, List.replicate R (default : SV))) (⟨Nat.zero_le _, Imm.le_refl _, List.length_replicate, fun q hq => by omega⟩) rfl ⟨rfl, rfl, rfl, rfl, rfl, trivial⟩ ⟨rfl, rfl, trivial⟩ (fun ⟨k, Gx, r⟩ => fun (hk : k ≤ R ∧ G.le Gx ∧ r.length = R ∧ ∀ q : Nat, q < k → BRow Gx (r[q]?.getD default) ((regs0 p gs)[q]?.getD [])) => ?_)
  obtain ⟨hk0, hgx, hrR, hrow⟩ := hk
  replace hga := hga.up hgx
  replace hgg := hgg.up hgx
  have hor := hown r hrR
  rcases Nat.lt_or_ge k R with hkR | hkR
  · by_cases hkg : k < gl.length
    · have hkn : (gl[((k : Nat) : Int).toNat]?.getD default).n = N := by
        obtain ⟨l1, a1, a2, a3, a4⟩ := hgg.2 k hkg
        rw [Int.toNat_natCast, ← a1, a4.1]
        exact (hev.at (k := k) (by omega)).1
      refine Wc.gl 22 [1] ?_
      refine Wl.make (α := IV) 2 rfl T.sl44 T.el104 rfl rfl (by omega) (by omega) (fun b3 => ?_)
      refine Wl.q rfl (Qy.indexAddrO (α := SV) T.sl53 rfl rfl (by assumption) (by omega)) ?_
      refine Wl.re 32 rfl (show _ = Value.slice (some ⟨b3, 0, none⟩) N N by rw [List.length_replicate]; rfl) ?_
      refine Wl.reH 2 (Row 104 (List.replicate N (default : IV)) []) rfl rfl ?_
      refine Wl.setO (z := (⟨some ⟨b3, 0, none⟩, N, N⟩ : SV)) (m := ((k : Nat) : Int)) 1 T.size44 rfl rfl rfl hor (by omega) rfl (fun ho1 => ?_)
      have hrk : ((r.set k (⟨some ⟨b3, 0, none⟩, N, N⟩ : SV))[k]?.getD default) = ⟨some ⟨b3, 0, none⟩, N, N⟩ := by rw [List.getElem?_set, if_pos rfl, if_pos (by omega)]; rfl
      have ho3 : OwnA (some ⟨b3, 0, none⟩) N (List.replicate N (default : IV)) [] := .inr ⟨b3, rfl, by rw [List.length_replicate]; rfl, by rw [List.length_replicate]; exact Nat.le_refl _, by simp only [maxLen]; omega⟩
      rw [Int.toNat_natCast] at ho1 ⊢
      obtain ⟨r9, hr9⟩ : ∃ r9, r9 = r.set k (⟨some ⟨b3, 0, none⟩, N, N⟩ : SV) := ⟨_, rfl⟩
      have hr9l : r9.length = R := by rw [hr9, List.length_set]; exact hrR
      rw [← hr9] at ho1 hrk ⊢
      refine Wl.gl 16 [1] ?_
      refine Wl.q rfl (Qy.at (α := SV) T.sl53 rfl rfl (by assumption) (by omega)) ?_
      refine Wl.q rfl (Qy.loadG T.one44 rfl (Arr.cell (by assumption) (by omega) 0 rfl rfl)) ?_
      refine Wl.ll0 4 [] ?_
      refine Wl.no 45 rfl (by first | assumption | omega) ?_
      refine Wl.gc 10 [0] ?_
      refine Wc.draw [0, 2, 1] [(1, 8), (2, 8)] T.mixed rfl ?_
      refine Gm.q 0 [] (by kernel_rfl) rfl rfl (Qy.move rfl) ?_
      refine Gm.q 1 [] (by kernel_rfl) rfl rfl (Qy.move rfl) ?_
      refine Gm.q 2 [] (by kernel_rfl) rfl rfl (Qy.indexAddrO (α := SV) T.sl53 rfl rfl (by assumption) (by omega)) ?_
      refine Gm.q 3 [0, 1] (by kernel_rfl) rfl rfl (Qy.loadO 1 0 T.one44 rfl rfl (by assumption) (by omega) rfl rfl) ?_
      refine Gm.q 4 [] (by kernel_rfl) rfl rfl (Qy.move rfl) ?_
      refine Gm.q 5 [] (by kernel_rfl) rfl rfl (Qy.move rfl) ?_
      refine Gm.q 6 [] (by kernel_rfl) rfl rfl (Qy.at (α := SV) T.sl53 rfl rfl (by assumption) (by omega)) ?_
      refine Gm.q 7 [0] (by kernel_rfl) rfl rfl (Qy.loadG T.one44 rfl (Arr.cell (by assumption) (by omega) 0 rfl rfl)) ?_
      refine Gm.one 8 ⟨rfl, rfl, rfl, trivial⟩ (by first | exact Imm.le_refl _ | repeat (first | assumption | refine Imm.le_trans ?_ (by assumption))) (by kernel_rfl) rfl ?_
      obtain ⟨l1, a1, a2, a3, a4⟩ := hgg.2 k hkg
      have hl1 : l1.length = N := by rw [a1]; exact hkn
      refine Wl.re 52 rfl (show _ = Value.slice (some ⟨b3, 0, none⟩) (List.replicate N (default : IV)).length N by rw [Int.toNat_natCast, hrk, List.length_replicate]) ?_
      refine Wl.re 56 rfl (show _ = Value.slice (gl[k]?.getD default).a l1.length (gl[k]?.getD default).c by rw [a1]; rfl) ?_
      refine Wl.copyRow (α := IV) 2 rfl T.sl44 rfl rfl rfl (Src.arr a3) (by rw [hl1, List.length_replicate]; exact Nat.le_refl _) ?_
      refine Wl.reH 2 (Row 104 l1 []) rfl (by rw [hl1, List.drop_replicate, Nat.sub_self, List.replicate_zero, List.append_nil]) ?_
      have ho4 : OwnA (some ⟨b3, 0, none⟩) N l1 [] := .inr ⟨b3, rfl, by rw [hl1]; rfl, by rw [hl1]; exact Nat.le_refl _, by simp only [maxLen]; omega⟩
      refine Wl.on0 ?_
      refine Gm.doneA (by kernel_rfl) ⟨rfl, trivial⟩ (by first | exact Imm.le_refl _ | repeat (first | assumption | refine Imm.le_trans ?_ (by assumption))) ?_
      refine Ar.ga 6 [] ?_
      refine Ar.freezeRow 2 rfl ho4 (fun G1 hle1 hA1 => ?_)
      refine Ar.re 8 rfl (show _ = Value.slice (some ⟨b2, 0, none⟩) r9.length R by rw [hr9l, hrR]) ?_
      refine Ar.again ((k + 1, G1, r9)) ?_ ?_ rfl ⟨rfl, rfl, rfl, rfl, rfl, trivial⟩ ⟨rfl, rfl, trivial⟩
      · have hs9 : BRow G1 ⟨some ⟨b3, 0, none⟩, N, N⟩ ((regs0 p gs)[k]?.getD []) := by
          rw [regs0_at (by omega), if_pos (by omega)]
          exact ⟨l1, hl1, Nat.le_refl _, hA1, a4.up hle1⟩
        refine ⟨by omega, Imm.le_trans hgx hle1, hr9l, fun q hq => ?_⟩
        rw [hr9]
        exact brow_next (brows_up hrow hle1) (by omega) hs9 q hq
      · show R - (k + 1) < R - k
        omega
    · refine Wc.gl 22 [1] ?_
      refine Wl.make (α := IV) 2 rfl T.sl44 T.el104 rfl rfl (by omega) (by omega) (fun b3 => ?_)
      refine Wl.q rfl (Qy.indexAddrO (α := SV) T.sl53 rfl rfl (by assumption) (by omega)) ?_
      refine Wl.re 32 rfl (show _ = Value.slice (some ⟨b3, 0, none⟩) N N by rw [List.length_replicate]; rfl) ?_
      refine Wl.reH 2 (Row 104 (List.replicate N (default : IV)) []) rfl rfl ?_
      refine Wl.setO (z := (⟨some ⟨b3, 0, none⟩, N, N⟩ : SV)) (m := ((k : Nat) : Int)) 1 T.size44 rfl rfl rfl hor (by omega) rfl (fun ho1 => ?_)
      have hrk : ((r.set k (⟨some ⟨b3, 0, none⟩, N, N⟩ : SV))[k]?.getD default) = ⟨some ⟨b3, 0, none⟩, N, N⟩ := by rw [List.getElem?_set, if_pos rfl, if_pos (by omega)]; rfl
      have ho3 : OwnA (some ⟨b3, 0, none⟩) N (List.replicate N (default : IV)) [] := .inr ⟨b3, rfl, by rw [List.length_replicate]; rfl, by rw [List.length_replicate]; exact Nat.le_refl _, by simp only [maxLen]; omega⟩
      rw [Int.toNat_natCast] at ho1 ⊢
      obtain ⟨r9, hr9⟩ : ∃ r9, r9 = r.set k (⟨some ⟨b3, 0, none⟩, N, N⟩ : SV) := ⟨_, rfl⟩
      have hr9l : r9.length = R := by rw [hr9, List.length_set]; exact hrR
      rw [← hr9] at ho1 hrk ⊢
      refine Wl.ga 18 [0] ?_
      refine Ar.freezeRow 2 rfl ho3 (fun G1 hle1 hA1 => ?_)
      refine Ar.re 8 rfl (show _ = Value.slice (some ⟨b2, 0, none⟩) r9.length R by rw [hr9l, hrR]) ?_
      refine Ar.again ((k + 1, G1, r9)) ?_ ?_ rfl ⟨rfl, rfl, rfl, rfl, rfl, trivial⟩ ⟨rfl, rfl, trivial⟩
      · have hs9 : BRow G1 ⟨some ⟨b3, 0, none⟩, N, N⟩ ((regs0 p gs)[k]?.getD []) := by
          rw [regs0_at (by omega), if_neg (by omega), h0L]
          exact ⟨_, List.length_replicate, Nat.le_refl _, hA1, Bigs.zeros _ _⟩
        refine ⟨by omega, Imm.le_trans hgx hle1, hr9l, fun q hq => ?_⟩
        rw [hr9]
        exact brow_next (brows_up hrow hle1) (by omega) hs9 q hq
      · show R - (k + 1) < R - k
        omega
  · refine Wc.ga 20 [0] ?_
    refine Ar.out2 (.inr rfl) (Ho := [(1, some b2, Row 44 r [])]) rfl (.tmp rfl) (.tmp rfl) ⟨rfl, trivial⟩ ?_
    exact ⟨b2, r, rfl, ⟨by omega, fun i hi => hrow i (by omega)⟩, hrR, rfl⟩
end Go.Proofs.YtbppmiimeccclaaGreat
set_option maxRecDepth 100000
set_option linter.unusedVariables false
namespace Go.Proofs.YtbppmiimeccclaaGreat
open Go Go.Sl
set_option maxHeartbeats 4000000
theorem brow_snoc {G : Imm} {q : List SV} {os : List (List Int)} {i : Nat} {s : SV} (h : ∀ t : Nat, t < i → BRow G (q[t]?.getD default) (os[t]?.getD [])) (hq : q.length = i) (hs : BRow G s (os[i]?.getD [])) : ∀ t : Nat, t < i + 1 → BRow G ((q ++ [s])[t]?.getD default) (os[t]?.getD []) := fun t ht => by
  rcases Nat.lt_or_ge t i with h1 | h1
  · rw [List.getElem?_append_left (by omega)]; exact h t h1
  · have e : t = i := by omega
    subst e
    rw [List.getElem?_append_right (by omega), hq, Nat.sub_self]; exact hs
theorem outs_at {p : PV} {rs : List (List Int)} {i : Nat} (hi : i < p.outs.length) : (outsOf p rs)[i]?.getD [] = rs[(p.outs[((i : Nat) : Int).toNat]?.getD default).toNat]?.getD [] := by
  unfold outsOf
  rw [List.getElem?_map, Int.toNat_natCast, List.getElem?_eq_getElem hi]; rfl
attribute [local irreducible] valB pb cmpZ lstWp p2 cst doI
theorem c71 (G : Imm) (a : Option Addr) (c : Nat) (l : List IV) (ha : Arr G a l) (hl : l.length ≤ 1048576) :
    Does Tryz.prog 71 [.slice a l.length c] G [] (fun v G' Ho => ∃ s d, v = .slice s l.length d ∧ Arr G' s l ∧ l.length ≤ d ∧ Ho = []) := by
  by_cases hne : a = none
  · have h0 : l = [] := by
      rcases ha.2 with h | ⟨b, o, h, _⟩
      · exact List.eq_nil_of_length_eq_zero h
      · rw [hne] at h; cases h
    subst hne
    subst h0
    have hyes : (none : Option Addr) = none := rfl
    refine Does.enter Tryz.func71 rfl Tryz.ntmps71 rfl (fun w => ?_)
    refine Wc.gl 9 [] ?_
    refine Wl.q rfl (Qy.eqlSliceNil T.sl44 rfl rfl) ?_
    refine Wl.ga 10 [1] ?_
    refine Ar.e1 ?_
    exact ⟨none, 0, rfl, Arr.nil _, Nat.le_refl _, rfl⟩
  refine Does.enter Tryz.func71 rfl Tryz.ntmps71 rfl (fun w => ?_)
  refine Wc.gl 9 [] ?_
  refine Wl.q rfl (Qy.eqlSliceNil T.sl44 rfl rfl) ?_
  refine Wl.gl 7 [0] ?_
  refine Wl.lit0 0 rfl T.sl44 (fun b1 => ?_)
  refine Wl.ll0 1 [] ?_
  refine Wl.reH 0 (Row 104 ([] : List IV) []) rfl rfl ?_
  refine Wl.append (α := IV) (xs := []) (ys := l) (junk := []) 0 rfl T.sl44 T.el104 rfl rfl rfl (.inr ⟨b1, rfl, rfl, Nat.le_refl _, Nat.zero_le _⟩) (Src.arr ha) (by rw [List.length_nil]; omega) (by rw [List.length_nil]; simp only [maxLen]; omega) (fun a1 c1 junk1 ho1 => ?_)
  rw [List.nil_append] at ho1 ⊢
  have hc1 := ho1.le
  refine Wl.ga 4 [] ?_
  refine Ar.freezeRow 0 rfl ho1 (fun G1 hle1 hA1 => ?_)
  refine Ar.e1 ?_
  exact ⟨a1, c1, rfl, hA1, hc1, rfl⟩
/-- what Rows answers -/
def RowsPost (p : PV) (gs : List (List Int)) (m N : Nat) (v : Value) (G' : Imm) (Ho : Hp) : Prop :=
  Ho = [] ∧ ((∃ os b r c', followP p gs = some os ∧ v = .tuple #[.slice b (List.length r) c', .int .i64 0, .int .i64 0] ∧ Arr G' b r ∧ List.length r ≤ c' ∧ BGrid G' r os ∧ EvenB (m + 3 * p.code.length) N os) ∨ (followP p gs = none ∧ ∃ k, v = .tuple #[.slice none 0 0, .int .i64 k, .int .i64 20]))
theorem c24 (G : Imm) (p : PV) (ac ao ga : Option Addr) (cc co gc : Nat) (gl : List SV) (gs : List (List Int)) (m N : Nat) (hc : Arr G ac p.code) (ho : Arr G ao p.outs) (hga : Arr G ga gl) (hgg : BGrid G gl gs) (hev : EvenB m N gs) (hmm : m ≤ 1048576) (hN : N ≤ 4096) (hR : rightP p = true) (hgi : (gl.length : Int) = p.ins) :
    Does Tryz.prog 24 [.agg #[.int .i64 p.ins, .int .i64 p.regs, .slice ac p.code.length cc, .slice ao p.outs.length co], .slice ga gl.length gc] G [] (RowsPost p gs m N) := by
  obtain ⟨f1, f2, f3, f4, f5, f6, f7, f8⟩ := right_facts hR
  obtain ⟨R, hRR⟩ : ∃ R : Nat, p.regs = (R : Int) := ⟨p.regs.toNat, by omega⟩
  refine Does.enter Tryz.func24 rfl Tryz.ntmps24 rfl (fun w => ?_)
  refine Wc.nilRow 0 (Row 44 ([] : List SV) []) ?_
  refine Wc.gl 2 [] ?_
  refine Wl.box 1 rfl rfl rfl (fun b1 => ?_)
  refine Wl.gl 9 [1] ?_
  refine Wl.k 2 rfl (c67 _ p ac ao ga cc co gc gl gs m N hc ho hga hgg hev hN hR hgi) (fun v1 G1 Ho1 hle1 hp => ?_)
  obtain ⟨b9, r0, rfl, hg0, hr0, rfl⟩ := hp
  replace hc := hc.up hle1
  replace ho := ho.up hle1
  have hrl0 := regs0_len p gs
  have hm0 : EvenB m N (regs0 p gs) := fun zs hz => by
    unfold regs0 at hz
    obtain ⟨k, hk, rfl⟩ := List.mem_map.1 hz
    have hN9 := (hev.at (k := 0) (by have := hgg.1; omega)).1
    split
    · exact hev.at (k := k) (by omega)
    · rw [hN9]
      exact ⟨List.length_replicate, below_zeros m _⟩
  refine Wl.gc 19 [0] ?_
  refine Wc.draw [0, 1, 3] [(3, 3), (1, 3), (0, 3)] T.mixed rfl ?_
  refine Gm.c 1 [1] [1] ?_
  refine Gm.c 2 [] [] ?_
  refine Gm.o1 0 ?_
  refine Wl.k0 rfl (c69 _) ?_
  refine Wl.on0 ?_
  refine Gm.o1 3 ?_
  refine Wl.k 3 rfl (c68 _ p gs ac ao cc co (some ⟨b9, 0, none⟩) p.regs.toNat r0 [] m N hc (.inr ⟨b9, rfl, by rw [hr0]; rfl, by omega, by simp only [maxLen]; omega⟩) hg0 hm0 (by omega) (by omega) f4 (by omega) (by omega) f8) (fun v9 G9 Ho9 hle9 hp => ?_)
  obtain ⟨r9, k9, rfl, rfl, hr9, ho9, hcase⟩ := hp
  replace ho := ho.up hle9
  rcases hcase with ⟨rs, hrs, rfl, hg9, he9⟩ | ⟨hno, hk9⟩
  · have hrs1 := hg9.1
    have lr9 : r9.length = R := by omega
    have hfol : followP p gs = some (outsOf p rs) := by unfold followP; rw [hrs]; rfl
    refine Wl.on0 ?_
    refine Gm.c 4 [] [] ?_
    refine Gm.doneA (by kernel_rfl) trivial (by first | exact Imm.le_refl _ | repeat (first | assumption | refine Imm.le_trans ?_ (by assumption))) ?_
    refine Ar.gc 25 [0, 1] ?_
    refine Wc.re 7 rfl (show _ = Value.slice (some ⟨b9, 0, none⟩) r9.length p.regs.toNat by rw [hr9]) ?_
    refine Wc.loopG (ι := Nat × Imm × List SV × (Option Addr × Nat × List Value)) (fun (i, Gx, q, (o, d, j)) => ([(32, .int .i64 (i : Int)), (10, .slice o q.length d), (7, Go.Value.slice (Option.some (Go.Addr.mk b9 0 Option.none)) (List.length r9) (Int.toNat (Go.Proofs.YtbppmiimeccclaaGreat.PV.regs p))), (31, Go.Value.int Go.IntKind.i64 (↑(List.length (Go.Proofs.YtbppmiimeccclaaGreat.PV.outs p)) : Int)), (30, Go.Value.slice ao (List.length (Go.Proofs.YtbppmiimeccclaaGreat.PV.outs p)) co), (6, Go.Value.int Go.IntKind.i64 0), (5, Go.Value.int Go.IntKind.i64 0), (4, Go.Value.slice Option.none 0 0)], [(0, o.map (·.block), Row 44 q j), (3, some b9, Row 44 r9 []), (1, Option.some b1, Go.Obj.cells #[Go.Value.int Go.IntKind.i64 (Go.Proofs.YtbppmiimeccclaaGreat.PV.ins p), Go.Value.int Go.IntKind.i64 (Go.Proofs.YtbppmiimeccclaaGreat.PV.regs p), Go.Value.slice ac (List.length (Go.Proofs.YtbppmiimeccclaaGreat.PV.code p)) cc, Go.Value.slice ao (List.length (Go.Proofs.YtbppmiimeccclaaGreat.PV.outs p)) co] 25)])) (fun (i, Gx, q, (o, d, j)) => Gx) (fun (i, Gx, q, (o, d, j)) => i ≤ p.outs.length ∧ G9.le Gx ∧ q.length = i ∧ (∀ t : Nat, t < i → BRow Gx (q[t]?.getD default) ((outsOf p rs)[t]?.getD [])) ∧ OwnA o d q j) (fun (i, Gx, q, (o, d, j)) => p.outs.length - i) ((0, G9, [], (none, 0, []))) (⟨Nat.zero_le _, Imm.le_refl _, rfl, fun t ht => by omega, OwnA.nil⟩) rfl ⟨rfl, rfl, rfl, rfl, rfl, rfl, rfl, rfl, trivial⟩ ⟨rfl, rfl, rfl, trivial⟩ (fun ⟨i, Gx, q, (o, d, j)⟩ => fun (hk : i ≤ p.outs.length ∧ G9.le Gx ∧ q.length = i ∧ (∀ t : Nat, t < i → BRow Gx (q[t]?.getD default) ((outsOf p rs)[t]?.getD [])) ∧ OwnA o d q j) => ?_)
    obtain ⟨hi0, hgx, hqi, hbq, hoq⟩ := hk
    replace ho := ho.up hgx
    rcases Nat.lt_or_ge i p.outs.length with hio | hio
    · have hmem : p.outs[((i : Nat) : Int).toNat]?.getD default ∈ p.outs := by
        rw [Int.toNat_natCast, List.getElem?_eq_getElem hio]; exact List.getElem_mem hio
      have hrg := f7 _ hmem
      obtain ⟨l1, a1, a2, a3, a4⟩ := hg9.2 (p.outs[((i : Nat) : Int).toNat]?.getD default).toNat (by omega)
      have hN1 := (he9.at (k := (p.outs[((i : Nat) : Int).toNat]?.getD default).toNat) (by omega)).1
      have hl1 : l1.length = N := by rw [a4.1, hN1]
      refine Wc.gl 13 [1] ?_
      refine Wl.q rfl (Qy.at (α := Int) T.sl23 rfl rfl (by assumption) (by omega)) ?_
      refine Wl.q rfl (Qy.loadG T.one3 rfl (Arr.cell (by assumption) (by omega) 0 rfl rfl)) ?_
      refine Wl.gl 7 [] ?_
      refine Wl.q rfl (Qy.indexAddrO (α := SV) T.sl53 rfl rfl (by assumption) (by omega)) ?_
      refine Wl.q rfl (Qy.loadO 3 0 T.one44 rfl rfl (by assumption) (by omega) rfl rfl) ?_
      refine Wl.re 40 rfl (show _ = Value.slice (r9[(p.outs[((i : Nat) : Int).toNat]?.getD default).toNat]?.getD default).a l1.length (r9[(p.outs[((i : Nat) : Int).toNat]?.getD default).toNat]?.getD default).c by rw [a1]) ?_
      refine Wl.k 20 rfl (c71 _ _ _ l1 (a3.up hgx) (by omega)) (fun v1 G2 Ho1 hle2 hp => ?_)
      obtain ⟨s2, d2, rfl, hA2, hd2, rfl⟩ := hp
      refine Wl.lit (α := SV) 4 [⟨_, _, _⟩] rfl T.sl53 T.el44 rfl rfl rfl rfl rfl (fun b2 => ?_)
      refine Wl.append (α := SV) 0 rfl T.sl53 T.el44 rfl rfl rfl (by first | assumption | exact OwnA.nil | exact OwnA.made (by simp)) (Src.row 4 rfl) (by first | omega | (simp only [List.length_append, List.length_cons, List.length_nil, maxLen]; omega)) (by first | omega | (simp only [List.length_append, List.length_cons, List.length_nil, maxLen]; omega)) (fun a1 c1 junk1 ho1 => ?_)
      refine Wl.ga 8 [] ?_
      refine Ar.again ((i + 1, G2, q ++ [⟨s2, l1.length, d2⟩], (a1, c1, junk1))) ?_ ?_ rfl ⟨rfl, rfl, rfl, rfl, rfl, rfl, rfl, rfl, trivial⟩ ⟨rfl, rfl, rfl, trivial⟩
      · refine ⟨by omega, Imm.le_trans hgx hle2, by rw [List.length_append, hqi]; rfl, brow_snoc (fun t ht => (hbq t ht).up hle2) hqi ?_, ho1⟩
        rw [outs_at hio]
        exact ⟨l1, rfl, hd2, hA2, a4.up (Imm.le_trans hgx hle2)⟩
      · show p.outs.length - (i + 1) < p.outs.length - i
        omega
    · have hii : i = p.outs.length := by omega
      subst hii
      have hqd := hoq.le
      refine Wc.ga 21 [0] ?_
      refine Ar.freezeRow 0 rfl hoq (fun G8 hle8 hA => ?_)
      refine Ar.out3 (.inr rfl) (Ho := []) rfl (.tmp rfl) (.tmp rfl) (.tmp rfl) trivial ?_
      have hol : (outsOf p rs).length = p.outs.length := by unfold outsOf; rw [List.length_map]
      refine ⟨rfl, .inl ⟨outsOf p rs, o, q, d, hfol, rfl, hA, hqd, ⟨by omega, fun t ht => (hbq t (by omega)).up hle8⟩, fun zs hz => ?_⟩⟩
      unfold outsOf at hz
      obtain ⟨x, hx, rfl⟩ := List.mem_map.1 hz
      have hx7 := f7 x hx
      exact he9.at (k := x.toNat) (by omega)
  · refine Wl.on0 ?_
    refine Gm.c 4 [] [] ?_
    refine Gm.doneA (by kernel_rfl) trivial (by first | exact Imm.le_refl _ | repeat (first | assumption | refine Imm.le_trans ?_ (by assumption))) ?_
    refine Ar.ga 18 [1] ?_
    refine Ar.out3 (.inr rfl) (Ho := []) rfl (.tmp rfl) (.tmp rfl) (.tmp rfl) trivial ?_
    exact ⟨rfl, .inr ⟨hno, k9, rfl⟩⟩
end Go.Proofs.YtbppmiimeccclaaGreat
set_option maxRecDepth 100000
set_option linter.unusedVariables false
namespace Go.Proofs.YtbppmiimeccclaaGreat
open Go Go.Sl
set_option maxHeartbeats 4000000
attribute [local irreducible] valB pb cmpZ lstWp p2 cst doI
theorem c53N (G : Imm) (p : PV) (ac ao : Option Addr) (cc co : Nat) (hc : Arr G ac p.code) (ho : Arr G ao p.outs) (h1 : p.code.length ≤ 1099511627776) (h2 : p.outs.length ≤ 1099511627776) (hR : rightP p = true) (n : Int) (hn : n ≠ p.ins) :
    Does Tryz.prog 53 [.agg #[.int .i64 p.ins, .int .i64 p.regs, .slice ac p.code.length cc, .slice ao p.outs.length co], .int .i64 n] G [] (fun v G' Ho => v = .int .i64 5 ∧ G' = G ∧ Ho = []) := by
  refine Does.enter Tryz.func53 rfl Tryz.ntmps53 rfl (fun w => ?_)
  refine Wc.gl 2 [] ?_
  refine Wl.box 0 rfl rfl rfl (fun b1 => ?_)
  refine Wl.gl 6 [0] ?_
  refine Wl.k0 rfl (c18R _ p _ _ _ _ (by assumption) (by assumption) h1 h2 hR) ?_
  refine Wl.ga 35 [0, 0, 1] ?_
  refine Ar.e1 ?_
  exact ⟨rfl, rfl, rfl⟩
theorem c19N (G : Imm) (p : PV) (ac ao ai : Option Addr) (cc co ci : Nat) (li : List IV) (hc : Arr G ac p.code) (ho : Arr G ao p.outs) (h1 : p.code.length ≤ 1099511627776) (h2 : p.outs.length ≤ 1099511627776) (hR : rightP p = true) (hl : li.length ≤ 1048576) (hn : (li.length : Int) ≠ p.ins) :
    Does Tryz.prog 19 [.agg #[.int .i64 p.ins, .int .i64 p.regs, .slice ac p.code.length cc, .slice ao p.outs.length co], .slice ai li.length ci] G [] (fun v G' Ho => v = .tuple #[.slice none 0 0, .int .i64 0, .int .i64 5] ∧ G' = G ∧ Ho = []) := by
  refine Does.enter Tryz.func19 rfl Tryz.ntmps19 rfl (fun w => ?_)
  refine Wc.gl 2 [] ?_
  refine Wl.box 0 rfl rfl rfl (fun b1 => ?_)
  refine Wl.gl 11 [0] ?_
  refine Wl.k0 rfl (c53N _ p _ _ _ _ (by assumption) (by assumption) h1 h2 hR _ hn) ?_
  refine Wl.ga 20 [1] ?_
  refine Ar.e3 ?_
  exact ⟨rfl, rfl, rfl⟩
theorem c67M (G : Imm) (p : PV) (ac ao ga : Option Addr) (cc co gc : Nat) (gl : List SV) (hc : Arr G ac p.code) (ho : Arr G ao p.outs) (h1 : p.code.length ≤ 1099511627776) (h2 : p.outs.length ≤ 1099511627776) (hR : rightP p = true) (hl : gl.length ≤ 1048576) (hn : (gl.length : Int) ≠ p.ins) :
    Does Tryz.prog 67 [.agg #[.int .i64 p.ins, .int .i64 p.regs, .slice ac p.code.length cc, .slice ao p.outs.length co], .slice ga gl.length gc] G [] (fun v G' Ho => v = .tuple #[.slice none 0 0, .int .i64 5] ∧ Ho = []) := by
  refine Does.enter Tryz.func67 rfl Tryz.ntmps67 rfl (fun w => ?_)
  refine Wc.gl 2 [] ?_
  refine Wl.box 0 rfl rfl rfl (fun b1 => ?_)
  refine Wl.gl 10 [0] ?_
  refine Wl.k0 rfl (c53N _ p _ _ _ _ (by assumption) (by assumption) h1 h2 hR _ hn) ?_
  refine Wl.ga 19 [1] ?_
  refine Ar.e2 ?_
  exact ⟨rfl, rfl⟩
theorem c67N (G : Imm) (p : PV) (ac ao ga : Option Addr) (cc co gc : Nat) (gl : List SV) (gs : List (List Int)) (hgg : BGrid G gl gs) (hc : Arr G ac p.code) (ho : Arr G ao p.outs) (hga : Arr G ga gl) (hR : rightP p = true) (hgi : (gl.length : Int) = p.ins) (hn0 : (gl[(0 : Int).toNat]?.getD default).n ≤ 1048576)
    (hbad : ¬ ∀ k : Nat, k < gl.length → (gl[k]?.getD default).n = (gl[(0 : Int).toNat]?.getD default).n ∧ (gl[(0 : Int).toNat]?.getD default).n ≤ 4096) :
    Does Tryz.prog 67 [.agg #[.int .i64 p.ins, .int .i64 p.regs, .slice ac p.code.length cc, .slice ao p.outs.length co], .slice ga gl.length gc] G [] (fun v G' Ho => v = .tuple #[.slice none 0 0, .int .i64 5] ∧ Ho = []) := by
  obtain ⟨f1, f2, f3, f4, f5, f6, f7, f8⟩ := right_facts hR
  have h1 : p.code.length ≤ 1099511627776 := by omega
  have h2 : p.outs.length ≤ 1099511627776 := by omega
  obtain ⟨R, hRR⟩ : ∃ R : Nat, p.regs = (R : Int) := ⟨p.regs.toNat, by omega⟩
  refine Does.enter Tryz.func67 rfl Tryz.ntmps67 rfl (fun w => ?_)
  have hM : p.regs.toNat = R := by omega
  have hgl0 : 0 < gl.length := by omega
  obtain ⟨N, hN⟩ : ∃ N, N = (gl[(0 : Int).toNat]?.getD default).n := ⟨_, rfl⟩
  rw [← hN] at hn0 hbad
  refine Wc.gl 2 [] ?_
  refine Wl.box 0 rfl rfl rfl (fun b1 => ?_)
  refine Wl.gl 10 [0] ?_
  refine Wl.k0 rfl (c53 _ p _ _ _ _ (by assumption) (by assumption) h1 h2 hR _ hgi) ?_
  refine Wl.gl 15 [0] ?_
  refine Wl.q rfl (Qy.at (α := SV) T.sl53 rfl rfl (by assumption) (by omega)) ?_
  refine Wl.q rfl (Qy.loadG T.one44 rfl (Arr.cell (by assumption) (by omega) 0 rfl rfl)) ?_
  refine Wl.gl 8 [0] ?_
  refine Wl.make (α := SV) 1 rfl T.sl53 T.el44 rfl rfl (by omega) (by omega) (fun b2 => ?_)
  refine Wl.gc 12 [] ?_
  rw [hM]
  have hown : ∀ r : List SV, r.length = R → OwnA (some ⟨b2, 0, none⟩) R r [] := fun r hr => .inr ⟨b2, rfl, by rw [hr]; rfl, by omega, by simp only [maxLen]; omega⟩
  refine Wc.re 8 rfl (show _ = Value.slice (some ⟨b2, 0, none⟩) (List.replicate R (default : SV)).length R by rw [List.length_replicate]) ?_
  refine Wc.re 7 rfl (show _ = Value.int .i64 (N : Int) by rw [hN]) ?_
  refine Wc.re 25 rfl (show _ = Value.int .i64 (R : Int) by rw [List.length_replicate]) ?_
  refine Wc.loop (ι := Nat × List SV) (fun (k, r) => ([(26, .int .i64 (k : Int)), (8, .slice (some ⟨b2, 0, none⟩) r.length R), (25, Go.Value.int Go.IntKind.i64 (↑R : Int)), (7, Go.Value.int Go.IntKind.i64 (↑N : Int)), (1, Go.Value.slice ga (List.length gl) gc)], [(1, some b2, Row 44 r []), (0, Option.some b1, Go.Obj.cells #[Go.Value.int Go.IntKind.i64 (Go.Proofs.YtbppmiimeccclaaGreat.PV.ins p), Go.Value.int Go.IntKind.i64 (Go.Proofs.YtbppmiimeccclaaGreat.PV.regs p), Go.Value.slice ac (List.length (Go.Proofs.YtbppmiimeccclaaGreat.PV.code p)) cc, Go.Value.slice ao (List.length (Go.Proofs.YtbppmiimeccclaaGreat.PV.outs p)) co] 25)])) (fun (k, r) => k ≤ R ∧ r.length = R ∧ ∀ q : Nat, q < k → q < gl.length → (gl[q]?.getD default).n = N ∧ N ≤ 4096) (fun (k, r) => R - k) ((0, List.replicate R (default : SV))) (⟨Nat.zero_le _, List.length_replicate, fun q hq => by omega⟩) ⟨rfl, rfl, rfl, rfl, rfl, trivial⟩ ⟨rfl, rfl, trivial⟩ (fun ⟨k, r⟩ => fun (hk : k ≤ R ∧ r.length = R ∧ ∀ q : Nat, q < k → q < gl.length → (gl[q]?.getD default).n = N ∧ N ≤ 4096) => ?_)
  obtain ⟨hk0, hrR, hrow⟩ := hk
  have hor := hown r hrR
  rcases Nat.lt_or_ge k gl.length with hkg | hkg
  · have hkR : k < R := by omega
    obtain ⟨l1, a1, a2, a3, a4⟩ := hgg.2 k hkg
    by_cases hok : (gl[((k : Nat) : Int).toNat]?.getD default).n = N
    · by_cases h96 : N ≤ 4096
      · refine Wc.gl 22 [1] ?_
        refine Wl.make (α := IV) 2 rfl T.sl44 T.el104 rfl rfl (by omega) (by omega) (fun b3 => ?_)
        refine Wl.q rfl (Qy.indexAddrO (α := SV) T.sl53 rfl rfl (by assumption) (by omega)) ?_
        refine Wl.re 32 rfl (show _ = Value.slice (some ⟨b3, 0, none⟩) N N by rw [List.length_replicate]; rfl) ?_
        refine Wl.reH 2 (Row 104 (List.replicate N (default : IV)) []) rfl rfl ?_
        refine Wl.setO (z := (⟨some ⟨b3, 0, none⟩, N, N⟩ : SV)) (m := ((k : Nat) : Int)) 1 T.size44 rfl rfl rfl hor (by omega) rfl (fun ho1 => ?_)
        have hrk : ((r.set k (⟨some ⟨b3, 0, none⟩, N, N⟩ : SV))[k]?.getD default) = ⟨some ⟨b3, 0, none⟩, N, N⟩ := by rw [List.getElem?_set, if_pos rfl, if_pos (by omega)]; rfl
        rw [Int.toNat_natCast] at ho1 ⊢
        obtain ⟨r9, hr9⟩ : ∃ r9, r9 = r.set k (⟨some ⟨b3, 0, none⟩, N, N⟩ : SV) := ⟨_, rfl⟩
        have hr9l : r9.length = R := by rw [hr9, List.length_set]; exact hrR
        rw [← hr9] at ho1 hrk ⊢
        refine Wl.gl 16 [1] ?_
        refine Wl.q rfl (Qy.at (α := SV) T.sl53 rfl rfl (by assumption) (by omega)) ?_
        refine Wl.q rfl (Qy.loadG T.one44 rfl (Arr.cell (by assumption) (by omega) 0 rfl rfl)) ?_
        refine Wl.ll0 4 [] ?_
        refine Wl.no 45 rfl (by first | assumption | omega) ?_
        refine Wl.gc 10 [0] ?_
        refine Wc.draw [0, 2, 1] [(1, 8), (2, 8)] T.mixed rfl ?_
        refine Gm.c 0 [] [] ?_
        refine Gm.c 1 [] [] ?_
        refine Gm.u 2 [] rfl (Qy.indexAddrO (α := SV) T.sl53 rfl rfl (by assumption) (by omega)) ?_
        refine Gm.u 3 [0, 1] rfl (Qy.loadO 1 0 T.one44 rfl rfl (by assumption) (by omega) rfl rfl) ?_
        refine Gm.c 4 [] [] ?_
        refine Gm.c 5 [] [] ?_
        refine Gm.u 6 [] rfl (Qy.at (α := SV) T.sl53 rfl rfl (by assumption) (by omega)) ?_
        refine Gm.u 7 [0] rfl (Qy.loadG T.one44 rfl (Arr.cell (by assumption) (by omega) 0 rfl rfl)) ?_
        refine Gm.o1 8 ?_
        have hl1 : l1.length = N := by rw [a1]; exact hok
        refine Wl.re 52 rfl (show _ = Value.slice (some ⟨b3, 0, none⟩) (List.replicate N (default : IV)).length N by rw [Int.toNat_natCast, hrk, List.length_replicate]) ?_
        refine Wl.re 56 rfl (show _ = Value.slice (gl[k]?.getD default).a l1.length (gl[k]?.getD default).c by rw [a1]; rfl) ?_
        refine Wl.copyRow (α := IV) 2 rfl T.sl44 rfl rfl rfl (Src.arr a3) (by rw [hl1, List.length_replicate]; exact Nat.le_refl _) ?_
        refine Wl.on0 ?_
        refine Gm.fin ?_
        refine Ar.ga 6 [] ?_
        refine Ar.re 8 rfl (show _ = Value.slice (some ⟨b2, 0, none⟩) r9.length R by rw [hr9l, hrR]) ?_
        refine Ar.again ((k + 1, r9)) ?_ ?_ rfl ⟨rfl, rfl, rfl, rfl, rfl, trivial⟩ ⟨rfl, rfl, trivial⟩
        · refine ⟨by omega, hr9l, fun q hq hq2 => ?_⟩
          by_cases e : q = k
          · subst e; exact ⟨hok, h96⟩
          · exact hrow q (by omega) hq2
        · show R - (k + 1) < R - k
          omega
      · refine Wc.gl 22 [1] ?_
        refine Wl.make (α := IV) 2 rfl T.sl44 T.el104 rfl rfl (by omega) (by omega) (fun b3 => ?_)
        refine Wl.q rfl (Qy.indexAddrO (α := SV) T.sl53 rfl rfl (by assumption) (by omega)) ?_
        refine Wl.re 32 rfl (show _ = Value.slice (some ⟨b3, 0, none⟩) N N by rw [List.length_replicate]; rfl) ?_
        refine Wl.reH 2 (Row 104 (List.replicate N (default : IV)) []) rfl rfl ?_
        refine Wl.setO (z := (⟨some ⟨b3, 0, none⟩, N, N⟩ : SV)) (m := ((k : Nat) : Int)) 1 T.size44 rfl rfl rfl hor (by omega) rfl (fun ho1 => ?_)
        refine Wl.gl 16 [1] ?_
        refine Wl.q rfl (Qy.at (α := SV) T.sl53 rfl rfl (by assumption) (by omega)) ?_
        refine Wl.q rfl (Qy.loadG T.one44 rfl (Arr.cell (by assumption) (by omega) 0 rfl rfl)) ?_
        refine Wl.ll0 4 [] ?_
        refine Wl.no 45 rfl (by first | assumption | omega) ?_
        refine Wl.ga 21 [1] ?_
        refine Ar.e2 ?_
        exact ⟨rfl, rfl⟩
    · refine Wc.gl 22 [1] ?_
      refine Wl.make (α := IV) 2 rfl T.sl44 T.el104 rfl rfl (by omega) (by omega) (fun b3 => ?_)
      refine Wl.q rfl (Qy.indexAddrO (α := SV) T.sl53 rfl rfl (by assumption) (by omega)) ?_
      refine Wl.re 32 rfl (show _ = Value.slice (some ⟨b3, 0, none⟩) N N by rw [List.length_replicate]; rfl) ?_
      refine Wl.reH 2 (Row 104 (List.replicate N (default : IV)) []) rfl rfl ?_
      refine Wl.setO (z := (⟨some ⟨b3, 0, none⟩, N, N⟩ : SV)) (m := ((k : Nat) : Int)) 1 T.size44 rfl rfl rfl hor (by omega) rfl (fun ho1 => ?_)
      refine Wl.gl 16 [1] ?_
      refine Wl.q rfl (Qy.at (α := SV) T.sl53 rfl rfl (by assumption) (by omega)) ?_
      refine Wl.q rfl (Qy.loadG T.one44 rfl (Arr.cell (by assumption) (by omega) 0 rfl rfl)) ?_
      refine Wl.ll0 4 [] ?_
      refine Wl.yes 45 rfl (by first | assumption | omega) ?_
      refine Wl.ga 19 [1] ?_
      refine Ar.e2 ?_
      exact ⟨rfl, rfl⟩
  · exact absurd (fun q hq => hrow q (by omega) hq) hbad
end Go.Proofs.YtbppmiimeccclaaGreat
set_option maxRecDepth 100000
set_option linter.unusedVariables false
namespace Go.Proofs.YtbppmiimeccclaaGreat
open Go Go.Sl
set_option maxHeartbeats 4000000
attribute [local irreducible] valB pb cmpZ lstWp p2 cst doZ checkP
theorem c20 (G : Imm) (a : Option Addr) (c : Nat) (l : List Int) (ha : Arr G a l) (h1 : l.length ≤ 1048576) (hl : ∀ x ∈ l, -9223372036854775808 ≤ x ∧ x ≤ 9223372036854775807) :
    Does Tryz.prog 20 [.slice a l.length c] G [] (fun v G' Ho => ∃ (b : Option Addr) (r : List IV) (c' : Nat), v = .slice b r.length c' ∧ Arr G' b r ∧ Bigs G' r l ∧ r.length ≤ c' ∧ Ho = []) := by
  refine Does.enter Tryz.func20 rfl Tryz.ntmps20 rfl (fun w => ?_)
  refine Wc.nilRow 9 (Row 104 ([] : List IV) []) ?_
  refine Wc.gc 19 [] ?_
  refine Wc.loopG (ι := Nat × Imm × List IV × (Option Addr × Nat × List Value)) (fun (i, Gx, r, (o, d, j)) => ([(8, .int .i64 (i : Int)), (3, .slice o r.length d), (7, Go.Value.int Go.IntKind.i64 (↑(List.length l) : Int)), (6, Go.Value.slice a (List.length l) c), (2, Go.Value.slice Option.none 0 0)], [(9, o.map (·.block), Row 104 r j)])) (fun (i, Gx, r, (o, d, j)) => Gx) (fun (i, Gx, r, (o, d, j)) => i ≤ l.length ∧ G.le Gx ∧ r.length = i ∧ Bigs Gx r (l.take i) ∧ OwnA o d r j) (fun (i, Gx, r, (o, d, j)) => l.length - i) ((0, G, [], (none, 0, []))) (⟨Nat.zero_le _, Imm.le_refl _, rfl, by rw [List.take_zero]; exact Bigs.nil _, OwnA.nil⟩) rfl ⟨rfl, rfl, rfl, rfl, rfl, trivial⟩ ⟨rfl, trivial⟩ (fun ⟨i, Gx, r, (o, d, j)⟩ => fun (hk : i ≤ l.length ∧ G.le Gx ∧ r.length = i ∧ Bigs Gx r (l.take i) ∧ OwnA o d r j) => ?_)
  obtain ⟨hi, hgx, hri, hbs, hob⟩ := hk
  replace ha := ha.up hgx
  rcases Nat.lt_or_ge i l.length with hil | hil
  · have hi9 : -9223372036854775808 ≤ l[((i : Nat) : Int).toNat]?.getD default ∧ l[((i : Nat) : Int).toNat]?.getD default ≤ 9223372036854775807 := by
      rw [Int.toNat_natCast, List.getElem?_eq_getElem hil]; exact hl _ (List.getElem_mem hil)
    refine Wc.gl 13 [1] ?_
    refine Wl.q rfl (Qy.at (α := Int) T.sl39 rfl rfl (by assumption) (by omega)) ?_
    refine Wl.q rfl (Qy.loadG T.one2 rfl (Arr.cell (by assumption) (by omega) 0 rfl rfl)) ?_
    refine Wl.gl 6 [] ?_
    refine Wl.call 10 rfl T.fn57 rfl (c57 _ _ hi9) (tags_of trivial) (fun v1 G1 Ho1 hle1 hp => ?_)
    obtain ⟨ro1, rfl, hro1, rfl⟩ := hp
    replace hbs := hbs.up hle1
    replace ha := ha.up hle1
    refine Wl.lit (α := IV) 10 [(ro1)] rfl T.sl44 T.el104 rfl rfl rfl rfl rfl (fun b1 => ?_)
    refine Wl.append (α := IV) 9 rfl T.sl44 T.el104 rfl rfl rfl (by first | assumption | exact OwnA.nil | exact OwnA.made (by simp)) (Src.row 10 rfl) (by first | omega | (simp only [List.length_append, List.length_cons, List.length_nil, maxLen]; omega)) (by first | omega | (simp only [List.length_append, List.length_cons, List.length_nil, maxLen]; omega)) (fun a1 c1 junk1 ho1 => ?_)
    refine Wl.ga 8 [] ?_
    refine Ar.again ((i + 1, G1, r ++ [ro1], (a1, c1, junk1))) ?_ ?_ rfl ⟨rfl, rfl, rfl, rfl, rfl, trivial⟩ ⟨rfl, trivial⟩
    · refine ⟨by omega, Imm.le_trans hgx hle1, by rw [List.length_append, hri]; rfl, ?_, ho1⟩
      have e : l.take (i + 1) = l.take i ++ [l[((i : Nat) : Int).toNat]?.getD default] := by
        rw [List.take_add_one, Int.toNat_natCast, List.getElem?_eq_getElem hil]; rfl
      rw [e]
      exact Bigs.snoc hbs hro1
    · show l.length - (i + 1) < l.length - i
      omega
  · have hii : i = l.length := by omega
    subst hii
    refine Wc.ga 19 [0] ?_
    refine Ar.freezeRow 9 rfl hob (fun G9 hle9 hA => ?_)
    refine Ar.out1 (.inr rfl) (Ho := []) rfl (.tmp rfl) trivial ?_
    refine ⟨o, r, d, rfl, hA, ?_, hob.le, rfl⟩
    rw [List.take_length] at hbs
    exact hbs.up hle9
theorem c59 (G : Imm) (x y : IV) (zx zy : Int) (hx9 : Big G x zx) (hy9 : Big G y zy) (hx5 : x.n ≤ 1073741824) (hy5 : y.n ≤ 1073741824) :
    Does Tryz.prog 59 [.agg (Cells.enc x).toArray, .agg (Cells.enc y).toArray] G [] (fun v G' Ho => v = .bool (decide (zx = zy)) ∧ G' = G ∧ Ho = []) := by
  refine Does.enter Tryz.func59 rfl Tryz.ntmps59 rfl (fun w => ?_)
  refine Wc.gl 2 [] ?_
  refine Wl.box 0 rfl rfl rfl (fun b1 => ?_)
  refine Wl.box 1 rfl rfl rfl (fun b2 => ?_)
  refine Wl.gl 7 [0, 1] ?_
  refine Wl.call0 rfl T.fn60 rfl (c60 _ _ _ _ _ hx9 hy9 hx5 hy5) ?_
  refine Wl.ga 5 [] ?_
  refine Ar.out1 (.inr rfl) (Ho := Hp.only _ []) rfl (.tmp rfl) (Hp.sub_only _ _) ?_
  exact ⟨by rw [decide_eq_decide.2 (show cmpZ zx zy = 0 ↔ zx = zy from ⟨cmpZ_zero, cmpZ_eq⟩)], rfl, rfl⟩
theorem c58 (G : Imm) (a b : Option Addr) (ca cb : Nat) (la lb : List IV) (za zb : List Int) (ha : Arr G a la) (hb : Arr G b lb) (hA : Bigs G la za) (hB : Bigs G lb zb) (h1 : la.length ≤ 1048576) (h2 : lb.length ≤ 1048576) (m : Nat) (hm : m ≤ 268435456) (ba : Below m za) (bb : Below m zb) :
    Does Tryz.prog 58 [.slice a la.length ca, .slice b lb.length cb, .func (.func 59) #[] #[]] G [] (fun v G' Ho => v = .bool (decide (za = zb)) ∧ G' = G ∧ Ho = []) := by
  have e1 := hA.1
  have e2 := hB.1
  refine Does.enter Tryz.func58 rfl Tryz.ntmps58 rfl (fun w => ?_)
  by_cases hn : la.length = lb.length
  · refine Wc.gc 27 [0] ?_
    refine Wc.loop (ι := Nat) (fun i => ([(17, .int .i64 (i : Int)), (16, Go.Value.int Go.IntKind.i64 (↑(List.length la) : Int)), (15, Go.Value.slice a (List.length la) ca), (1, Go.Value.slice b (List.length lb) cb), (2, Go.Value.func (Go.Fn.func 59) #[] #[])], [])) (fun i => i ≤ la.length ∧ za.take i = zb.take i) (fun i => la.length - i) (0) (⟨Nat.zero_le _, rfl⟩) ⟨rfl, rfl, rfl, rfl, rfl, trivial⟩ trivial (fun i => fun (hk : i ≤ la.length ∧ za.take i = zb.take i) => ?_)
    obtain ⟨hi, hz⟩ := hk
    rcases Nat.lt_or_ge i la.length with hia | hia
    · have hx9 := hA.at (k := (i : Int)) (by omega)
      have hy9 := hB.at (k := (i : Int)) (by omega)
      have hx5 := Nat.le_trans (Big.len hx9 (ba.at _)) (Nat.le_trans hm (show 268435456 ≤ 1073741824 by decide))
      have hy5 := Nat.le_trans (Big.len hy9 (bb.at _)) (Nat.le_trans hm (show 268435456 ≤ 1073741824 by decide))
      refine Wc.gl 14 [1] ?_
      refine Wl.q rfl (Qy.at (α := IV) T.sl44 rfl rfl (by assumption) (by omega)) ?_
      refine Wl.q rfl (Qy.loadsG T.agg104 rfl (Arr.elem (by assumption) (by omega)) rfl) ?_
      refine Wl.alloc 0 rfl T.zero104 (fun b1 => ?_)
      refine Wl.gl 8 [0] ?_
      refine Wl.q rfl (Qy.at (α := IV) T.sl44 rfl rfl (by assumption) (by omega)) ?_
      refine Wl.q rfl (Qy.loadsG T.agg104 rfl (Arr.elem (by assumption) (by omega)) rfl) ?_
      refine Wl.alloc 1 rfl T.zero104 (fun b2 => ?_)
      refine Wl.gl 8 [1, 0, 1] ?_
      refine Wl.callV (fst := []) (cap := []) 2 rfl T.fn59 rfl rfl (c59 _ _ _ _ _ hx9 hy9 hx5 hy5) (tags_of trivial) (fun v1 G1 Ho1 hle1 hp => ?_)
      obtain ⟨rfl, rfl, rfl⟩ := hp
      refine Wl.q rfl (Qy.notD rfl) ?_
      refine Wl.gc 2 [] ?_
      refine Wc.cond rfl (fun hc1 => ?_) (fun hc1 => ?_)
      refine Wc.ga 11 [] ?_
      refine Ar.out1 (.inr rfl) (Ho := Hp.only _ []) rfl (.tmp rfl) (Hp.sub_only _ _) ?_
      rotate_left
      refine Wc.ga 7 [] ?_
      rotate_left
      · exact ⟨by rw [decide_eq_false (fun h => hc1 (by rw [h]))], rfl, rfl⟩
      · refine Ar.again (i + 1) ?_ ?_ rfl ⟨rfl, rfl, rfl, rfl, rfl, trivial⟩ trivial
        · exact ⟨by omega, take_next hz (by omega) (by omega) (Decidable.not_not.1 hc1)⟩
        · omega
    · have hii : i = la.length := by omega
      subst hii
      rw [List.take_of_length_le (by omega), List.take_of_length_le (by omega)] at hz
      refine Wc.ga 18 [0] ?_
      refine Ar.out1 (.inr rfl) (Ho := Hp.only _ []) rfl (.tmp rfl) (Hp.sub_only _ _) ?_
      exact ⟨by rw [decide_eq_true hz], rfl, rfl⟩
  · have hne : za ≠ zb := fun h => hn (by rw [e1, e2, h])
    refine Wc.ga 23 [1] ?_
    refine Ar.out1 (.inr rfl) (Ho := Hp.only _ []) rfl (.tmp rfl) (Hp.sub_only _ _) ?_
    exact ⟨by rw [decide_eq_false hne], rfl, rfl⟩
theorem c21 (G : Imm) (a b : Option Addr) (ca cb : Nat) (la lb : List IV) (za zb : List Int) (ha : Arr G a la) (hb : Arr G b lb) (hA : Bigs G la za) (hB : Bigs G lb zb) (h1 : la.length ≤ 1048576) (h2 : lb.length ≤ 1048576) (m : Nat) (hm : m ≤ 268435456) (ba : Below m za) (bb : Below m zb) :
    Does Tryz.prog 21 [.slice a la.length ca, .slice b lb.length cb] G [] (fun v G' Ho => v = .bool (decide (za = zb)) ∧ G' = G ∧ Ho = []) := by
  refine Does.enter Tryz.func21 rfl Tryz.ntmps21 rfl (fun w => ?_)
  refine Wc.gl 9 [] ?_
  refine Wl.call0 rfl T.fn58 rfl (c58 G _ _ _ _ _ _ za zb ha hb hA hB h1 h2 m hm ba bb) ?_
  refine Wl.ga 4 [] ?_
  refine Ar.out1 (.inr rfl) (Ho := Hp.only _ []) rfl (.tmp rfl) (Hp.sub_only _ _) ?_
  exact ⟨rfl, rfl, rfl⟩
end Go.Proofs.YtbppmiimeccclaaGreat
namespace Go.Proofs.YtbppmiimeccclaaGreat
open Go Go.Sl
set_option maxRecDepth 100000
set_option maxHeartbeats 2000000
theorem cell_one {G : Imm} {b : Nat} {cs : List Value} {T : TypeId} {fz : Nat × Nat} (h : G b = some (.cells cs.toArray T fz)) (k : Nat) {v : Value} (hv : cs[k]? = some v) : G.cell b k = some v := by
  simp only [Imm.cell, h]; simpa using hv
theorem row_all {G : Imm} {b : Nat} {cs : List Value} {T : TypeId} {fz : Nat × Nat} (h : G b = some (.cells cs.toArray T fz)) : G.row b 0 cs := by
  intro i v hi; simp only [Imm.cell, h, Nat.zero_add]; simpa using hi
theorem c151 (G : Imm) (a : Option Addr) (n c : Nat) : Does Tryz.prog 151 [.slice a n c] G [] (fun v G' Ho => ∃ b, v = .func (.func 190) #[] #[.pointer (some ⟨b, 0, none⟩)] ∧ Ho = [] ∧ G' b = some (.cells [.slice a n c].toArray 22)) := by
  refine Does.enter Tryz.func151 rfl Tryz.ntmps151 rfl (fun w => ?_)
  refine Wc.gl 2 [] ?_
  refine Wl.box 0 rfl rfl rfl (fun b1 => ?_)
  refine Wl.gl 5 [] ?_
  refine Wl.q rfl (Qy.makeFunc rfl rfl) ?_
  refine Wl.ga 4 [] ?_
  refine Ar.freeze 0 rfl (fun G' hle hb => ?_)
  refine Ar.out1 (.inr rfl) (Ho := []) rfl (.tmp rfl) trivial ?_
  exact ⟨_, rfl, rfl, hb⟩
/-- a list's elements from behind, with their places -/
def backL (xs : List Sl.Instr) : List (Int × Sl.Instr) := (List.range xs.length).map fun j => (((xs.length - 1 - j : Nat) : Int), xs[xs.length - 1 - j]?.getD default)
def encB (x : Int × Sl.Instr) : List Value := [.int .i64 x.1, .agg (Cells.enc x.2).toArray]
theorem backL_len (xs : List Sl.Instr) : (backL xs).length = xs.length := by simp [backL]
theorem backL_get (xs : List Sl.Instr) {j : Nat} (h : j < xs.length) : (backL xs)[j]? = some (((xs.length - 1 - j : Nat) : Int), xs[xs.length - 1 - j]?.getD default) := by simp [backL, h]
theorem c190 (G : Imm) (a : Option Addr) (c : Nat) (xs : List Sl.Instr) (b : Nat) (hx : Arr G a xs) (hl : xs.length ≤ 1099511627776) (hb : G b = some (.cells [.slice a xs.length c].toArray 22)) :
    IterDoes Tryz.prog 190 [.pointer (some ⟨b, 0, none⟩)] G encB (backL xs) := by
  intro ι J inv stop ly i0 hi0 hY
  have hcell : G.cell b 0 = some (.slice a xs.length c) := cell_one hb 0 rfl
  refine Does.enter Tryz.func190 rfl Tryz.ntmps190 rfl (fun w => ?_)
  refine Wc.lift 1000 ?_
  refine Wc.gl 2 [] ?_
  refine Wl.q rfl (Qy.loadG T.one22 rfl (by assumption)) ?_
  refine Wl.gc 6 [] ?_
  refine Wc.loopT (ι := Int × ι) 1000 (fun (m, s) => ([(3, .int .i64 m), (0, Go.Value.func (Go.Fn.yield ly) #[] #[]), (1, Go.Value.pointer (Option.some (Go.Addr.mk b 0 Option.none)))], [])) (fun (m, s) => J s) (fun (m, s) => -1 ≤ m ∧ m < (xs.length : Int) ∧ inv ((xs.length : Int) - 1 - m).toNat s) (fun (m, s) => (m + 1).toNat) (((xs.length : Int) - 1, i0)) (⟨by omega, by omega, by rw [show ((xs.length : Int) - 1 - ((xs.length : Int) - 1)).toNat = 0 by omega]; exact hi0⟩) ⟨rfl, rfl, rfl, trivial⟩ trivial (by repeat (first | exact Hp.tl_self _ _ | refine Hp.tl_cons rfl ?_)) (fun ⟨m, s⟩ => fun (hk : -1 ≤ m ∧ m < (xs.length : Int) ∧ inv ((xs.length : Int) - 1 - m).toNat s) => ?_)
  obtain ⟨hm1, hm2, hinv⟩ := hk
  refine Wc.gc 7 [] ?_
  refine Wc.cond rfl (fun hc1 => ?_) (fun hc1 => ?_)
  refine Wc.gl 8 [] ?_
  refine Wl.q rfl (Qy.loadG T.one22 rfl (by assumption)) ?_
  refine Wl.q rfl (Qy.move rfl) ?_
  refine Wl.q rfl (Qy.at (α := Instr) T.sl22 rfl rfl (by assumption) (by omega)) ?_
  refine Wl.q rfl (Qy.loadsG T.agg93 rfl (Arr.elem (by assumption) (by omega)) rfl) ?_
  rotate_left
  refine Wc.ga 4 [] ?_
  rotate_left
  · have hbx : (backL xs)[((xs.length : Int) - 1 - m).toNat]? = some (m, xs[m.toNat]?.getD default) := by
      rw [backL_get xs (by omega)]
      have e1 : xs.length - 1 - ((xs.length : Int) - 1 - m).toNat = m.toNat := by omega
      rw [e1]
      have e2 : ((m.toNat : Nat) : Int) = m := by omega
      rw [e2]
    refine Wl.yieldT (A := []) 1000 rfl rfl rfl trivial (by repeat (first | exact Hp.tl_self _ _ | refine Hp.tl_cons rfl ?_)) rfl (hY ((xs.length : Int) - 1 - m).toNat _ s hbx hinv) (fun vy Gy Hy hly hp => ?_)
    obtain ⟨rfl, s', rfl, hp⟩ := hp
    rcases hp with ⟨rfl, hinv'⟩ | ⟨rfl, hst⟩
    · refine Wl.ga 12 [0] ?_
      refine Ar.againT ((m - 1, s')) ?_ ?_ ⟨rfl, rfl, rfl, trivial⟩ trivial (by repeat (first | exact Hp.tl_self _ _ | refine Hp.tl_cons rfl ?_))
      · refine ⟨by omega, by omega, ?_⟩
        rw [show ((xs.length : Int) - 1 - (m - 1)).toNat = ((xs.length : Int) - 1 - m).toNat + 1 by omega]
        exact hinv'
      · show (m - 1 + 1).toNat < (m + 1).toNat
        omega
    · refine Wl.ga 9 [1] ?_
      refine Ar.outT (k := 1000) (.inr rfl) rfl (by repeat (first | exact Hp.tl_self _ _ | refine Hp.tl_cons rfl ?_)) ⟨rfl, s', rfl, .inr hst⟩
  · have hm : m = -1 := by omega
    subst hm
    refine Ar.outT (k := 1000) (.inl rfl) rfl (by repeat (first | exact Hp.tl_self _ _ | refine Hp.tl_cons rfl ?_)) ⟨rfl, s, rfl, .inl ?_⟩
    rw [backL_len]
    rw [show ((xs.length : Int) - 1 - -1).toNat = xs.length by omega] at hinv
    exact hinv
/-- the iterator over a program's instructions from behind -/
theorem c94 (G : Imm) (p : PV) (ac ao : Option Addr) (cc co : Nat) :
    Does Tryz.prog 94 [.agg #[.int .i64 p.ins, .int .i64 p.regs, .slice ac p.code.length cc, .slice ao p.outs.length co]] G [] (fun v G' Ho =>
      ∃ b, v = .func (.func 149) #[] #[.pointer (some ⟨b, 0, none⟩)] ∧ Ho = [] ∧ G' b = some (.cells [.int .i64 p.ins, .int .i64 p.regs, .slice ac p.code.length cc, .slice ao p.outs.length co].toArray 25)) := by
  refine Does.enter Tryz.func94 rfl Tryz.ntmps94 rfl (fun w => ?_)
  refine Wc.gl 2 [] ?_
  refine Wl.box 0 rfl rfl rfl (fun b1 => ?_)
  refine Wl.gl 5 [] ?_
  refine Wl.q rfl (Qy.makeFunc rfl rfl) ?_
  refine Wl.ga 4 [] ?_
  refine Ar.freeze 0 rfl (fun G' hle hb => ?_)
  refine Ar.out1 (.inr rfl) (Ho := []) rfl (.tmp rfl) trivial ?_
  exact ⟨_, rfl, rfl, hb⟩
theorem c149R (G : Imm) (p : PV) (ac ao : Option Addr) (cc co : Nat) (b : Nat) (hc : Arr G ac p.code) (ho : Arr G ao p.outs) (h1 : p.code.length ≤ 1099511627776) (h2 : p.outs.length ≤ 1099511627776)
    (hb : G b = some (.cells [.int .i64 p.ins, .int .i64 p.regs, .slice ac p.code.length cc, .slice ao p.outs.length co].toArray 25)) (hR : rightP p = true) :
    IterDoes Tryz.prog 149 [.pointer (some ⟨b, 0, none⟩)] G encB (backL p.code) := by
  intro ι J inv stop ly i0 hi0 hY
  have hrow := row_all hb
  have hcode := cell_one hb 2 rfl
  refine Does.enterM Tryz.func149 rfl Tryz.ntmps149 rfl (fun w => ?_)
  refine Wc.lift 1000 ?_
  refine Wc.gl 2 [] ?_
  refine Wl.box 0 rfl rfl rfl (fun b1 => ?_)
  refine Wl.gl 5 [] ?_
  refine Wl.q rfl (Qy.loadsG T.agg25 rfl (by assumption) rfl) ?_
  refine Wl.call0 rfl T.fn150 rfl (c150 _ _ _ _ _ _ (by assumption) (by assumption) (by omega) (by omega)) ?_
  refine Wl.q rfl (Qy.notD rfl) ?_
  refine Wl.gc 2 [] ?_
  refine Wc.cond rfl (fun hc1 => ?_) (fun hc1 => ?_)
  refine Wc.ga 2 [] ?_
  refine Ar.outOf (.inr rfl) ?_
  rotate_left
  refine Wc.gl 5 [] ?_
  refine Wl.q rfl (Qy.loadG T.one22 rfl (by assumption)) ?_
  refine Wl.call 1 rfl T.fn151 rfl (c151 _ _ _ _) (tags_of trivial) (fun v1 G1 Ho1 hle1 hp => ?_)
  obtain ⟨bk1, rfl, rfl, hbk1⟩ := hp
  replace hc := hc.up hle1
  replace ho := ho.up hle1
  refine Wl.gc 3 [] ?_
  rotate_left
  · exact absurd hR hc1
  refine Wc.rangeFunc (ι := ι) 900 901 (fun s => [(0, Option.some b1, Go.Obj.cells #[Go.Value.func (Go.Fn.yield ly) #[] #[]] 207)] ++ Hp.shift 1000 (J s)) (fun k s => inv k s) (fun c s => c = Code.ret ∧ stop s) (i0) rfl T.fn190 (fun _ => rfl) rfl (c190 _ ac cc p.code bk1 hc h1 hbk1) (hi0) (Hp.got_app ⟨rfl, trivial⟩ (by repeat (first | exact Hp.tl_self _ _ | refine Hp.tl_cons rfl ?_))) ⟨rfl, fun _ => Hp.none_app rfl rfl⟩ (fun k x s l dd q w0 hx hi => ?_) (fun s dd hi => ?_) (fun s dd c hi => ?_)
  · refine Wc.gl 6 [] ?_
    refine Wl.alloc 902 rfl T.zero93 (fun b2 => ?_)
    refine Wl.ga 2 [902] ?_
    refine Ar.begin 900 rfl ?_
    refine Wc.gl 6 [0, 902] ?_
    refine Wl.yieldT (A := [(900, Option.some l, Go.Sl.lrec q Go.LoopState.busy Option.none), (902, Option.some b2, Go.Obj.cells (List.toArray (Go.Sl.Cells.enc (Prod.snd x))) 93), (901, Option.some dd, Go.Obj.deferred (Option.some [])), (0, Option.some b1, Go.Obj.cells #[Go.Value.func (Go.Fn.yield ly) #[] #[]] 207)]) 1000 rfl rfl rfl ⟨rfl, rfl, rfl, rfl, trivial⟩ (by repeat (first | exact Hp.tl_self _ _ | refine Hp.tl_cons rfl ?_)) rfl ((hY k x s hx hi).up hle1) (fun vy Gy Hy hly hp => ?_)
    obtain ⟨rfl, s', rfl, hp⟩ := hp
    rcases hp with ⟨rfl, hinv'⟩ | ⟨rfl, hst⟩
    · refine Wl.ga 6 [0] ?_
      refine Ar.roundEnd none (.inl ⟨rfl, rfl⟩) 900 rfl ⟨rfl, (s', none), rfl, .inl ⟨rfl, rfl, ?_⟩⟩ (Hp.got_cons rfl (Hp.got_cons rfl (Hp.got_app ⟨rfl, trivial⟩ (by repeat (first | exact Hp.tl_self _ _ | refine Hp.tl_cons rfl ?_)))))
      exact hinv'
    · refine Wl.ga 6 [1] ?_
      refine Ar.roundEnd (some (.ret)) (.inr (.inl ⟨rfl, rfl⟩)) 900 rfl ⟨rfl, (s', some (.ret)), rfl, .inr ⟨rfl, _, rfl, ?_⟩⟩ (Hp.got_cons rfl (Hp.got_cons rfl (Hp.got_app ⟨rfl, trivial⟩ (by repeat (first | exact Hp.tl_self _ _ | refine Hp.tl_cons rfl ?_)))))
      exact ⟨rfl, hst⟩
  · refine Ar.outNormal ?_
    refine Ar.collect (.inl rfl) 901 rfl ?_
    refine Ar.outOf (.inr rfl) ?_
    refine Ar.base ?_
    refine Ar.outT (k := 1000) (.inr rfl) rfl (by repeat (first | exact Hp.tl_self _ _ | refine Hp.tl_cons rfl ?_)) ⟨rfl, s, rfl, .inl hi⟩
  · obtain ⟨rfl, hst⟩ := hi
    refine Wc.ga 2 [] ?_
    refine Ar.collect (.inr rfl) 901 rfl ?_
    refine Ar.outOf (.inr rfl) ?_
    refine Ar.base ?_
    refine Ar.outT (k := 1000) (.inr rfl) rfl (by repeat (first | exact Hp.tl_self _ _ | refine Hp.tl_cons rfl ?_)) ⟨rfl, s, rfl, .inr hst⟩
end Go.Proofs.YtbppmiimeccclaaGreat
namespace Go.Proofs.YtbppmiimeccclaaGreat
open Go Go.Sl
set_option maxRecDepth 100000
set_option maxHeartbeats 2000000
/-- some registers are asked -/
def setAll (l : List Bool) (rs : List Int) : List Bool := rs.foldl (fun l r => l.set r.toNat true) l
theorem setAll_len (l : List Bool) (rs : List Int) : (setAll l rs).length = l.length := by
  unfold setAll
  induction rs generalizing l with
  | nil => rfl
  | cons r rs ih => simp only [List.foldl_cons]; rw [ih, List.length_set]
theorem setAll_step (l : List Bool) (rs : List Int) {k : Nat} (h : k < rs.length) : setAll l (rs.take (k + 1)) = (setAll l (rs.take k)).set (rs[((k : Nat) : Int).toNat]?.getD default).toNat true := by
  unfold setAll
  rw [List.take_add_one, List.foldl_append, Int.toNat_natCast, List.getElem?_eq_getElem h]
  rfl
/-- one instruction from behind: whether it is needed, what is asked ahead of it -/
def needStep (s : List Bool × List Bool) (k : Int) (i : Sl.Instr) : List Bool × List Bool :=
  if s.1[i.to.toNat]?.getD default = true then (setAll (s.1.set i.to.toNat false) (asks i), s.2.set k.toNat true) else s
def needTo (p : PV) : Nat → List Bool × List Bool
  | 0 => (setAll (List.replicate p.regs.toNat false) p.outs, List.replicate p.code.length false)
  | j + 1 => needStep (needTo p j) ((p.code.length - 1 - j : Nat) : Int) (p.code[p.code.length - 1 - j]?.getD default)
def neededP (p : PV) : List Bool := (needTo p p.code.length).2
theorem needTo_len (p : PV) (j : Nat) : (needTo p j).1.length = p.regs.toNat ∧ (needTo p j).2.length = p.code.length := by
  induction j with
  | zero => simp [needTo, setAll_len]
  | succ j ih =>
    simp only [needTo, needStep]
    split
    · simp [setAll_len, ih]
    · exact ih
theorem asks_in {i : Sl.Instr} {regs : Int} (h : mayOk i regs = true) : ∀ r ∈ asks i, 0 ≤ r ∧ r < regs := by
  unfold mayOk at h
  simp only [Bool.and_eq_true, List.all_eq_true, decide_eq_true_eq] at h
  exact h.2
theorem c49 (G : Imm) (p : PV) (ac ao : Option Addr) (cc co : Nat) (hc : Arr G ac p.code) (ho : Arr G ao p.outs) (h1 : p.code.length ≤ 1099511627776) (h2 : p.outs.length ≤ 1099511627776) (hR : rightP p = true) :
    Does Tryz.prog 49 [.agg #[.int .i64 p.ins, .int .i64 p.regs, .slice ac p.code.length cc, .slice ao p.outs.length co]] G [] (fun v G' Ho => ∃ b c j, v = .slice b (neededP p).length c ∧ OwnA b c (neededP p) j ∧ Ho = [(0, b.map (·.block), Row 4 (neededP p) j)] ∧ G' = G) := by
  obtain ⟨r1, r2, r3, r4, r5, r6, r7, r8⟩ := right_facts hR
  refine Does.enterM Tryz.func49 rfl Tryz.ntmps49 rfl (fun w => ?_)
  refine Wc.gl 2 [] ?_
  refine Wl.box 0 rfl rfl rfl (fun b1 => ?_)
  refine Wl.gc 3 [] ?_
  refine Wc.scope ?_
  refine Wc.gl 4 [0] ?_
  refine Wl.make (α := Bool) 1 rfl T.sl87 T.el4 rfl rfl (by omega) (by omega) (fun b2 => ?_)
  refine Wl.alloc 2 rfl T.zero87 (fun b3 => ?_)
  refine Wl.gc 13 [2, 0] ?_
  generalize hR0 : List.replicate p.regs.toNat (default : Bool) = R0 at *
  have hR0l : (R0.length : Int) = p.regs := by rw [← hR0, List.length_replicate]; omega
  refine Wc.loop (ι := Nat × List Bool) (fun (k, xs) => ([(17, .int .i64 (k : Int)), (16, Go.Value.int Go.IntKind.i64 (↑(List.length (Go.Proofs.YtbppmiimeccclaaGreat.PV.outs p)) : Int)), (15, Go.Value.slice ao (List.length (Go.Proofs.YtbppmiimeccclaaGreat.PV.outs p)) co), (3, Go.Value.pointer (Option.some (Go.Addr.mk b3 0 Option.none))), (2, Go.Value.slice Option.none 0 0), (1, Go.Value.pointer (Option.some (Go.Addr.mk b1 0 Option.none)))], [(2, some b3, .cells #[.slice (some ⟨b2, 0, none⟩) xs.length R0.length] 87), (1, some b2, Row 4 xs []), (0, Option.some b1, Go.Obj.cells #[Go.Value.int Go.IntKind.i64 (Go.Proofs.YtbppmiimeccclaaGreat.PV.ins p), Go.Value.int Go.IntKind.i64 (Go.Proofs.YtbppmiimeccclaaGreat.PV.regs p), Go.Value.slice ac (List.length (Go.Proofs.YtbppmiimeccclaaGreat.PV.code p)) cc, Go.Value.slice ao (List.length (Go.Proofs.YtbppmiimeccclaaGreat.PV.outs p)) co] 25)])) (fun (k, xs) => k ≤ p.outs.length ∧ xs = setAll R0 (p.outs.take k) ∧ OwnA (some ⟨b2, 0, none⟩) R0.length xs []) (fun (k, xs) => p.outs.length - k) ((0, R0)) (⟨Nat.zero_le _, rfl, OwnA.made (by simp only [maxLen]; omega)⟩) ⟨rfl, rfl, rfl, rfl, rfl, rfl, trivial⟩ ⟨rfl, rfl, rfl, trivial⟩ (fun ⟨k, xs⟩ => fun (hk : k ≤ p.outs.length ∧ xs = setAll R0 (p.outs.take k) ∧ OwnA (some ⟨b2, 0, none⟩) R0.length xs []) => ?_)
  obtain ⟨hk1, hxs, hox⟩ := hk
  have hxl : (xs.length : Int) = p.regs := by rw [hxs, setAll_len]; exact hR0l
  rcases Nat.lt_or_ge k p.outs.length with hlt | hge
  · have hr : 0 ≤ p.outs[((k : Nat) : Int).toNat]?.getD default ∧ p.outs[((k : Nat) : Int).toNat]?.getD default < xs.length := by
      rw [hxl]; refine r7 _ ?_
      rw [Int.toNat_natCast, List.getElem?_eq_getElem hlt]; simp
    refine Wc.gl 13 [1] ?_
    refine Wl.q rfl (Qy.at (α := Int) T.sl23 rfl rfl (by assumption) (by omega)) ?_
    refine Wl.q rfl (Qy.loadG T.one3 rfl (Arr.cell (by assumption) (by omega) 0 rfl rfl)) ?_
    refine Wl.gl 6 [2] ?_
    refine Wl.q rfl (Qy.indexAddrO (α := Bool) T.sl87 rfl rfl (by assumption) (by omega)) ?_
    refine Wl.setO (z := _) 1 T.size4 rfl rfl rfl (by assumption) (by omega) rfl (fun ho1 => ?_)
    refine Wl.ga 7 [] ?_
    refine Ar.reH 2 (.cells #[.slice (some ⟨b2, 0, none⟩) (xs.set (p.outs[((k : Nat) : Int).toNat]?.getD default).toNat true).length R0.length] 87) rfl (by rw [List.length_set]) ?_
    refine Ar.again ((k + 1, _)) ?_ ?_ rfl ⟨rfl, rfl, rfl, rfl, rfl, rfl, trivial⟩ ⟨rfl, rfl, rfl, trivial⟩
    · exact ⟨by omega, by rw [setAll_step _ _ hlt, hxs], ho1⟩
    · show p.outs.length - (k + 1) < p.outs.length - k
      omega
  · have hk : k = p.outs.length := by omega
    subst hk
    rw [List.take_length] at hxs
    clear hk1 hge
    refine Wc.gl 17 [0, 0] ?_
    refine Wl.make (α := Bool) 3 rfl T.sl87 T.el4 rfl rfl (by omega) (by omega) (fun b4 => ?_)
    refine Wl.alloc 4 rfl T.zero87 (fun b5 => ?_)
    refine Wl.gl 10 [4, 0] ?_
    refine Wl.call 5 rfl T.fn94 rfl (c94 _ _ _ _ _ _) (tags_of trivial) (fun v1 G1 Ho1 hle1 hp => ?_)
    obtain ⟨bb1, rfl, rfl, hbb1⟩ := hp
    replace hc := hc.up hle1
    replace ho := ho.up hle1
    refine Wl.gc 3 [] ?_
    generalize hS0 : List.replicate ((p.code.length : Int)).toNat (default : Bool) = S0 at *
    have hS0l : S0.length = p.code.length := by rw [← hS0, List.length_replicate]; omega
    refine Wc.rangeFunc (ι := List Bool × List Bool) 900 901 (fun (A, O) => [(4, some b5, .cells #[.slice (some ⟨b4, 0, none⟩) O.length S0.length] 87), (3, some b4, Row 4 O []), (2, some b3, .cells #[.slice (some ⟨b2, 0, none⟩) A.length R0.length] 87), (1, some b2, Row 4 A []), (0, Option.some b1, Go.Obj.cells #[Go.Value.int Go.IntKind.i64 (Go.Proofs.YtbppmiimeccclaaGreat.PV.ins p), Go.Value.int Go.IntKind.i64 (Go.Proofs.YtbppmiimeccclaaGreat.PV.regs p), Go.Value.slice ac (List.length (Go.Proofs.YtbppmiimeccclaaGreat.PV.code p)) cc, Go.Value.slice ao (List.length (Go.Proofs.YtbppmiimeccclaaGreat.PV.outs p)) co] 25)]) (fun k (A, O) => (A, O) = needTo p k ∧ OwnA (some ⟨b2, 0, none⟩) R0.length A [] ∧ OwnA (some ⟨b4, 0, none⟩) S0.length O []) (fun c (A, O) => False) ((xs, S0)) rfl T.fn149 (fun _ => rfl) rfl (c149R _ p _ _ _ _ _ hc ho (by omega) (by omega) hbb1 hR) (⟨by rw [hxs, ← hR0, ← hS0]; rfl, hox, OwnA.made (by simp only [maxLen]; omega)⟩) (Hp.got ⟨rfl, rfl, rfl, rfl, rfl, trivial⟩) ⟨rfl, fun _ => rfl⟩ (fun k x ⟨A, O⟩ l dd q w0 hx hi => ?_) (fun ⟨A, O⟩ dd hi => ?_) (fun ⟨A, O⟩ dd c hi => ?_)
    · obtain ⟨hn, hoA, hoO⟩ := hi
      have hkl : k < p.code.length := by have := (List.getElem?_eq_some_iff.1 hx).1; rw [backL_len] at this; exact this
      have hxe : x = (((p.code.length - 1 - k : Nat) : Int), p.code[p.code.length - 1 - k]?.getD default) := by rw [backL_get _ hkl] at hx; exact (Option.some.inj hx).symm
      have hx1 : x.1 = ((p.code.length - 1 - k : Nat) : Int) := by rw [hxe]
      have hx2 : x.2 = p.code[p.code.length - 1 - k]?.getD default := by rw [hxe]
      clear hxe
      have hm : mayOk x.2 p.regs = true := by
        rw [hx2]; refine r8 _ ?_
        rw [List.getElem?_eq_getElem (by omega), Option.getD_some]; exact List.getElem_mem _
      have hAl : (A.length : Int) = p.regs := by have := (needTo_len p k).1; rw [← hn] at this; show (A.length : Int) = _; rw [show A.length = p.regs.toNat from this]; omega
      have hOl : O.length = p.code.length := by have := (needTo_len p k).2; rw [← hn] at this; exact this
      have hto : 0 ≤ x.2.to ∧ x.2.to < A.length := by rw [hAl]; rw [mayOk_iff] at hm; exact ⟨hm.1.2.2.1, hm.1.2.2.2.1⟩
      have hx1b : 0 ≤ x.1 ∧ x.1 < O.length := by rw [hx1, hOl]; omega
      have hask : ∀ r ∈ asks x.2, 0 ≤ r ∧ r < A.length := by rw [hAl]; exact asks_in hm
      have hst : needTo p (k + 1) = needStep (A, O) x.1 x.2 := by rw [hx1, hx2, hn]; rfl
      have hasks : (asks x.2).length ≤ 2 := by unfold asks; split <;> (try split) <;> simp
      refine Wc.gl 6 [] ?_
      refine Wl.alloc 902 rfl T.zero93 (fun b6 => ?_)
      refine Wl.ga 2 [902] ?_
      refine Ar.begin 900 rfl ?_
      refine Wc.gl 7 [2, 902] ?_
      refine Wl.q rfl (Qy.indexAddrO (α := Bool) T.sl87 rfl rfl (by assumption) (by omega)) ?_
      refine Wl.q rfl (Qy.loadO 1 0 T.one4 rfl rfl (by assumption) (by omega) rfl rfl) ?_
      refine Wl.gc 3 [] ?_
      refine Wc.ite rfl (fun hc1 => ?_) (fun hc1 => ?_)
      refine Wc.ga 3 [] ?_
      rotate_left
      refine Wc.gl 6 [4] ?_
      refine Wl.q rfl (Qy.indexAddrO (α := Bool) T.sl87 rfl rfl (by assumption) (by omega)) ?_
      refine Wl.setO (z := _) 3 T.size4 rfl rfl rfl (by assumption) (by omega) rfl (fun ho1 => ?_)
      refine Wl.gl 7 [2, 902] ?_
      refine Wl.q rfl (Qy.indexAddrO (α := Bool) T.sl87 rfl rfl (by assumption) (by omega)) ?_
      refine Wl.setO (z := _) 1 T.size4 rfl rfl rfl (by assumption) (by omega) rfl (fun ho2 => ?_)
      refine Wl.gl 5 [902] ?_
      refine Wl.call 903 rfl T.fn95 rfl (c95 _ _) (tags_of trivial) (fun v2 G2 Ho2 hle2 hp => ?_)
      obtain ⟨ad2, cd2, junk2, rfl, hoa2, rfl, rfl⟩ := hp
      refine Wl.gc 5 [] ?_
      rotate_left
      · refine Ar.roundEnd none (.inl ⟨rfl, rfl⟩) 900 rfl ⟨rfl, ((A, O), none), rfl, .inl ⟨rfl, rfl, ?_⟩⟩ (Hp.got ⟨rfl, rfl, rfl, rfl, rfl, rfl, rfl, trivial⟩)
        refine ⟨?_, hoA, hoO⟩
        rw [hst]; unfold needStep
        rw [if_neg (by simpa using hc1)]
      refine Wc.reH 2 (.cells #[.slice (some ⟨b2, 0, none⟩) (A.set x.2.to.toNat false).length R0.length] 87) rfl (by rw [List.length_set]) (Wc.reH 4 (.cells #[.slice (some ⟨b4, 0, none⟩) (O.set x.1.toNat true).length S0.length] 87) rfl (by rw [List.length_set]) ?_)
      refine Wc.loop (ι := Nat × List Bool) (fun (m, B) => ([(49, .int .i64 (m : Int)), (48, Go.Value.int Go.IntKind.i64 (↑(List.length (Go.Proofs.YtbppmiimeccclaaGreat.asks (Prod.snd x))) : Int)), (47, Go.Value.slice ad2 (List.length (Go.Proofs.YtbppmiimeccclaaGreat.asks (Prod.snd x))) cd2), (3, Go.Value.pointer (Option.some (Go.Addr.mk b3 0 Option.none)))], [(2, some b3, .cells #[.slice (some ⟨b2, 0, none⟩) B.length R0.length] 87), (1, some b2, Row 4 B []), (4, Option.some b5, Go.Obj.cells #[Go.Value.slice (Option.some (Go.Addr.mk b4 0 Option.none)) (List.length (List.set O (Int.toNat (Prod.fst x)) Bool.true)) (List.length S0)] 87), (904, Option.map (fun x => Go.Addr.block x) ad2, Go.Sl.Row (α := Int) 3 (Go.Proofs.YtbppmiimeccclaaGreat.asks (Prod.snd x)) (junk2)), (3, Option.map (fun x => Go.Addr.block x) (Option.some (Go.Addr.mk b4 0 Option.none)), Go.Sl.Row (α := Bool) 4 (List.set O (Int.toNat (Prod.fst x)) Bool.true) ([])), (900, Option.some l, Go.Sl.lrec q Go.LoopState.busy Option.none), (902, Option.some b6, Go.Obj.cells (List.toArray (Go.Sl.Cells.enc (Prod.snd x))) 93), (901, Option.some dd, Go.Obj.deferred (Option.some [])), (0, Option.some b1, Go.Obj.cells #[Go.Value.int Go.IntKind.i64 (Go.Proofs.YtbppmiimeccclaaGreat.PV.ins p), Go.Value.int Go.IntKind.i64 (Go.Proofs.YtbppmiimeccclaaGreat.PV.regs p), Go.Value.slice ac (List.length (Go.Proofs.YtbppmiimeccclaaGreat.PV.code p)) cc, Go.Value.slice ao (List.length (Go.Proofs.YtbppmiimeccclaaGreat.PV.outs p)) co] 25)])) (fun (m, B) => m ≤ (asks x.2).length ∧ B = setAll (A.set x.2.to.toNat false) ((asks x.2).take m) ∧ OwnA (some ⟨b2, 0, none⟩) R0.length B []) (fun (m, B) => (asks x.2).length - m) ((0, A.set x.2.to.toNat false)) (⟨Nat.zero_le _, rfl, ho2⟩) ⟨rfl, rfl, rfl, rfl, trivial⟩ ⟨rfl, rfl, rfl, rfl, rfl, rfl, rfl, rfl, rfl, trivial⟩ (fun ⟨m, B⟩ => fun (hk : m ≤ (asks x.2).length ∧ B = setAll (A.set x.2.to.toNat false) ((asks x.2).take m) ∧ OwnA (some ⟨b2, 0, none⟩) R0.length B []) => ?_)
      obtain ⟨hm1, hB, hoB⟩ := hk
      have hBl : B.length = A.length := by rw [hB, setAll_len, List.length_set]
      rcases Nat.lt_or_ge m (asks x.2).length with hlt | hge
      · have hr : 0 ≤ (asks x.2)[((m : Nat) : Int).toNat]?.getD default ∧ (asks x.2)[((m : Nat) : Int).toNat]?.getD default < B.length := by
          rw [hBl]; refine hask _ ?_
          rw [Int.toNat_natCast, List.getElem?_eq_getElem hlt]; simp
        refine Wc.gl 13 [1] ?_
        refine Wl.q rfl (Qy.indexAddrO (α := Int) T.sl23 rfl rfl (by assumption) (by omega)) ?_
        refine Wl.q rfl (Qy.loadO 904 0 T.one3 rfl rfl (by assumption) (by omega) rfl rfl) ?_
        refine Wl.gl 6 [2] ?_
        refine Wl.q rfl (Qy.indexAddrO (α := Bool) T.sl87 rfl rfl (by assumption) (by omega)) ?_
        refine Wl.setO (z := _) 1 T.size4 rfl rfl rfl (by assumption) (by omega) rfl (fun ho3 => ?_)
        refine Wl.ga 7 [] ?_
        refine Ar.reH 2 (.cells #[.slice (some ⟨b2, 0, none⟩) (B.set ((asks x.2)[((m : Nat) : Int).toNat]?.getD default).toNat true).length R0.length] 87) rfl (by rw [List.length_set]) ?_
        refine Ar.again ((m + 1, _)) ?_ ?_ rfl ⟨rfl, rfl, rfl, rfl, trivial⟩ ⟨rfl, rfl, rfl, rfl, rfl, rfl, rfl, rfl, rfl, trivial⟩
        · exact ⟨by omega, by rw [setAll_step _ _ hlt, hB], ho3⟩
        · show (asks x.2).length - (m + 1) < (asks x.2).length - m
          omega
      · have hm : m = (asks x.2).length := by omega
        subst hm
        rw [List.take_length] at hB
        refine Wc.ga 12 [0] ?_
        refine Ar.roundEnd none (.inl ⟨rfl, rfl⟩) 900 rfl ⟨rfl, ((B, O.set x.1.toNat true), none), rfl, .inl ⟨rfl, rfl, ?_⟩⟩ (Hp.got ⟨rfl, rfl, rfl, rfl, rfl, rfl, rfl, trivial⟩)
        refine ⟨?_, hoB, ho1⟩
        rw [hst]; unfold needStep
        rw [if_pos (by simpa using hc1), hB]
    · obtain ⟨hn, hoA, hoO⟩ := hi
      rw [backL_len] at hn
      have hO : O = neededP p := congrArg Prod.snd hn
      subst hO
      refine Ar.ga 9 [4] ?_
      refine Ar.scopeR ?_
      refine Ar.collect (.inr rfl) 901 rfl ?_
      refine Ar.outOf (.inr rfl) ?_
      refine Ar.base (Ar.pick [3] (by decide) (Ar.out1 (.inr rfl) rfl (.tmp rfl) (Hp.sub_self 0 _) ?_))
      exact ⟨_, _, _, rfl, hoO, rfl, rfl⟩
    · exact hi.elim
end Go.Proofs.YtbppmiimeccclaaGreat
namespace Go.Proofs.YtbppmiimeccclaaGreat
open Go Go.Sl
set_option maxRecDepth 100000
set_option maxHeartbeats 2000000
theorem c50 (G : Imm) (i : Sl.Instr) : Does Tryz.prog 50 [.agg (Cells.enc i).toArray] G [] (fun v G' Ho => v = .bool (decide (i.op = 1 ∧ i.to = i.a)) ∧ G' = G ∧ Ho = []) := by
  refine Does.enter Tryz.func50 rfl Tryz.ntmps50 rfl (fun w => ?_)
  refine Wc.gl 2 [] ?_
  refine Wl.box 0 rfl rfl rfl (fun b1 => ?_)
  refine Wl.gl 9 [0] ?_
  apply Wl.joinAnd 6 6 12 rfl
  intro hg1
  refine Wl.ll0 11 [0, 0] ?_
  exact Wl.back 6 0 rfl rfl rfl rfl rfl
  intro hg1
  refine Wl.ll0 6 [] ?_
  exact Wl.back 6 0 rfl rfl rfl rfl rfl
  refine Wl.ga 4 [] ?_
  refine Ar.out1 (.inr rfl) (Ho := Hp.only _ []) rfl (.tmp rfl) (Hp.sub_only _ _) ?_
  exact ⟨rfl, rfl, rfl⟩
theorem c51 (G : Imm) (a : Option Addr) (c : Nat) (xs : List Int) (hx : Arr G a xs) (hl : xs.length ≤ 1099511627776) :
    Does Tryz.prog 51 [.slice a xs.length c] G [] (fun v G' Ho => ∃ b d j, v = .slice b xs.length d ∧ OwnA b d xs j ∧ Ho = [(0, b.map (·.block), Row 3 xs j)] ∧ G' = G) := by
  refine Does.enter Tryz.func51 rfl Tryz.ntmps51 rfl (fun w => ?_)
  refine Wc.gl 9 [] ?_
  refine Wl.q rfl (Qy.eqlSliceNil T.sl23 rfl rfl) ?_
  refine Wl.gc 2 [] ?_
  refine Wc.cond rfl (fun hc1 => ?_) (fun hc1 => ?_)
  refine Wc.ga 7 [] ?_
  rotate_left
  refine Wc.gl 4 [] ?_
  refine Wl.lit0 0 rfl T.sl23 (fun b1 => ?_)
  refine Wl.q rfl (Qy.move rfl) ?_
  rotate_left
  · subst hc1
    have hn : xs = [] := by
      rcases hx.2 with h | ⟨b, o, h, _⟩
      · exact List.eq_nil_of_length_eq_zero h
      · cases h
    subst hn
    refine Ar.nilRow 0 (Row 3 ([] : List Int) []) ?_
    refine Ar.out1 (.inr rfl) (Ho := Hp.only _ [0]) rfl (.tmp rfl) (Hp.sub_only _ _) ?_
    exact ⟨none, 0, [], rfl, OwnA.nil, rfl, rfl⟩
  · refine Wl.reH 0 (Row 3 ([] : List Int) []) rfl rfl ?_
    refine Wl.append (α := Int) 0 rfl T.sl23 T.el3 rfl rfl rfl (OwnA.made (by simp)) (Src.arr (by assumption)) (by simp only [List.length_nil]; omega) (by simp only [List.length_nil, maxLen]; omega) (fun a1 c1 junk1 ho1 => ?_)
    refine Wl.ga 4 [] ?_
    refine Ar.out1 (.inr rfl) (Ho := Hp.only _ [0]) rfl (.tmp rfl) (Hp.sub_only _ _) ?_
    exact ⟨_, _, _, rfl, ho1, rfl, rfl⟩
/-- what is left: what is needed and does something -/
def keepTo (p : PV) : Nat → List Sl.Instr
  | 0 => []
  | k + 1 => if (neededP p)[((k : Nat) : Int).toNat]?.getD default = true ∧ ¬ ((p.code[((k : Nat) : Int).toNat]?.getD default).op = 1 ∧ (p.code[((k : Nat) : Int).toNat]?.getD default).to = (p.code[((k : Nat) : Int).toNat]?.getD default).a)
      then keepTo p k ++ [p.code[((k : Nat) : Int).toNat]?.getD default] else keepTo p k
theorem keepTo_len (p : PV) (k : Nat) : (keepTo p k).length ≤ k := by
  induction k with
  | zero => simp [keepTo]
  | succ k ih =>
    simp only [keepTo]
    split
    · rw [List.length_append]; simp only [List.length_cons, List.length_nil]; omega
    · omega
def deadP (p : PV) : PV := ⟨p.ins, p.regs, keepTo p p.code.length, p.outs⟩
theorem c17R (G : Imm) (p : PV) (ac ao : Option Addr) (cc co : Nat) (hc : Arr G ac p.code) (ho : Arr G ao p.outs) (h1 : p.code.length ≤ 1099511627776) (h2 : p.outs.length ≤ 1099511627776) (hR : rightP p = true) :
    Does Tryz.prog 17 [.agg #[.int .i64 p.ins, .int .i64 p.regs, .slice ac p.code.length cc, .slice ao p.outs.length co]] G [] (fun v G' Ho =>
      ∃ bc bo dc do_ j1 j2, v = .tuple #[.agg #[.int .i64 p.ins, .int .i64 p.regs, .slice bc (deadP p).code.length dc, .slice bo p.outs.length do_], .int .i64 0] ∧
        OwnA bc dc (deadP p).code j1 ∧ OwnA bo do_ p.outs j2 ∧ Ho = [(0, bc.map (·.block), Row 93 (deadP p).code j1), (1, bo.map (·.block), Row 3 p.outs j2)] ∧ G' = G) := by
  obtain ⟨r1, r2, r3, r4, r5, r6, r7, r8⟩ := right_facts hR
  have hcheck : (checkP p).2 = false := by simpa [rightP] using hR
  refine Does.enter Tryz.func17 rfl Tryz.ntmps17 rfl (fun w => ?_)
  refine Wc.nilRow 0 (Row 93 ([] : List Sl.Instr) []) ?_
  refine Wc.gl 2 [] ?_
  refine Wl.box 1 rfl rfl rfl (fun b1 => ?_)
  refine Wl.alloc 2 rfl T.zero25 (fun b2 => ?_)
  refine Wl.gl 6 [1] ?_
  refine Wl.call0 rfl T.fn18 rfl (c18 _ _ _ _ _ _ (by assumption) (by assumption) (by omega) (by omega)) ?_
  refine Wl.gc 14 [] ?_
  refine Wc.cond rfl (fun hc1 => ?_) (fun hc1 => ?_)
  refine Wc.gl 2 [] ?_
  refine Wl.q rfl (Qy.build (cs := [_, _, _, _]) T.st25 rfl rfl rfl) ?_
  refine Wl.ga 7 [2] ?_
  rotate_left
  refine Wc.gl 11 [1] ?_
  refine Wl.call 3 rfl T.fn49 rfl (c49 _ _ _ _ _ _ (by assumption) (by assumption) (by omega) (by omega) (by assumption)) (tags_of trivial) (fun v1 G1 Ho1 hle1 hp => ?_)
  obtain ⟨nb1, nc1, nj1, rfl, hnb1, rfl, rfl⟩ := hp
  refine Wl.gc 5 [] ?_
  rotate_left
  · rw [hcheck] at hc1; exact absurd rfl hc1
  have hnl : (neededP p).length = p.code.length := (needTo_len p _).2
  refine Wc.loop (ι := Nat × List Sl.Instr × (Option Addr × Nat × List Value)) (fun (k, xs, (b, d, j)) => ([(21, .int .i64 (k : Int)), (6, .slice b xs.length d), (20, Go.Value.int Go.IntKind.i64 (↑(List.length (Go.Proofs.YtbppmiimeccclaaGreat.neededP p)) : Int)), (19, Go.Value.slice nb1 (List.length (Go.Proofs.YtbppmiimeccclaaGreat.neededP p)) nc1), (3, Go.Value.int Go.IntKind.i64 0), (2, Go.Value.pointer (Option.some (Go.Addr.mk b2 0 Option.none))), (1, Go.Value.pointer (Option.some (Go.Addr.mk b1 0 Option.none)))], [(0, b.map (·.block), Row 93 xs j), (3, Option.map (fun x => Go.Addr.block x) nb1, Go.Sl.Row (α := Bool) 4 (Go.Proofs.YtbppmiimeccclaaGreat.neededP p) (nj1)), (2, Option.some b2, Go.Obj.cells #[Go.Value.int Go.IntKind.i64 0, Go.Value.int Go.IntKind.i64 0, Go.Value.slice Option.none 0 0, Go.Value.slice Option.none 0 0] 25), (1, Option.some b1, Go.Obj.cells #[Go.Value.int Go.IntKind.i64 (Go.Proofs.YtbppmiimeccclaaGreat.PV.ins p), Go.Value.int Go.IntKind.i64 (Go.Proofs.YtbppmiimeccclaaGreat.PV.regs p), Go.Value.slice ac (List.length (Go.Proofs.YtbppmiimeccclaaGreat.PV.code p)) cc, Go.Value.slice ao (List.length (Go.Proofs.YtbppmiimeccclaaGreat.PV.outs p)) co] 25)])) (fun (k, xs, (b, d, j)) => k ≤ p.code.length ∧ xs = keepTo p k ∧ OwnA b d xs j) (fun (k, xs, (b, d, j)) => p.code.length - k) ((0, [], (none, 0, []))) (⟨Nat.zero_le _, rfl, OwnA.nil⟩) ⟨rfl, rfl, rfl, rfl, rfl, rfl, rfl, trivial⟩ ⟨rfl, rfl, rfl, rfl, trivial⟩ (fun ⟨k, xs, (b, d, j)⟩ => fun (hk : k ≤ p.code.length ∧ xs = keepTo p k ∧ OwnA b d xs j) => ?_)
  obtain ⟨hk1, hxs, hob⟩ := hk
  have hxl : xs.length ≤ k := by rw [hxs]; exact keepTo_len p k
  rcases Nat.lt_or_ge k p.code.length with hlt | hge
  · have hst : keepTo p (k + 1) = if (neededP p)[((k : Nat) : Int).toNat]?.getD default = true ∧ ¬ ((p.code[((k : Nat) : Int).toNat]?.getD default).op = 1 ∧ (p.code[((k : Nat) : Int).toNat]?.getD default).to = (p.code[((k : Nat) : Int).toNat]?.getD default).a)
      then keepTo p k ++ [p.code[((k : Nat) : Int).toNat]?.getD default] else keepTo p k := rfl
    refine Wc.gl 14 [1] ?_
    refine Wl.q rfl (Qy.indexAddrO (α := Bool) T.sl87 rfl rfl (by assumption) (by omega)) ?_
    refine Wl.q rfl (Qy.loadO 3 0 T.one4 rfl rfl (by assumption) (by omega) rfl rfl) ?_
    refine Wl.gl 8 [] ?_
    refine Wl.casesB 27 rfl (fun hg1 => ?_) (fun hg1 => ?_)
    refine Wl.ll0 7 [1] ?_
    refine Wl.q rfl (Qy.at (α := Instr) T.sl22 rfl rfl (by assumption) (by omega)) ?_
    refine Wl.want rfl rfl ?_
    refine Wl.q rfl (Qy.loadsG T.agg93 rfl (Arr.elem (by assumption) (by omega)) rfl) ?_
    refine Wl.want rfl rfl ?_
    refine Wl.call0 rfl T.fn50 rfl (c50 _ _) ?_
    refine Wl.want rfl rfl ?_
    refine Wl.q rfl (Qy.notD rfl) ?_
    refine Wl.gc 3 [] ?_
    refine Wc.cond rfl (fun hc2 => ?_) (fun hc2 => ?_)
    refine Wc.gl 5 [1] ?_
    refine Wl.q rfl (Qy.at (α := Instr) T.sl22 rfl rfl (by assumption) (by omega)) ?_
    refine Wl.q rfl (Qy.loadsG T.agg93 rfl (Arr.elem (by assumption) (by omega)) rfl) ?_
    refine Wl.lit (α := Instr) 4 [(Option.getD (Go.Proofs.YtbppmiimeccclaaGreat.PV.code p)[Int.toNat (↑k : Int)]? Inhabited.default)] rfl T.sl22 T.el93 rfl rfl rfl rfl rfl (fun b3 => ?_)
    refine Wl.append (α := Instr) 0 rfl T.sl22 T.el93 rfl rfl rfl (by first | assumption | exact OwnA.nil | exact OwnA.made (by simp)) (Src.row 4 rfl) (by first | omega | (simp only [List.length_append, List.length_cons, List.length_nil, maxLen]; omega)) (by first | omega | (simp only [List.length_append, List.length_cons, List.length_nil, maxLen]; omega)) (fun a1 c1 junk1 ho1 => ?_)
    refine Wl.ga 8 [] ?_
    rotate_left
    refine Wc.ga 7 [] ?_
    rotate_left
    refine Wl.ga 18 [0] ?_
    rotate_left
    · refine Ar.again ((k + 1, _, (a1, c1, junk1))) ?_ ?_ rfl ⟨rfl, rfl, rfl, rfl, rfl, rfl, rfl, trivial⟩ ⟨rfl, rfl, rfl, rfl, trivial⟩
      · exact ⟨by omega, by rw [hst, if_pos ⟨hg1, hc2⟩, hxs], ho1⟩
      · show p.code.length - (k + 1) < p.code.length - k
        omega
    · refine Ar.again ((k + 1, xs, (b, d, j))) ?_ ?_ rfl ⟨rfl, rfl, rfl, rfl, rfl, rfl, rfl, trivial⟩ ⟨rfl, rfl, rfl, rfl, trivial⟩
      · exact ⟨by omega, by rw [hst, if_neg (fun h => hc2 h.2), hxs], hob⟩
      · show p.code.length - (k + 1) < p.code.length - k
        omega
    · refine Ar.again ((k + 1, xs, (b, d, j))) ?_ ?_ rfl ⟨rfl, rfl, rfl, rfl, rfl, rfl, rfl, trivial⟩ ⟨rfl, rfl, rfl, rfl, trivial⟩
      · exact ⟨by omega, by rw [hst, if_neg (fun h => by rw [hg1] at h; cases h.1), hxs], hob⟩
      · show p.code.length - (k + 1) < p.code.length - k
        omega
  · have hk : k = p.code.length := by omega
    subst hk
    have hxs' : xs = (deadP p).code := hxs
    rw [hxs'] at hob ⊢
    refine Wc.gc 13 [0] ?_
    refine Wc.draw [1, 2, 3, 0] [(2, 9)] T.mixed rfl ?_
    refine Gm.q 0 [] (by kernel_rfl) rfl rfl (Qy.fieldAddr T.fa25_0 rfl) ?_
    refine Gm.q 1 [1] (by kernel_rfl) rfl rfl (Qy.load 1 T.one3 rfl rfl rfl) ?_
    refine Gm.q 2 [] (by kernel_rfl) rfl rfl (Qy.fieldAddr T.fa25_1 rfl) ?_
    refine Gm.q 3 [1] (by kernel_rfl) rfl rfl (Qy.load 1 T.one3 rfl rfl rfl) ?_
    refine Gm.q 4 [] (by kernel_rfl) rfl rfl (Qy.move rfl) ?_
    refine Gm.q 5 [] (by kernel_rfl) rfl rfl (Qy.fieldAddr T.fa25_3 rfl) ?_
    refine Gm.q 6 [1] (by kernel_rfl) rfl rfl (Qy.load 1 T.one23 rfl rfl rfl) ?_
    refine Gm.one 7 ⟨rfl, rfl, rfl, rfl, trivial⟩ (by first | exact Imm.le_refl _ | assumption | (refine Imm.le_trans ?_ (by assumption); first | assumption | (refine Imm.le_trans ?_ (by assumption); assumption))) (by kernel_rfl) rfl ?_
    refine Wl.call 4 rfl T.fn51 rfl (c51 _ _ _ _ (by assumption) (by omega)) (tags_of trivial) (fun v2 G2 Ho2 hle2 hp => ?_)
    obtain ⟨lb2, ld2, lj2, rfl, hlb2, rfl, rfl⟩ := hp
    refine Wl.on0 ?_
    refine Gm.q 8 [] (by kernel_rfl) rfl rfl (Qy.build (cs := [_, _, _, _]) T.st25 rfl rfl rfl) ?_
    refine Gm.one 9 ⟨rfl, rfl, rfl, rfl, trivial⟩ (by first | exact Imm.le_refl _ | assumption | (refine Imm.le_trans ?_ (by assumption); first | assumption | (refine Imm.le_trans ?_ (by assumption); assumption))) (by kernel_rfl) rfl ?_
    refine Wl.storeAll 2 T.size25 rfl rfl rfl rfl rfl rfl ?_
    refine Wl.on0 ?_
    refine Gm.q 10 [] (by kernel_rfl) rfl rfl (Qy.assign rfl) ?_
    refine Gm.doneA (by kernel_rfl) ⟨rfl, rfl, rfl, trivial⟩ (by first | exact Imm.le_refl _ | assumption | (refine Imm.le_trans ?_ (by assumption); first | assumption | (refine Imm.le_trans ?_ (by assumption); assumption))) ?_
    refine Ar.ga 2 [] ?_
    refine Ar.pick [0, 4, 2] (by decide) (Ar.out2 (.inr rfl) (Ho := Hp.only _ [0, 1]) rfl (.agg 2 rfl rfl T.agg25) (.tmp rfl) (Hp.sub_only _ _) ?_)
    exact ⟨_, _, _, _, _, _, rfl, hob, hlb2, rfl, rfl⟩
theorem c17W (G : Imm) (p : PV) (ac ao : Option Addr) (cc co : Nat) (hc : Arr G ac p.code) (ho : Arr G ao p.outs) (h1 : p.code.length ≤ 1099511627776) (h2 : p.outs.length ≤ 1099511627776) (hR : ¬ rightP p = true) :
    Does Tryz.prog 17 [.agg #[.int .i64 p.ins, .int .i64 p.regs, .slice ac p.code.length cc, .slice ao p.outs.length co]] G [] (fun v G' Ho =>
      v = .tuple #[.agg #[.int .i64 0, .int .i64 0, .slice none 0 0, .slice none 0 0], .int .i64 80] ∧
        Ho = [(0, none, Row 93 ([] : List Sl.Instr) []), (1, none, Row 3 ([] : List Int) [])] ∧ G' = G) := by
  have hcheck : (checkP p).2 = true := by simpa [rightP] using hR
  refine Does.enter Tryz.func17 rfl Tryz.ntmps17 rfl (fun w => ?_)
  refine Wc.nilRow 5 (Row 93 ([] : List Sl.Instr) []) (Wc.nilRow 6 (Row 3 ([] : List Int) []) ?_)
  refine Wc.gl 2 [] ?_
  refine Wl.box 7 rfl rfl rfl (fun b1 => ?_)
  refine Wl.alloc 8 rfl T.zero25 (fun b2 => ?_)
  refine Wl.gl 6 [7] ?_
  refine Wl.call0 rfl T.fn18 rfl (c18 _ _ _ _ _ _ (by assumption) (by assumption) (by omega) (by omega)) ?_
  refine Wl.gc 14 [] ?_
  refine Wc.cond rfl (fun hc1 => ?_) (fun hc1 => ?_)
  refine Wc.gl 2 [] ?_
  refine Wl.q rfl (Qy.build (cs := [_, _, _, _]) T.st25 rfl rfl rfl) ?_
  refine Wl.ga 7 [8] ?_
  rotate_left
  refine Wc.gl 11 [7] ?_
  rotate_left
  · refine Ar.pick [5, 6, 8] (by decide) (Ar.out2 (.inr rfl) (Ho := Hp.only _ [0, 1]) rfl (.agg 2 rfl rfl T.agg25) (.tmp rfl) (Hp.sub_only _ _) ?_)
    rw [hcheck]; exact ⟨rfl, rfl, rfl⟩
  · rw [hcheck] at hc1; exact absurd (by decide) hc1
/-- what the pass makes of any program -/
def deadE (p : PV) : PV := if rightP p then deadP p else ⟨0, 0, [], []⟩
def errP (p : PV) : Int := if rightP p then 0 else 80
theorem c17 (G : Imm) (p : PV) (ac ao : Option Addr) (cc co : Nat) (hc : Arr G ac p.code) (ho : Arr G ao p.outs) (h1 : p.code.length ≤ 1099511627776) (h2 : p.outs.length ≤ 1099511627776) :
    Does Tryz.prog 17 [.agg #[.int .i64 p.ins, .int .i64 p.regs, .slice ac p.code.length cc, .slice ao p.outs.length co]] G [] (fun v G' Ho =>
      ∃ q e bc bo dc do_ j1 j2, v = .tuple #[.agg #[.int .i64 q.ins, .int .i64 q.regs, .slice bc q.code.length dc, .slice bo q.outs.length do_], .int .i64 e] ∧ (q = deadE p ∧ e = errP p) ∧
        OwnA bc dc q.code j1 ∧ OwnA bo do_ q.outs j2 ∧ Ho = [(0, bc.map (·.block), Row 93 q.code j1), (1, bo.map (·.block), Row 3 q.outs j2)] ∧ G' = G) := by
  by_cases hR : rightP p = true
  · refine (c17R G p ac ao cc co hc ho h1 h2 hR).mono fun v G' Ho _ ⟨bc, bo, dc, do_, j1, j2, q1, q2, q3, q4, q5⟩ => ?_
    exact ⟨deadP p, 0, bc, bo, dc, do_, j1, j2, q1, ⟨(if_pos hR).symm, (if_pos hR).symm⟩, q2, q3, q4, q5⟩
  · refine (c17W G p ac ao cc co hc ho h1 h2 hR).mono fun v G' Ho _ ⟨q1, q2, q3⟩ => ?_
    exact ⟨⟨0, 0, [], []⟩, 80, none, none, 0, 0, [], [], q1, ⟨(if_neg hR).symm, (if_neg hR).symm⟩, OwnA.nil, OwnA.nil, q2, q3⟩
end Go.Proofs.YtbppmiimeccclaaGreat
