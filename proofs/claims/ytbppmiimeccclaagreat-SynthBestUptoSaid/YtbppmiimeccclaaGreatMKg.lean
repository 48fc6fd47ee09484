/- Parts of the proof (part 7): what the rows' text needs of the texts that lead to it. -/
import Derived.Test.YtbppmiimeccclaaGreatMKf
set_option maxRecDepth 100000
set_option linter.unusedVariables false
namespace Go.Proofs.YtbppmiimeccclaaGreat
open Go Go.Sl
set_option maxHeartbeats 4000000
attribute [local irreducible] valB pb cmpZ lstWp
theorem cell_oneZ {G : Imm} {b : Nat} {cs : List Value} {T : TypeId} {fz : Nat × Nat} (h : G b = some (.cells cs.toArray T fz)) (k : Nat) {v : Value} (hv : cs[k]? = some v) : G.cell b k = some v := by
  simp only [Imm.cell, h]; simpa using hv
theorem upP_map (xs : List Int) (f : Int → Int) : upP (fun k => f (xs[k]?.getD 0)) xs.length = xs.map f := by
  unfold upP
  apply List.ext_getElem
  · rw [List.length_map, List.length_map, List.length_range]
  · intro i h1 h2
    rw [List.length_map] at h2
    rw [List.getElem_map, List.getElem_range, List.getElem_map, List.getElem?_eq_getElem h2]; rfl
theorem upP_zip (xs ys : List Int) (f : Int → Int → Int) (h : xs.length = ys.length) : upP (fun k => f (xs[k]?.getD 0) (ys[k]?.getD 0)) xs.length = List.zipWith f xs ys := by
  unfold upP
  apply List.ext_getElem
  · rw [List.length_map, List.length_range, List.length_zipWith, h, Nat.min_self]
  · intro i h1 h2
    rw [List.length_zipWith] at h2
    rw [List.getElem_map, List.getElem_range, List.getElem_zipWith, List.getElem?_eq_getElem (show i < xs.length by omega), List.getElem?_eq_getElem (show i < ys.length by omega)]; rfl
/-- a row that a function answers -/
def RowPost (G' : Imm) (v : Value) (zs : List Int) : Prop := ∃ (s : Option Addr) (r : List IV) (d : Nat), v = .slice s r.length d ∧ Arr G' s r ∧ r.length ≤ d ∧ Bigs G' r zs
theorem bigs_n {G : Imm} {l : List IV} {xs : List Int} {m : Nat} (h : Bigs G l xs) (hm : Below m xs) {k : Nat} (hk : k < l.length) : (l[k]?.getD default).n ≤ m := Big.len (h.2 k hk) (hm.at k)
theorem c118 (G : Imm) (a : Option Addr) (c : Nat) (l : List IV) (xs : List Int) (m : Nat) (ha : Arr G a l) (hb : Bigs G l xs) (hm : Below m xs) (hmm : m ≤ 268435456) (hl : l.length ≤ 1048576) :
    Does Tryz.prog 118 [.slice a l.length c] G [] (fun v G' Ho => RowPost G' v (xs.map fun x => -x) ∧ Ho = []) := by
  have hf : ∀ k : Nat, k < l.length → ∀ G', G.le G' → Does Tryz.prog 100 ([] ++ [.agg (Cells.enc (l[((k : Nat) : Int).toNat]?.getD default)).toArray] ++ []) G' [] (fun v G'' Ho => ∃ r : IV, v = .agg (Cells.enc r).toArray ∧ Big G'' r (-(xs[k]?.getD 0)) ∧ Ho = []) := fun k hk G' hG => by
    have h1 := bigs_n hb hm hk
    exact (c100 G' _ _ ((hb.2 k hk).up hG) (by omega)).mono fun v G'' Ho _ ⟨r, e1, e2, e3, e4⟩ => ⟨r, e1, e2, e4⟩
  have h180 := c180P G a c l 100 [] (fun k => -(xs[k]?.getD 0)) T.fn100 ha hl hf
  rw [hb.1, upP_map xs (fun x => -x), ← hb.1] at h180
  refine Does.enter Tryz.func118 rfl Tryz.ntmps118 rfl (fun w => ?_)
  refine Wc.gl 8 [] ?_
  refine Wl.call 0 rfl T.fn180 rfl (h180) (tags_of trivial) (fun v1 G1 Ho1 hle1 hp => ?_)
  obtain ⟨s1, r1, d1, rfl, hA1, hl81, hB1, rfl⟩ := hp
  replace ha := ha.up hle1
  replace hb := hb.up hle1
  refine Wl.ga 4 [] ?_
  refine Ar.out1 (.inr rfl) (Ho := []) rfl (.tmp rfl) trivial ?_
  exact ⟨⟨_, _, _, rfl, hA1, hl81, hB1⟩, rfl⟩
theorem c200 (G : Imm) (bk bf bb h : Nat) (x : IV) (k : Nat) (a' : Option Addr) (c' : Nat) (ys : List IV) (R : Int) (hgh : isFn Tryz.prog h) (hy : Arr G a' ys) (hk : k < ys.length) (hkl : k ≤ 1048576) (hf : G bf = some (.cells [.func (.func h) #[] #[]].toArray 106)) (hb : G bb = some (.cells [.slice a' ys.length c'].toArray 44))
    (hh : Does Tryz.prog h ([] ++ [.agg (Cells.enc x).toArray, .agg (Cells.enc (ys[((k : Nat) : Int).toNat]?.getD default)).toArray] ++ []) G [] (fun v G'' Ho => ∃ r : IV, v = .agg (Cells.enc r).toArray ∧ Big G'' r R ∧ Ho = [])) :
    Does Tryz.prog 200 [.agg (Cells.enc x).toArray, .pointer (some ⟨bk, 0, none⟩), .pointer (some ⟨bf, 0, none⟩), .pointer (some ⟨bb, 0, none⟩)] G [(0, some bk, .cells #[.int .i64 ((k : Int) - 1)] 3)]
      (fun v G' Ho => ∃ r : IV, v = .agg (Cells.enc r).toArray ∧ Big G' r R ∧ Ho = [(0, some bk, .cells #[.int .i64 (((k + 1 : Nat) : Int) - 1)] 3)]) := by
  have hfc := cell_oneZ hf 0 rfl
  have hbc := cell_oneZ hb 0 rfl
  have e : ((k : Nat) : Int).toNat = (((k : Int) - 1) + 1).toNat := by omega
  rw [e] at hh
  refine Does.enter Tryz.func200 rfl Tryz.ntmps200 rfl (fun w => ?_)
  refine Wc.gl 2 [] ?_
  refine Wl.box 1 rfl rfl rfl (fun b1 => ?_)
  refine Wl.alloc 2 rfl T.zero104 (fun b2 => ?_)
  refine Wl.gc 10 [0, 0] ?_
  refine Wc.draw [1, 2, 0] [(2, 7), (0, 6), (2, 6), (1, 6)] T.mixed rfl ?_
  refine Gm.q 0 [] (by kernel_rfl) rfl rfl (Qy.loadG T.one106 rfl (by assumption)) ?_
  refine Gm.q 1 [1] (by kernel_rfl) rfl rfl (Qy.loadAll 1 T.agg104 rfl rfl rfl) ?_
  refine Gm.q 2 [] (by kernel_rfl) rfl rfl (Qy.loadG T.one44 rfl (by assumption)) ?_
  refine Gm.one 3 ⟨rfl, rfl, rfl, trivial⟩ (by first | exact Imm.le_refl _ | repeat (first | assumption | refine Imm.le_trans ?_ (by assumption))) (by kernel_rfl) rfl ?_
  refine Wl.q rfl (Qy.load 0 T.one3 rfl rfl rfl) ?_
  refine Wl.on0 ?_
  refine Gm.q 4 [] (by kernel_rfl) rfl rfl (Qy.at (α := IV) T.sl44 rfl rfl (by assumption) (by omega)) ?_
  refine Gm.q 5 [] (by kernel_rfl) rfl rfl (Qy.loadsG T.agg104 rfl (Arr.elem (by assumption) (by omega)) rfl) ?_
  refine Gm.one 6 ⟨rfl, rfl, rfl, trivial⟩ (by first | exact Imm.le_refl _ | repeat (first | assumption | refine Imm.le_trans ?_ (by assumption))) (by kernel_rfl) rfl ?_
  refine Wl.callV (fst := []) (cap := []) 20 rfl hgh rfl rfl hh (tags_of trivial) (fun v1 G1 Ho1 hle1 hp => ?_)
  obtain ⟨r1, rfl, hr1, rfl⟩ := hp
  refine Wl.on0 ?_
  refine Gm.one 7 trivial (by first | exact Imm.le_refl _ | repeat (first | assumption | refine Imm.le_trans ?_ (by assumption))) (by kernel_rfl) rfl ?_
  refine Wl.storeAll 2 T.size104 rfl rfl rfl rfl rfl rfl ?_
  refine Wl.on0 ?_
  refine Gm.doneA (by kernel_rfl) trivial (by first | exact Imm.le_refl _ | repeat (first | assumption | refine Imm.le_trans ?_ (by assumption))) ?_
  refine Ar.ga 2 [] ?_
  refine Ar.reH 0 (.cells #[.int .i64 (((k + 1 : Nat) : Int) - 1)] 3) rfl (by rw [show (((k + 1 : Nat) : Int) - 1) = (k : Int) - 1 + 1 by omega]; rfl) ?_
  refine Ar.out1 (.inr rfl) (Ho := [(0, some bk, .cells #[.int .i64 (((k + 1 : Nat) : Int) - 1)] 3)]) rfl (.agg 2 rfl rfl T.agg104) ⟨rfl, trivial⟩ ?_
  exact ⟨r1, rfl, hr1, rfl⟩
theorem c181 (G : Imm) (h : Nat) (a a' : Option Addr) (c c' : Nat) (l l' : List IV) (F : Nat → Int) (hgh : isFn Tryz.prog h) (ha : Arr G a l) (ha' : Arr G a' l') (hlen : l.length = l'.length) (hl : l.length ≤ 1048576)
    (hh : ∀ k : Nat, k < l.length → ∀ G', G.le G' → Does Tryz.prog h ([] ++ [.agg (Cells.enc (l[((k : Nat) : Int).toNat]?.getD default)).toArray, .agg (Cells.enc (l'[((k : Nat) : Int).toNat]?.getD default)).toArray] ++ []) G' [] (fun v G'' Ho => ∃ r : IV, v = .agg (Cells.enc r).toArray ∧ Big G'' r (F k) ∧ Ho = [])) :
    Does Tryz.prog 181 [.slice a l.length c, .slice a' l'.length c', .func (.func h) #[] #[]] G [] (fun v G' Ho => ∃ (s : Option Addr) (r : List IV) (d : Nat), v = .tuple #[.slice s r.length d, .int .i64 0] ∧ Arr G' s r ∧ r.length ≤ d ∧ Bigs G' r (upP F l.length) ∧ Ho = []) := by
  refine Does.enter Tryz.func181 rfl Tryz.ntmps181 rfl (fun w => ?_)
  refine Wc.gl 2 [] ?_
  refine Wl.box 0 rfl rfl rfl (fun b1 => ?_)
  refine Wl.box 1 rfl rfl rfl (fun b2 => ?_)
  refine Wl.gl 19 [0, 0] ?_
  refine Wl.alloc 2 rfl T.zero3 (fun b3 => ?_)
  refine Wl.gl 6 [2] ?_
  refine Wl.q rfl (Qy.makeFunc rfl rfl) ?_
  refine Wl.freeze 1 rfl (fun G1 hg1 hb1 => ?_)
  refine Wl.freeze 0 rfl (fun G2 hg2 hb2 => ?_)
  replace hb1 := hg2 _ _ hb1
  have hG := Imm.le_trans hg1 hg2
  replace ha := ha.up hG
  replace ha' := ha'.up hG
  refine Wl.reH 2 (.cells #[.int .i64 (-1)] 3) rfl rfl ?_
  refine Wl.call 2 rfl T.fn180 rfl (c180S _ a c l 200 b3 [.pointer (some ⟨b3, 0, none⟩), .pointer (some ⟨b2, 0, none⟩), .pointer (some ⟨b1, 0, none⟩)] F T.fn200 ha hl
    (fun k hk G' hG' => c200 G' b3 b2 b1 h _ k a' c' l' (F k) hgh (ha'.up hG') (by omega) (by omega) (hG' _ _ hb1) (hG' _ _ hb2) (hh k hk G' (Imm.le_trans hG hG')))) (tags_of ⟨rfl, trivial⟩) (fun v1 G3 Ho1 hle1 hp => ?_)
  obtain ⟨s, r, d, rfl, hA, hd, hB, rfl⟩ := hp
  refine Wl.ga 5 [] ?_
  refine Ar.out2 (.inr rfl) (Ho := []) rfl (.tmp rfl) (.tmp rfl) trivial ?_
  exact ⟨s, r, d, rfl, hA, hd, hB, rfl⟩
theorem c120 (G : Imm) (a a' : Option Addr) (c c' : Nat) (l l' : List IV) (xs ys : List Int) (m : Nat) (ha : Arr G a l) (ha' : Arr G a' l') (hb : Bigs G l xs) (hb' : Bigs G l' ys) (hm : Below m xs) (hm' : Below m ys) (hmm : m ≤ 268435456) (hlen : l.length = l'.length) (hl : l.length ≤ 1048576) :
    Does Tryz.prog 120 [.slice a l.length c, .slice a' l'.length c'] G [] (fun v G' Ho => ∃ (s : Option Addr) (r : List IV) (d : Nat), v = .tuple #[.slice s r.length d, .int .i64 0] ∧ Arr G' s r ∧ r.length ≤ d ∧ Bigs G' r (List.zipWith (· + ·) xs ys) ∧ Ho = []) := by
  have h181 := c181 G 101 a a' c c' l l' (fun k => xs[k]?.getD 0 + ys[k]?.getD 0) T.fn101 ha ha' hlen hl (fun k hk G' hG => by
    have h1 := bigs_n hb hm hk
    have h2 := bigs_n hb' hm' (show k < l'.length by omega)
    exact c101 G' _ _ _ _ ((hb.2 k hk).up hG) ((hb'.2 k (by omega)).up hG) (by rw [Int.toNat_natCast]; omega) (by rw [Int.toNat_natCast]; omega))
  rw [hb.1, upP_zip xs ys (· + ·) (by rw [← hb.1, ← hb'.1, hlen]), ← hb.1] at h181
  refine Does.enter Tryz.func120 rfl Tryz.ntmps120 rfl (fun w => ?_)
  refine Wc.gl 10 [] ?_
  refine Wl.call 0 rfl T.fn181 rfl (h181) (tags_of trivial) (fun v1 G1 Ho1 hle1 hp => ?_)
  obtain ⟨s1, r1, d1, rfl, hA1, hl81, hB1, rfl⟩ := hp
  replace ha := ha.up hle1
  replace ha' := ha'.up hle1
  replace hb := hb.up hle1
  replace hb' := hb'.up hle1
  refine Wl.ga 7 [] ?_
  refine Ar.out2 (.inr rfl) (Ho := []) rfl (.tmp rfl) (.tmp rfl) trivial ?_
  exact ⟨_, _, _, rfl, hA1, hl81, hB1, rfl⟩
theorem c122 (G : Imm) (a a' : Option Addr) (c c' : Nat) (l l' : List IV) (xs ys : List Int) (m : Nat) (ha : Arr G a l) (ha' : Arr G a' l') (hb : Bigs G l xs) (hb' : Bigs G l' ys) (hm : Below m xs) (hm' : Below m ys) (hmm : m ≤ 268435456) (hlen : l.length = l'.length) (hl : l.length ≤ 1048576) :
    Does Tryz.prog 122 [.slice a l.length c, .slice a' l'.length c'] G [] (fun v G' Ho => ∃ (s : Option Addr) (r : List IV) (d : Nat), v = .tuple #[.slice s r.length d, .int .i64 0] ∧ Arr G' s r ∧ r.length ≤ d ∧ Bigs G' r (List.zipWith (· - ·) xs ys) ∧ Ho = []) := by
  have h181 := c181 G 102 a a' c c' l l' (fun k => xs[k]?.getD 0 - ys[k]?.getD 0) T.fn102 ha ha' hlen hl (fun k hk G' hG => by
    have h1 := bigs_n hb hm hk
    have h2 := bigs_n hb' hm' (show k < l'.length by omega)
    exact c102 G' _ _ _ _ ((hb.2 k hk).up hG) ((hb'.2 k (by omega)).up hG) (by rw [Int.toNat_natCast]; omega) (by rw [Int.toNat_natCast]; omega))
  rw [hb.1, upP_zip xs ys (· - ·) (by rw [← hb.1, ← hb'.1, hlen]), ← hb.1] at h181
  refine Does.enter Tryz.func122 rfl Tryz.ntmps122 rfl (fun w => ?_)
  refine Wc.gl 10 [] ?_
  refine Wl.call 0 rfl T.fn181 rfl (h181) (tags_of trivial) (fun v1 G1 Ho1 hle1 hp => ?_)
  obtain ⟨s1, r1, d1, rfl, hA1, hl81, hB1, rfl⟩ := hp
  replace ha := ha.up hle1
  replace ha' := ha'.up hle1
  replace hb := hb.up hle1
  replace hb' := hb'.up hle1
  refine Wl.ga 7 [] ?_
  refine Ar.out2 (.inr rfl) (Ho := []) rfl (.tmp rfl) (.tmp rfl) trivial ?_
  exact ⟨_, _, _, rfl, hA1, hl81, hB1, rfl⟩
theorem c123 (G : Imm) (a : Option Addr) (c : Nat) (l : List IV) (xs : List Int) (y : IV) (z : Int) (m : Nat) (ha : Arr G a l) (hb : Bigs G l xs) (hm : Below m xs) (hmm : m ≤ 268435456) (hl : l.length ≤ 1048576) (hy : Big G y z) (hyn : y.n ≤ 268435456) :
    Does Tryz.prog 123 [.slice a l.length c, .agg (Cells.enc y).toArray] G [] (fun v G' Ho => RowPost G' v (xs.map fun x => z * x) ∧ Ho = []) := by
  have hf : ∀ k : Nat, k < l.length → ∀ G', G.le G' → Does Tryz.prog 103 ([.agg (Cells.enc y).toArray] ++ [.agg (Cells.enc (l[((k : Nat) : Int).toNat]?.getD default)).toArray] ++ []) G' [] (fun v G'' Ho => ∃ r : IV, v = .agg (Cells.enc r).toArray ∧ Big G'' r (z * xs[k]?.getD 0) ∧ Ho = []) := fun k hk G' hG => by
    have h1 := bigs_n hb hm hk
    exact c103 G' _ _ _ _ (hy.up hG) ((hb.2 k hk).up hG) (by omega) (by rw [Int.toNat_natCast]; omega)
  have h180 := c180P G a c l 103 [.agg (Cells.enc y).toArray] (fun k => z * xs[k]?.getD 0) T.fn103 ha hl hf
  rw [hb.1, upP_map xs (fun x => z * x), ← hb.1] at h180
  refine Does.enter Tryz.func123 rfl Tryz.ntmps123 rfl (fun w => ?_)
  refine Wc.gl 2 [] ?_
  refine Wl.box 0 rfl rfl rfl (fun b1 => ?_)
  refine Wl.gl 7 [0] ?_
  refine Wl.q rfl (Qy.makeFunc rfl rfl) ?_
  refine Wl.call 1 rfl T.fn180 rfl (h180) (tags_of trivial) (fun v1 G1 Ho1 hle1 hp => ?_)
  obtain ⟨s1, r1, d1, rfl, hA1, hl81, hB1, rfl⟩ := hp
  replace ha := ha.up hle1
  replace hb := hb.up hle1
  replace hy := hy.up hle1
  refine Wl.ga 4 [] ?_
  refine Ar.out1 (.inr rfl) (Ho := []) rfl (.tmp rfl) trivial ?_
  exact ⟨⟨_, _, _, rfl, hA1, hl81, hB1⟩, rfl⟩
theorem upP_div (xs : List Int) (z : Int) : upP (fun k => xs[k]?.getD 0 / z) xs.length = xs.map (· / z) := upP_map xs (· / z)
theorem c125 (G : Imm) (a : Option Addr) (c : Nat) (l : List IV) (xs : List Int) (y : IV) (z : Int) (m : Nat) (ha : Arr G a l) (hb : Bigs G l xs) (hm : Below m xs) (hmm : m ≤ 268435456) (hl : l.length ≤ 1048576) (hy : Big G y z) (hyn : y.n ≤ 268435456) (hy0 : z ≠ 0) :
    Does Tryz.prog 125 [.slice a l.length c, .agg (Cells.enc y).toArray] G [] (fun v G' Ho => ((∀ i : Nat, i < xs.length → xs[i]?.getD 0 % z = 0) → ∃ (s : Option Addr) (r : List IV) (d : Nat), v = .tuple #[.slice s r.length d, .int .i64 0] ∧ Arr G' s r ∧ r.length ≤ d ∧ Bigs G' r (xs.map (· / z))) ∧
      (¬ (∀ i : Nat, i < xs.length → xs[i]?.getD 0 % z = 0) → v = .tuple #[.slice none 0 0, .int .i64 20]) ∧ Ho = []) := by
  have hxl := hb.1
  refine Does.enter Tryz.func125 rfl Tryz.ntmps125 rfl (fun w => ?_)
  refine Wc.nilRow 9 (Row 104 ([] : List IV) []) ?_
  have hz0 : ¬ sgZ z = 0 := fun h => hy0 (sgZ_zero.1 h)
  refine Wc.gl 2 [] ?_
  refine Wl.box 10 rfl rfl rfl (fun b1 => ?_)
  refine Wl.gl 8 [10] ?_
  refine Wl.call0 rfl T.fn106 rfl (big_sign _ y z hy (Nat.le_trans hyn (by decide))) ?_
  refine Wl.gc 20 [0] ?_
  refine Wc.loopG (ι := Nat × Imm × List IV × (Option Addr × Nat × List Value)) (fun (k, Gx, r, (o, d, j)) => ([(17, .int .i64 (k : Int)), (6, .slice o r.length d), (16, Go.Value.int Go.IntKind.i64 (↑(List.length l) : Int)), (15, Go.Value.slice a (List.length l) c), (3, Go.Value.pointer (Option.some (Go.Addr.mk b1 0 Option.none)))], [(9, o.map (·.block), Row 104 r j), (10, Option.some b1, Go.Obj.cells (List.toArray (Go.Sl.Cells.enc y)) 104)])) (fun (k, Gx, r, (o, d, j)) => Gx) (fun (k, Gx, r, (o, d, j)) => k ≤ l.length ∧ G.le Gx ∧ r.length = k ∧ Bigs Gx r (upP (fun k => xs[k]?.getD 0 / z) k) ∧ OwnA o d r j ∧ (∀ i : Nat, i < k → xs[i]?.getD 0 % z = 0)) (fun (k, Gx, r, (o, d, j)) => l.length - k) ((0, G, [], (none, 0, []))) (⟨Nat.zero_le _, Imm.le_refl _, rfl, ⟨rfl, fun i h => absurd h (by simp)⟩, OwnA.nil, fun i h => absurd h (by omega)⟩) rfl ⟨rfl, rfl, rfl, rfl, rfl, trivial⟩ ⟨rfl, rfl, trivial⟩ (fun ⟨k, Gx, r, (o, d, j)⟩ => fun (hk : k ≤ l.length ∧ G.le Gx ∧ r.length = k ∧ Bigs Gx r (upP (fun k => xs[k]?.getD 0 / z) k) ∧ OwnA o d r j ∧ (∀ i : Nat, i < k → xs[i]?.getD 0 % z = 0)) => ?_)
  obtain ⟨hk1, hk2, hk3, hk4, hk5, hk6⟩ := hk
  replace ha := ha.up hk2
  replace hb := hb.up hk2
  replace hy := hy.up hk2
  rcases Nat.lt_or_ge k l.length with hkl | hkl
  · have hx := hb.2 k hkl
    have hxn : (l[((k : Nat) : Int).toNat]?.getD default).n ≤ 268435456 := by rw [Int.toNat_natCast]; exact Nat.le_trans (bigs_n hb hm hkl) hmm
    have hx : Big Gx (l[((k : Nat) : Int).toNat]?.getD default) (xs[k]?.getD 0) := by rw [Int.toNat_natCast]; exact hx
    have hlt : ((xs[k]?.getD 0 % z).natAbs : Int) < pb y.n := by
      have e2 := emod_small (x := xs[k]?.getD 0) hy0
      have e3 := Big.lt hy
      omega
    refine Wc.gl 13 [1] ?_
    refine Wl.q rfl (Qy.at (α := IV) T.sl44 rfl rfl (by assumption) (by omega)) ?_
    refine Wl.q rfl (Qy.loadsG T.agg104 rfl (Arr.elem (by assumption) (by omega)) rfl) ?_
    refine Wl.alloc 11 rfl T.zero104 (fun b2 => ?_)
    refine Wl.gl 7 [11, 11, 10] ?_
    refine Wl.call 12 rfl T.fn105 rfl (c105 _ _ _ _ _ hx hy hxn hyn hy0) (tags_of trivial) (fun v1 G1 Ho1 hle1 hp => ?_)
    obtain ⟨q1, r1, rfl, hq1, hr1, rfl⟩ := hp
    replace hk4 := hk4.up hle1
    replace ha := ha.up hle1
    replace hb := hb.up hle1
    replace hy := hy.up hle1
    replace hx := hx.up hle1
    refine Wl.ll0 4 [] ?_
    refine Wl.alloc 12 rfl T.zero104 (fun b3 => ?_)
    refine Wl.alloc 13 rfl T.zero104 (fun b4 => ?_)
    refine Wl.gl 9 [12, 13, 13] ?_
    refine Wl.call0 rfl T.fn106 rfl (big_sign _ r1 (xs[k]?.getD 0 % z) hr1 (Nat.le_trans (Big.len hr1 hlt) (Nat.le_trans hyn (by decide)))) ?_
    refine Wl.gc 3 [] ?_
    refine Wc.cond rfl (fun hc1 => ?_) (fun hc1 => ?_)
    refine Wc.ga 13 [] ?_
    rotate_left
    refine Wc.gl 5 [12] ?_
    refine Wl.lit (α := IV) 14 [(q1)] rfl T.sl44 T.el104 rfl rfl rfl rfl rfl (fun b5 => ?_)
    refine Wl.append (α := IV) 9 rfl T.sl44 T.el104 rfl rfl rfl (by first | assumption | exact OwnA.nil | exact OwnA.made (by simp)) (Src.row 14 rfl) (by first | omega | (simp only [List.length_append, List.length_cons, List.length_nil, maxLen]; omega)) (by first | omega | (simp only [List.length_append, List.length_cons, List.length_nil, maxLen]; omega)) (fun a1 c1 junk1 ho1 => ?_)
    refine Wl.ga 8 [] ?_
    rotate_left
    · refine Ar.out2 (.inr rfl) (Ho := []) rfl (.tmp rfl) (.tmp rfl) trivial ?_
      have hno : ¬ (∀ i : Nat, i < xs.length → xs[i]?.getD 0 % z = 0) := fun h => hc1 (sgZ_zero.2 (h k (by omega)))
      exact ⟨fun h => absurd h hno, fun _ => rfl, rfl⟩
    · have hdz : xs[k]?.getD 0 % z = 0 := sgZ_zero.1 (Classical.byContradiction fun h => hc1 h)
      refine Ar.re 17 rfl (show _ = Value.int .i64 ((k + 1 : Nat) : Int) from rfl) ?_
      refine Ar.again ((k + 1, _, r ++ [q1], (a1, c1, junk1))) ?_ ?_ rfl ⟨rfl, rfl, rfl, rfl, rfl, trivial⟩ ⟨rfl, rfl, trivial⟩
      · refine ⟨hkl, Imm.le_trans hk2 hle1, by rw [List.length_append, hk3]; rfl, ?_, ho1, fun i hi => ?_⟩
        · rw [upP_succ]; exact bigs_snoc hk4 hq1
        · rcases Nat.lt_or_ge i k with h | h
          · exact hk6 i h
          · have e : i = k := by omega
            rw [e]; exact hdz
      · show l.length - (k + 1) < l.length - k
        omega
  · have hkl : k = l.length := by omega
    subst hkl
    refine Wc.ga 20 [0] ?_
    refine Ar.freezeRow 9 rfl hk5 (fun G8 hle8 hA8 => ?_)
    refine Ar.out2 (.inr rfl) (Ho := []) rfl (.tmp rfl) (.tmp rfl) trivial ?_
    rw [hxl] at hk6
    refine ⟨fun _ => ⟨o, r, d, rfl, hA8, hk5.le, ?_⟩, fun h => absurd hk6 h, rfl⟩
    rw [← upP_div, ← hxl]; exact hk4.up hle8
theorem c119 (G : Imm) (a a' : Option Addr) (c c' : Nat) (l l' : List IV) (xs ys : List Int) (m : Nat) (ha : Arr G a l) (ha' : Arr G a' l') (hb : Bigs G l xs) (hb' : Bigs G l' ys) (hm : Below m xs) (hm' : Below m ys) (hmm : m ≤ 268435456) (hlen : l.length = l'.length) (hl : l.length ≤ 1048576) :
    Does Tryz.prog 119 [.slice a l.length c, .slice a' l'.length c'] G [] (fun v G' Ho => RowPost G' v (List.zipWith (· + ·) xs ys) ∧ Ho = []) := by
  refine Does.enter Tryz.func119 rfl Tryz.ntmps119 rfl (fun w => ?_)
  refine Wc.gl 9 [] ?_
  refine Wl.call 0 rfl T.fn120 rfl (c120 _ a a' c c' l l' xs ys m ha ha' hb hb' hm hm' hmm hlen hl) (tags_of trivial) (fun v1 G1 Ho1 hle1 hp => ?_)
  obtain ⟨s1, r1, d1, rfl, hA1, hl81, hB1, rfl⟩ := hp
  replace ha := ha.up hle1
  replace ha' := ha'.up hle1
  replace hb := hb.up hle1
  replace hb' := hb'.up hle1
  refine Wl.ga 14 [] ?_
  refine Ar.out1 (.inr rfl) (Ho := []) rfl (.tmp rfl) trivial ?_
  exact ⟨⟨_, _, _, rfl, hA1, hl81, hB1⟩, rfl⟩
theorem c121 (G : Imm) (a a' : Option Addr) (c c' : Nat) (l l' : List IV) (xs ys : List Int) (m : Nat) (ha : Arr G a l) (ha' : Arr G a' l') (hb : Bigs G l xs) (hb' : Bigs G l' ys) (hm : Below m xs) (hm' : Below m ys) (hmm : m ≤ 268435456) (hlen : l.length = l'.length) (hl : l.length ≤ 1048576) :
    Does Tryz.prog 121 [.slice a l.length c, .slice a' l'.length c'] G [] (fun v G' Ho => RowPost G' v (List.zipWith (· - ·) xs ys) ∧ Ho = []) := by
  refine Does.enter Tryz.func121 rfl Tryz.ntmps121 rfl (fun w => ?_)
  refine Wc.gl 9 [] ?_
  refine Wl.call 0 rfl T.fn122 rfl (c122 _ a a' c c' l l' xs ys m ha ha' hb hb' hm hm' hmm hlen hl) (tags_of trivial) (fun v1 G1 Ho1 hle1 hp => ?_)
  obtain ⟨s1, r1, d1, rfl, hA1, hl81, hB1, rfl⟩ := hp
  replace ha := ha.up hle1
  replace ha' := ha'.up hle1
  replace hb := hb.up hle1
  replace hb' := hb'.up hle1
  refine Wl.ga 14 [] ?_
  refine Ar.out1 (.inr rfl) (Ho := []) rfl (.tmp rfl) trivial ?_
  exact ⟨⟨_, _, _, rfl, hA1, hl81, hB1⟩, rfl⟩
/-- rows divided: a row, and whether it is one -/
theorem c124 (G : Imm) (a : Option Addr) (c : Nat) (l : List IV) (xs : List Int) (y : IV) (z : Int) (m : Nat) (ha : Arr G a l) (hb : Bigs G l xs) (hm : Below m xs) (hmm : m ≤ 268435456) (hl : l.length ≤ 1048576) (hy : Big G y z) (hyn : y.n ≤ 268435456) (hy0 : z ≠ 0) :
    Does Tryz.prog 124 [.slice a l.length c, .agg (Cells.enc y).toArray] G [] (fun v G' Ho => ((∀ i : Nat, i < xs.length → xs[i]?.getD 0 % z = 0) → ∃ (s : Option Addr) (r : List IV) (d : Nat), v = .tuple #[.slice s r.length d, .bool true] ∧ Arr G' s r ∧ r.length ≤ d ∧ Bigs G' r (xs.map (· / z))) ∧
      (¬ (∀ i : Nat, i < xs.length → xs[i]?.getD 0 % z = 0) → v = .tuple #[.slice none 0 0, .bool false]) ∧ Ho = []) := by
  have h := c125 G a c l xs y z m ha hb hm hmm hl hy hyn hy0
  by_cases hd : ∀ i : Nat, i < xs.length → xs[i]?.getD 0 % z = 0
  · have h1 := h.mono fun v G' Ho _ ⟨p1, p2, p3⟩ => (⟨p1 hd, p3⟩ : (∃ (s : Option Addr) (r : List IV) (d : Nat), v = Value.tuple #[.slice s r.length d, .int .i64 0] ∧ Arr G' s r ∧ r.length ≤ d ∧ Bigs G' r (xs.map (· / z))) ∧ Ho = [])
    refine Does.enter Tryz.func124 rfl Tryz.ntmps124 rfl (fun w => ?_)
    refine Wc.gl 2 [] ?_
    refine Wl.box 0 rfl rfl rfl (fun b1 => ?_)
    refine Wl.gl 8 [0] ?_
    refine Wl.call 1 rfl T.fn125 rfl (h1) (tags_of trivial) (fun v1 G1 Ho1 hle1 hp => ?_)
    obtain ⟨⟨s1, r1, d1, rfl, hA1, hl81, hB1⟩, rfl⟩ := hp
    replace ha := ha.up hle1
    replace hb := hb.up hle1
    replace hy := hy.up hle1
    refine Wl.ga 17 [] ?_
    refine Ar.out2 (.inr rfl) (Ho := []) rfl (.tmp rfl) (.tmp rfl) trivial ?_
    exact ⟨fun _ => ⟨_, _, _, rfl, hA1, hl81, hB1⟩, fun h => absurd hd h, rfl⟩
  · have h1 := h.mono fun v G' Ho _ ⟨p1, p2, p3⟩ => (⟨p2 hd, p3⟩ : v = Value.tuple #[.slice none 0 0, .int .i64 20] ∧ Ho = [])
    refine Does.enter Tryz.func124 rfl Tryz.ntmps124 rfl (fun w => ?_)
    refine Wc.gl 2 [] ?_
    refine Wl.box 0 rfl rfl rfl (fun b1 => ?_)
    refine Wl.gl 8 [0] ?_
    refine Wl.call 1 rfl T.fn125 rfl (h1) (tags_of trivial) (fun v1 G1 Ho1 hle1 hp => ?_)
    obtain ⟨rfl, rfl⟩ := hp
    replace ha := ha.up hle1
    replace hb := hb.up hle1
    replace hy := hy.up hle1
    refine Wl.ga 17 [] ?_
    refine Ar.out2 (.inr rfl) (Ho := []) rfl (.tmp rfl) (.tmp rfl) trivial ?_
    exact ⟨fun h => absurd h hd, fun _ => rfl, rfl⟩
def waysR : Value := .agg #[.func (.func 118) #[] #[], .func (.func 119) #[] #[], .func (.func 121) #[] #[], .func (.func 123) #[] #[], .func (.func 124) #[] #[]]
theorem c69 (G : Imm) : Does Tryz.prog 69 [] G [] (fun v G' Ho => v = waysR ∧ G' = G ∧ Ho = []) := by
  refine Does.enter Tryz.func69 rfl Tryz.ntmps69 rfl (fun w => ?_)
  refine Wc.gl 2 [] ?_
  refine Wl.alloc 0 rfl T.zero131 (fun b1 => ?_)
  refine Wl.gl 4 [] ?_
  refine Wl.q rfl (Qy.build (cs := [_, _, _, _, _]) T.st131 rfl rfl rfl) ?_
  refine Wl.ga 4 [0] ?_
  refine Ar.out1 (.inr rfl) (Ho := []) rfl (.agg 0 rfl rfl T.agg131) trivial ?_
  exact ⟨rfl, rfl, rfl⟩
end Go.Proofs.YtbppmiimeccclaaGreat
set_option maxRecDepth 100000
set_option linter.unusedVariables false
namespace Go.Proofs.YtbppmiimeccclaaGreat
open Go Go.Sl
set_option maxHeartbeats 4000000
attribute [local irreducible] valB pb cmpZ lstWp p2 cst
/-- rows of one length, of numbers below a bound -/
def EvenB (m N : Nat) (rs : List (List Int)) : Prop := ∀ zs ∈ rs, zs.length = N ∧ Below m zs
theorem EvenB.at {m N : Nat} {rs : List (List Int)} (h : EvenB m N rs) {k : Nat} (hk : k < rs.length) : (rs[k]?.getD []).length = N ∧ Below m (rs[k]?.getD []) := by
  rw [List.getElem?_eq_getElem hk]; exact h _ (List.getElem_mem hk)
/-- what 'do' answers of rows -/
def DoRPost (i : Sl.Instr) (rs : List (List Int)) (H0 : Hp) (v : Value) (G' : Imm) (Ho : Hp) : Prop :=
  ∃ s : SV, v = .tuple #[.slice s.a s.n s.c, .bool (decide (doI i rs ≠ none))] ∧ (∀ z, doI i rs = some z → BRow G' s z) ∧ Ho = H0
theorem doR_some {i : Sl.Instr} {rs : List (List Int)} {H0 : Hp} {s : SV} {G' : Imm} {z : List Int} (h : doI i rs = some z) (hx : BRow G' s z) : DoRPost i rs H0 (.tuple #[.slice s.a s.n s.c, .bool true]) G' H0 :=
  ⟨s, by rw [decide_eq_true (show doI i rs ≠ none from fun e => by rw [e] at h; cases h)], fun z' h' => by rw [h] at h'; cases h'; exact hx, rfl⟩
theorem doR_none {i : Sl.Instr} {rs : List (List Int)} {H0 : Hp} {G' : Imm} (h : doI i rs = none) : DoRPost i rs H0 (.tuple #[.slice none 0 0, .bool false]) G' H0 :=
  ⟨⟨none, 0, 0⟩, by rw [decide_eq_false (show ¬ doI i rs ≠ none from fun e => e h)], (fun z hz => by rw [h] at hz; cases hz), rfl⟩
theorem brow_post {G : Imm} {s : Option Addr} {r : List IV} {d : Nat} {zs : List Int} (hA : Arr G s r) (hd : r.length ≤ d) (hB : Bigs G r zs) : BRow G ⟨s, r.length, d⟩ zs := ⟨r, rfl, hd, hA, hB⟩
theorem neg_rows (xs : List Int) : (xs.map fun x => -1 * x) = xs.map fun x => -x := by
  congr 1; funext x; rw [Int.neg_mul, Int.one_mul]
theorem add_rows (xs ys : List Int) : List.zipWith (fun x y => x + 1 * y) xs ys = List.zipWith (· + ·) xs ys := by
  congr 1; funext x y; rw [Int.one_mul]
theorem sub_rows (xs ys : List Int) : List.zipWith (fun x y => x + (-1) * y) xs ys = List.zipWith (· - ·) xs ys := by
  congr 1; funext x y; rw [Int.neg_mul, Int.one_mul]; rfl
theorem c117 (G : Imm) (i : Sl.Instr) (o : Option Addr) (d : Nat) (r : List SV) (j : List Value) (rs : List (List Int)) (m N : Nat) (hob : OwnA o d r j) (hg : BGrid G r rs) (hm : EvenB m N rs) (hN : N ≤ 1048576) (hm2 : m ≤ 268435456)
    (hop : 1 ≤ i.op ∧ i.op ≤ 8) (ha : 0 ≤ i.a ∧ i.a < r.length) (hb : 0 ≤ i.b ∧ i.b < r.length)
    (hcst : i.op ≠ 1 → i.op ≠ 2 → i.op ≠ 3 → i.op ≠ 4 → cst i ≠ 0 ∧ ((cst i).natAbs : Int) < pb 3)
    (hc1 : i.op = 5 ∨ i.op = 6 → -9223372036854775808 ≤ i.c ∧ i.c ≤ 9223372036854775807) (hc2 : ¬ (i.op = 5 ∨ i.op = 6) → 0 ≤ i.c ∧ i.c ≤ 64) :
    Does Tryz.prog 117 [waysR, .slice o r.length d, .agg (Cells.enc i).toArray] G [(0, o.map (·.block), Row 44 r j)] (fun v G' Ho => DoRPost i rs [(0, o.map (·.block), Row 44 r j)] v G' Ho) := by
  have hca := hob.le
  obtain ⟨la, a1, a2, a3, a4⟩ := hg.2 i.a.toNat (by omega)
  obtain ⟨lb, b1, b2, b3, b4⟩ := hg.2 i.b.toNat (by omega)
  have hrl := hg.1
  obtain ⟨na, ma⟩ := hm.at (k := i.a.toNat) (by omega)
  obtain ⟨nb, mb⟩ := hm.at (k := i.b.toNat) (by omega)
  have hla : la.length ≤ 1048576 := by rw [a4.1, na]; exact hN
  have hlab : la.length = lb.length := by rw [a4.1, b4.1, na, nb]
  refine Does.enter Tryz.func117 rfl Tryz.ntmps117 rfl (fun w => ?_)
  have h118 := c118 G _ (r[i.a.toNat]?.getD default).c la _ m a3 a4 ma hm2 hla
  have h119 := c119 G _ _ (r[i.a.toNat]?.getD default).c (r[i.b.toNat]?.getD default).c la lb _ _ m a3 b3 a4 b4 ma mb hm2 hlab hla
  have h121 := c121 G _ _ (r[i.a.toNat]?.getD default).c (r[i.b.toNat]?.getD default).c la lb _ _ m a3 b3 a4 b4 ma mb hm2 hlab hla
  rw [a1] at h118
  rw [a1, b1] at h119 h121
  have h123 : ∀ G1 y z, G.le G1 → Big G1 y z → y.n ≤ 268435456 → Does Tryz.prog 123 [.slice (r[i.a.toNat]?.getD default).a (r[i.a.toNat]?.getD default).n (r[i.a.toNat]?.getD default).c, .agg (Cells.enc y).toArray] G1 [] (fun v G' Ho => RowPost G' v ((rs[i.a.toNat]?.getD []).map fun x => z * x) ∧ Ho = []) := fun G1 y z hG hy hyn => by
    have h := c123 G1 _ (r[i.a.toNat]?.getD default).c la _ y z m (a3.up hG) (a4.up hG) ma hm2 hla hy hyn
    rw [a1] at h; exact h
  have h124 : ∀ G1 y z, G.le G1 → Big G1 y z → y.n ≤ 268435456 → z ≠ 0 → Does Tryz.prog 124 [.slice (r[i.a.toNat]?.getD default).a (r[i.a.toNat]?.getD default).n (r[i.a.toNat]?.getD default).c, .agg (Cells.enc y).toArray] G1 [] (fun v G' Ho => (AllDiv z (rs[i.a.toNat]?.getD []) → ∃ (s : Option Addr) (r' : List IV) (d : Nat), v = .tuple #[.slice s r'.length d, .bool true] ∧ Arr G' s r' ∧ r'.length ≤ d ∧ Bigs G' r' ((rs[i.a.toNat]?.getD []).map (· / z))) ∧
      (¬ AllDiv z (rs[i.a.toNat]?.getD []) → v = .tuple #[.slice none 0 0, .bool false]) ∧ Ho = []) := fun G1 y z hG hy hyn hz => by
    have h := c124 G1 _ (r[i.a.toNat]?.getD default).c la _ y z m (a3.up hG) (a4.up hG) ma hm2 hla hy hyn hz
    rw [a1] at h; exact h
  by_cases h2 : i.op = 2
  · refine Wc.gl 2 [] ?_
    refine Wl.box 1 rfl rfl rfl (fun b5 => ?_)
    refine Wl.box 2 rfl rfl rfl (fun b6 => ?_)
    refine Wl.gc 5 [] ?_
    refine Wc.draw [0, 1, 2] [] T.mixed rfl ?_
    refine Gm.q 0 [] (by kernel_rfl) rfl rfl (Qy.move rfl) ?_
    refine Gm.q 1 [] (by kernel_rfl) rfl rfl (Qy.fieldAddr T.fa93_2 rfl) ?_
    refine Gm.q 2 [2] (by kernel_rfl) rfl rfl (Qy.load 2 T.one3 rfl rfl rfl) ?_
    refine Gm.q 3 [] (by kernel_rfl) rfl rfl (Qy.indexAddrO (α := SV) T.sl53 rfl rfl (by assumption) (by omega)) ?_
    refine Gm.q 4 [0] (by kernel_rfl) rfl rfl (Qy.loadO 0 0 T.one44 rfl rfl (by assumption) (by omega) rfl rfl) ?_
    refine Gm.q 5 [] (by kernel_rfl) rfl rfl (Qy.move rfl) ?_
    refine Gm.q 6 [] (by kernel_rfl) rfl rfl (Qy.fieldAddr T.fa93_3 rfl) ?_
    refine Gm.q 7 [2] (by kernel_rfl) rfl rfl (Qy.load 2 T.one3 rfl rfl rfl) ?_
    refine Gm.q 8 [] (by kernel_rfl) rfl rfl (Qy.indexAddrO (α := SV) T.sl53 rfl rfl (by assumption) (by omega)) ?_
    refine Gm.q 9 [0] (by kernel_rfl) rfl rfl (Qy.loadO 0 0 T.one44 rfl rfl (by assumption) (by omega) rfl rfl) ?_
    refine Gm.q 10 [] (by kernel_rfl) rfl rfl (Qy.assign rfl) ?_
    refine Gm.q 11 [] (by kernel_rfl) rfl rfl (Qy.assign rfl) ?_
    refine Gm.doneA (by kernel_rfl) ⟨rfl, rfl, rfl, trivial⟩ (by first | exact Imm.le_refl _ | repeat (first | assumption | refine Imm.le_trans ?_ (by assumption))) ?_
    refine Ar.gl 21 [2, 1, 1] ?_
    refine Wl.callV (fst := []) (cap := []) 3 rfl T.fn118 rfl rfl (h118) (tags_of trivial) (fun v1 G1 Ho1 hle1 hp => ?_)
    obtain ⟨⟨s1, r1, d1, rfl, hA1, hl81, hB1⟩, rfl⟩ := hp
    replace a3 := a3.up hle1
    replace a4 := a4.up hle1
    replace b3 := b3.up hle1
    replace b4 := b4.up hle1
    refine Wl.ga 7 [] ?_
    refine Ar.out2 (.inr rfl) (Ho := Hp.only _ [0]) rfl (.tmp rfl) (.tmp rfl) (Hp.sub_only _ _) ?_
    exact doR_some (by unfold doI; simp only [h2, if_true]; rw [neg_rows]) (brow_post hA1 hl81 hB1)
  by_cases h3 : i.op = 3
  · refine Wc.gl 2 [] ?_
    refine Wl.box 1 rfl rfl rfl (fun b5 => ?_)
    refine Wl.box 2 rfl rfl rfl (fun b6 => ?_)
    refine Wl.gc 5 [] ?_
    refine Wc.draw [0, 1, 2] [] T.mixed rfl ?_
    refine Gm.q 0 [] (by kernel_rfl) rfl rfl (Qy.move rfl) ?_
    refine Gm.q 1 [] (by kernel_rfl) rfl rfl (Qy.fieldAddr T.fa93_2 rfl) ?_
    refine Gm.q 2 [2] (by kernel_rfl) rfl rfl (Qy.load 2 T.one3 rfl rfl rfl) ?_
    refine Gm.q 3 [] (by kernel_rfl) rfl rfl (Qy.indexAddrO (α := SV) T.sl53 rfl rfl (by assumption) (by omega)) ?_
    refine Gm.q 4 [0] (by kernel_rfl) rfl rfl (Qy.loadO 0 0 T.one44 rfl rfl (by assumption) (by omega) rfl rfl) ?_
    refine Gm.q 5 [] (by kernel_rfl) rfl rfl (Qy.move rfl) ?_
    refine Gm.q 6 [] (by kernel_rfl) rfl rfl (Qy.fieldAddr T.fa93_3 rfl) ?_
    refine Gm.q 7 [2] (by kernel_rfl) rfl rfl (Qy.load 2 T.one3 rfl rfl rfl) ?_
    refine Gm.q 8 [] (by kernel_rfl) rfl rfl (Qy.indexAddrO (α := SV) T.sl53 rfl rfl (by assumption) (by omega)) ?_
    refine Gm.q 9 [0] (by kernel_rfl) rfl rfl (Qy.loadO 0 0 T.one44 rfl rfl (by assumption) (by omega) rfl rfl) ?_
    refine Gm.q 10 [] (by kernel_rfl) rfl rfl (Qy.assign rfl) ?_
    refine Gm.q 11 [] (by kernel_rfl) rfl rfl (Qy.assign rfl) ?_
    refine Gm.doneA (by kernel_rfl) ⟨rfl, rfl, rfl, trivial⟩ (by first | exact Imm.le_refl _ | repeat (first | assumption | refine Imm.le_trans ?_ (by assumption))) ?_
    refine Ar.gl 29 [2, 0, 1, 1] ?_
    refine Wl.callV (fst := []) (cap := []) 3 rfl T.fn119 rfl rfl (h119) (tags_of trivial) (fun v1 G1 Ho1 hle1 hp => ?_)
    obtain ⟨⟨s1, r1, d1, rfl, hA1, hl81, hB1⟩, rfl⟩ := hp
    replace a3 := a3.up hle1
    replace a4 := a4.up hle1
    replace b3 := b3.up hle1
    replace b4 := b4.up hle1
    refine Wl.ga 7 [] ?_
    refine Ar.out2 (.inr rfl) (Ho := Hp.only _ [0]) rfl (.tmp rfl) (.tmp rfl) (Hp.sub_only _ _) ?_
    exact doR_some (by unfold doI; simp only [h3, if_true]; rw [if_neg (by decide), add_rows]) (brow_post hA1 hl81 hB1)
  by_cases h4 : i.op = 4
  · refine Wc.gl 2 [] ?_
    refine Wl.box 1 rfl rfl rfl (fun b5 => ?_)
    refine Wl.box 2 rfl rfl rfl (fun b6 => ?_)
    refine Wl.gc 5 [] ?_
    refine Wc.draw [0, 1, 2] [] T.mixed rfl ?_
    refine Gm.q 0 [] (by kernel_rfl) rfl rfl (Qy.move rfl) ?_
    refine Gm.q 1 [] (by kernel_rfl) rfl rfl (Qy.fieldAddr T.fa93_2 rfl) ?_
    refine Gm.q 2 [2] (by kernel_rfl) rfl rfl (Qy.load 2 T.one3 rfl rfl rfl) ?_
    refine Gm.q 3 [] (by kernel_rfl) rfl rfl (Qy.indexAddrO (α := SV) T.sl53 rfl rfl (by assumption) (by omega)) ?_
    refine Gm.q 4 [0] (by kernel_rfl) rfl rfl (Qy.loadO 0 0 T.one44 rfl rfl (by assumption) (by omega) rfl rfl) ?_
    refine Gm.q 5 [] (by kernel_rfl) rfl rfl (Qy.move rfl) ?_
    refine Gm.q 6 [] (by kernel_rfl) rfl rfl (Qy.fieldAddr T.fa93_3 rfl) ?_
    refine Gm.q 7 [2] (by kernel_rfl) rfl rfl (Qy.load 2 T.one3 rfl rfl rfl) ?_
    refine Gm.q 8 [] (by kernel_rfl) rfl rfl (Qy.indexAddrO (α := SV) T.sl53 rfl rfl (by assumption) (by omega)) ?_
    refine Gm.q 9 [0] (by kernel_rfl) rfl rfl (Qy.loadO 0 0 T.one44 rfl rfl (by assumption) (by omega) rfl rfl) ?_
    refine Gm.q 10 [] (by kernel_rfl) rfl rfl (Qy.assign rfl) ?_
    refine Gm.q 11 [] (by kernel_rfl) rfl rfl (Qy.assign rfl) ?_
    refine Gm.doneA (by kernel_rfl) ⟨rfl, rfl, rfl, trivial⟩ (by first | exact Imm.le_refl _ | repeat (first | assumption | refine Imm.le_trans ?_ (by assumption))) ?_
    refine Ar.gl 36 [2, 0, 0, 1, 1] ?_
    refine Wl.callV (fst := []) (cap := []) 3 rfl T.fn121 rfl rfl (h121) (tags_of trivial) (fun v1 G1 Ho1 hle1 hp => ?_)
    obtain ⟨⟨s1, r1, d1, rfl, hA1, hl81, hB1⟩, rfl⟩ := hp
    replace a3 := a3.up hle1
    replace a4 := a4.up hle1
    replace b3 := b3.up hle1
    replace b4 := b4.up hle1
    refine Wl.ga 7 [] ?_
    refine Ar.out2 (.inr rfl) (Ho := Hp.only _ [0]) rfl (.tmp rfl) (.tmp rfl) (Hp.sub_only _ _) ?_
    exact doR_some (by unfold doI; simp only [h4, if_true]; rw [if_neg (by decide), if_neg (by decide), sub_rows]) (brow_post hA1 hl81 hB1)
  by_cases h1 : i.op = 1
  · refine Wc.gl 2 [] ?_
    refine Wl.box 1 rfl rfl rfl (fun b5 => ?_)
    refine Wl.box 2 rfl rfl rfl (fun b6 => ?_)
    refine Wl.gc 5 [] ?_
    refine Wc.draw [0, 1, 2] [] T.mixed rfl ?_
    refine Gm.q 0 [] (by kernel_rfl) rfl rfl (Qy.move rfl) ?_
    refine Gm.q 1 [] (by kernel_rfl) rfl rfl (Qy.fieldAddr T.fa93_2 rfl) ?_
    refine Gm.q 2 [2] (by kernel_rfl) rfl rfl (Qy.load 2 T.one3 rfl rfl rfl) ?_
    refine Gm.q 3 [] (by kernel_rfl) rfl rfl (Qy.indexAddrO (α := SV) T.sl53 rfl rfl (by assumption) (by omega)) ?_
    refine Gm.q 4 [0] (by kernel_rfl) rfl rfl (Qy.loadO 0 0 T.one44 rfl rfl (by assumption) (by omega) rfl rfl) ?_
    refine Gm.q 5 [] (by kernel_rfl) rfl rfl (Qy.move rfl) ?_
    refine Gm.q 6 [] (by kernel_rfl) rfl rfl (Qy.fieldAddr T.fa93_3 rfl) ?_
    refine Gm.q 7 [2] (by kernel_rfl) rfl rfl (Qy.load 2 T.one3 rfl rfl rfl) ?_
    refine Gm.q 8 [] (by kernel_rfl) rfl rfl (Qy.indexAddrO (α := SV) T.sl53 rfl rfl (by assumption) (by omega)) ?_
    refine Gm.q 9 [0] (by kernel_rfl) rfl rfl (Qy.loadO 0 0 T.one44 rfl rfl (by assumption) (by omega) rfl rfl) ?_
    refine Gm.q 10 [] (by kernel_rfl) rfl rfl (Qy.assign rfl) ?_
    refine Gm.q 11 [] (by kernel_rfl) rfl rfl (Qy.assign rfl) ?_
    refine Gm.doneA (by kernel_rfl) ⟨rfl, rfl, rfl, trivial⟩ (by first | exact Imm.le_refl _ | repeat (first | assumption | refine Imm.le_trans ?_ (by assumption))) ?_
    refine Ar.ga 69 [2, 0, 0, 0, 0, 0, 0, 0] ?_
    refine Ar.out2 (.inr rfl) (Ho := Hp.only _ [0]) rfl (.tmp rfl) (.tmp rfl) (Hp.sub_only _ _) ?_
    exact doR_some (by unfold doI; simp only [h1]; rfl) ⟨la, a1, a2, a3, a4⟩
  obtain ⟨hk0, hk3⟩ := hcst h1 h2 h3 h4
  by_cases h5 : i.op = 5
  · have hc9 := hc1 (.inl h5)
    have e5 : cst i = i.c := cst_c (.inl h5)
    rw [e5] at hk3
    refine Wc.gl 2 [] ?_
    refine Wl.box 1 rfl rfl rfl (fun b5 => ?_)
    refine Wl.box 2 rfl rfl rfl (fun b6 => ?_)
    refine Wl.gc 5 [] ?_
    refine Wc.draw [0, 1, 2] [] T.mixed rfl ?_
    refine Gm.q 0 [] (by kernel_rfl) rfl rfl (Qy.move rfl) ?_
    refine Gm.q 1 [] (by kernel_rfl) rfl rfl (Qy.fieldAddr T.fa93_2 rfl) ?_
    refine Gm.q 2 [2] (by kernel_rfl) rfl rfl (Qy.load 2 T.one3 rfl rfl rfl) ?_
    refine Gm.q 3 [] (by kernel_rfl) rfl rfl (Qy.indexAddrO (α := SV) T.sl53 rfl rfl (by assumption) (by omega)) ?_
    refine Gm.q 4 [0] (by kernel_rfl) rfl rfl (Qy.loadO 0 0 T.one44 rfl rfl (by assumption) (by omega) rfl rfl) ?_
    refine Gm.q 5 [] (by kernel_rfl) rfl rfl (Qy.move rfl) ?_
    refine Gm.q 6 [] (by kernel_rfl) rfl rfl (Qy.fieldAddr T.fa93_3 rfl) ?_
    refine Gm.q 7 [2] (by kernel_rfl) rfl rfl (Qy.load 2 T.one3 rfl rfl rfl) ?_
    refine Gm.q 8 [] (by kernel_rfl) rfl rfl (Qy.indexAddrO (α := SV) T.sl53 rfl rfl (by assumption) (by omega)) ?_
    refine Gm.q 9 [0] (by kernel_rfl) rfl rfl (Qy.loadO 0 0 T.one44 rfl rfl (by assumption) (by omega) rfl rfl) ?_
    refine Gm.q 10 [] (by kernel_rfl) rfl rfl (Qy.assign rfl) ?_
    refine Gm.q 11 [] (by kernel_rfl) rfl rfl (Qy.assign rfl) ?_
    refine Gm.doneA (by kernel_rfl) ⟨rfl, rfl, rfl, trivial⟩ (by first | exact Imm.le_refl _ | repeat (first | assumption | refine Imm.le_trans ?_ (by assumption))) ?_
    refine Ar.gc 38 [2, 0, 0, 0, 1] ?_
    refine Wc.draw [0, 1, 2] [(2, 6), (1, 6), (0, 6)] T.mixed rfl ?_
    refine Gm.q 0 [] (by kernel_rfl) rfl rfl (Qy.fieldAddr T.fa131_3 rfl) ?_
    refine Gm.q 1 [1] (by kernel_rfl) rfl rfl (Qy.load 1 T.one128 rfl rfl rfl) ?_
    refine Gm.q 2 [] (by kernel_rfl) rfl rfl (Qy.move rfl) ?_
    refine Gm.q 3 [] (by kernel_rfl) rfl rfl (Qy.fieldAddr T.fa93_4 rfl) ?_
    refine Gm.one 4 ⟨rfl, rfl, rfl, trivial⟩ (by first | exact Imm.le_refl _ | repeat (first | assumption | refine Imm.le_trans ?_ (by assumption))) (by kernel_rfl) rfl ?_
    refine Wl.q rfl (Qy.load 2 T.one3 rfl rfl rfl) ?_
    refine Wl.on0 ?_
    refine Gm.one 5 ⟨rfl, rfl, rfl, trivial⟩ (by first | exact Imm.le_refl _ | repeat (first | assumption | refine Imm.le_trans ?_ (by assumption))) (by kernel_rfl) rfl ?_
    refine Wl.call 3 rfl T.fn57 rfl (c57 _ i.c hc9) (tags_of trivial) (fun v1 G1 Ho1 hle1 hp => ?_)
    obtain ⟨rk, rfl, hrk, rfl⟩ := hp
    replace a3 := a3.up hle1
    replace a4 := a4.up hle1
    replace b3 := b3.up hle1
    replace b4 := b4.up hle1
    refine Wl.on0 ?_
    refine Gm.one 6 ⟨rfl, rfl, rfl, trivial⟩ (by first | exact Imm.le_refl _ | repeat (first | assumption | refine Imm.le_trans ?_ (by assumption))) (by kernel_rfl) rfl ?_
    refine Wl.callV (fst := []) (cap := []) 3 rfl T.fn123 rfl rfl (h123 _ rk _ (by assumption) hrk (Nat.le_trans (Big.len hrk hk3) (by decide))) (tags_of trivial) (fun v2 G2 Ho2 hle2 hp => ?_)
    obtain ⟨⟨s2, r2, d2, rfl, hA2, hl82, hB2⟩, rfl⟩ := hp
    replace hrk := hrk.up hle2
    replace a3 := a3.up hle2
    replace a4 := a4.up hle2
    replace b3 := b3.up hle2
    replace b4 := b4.up hle2
    refine Wl.on0 ?_
    refine Gm.q 7 [] (by kernel_rfl) rfl rfl (Qy.assign rfl) ?_
    refine Gm.q 8 [] (by kernel_rfl) rfl rfl (Qy.assign rfl) ?_
    refine Gm.doneA (by kernel_rfl) trivial (by first | exact Imm.le_refl _ | repeat (first | assumption | refine Imm.le_trans ?_ (by assumption))) ?_
    refine Ar.ga 4 [] ?_
    refine Ar.out2 (.inr rfl) (Ho := Hp.only _ [0]) rfl (.tmp rfl) (.tmp rfl) (Hp.sub_only _ _) ?_
    all_goals exact doR_some (by unfold doI; simp only [h5, true_or, if_true]; rw [if_neg (by decide), if_neg (by decide), if_neg (by decide), e5]) (brow_post (by assumption) (by assumption) (by assumption))
  by_cases h6 : i.op = 6
  · have hc9 := hc1 (.inr h6)
    have e5 : cst i = i.c := cst_c (.inr h6)
    rw [e5] at hk3 hk0
    have h124Y : AllDiv (i.c) (rs[i.a.toNat]?.getD []) → ∀ G1 y, G.le G1 → Big G1 y (i.c) → y.n ≤ 268435456 → Does Tryz.prog 124 [.slice (r[i.a.toNat]?.getD default).a (r[i.a.toNat]?.getD default).n (r[i.a.toNat]?.getD default).c, .agg (Cells.enc y).toArray] G1 [] (fun v G' Ho => (∃ (s : Option Addr) (r' : List IV) (d : Nat), v = .tuple #[.slice s r'.length d, .bool true] ∧ Arr G' s r' ∧ r'.length ≤ d ∧ Bigs G' r' ((rs[i.a.toNat]?.getD []).map (· / (i.c)))) ∧ Ho = []) :=
      fun hd G1 y hG hy hyn => (h124 G1 y _ hG hy hyn hk0).mono fun v G' Ho _ ⟨p1, p2, p3⟩ => ⟨p1 hd, p3⟩
    have h124N : ¬ AllDiv (i.c) (rs[i.a.toNat]?.getD []) → ∀ G1 y, G.le G1 → Big G1 y (i.c) → y.n ≤ 268435456 → Does Tryz.prog 124 [.slice (r[i.a.toNat]?.getD default).a (r[i.a.toNat]?.getD default).n (r[i.a.toNat]?.getD default).c, .agg (Cells.enc y).toArray] G1 [] (fun v G' Ho => v = .tuple #[.slice none 0 0, .bool false] ∧ Ho = []) :=
      fun hd G1 y hG hy hyn => (h124 G1 y _ hG hy hyn hk0).mono fun v G' Ho _ ⟨p1, p2, p3⟩ => ⟨p2 hd, p3⟩
    by_cases hd : AllDiv (i.c) (rs[i.a.toNat]?.getD [])
    · skip
      refine Wc.gl 2 [] ?_
      refine Wl.box 1 rfl rfl rfl (fun b5 => ?_)
      refine Wl.box 2 rfl rfl rfl (fun b6 => ?_)
      refine Wl.gc 5 [] ?_
      refine Wc.draw [0, 1, 2] [] T.mixed rfl ?_
      refine Gm.q 0 [] (by kernel_rfl) rfl rfl (Qy.move rfl) ?_
      refine Gm.q 1 [] (by kernel_rfl) rfl rfl (Qy.fieldAddr T.fa93_2 rfl) ?_
      refine Gm.q 2 [2] (by kernel_rfl) rfl rfl (Qy.load 2 T.one3 rfl rfl rfl) ?_
      refine Gm.q 3 [] (by kernel_rfl) rfl rfl (Qy.indexAddrO (α := SV) T.sl53 rfl rfl (by assumption) (by omega)) ?_
      refine Gm.q 4 [0] (by kernel_rfl) rfl rfl (Qy.loadO 0 0 T.one44 rfl rfl (by assumption) (by omega) rfl rfl) ?_
      refine Gm.q 5 [] (by kernel_rfl) rfl rfl (Qy.move rfl) ?_
      refine Gm.q 6 [] (by kernel_rfl) rfl rfl (Qy.fieldAddr T.fa93_3 rfl) ?_
      refine Gm.q 7 [2] (by kernel_rfl) rfl rfl (Qy.load 2 T.one3 rfl rfl rfl) ?_
      refine Gm.q 8 [] (by kernel_rfl) rfl rfl (Qy.indexAddrO (α := SV) T.sl53 rfl rfl (by assumption) (by omega)) ?_
      refine Gm.q 9 [0] (by kernel_rfl) rfl rfl (Qy.loadO 0 0 T.one44 rfl rfl (by assumption) (by omega) rfl rfl) ?_
      refine Gm.q 10 [] (by kernel_rfl) rfl rfl (Qy.assign rfl) ?_
      refine Gm.q 11 [] (by kernel_rfl) rfl rfl (Qy.assign rfl) ?_
      refine Gm.doneA (by kernel_rfl) ⟨rfl, rfl, rfl, trivial⟩ (by first | exact Imm.le_refl _ | repeat (first | assumption | refine Imm.le_trans ?_ (by assumption))) ?_
      refine Ar.gc 52 [2, 0, 0, 0, 0, 0, 1] ?_
      refine Wc.draw [0, 1, 2] [(2, 6), (1, 6), (0, 6)] T.mixed rfl ?_
      refine Gm.q 0 [] (by kernel_rfl) rfl rfl (Qy.fieldAddr T.fa131_4 rfl) ?_
      refine Gm.q 1 [1] (by kernel_rfl) rfl rfl (Qy.load 1 T.one129 rfl rfl rfl) ?_
      refine Gm.q 2 [] (by kernel_rfl) rfl rfl (Qy.move rfl) ?_
      refine Gm.q 3 [] (by kernel_rfl) rfl rfl (Qy.fieldAddr T.fa93_4 rfl) ?_
      refine Gm.one 4 ⟨rfl, rfl, rfl, trivial⟩ (by first | exact Imm.le_refl _ | repeat (first | assumption | refine Imm.le_trans ?_ (by assumption))) (by kernel_rfl) rfl ?_
      refine Wl.q rfl (Qy.load 2 T.one3 rfl rfl rfl) ?_
      refine Wl.on0 ?_
      refine Gm.one 5 ⟨rfl, rfl, rfl, trivial⟩ (by first | exact Imm.le_refl _ | repeat (first | assumption | refine Imm.le_trans ?_ (by assumption))) (by kernel_rfl) rfl ?_
      refine Wl.call 3 rfl T.fn57 rfl (c57 _ i.c hc9) (tags_of trivial) (fun v1 G1 Ho1 hle1 hp => ?_)
      obtain ⟨rk, rfl, hrk, rfl⟩ := hp
      replace a3 := a3.up hle1
      replace a4 := a4.up hle1
      replace b3 := b3.up hle1
      replace b4 := b4.up hle1
      refine Wl.on0 ?_
      refine Gm.one 6 ⟨rfl, rfl, rfl, trivial⟩ (by first | exact Imm.le_refl _ | repeat (first | assumption | refine Imm.le_trans ?_ (by assumption))) (by kernel_rfl) rfl ?_
      refine Wl.callV (fst := []) (cap := []) 3 rfl T.fn124 rfl rfl (h124Y hd _ rk (by assumption) hrk (Nat.le_trans (Big.len hrk hk3) (by decide))) (tags_of trivial) (fun v2 G2 Ho2 hle2 hp => ?_)
      obtain ⟨⟨s2, r2, d2, rfl, hA2, hl82, hB2⟩, rfl⟩ := hp
      replace hrk := hrk.up hle2
      replace a3 := a3.up hle2
      replace a4 := a4.up hle2
      replace b3 := b3.up hle2
      replace b4 := b4.up hle2
      refine Wl.on0 ?_
      refine Gm.q 7 [] (by kernel_rfl) rfl rfl (Qy.extract rfl rfl) ?_
      refine Gm.q 8 [] (by kernel_rfl) rfl rfl (Qy.extract rfl rfl) ?_
      refine Gm.q 9 [] (by kernel_rfl) rfl rfl (Qy.assign rfl) ?_
      refine Gm.q 10 [] (by kernel_rfl) rfl rfl (Qy.assign rfl) ?_
      refine Gm.doneA (by kernel_rfl) trivial (by first | exact Imm.le_refl _ | repeat (first | assumption | refine Imm.le_trans ?_ (by assumption))) ?_
      refine Ar.ga 4 [] ?_
      refine Ar.out2 (.inr rfl) (Ho := Hp.only _ [0]) rfl (.tmp rfl) (.tmp rfl) (Hp.sub_only _ _) ?_
      all_goals exact doR_some (by unfold doI; simp only [h6, true_or, if_true]; first | (rw [if_neg (by decide), if_neg (by decide), if_neg (by decide), if_neg (by decide), e5, if_pos hd]) | (rw [if_neg (by decide), if_neg (by decide), if_neg (by decide), if_neg (by decide)]; exact (by rw [e5]; exact if_pos hd))) (brow_post (by assumption) (by assumption) (by assumption))
    · skip
      refine Wc.gl 2 [] ?_
      refine Wl.box 1 rfl rfl rfl (fun b5 => ?_)
      refine Wl.box 2 rfl rfl rfl (fun b6 => ?_)
      refine Wl.gc 5 [] ?_
      refine Wc.draw [0, 1, 2] [] T.mixed rfl ?_
      refine Gm.q 0 [] (by kernel_rfl) rfl rfl (Qy.move rfl) ?_
      refine Gm.q 1 [] (by kernel_rfl) rfl rfl (Qy.fieldAddr T.fa93_2 rfl) ?_
      refine Gm.q 2 [2] (by kernel_rfl) rfl rfl (Qy.load 2 T.one3 rfl rfl rfl) ?_
      refine Gm.q 3 [] (by kernel_rfl) rfl rfl (Qy.indexAddrO (α := SV) T.sl53 rfl rfl (by assumption) (by omega)) ?_
      refine Gm.q 4 [0] (by kernel_rfl) rfl rfl (Qy.loadO 0 0 T.one44 rfl rfl (by assumption) (by omega) rfl rfl) ?_
      refine Gm.q 5 [] (by kernel_rfl) rfl rfl (Qy.move rfl) ?_
      refine Gm.q 6 [] (by kernel_rfl) rfl rfl (Qy.fieldAddr T.fa93_3 rfl) ?_
      refine Gm.q 7 [2] (by kernel_rfl) rfl rfl (Qy.load 2 T.one3 rfl rfl rfl) ?_
      refine Gm.q 8 [] (by kernel_rfl) rfl rfl (Qy.indexAddrO (α := SV) T.sl53 rfl rfl (by assumption) (by omega)) ?_
      refine Gm.q 9 [0] (by kernel_rfl) rfl rfl (Qy.loadO 0 0 T.one44 rfl rfl (by assumption) (by omega) rfl rfl) ?_
      refine Gm.q 10 [] (by kernel_rfl) rfl rfl (Qy.assign rfl) ?_
      refine Gm.q 11 [] (by kernel_rfl) rfl rfl (Qy.assign rfl) ?_
      refine Gm.doneA (by kernel_rfl) ⟨rfl, rfl, rfl, trivial⟩ (by first | exact Imm.le_refl _ | repeat (first | assumption | refine Imm.le_trans ?_ (by assumption))) ?_
      refine Ar.gc 52 [2, 0, 0, 0, 0, 0, 1] ?_
      refine Wc.draw [0, 1, 2] [(2, 6), (1, 6), (0, 6)] T.mixed rfl ?_
      refine Gm.q 0 [] (by kernel_rfl) rfl rfl (Qy.fieldAddr T.fa131_4 rfl) ?_
      refine Gm.q 1 [1] (by kernel_rfl) rfl rfl (Qy.load 1 T.one129 rfl rfl rfl) ?_
      refine Gm.q 2 [] (by kernel_rfl) rfl rfl (Qy.move rfl) ?_
      refine Gm.q 3 [] (by kernel_rfl) rfl rfl (Qy.fieldAddr T.fa93_4 rfl) ?_
      refine Gm.one 4 ⟨rfl, rfl, rfl, trivial⟩ (by first | exact Imm.le_refl _ | repeat (first | assumption | refine Imm.le_trans ?_ (by assumption))) (by kernel_rfl) rfl ?_
      refine Wl.q rfl (Qy.load 2 T.one3 rfl rfl rfl) ?_
      refine Wl.on0 ?_
      refine Gm.one 5 ⟨rfl, rfl, rfl, trivial⟩ (by first | exact Imm.le_refl _ | repeat (first | assumption | refine Imm.le_trans ?_ (by assumption))) (by kernel_rfl) rfl ?_
      refine Wl.call 3 rfl T.fn57 rfl (c57 _ i.c hc9) (tags_of trivial) (fun v1 G1 Ho1 hle1 hp => ?_)
      obtain ⟨rk, rfl, hrk, rfl⟩ := hp
      replace a3 := a3.up hle1
      replace a4 := a4.up hle1
      replace b3 := b3.up hle1
      replace b4 := b4.up hle1
      refine Wl.on0 ?_
      refine Gm.one 6 ⟨rfl, rfl, rfl, trivial⟩ (by first | exact Imm.le_refl _ | repeat (first | assumption | refine Imm.le_trans ?_ (by assumption))) (by kernel_rfl) rfl ?_
      refine Wl.callV (fst := []) (cap := []) 3 rfl T.fn124 rfl rfl (h124N hd _ rk (by assumption) hrk (Nat.le_trans (Big.len hrk hk3) (by decide))) (tags_of trivial) (fun v2 G2 Ho2 hle2 hp => ?_)
      obtain ⟨rfl, rfl⟩ := hp
      replace hrk := hrk.up hle2
      replace a3 := a3.up hle2
      replace a4 := a4.up hle2
      replace b3 := b3.up hle2
      replace b4 := b4.up hle2
      refine Wl.on0 ?_
      refine Gm.q 7 [] (by kernel_rfl) rfl rfl (Qy.extract rfl rfl) ?_
      refine Gm.q 8 [] (by kernel_rfl) rfl rfl (Qy.extract rfl rfl) ?_
      refine Gm.q 9 [] (by kernel_rfl) rfl rfl (Qy.assign rfl) ?_
      refine Gm.q 10 [] (by kernel_rfl) rfl rfl (Qy.assign rfl) ?_
      refine Gm.doneA (by kernel_rfl) trivial (by first | exact Imm.le_refl _ | repeat (first | assumption | refine Imm.le_trans ?_ (by assumption))) ?_
      refine Ar.ga 4 [] ?_
      refine Ar.out2 (.inr rfl) (Ho := Hp.only _ [0]) rfl (.tmp rfl) (.tmp rfl) (Hp.sub_only _ _) ?_
      all_goals exact doR_none (by unfold doI; simp only [h6, true_or, if_true]; rw [if_neg (by decide), if_neg (by decide), if_neg (by decide), if_neg (by decide), e5, if_neg hd])
  have hc64 := hc2 (fun h => h.elim h5 h6)
  have e5 : cst i = p2 i.c.toNat := cst_p (fun h => h.elim h5 h6)
  rw [e5] at hk3 hk0
  by_cases h7 : i.op = 7
  · refine Wc.gl 2 [] ?_
    refine Wl.box 1 rfl rfl rfl (fun b5 => ?_)
    refine Wl.box 2 rfl rfl rfl (fun b6 => ?_)
    refine Wl.gc 5 [] ?_
    refine Wc.draw [0, 1, 2] [] T.mixed rfl ?_
    refine Gm.q 0 [] (by kernel_rfl) rfl rfl (Qy.move rfl) ?_
    refine Gm.q 1 [] (by kernel_rfl) rfl rfl (Qy.fieldAddr T.fa93_2 rfl) ?_
    refine Gm.q 2 [2] (by kernel_rfl) rfl rfl (Qy.load 2 T.one3 rfl rfl rfl) ?_
    refine Gm.q 3 [] (by kernel_rfl) rfl rfl (Qy.indexAddrO (α := SV) T.sl53 rfl rfl (by assumption) (by omega)) ?_
    refine Gm.q 4 [0] (by kernel_rfl) rfl rfl (Qy.loadO 0 0 T.one44 rfl rfl (by assumption) (by omega) rfl rfl) ?_
    refine Gm.q 5 [] (by kernel_rfl) rfl rfl (Qy.move rfl) ?_
    refine Gm.q 6 [] (by kernel_rfl) rfl rfl (Qy.fieldAddr T.fa93_3 rfl) ?_
    refine Gm.q 7 [2] (by kernel_rfl) rfl rfl (Qy.load 2 T.one3 rfl rfl rfl) ?_
    refine Gm.q 8 [] (by kernel_rfl) rfl rfl (Qy.indexAddrO (α := SV) T.sl53 rfl rfl (by assumption) (by omega)) ?_
    refine Gm.q 9 [0] (by kernel_rfl) rfl rfl (Qy.loadO 0 0 T.one44 rfl rfl (by assumption) (by omega) rfl rfl) ?_
    refine Gm.q 10 [] (by kernel_rfl) rfl rfl (Qy.assign rfl) ?_
    refine Gm.q 11 [] (by kernel_rfl) rfl rfl (Qy.assign rfl) ?_
    refine Gm.doneA (by kernel_rfl) ⟨rfl, rfl, rfl, trivial⟩ (by first | exact Imm.le_refl _ | repeat (first | assumption | refine Imm.le_trans ?_ (by assumption))) ?_
    refine Ar.gc 45 [2, 0, 0, 0, 0, 1] ?_
    refine Wc.draw [0, 1, 2] [(2, 6), (1, 6), (0, 6)] T.mixed rfl ?_
    refine Gm.q 0 [] (by kernel_rfl) rfl rfl (Qy.fieldAddr T.fa131_3 rfl) ?_
    refine Gm.q 1 [1] (by kernel_rfl) rfl rfl (Qy.load 1 T.one128 rfl rfl rfl) ?_
    refine Gm.q 2 [] (by kernel_rfl) rfl rfl (Qy.move rfl) ?_
    refine Gm.q 3 [] (by kernel_rfl) rfl rfl (Qy.fieldAddr T.fa93_4 rfl) ?_
    refine Gm.one 4 ⟨rfl, rfl, rfl, trivial⟩ (by first | exact Imm.le_refl _ | repeat (first | assumption | refine Imm.le_trans ?_ (by assumption))) (by kernel_rfl) rfl ?_
    refine Wl.q rfl (Qy.load 2 T.one3 rfl rfl rfl) ?_
    refine Wl.on0 ?_
    refine Gm.one 5 ⟨rfl, rfl, rfl, trivial⟩ (by first | exact Imm.le_refl _ | repeat (first | assumption | refine Imm.le_trans ?_ (by assumption))) (by kernel_rfl) rfl ?_
    refine Wl.call 3 rfl T.fn153 rfl (c153i _ i.c hc64) (tags_of trivial) (fun v1 G1 Ho1 hle1 hp => ?_)
    obtain ⟨rk, rfl, hrk, rfl⟩ := hp
    replace a3 := a3.up hle1
    replace a4 := a4.up hle1
    replace b3 := b3.up hle1
    replace b4 := b4.up hle1
    refine Wl.on0 ?_
    refine Gm.one 6 ⟨rfl, rfl, rfl, trivial⟩ (by first | exact Imm.le_refl _ | repeat (first | assumption | refine Imm.le_trans ?_ (by assumption))) (by kernel_rfl) rfl ?_
    refine Wl.callV (fst := []) (cap := []) 3 rfl T.fn123 rfl rfl (h123 _ rk _ (by assumption) hrk (Nat.le_trans (Big.len hrk hk3) (by decide))) (tags_of trivial) (fun v2 G2 Ho2 hle2 hp => ?_)
    obtain ⟨⟨s2, r2, d2, rfl, hA2, hl82, hB2⟩, rfl⟩ := hp
    replace hrk := hrk.up hle2
    replace a3 := a3.up hle2
    replace a4 := a4.up hle2
    replace b3 := b3.up hle2
    replace b4 := b4.up hle2
    refine Wl.on0 ?_
    refine Gm.q 7 [] (by kernel_rfl) rfl rfl (Qy.assign rfl) ?_
    refine Gm.q 8 [] (by kernel_rfl) rfl rfl (Qy.assign rfl) ?_
    refine Gm.doneA (by kernel_rfl) trivial (by first | exact Imm.le_refl _ | repeat (first | assumption | refine Imm.le_trans ?_ (by assumption))) ?_
    refine Ar.ga 4 [] ?_
    refine Ar.out2 (.inr rfl) (Ho := Hp.only _ [0]) rfl (.tmp rfl) (.tmp rfl) (Hp.sub_only _ _) ?_
    all_goals exact doR_some (by unfold doI; simp only [h7, or_true, if_true]; rw [if_neg (by decide), if_neg (by decide), if_neg (by decide), e5]) (brow_post (by assumption) (by assumption) (by assumption))
  · have h8 : i.op = 8 := by omega
    have h124Y : AllDiv (p2 i.c.toNat) (rs[i.a.toNat]?.getD []) → ∀ G1 y, G.le G1 → Big G1 y (p2 i.c.toNat) → y.n ≤ 268435456 → Does Tryz.prog 124 [.slice (r[i.a.toNat]?.getD default).a (r[i.a.toNat]?.getD default).n (r[i.a.toNat]?.getD default).c, .agg (Cells.enc y).toArray] G1 [] (fun v G' Ho => (∃ (s : Option Addr) (r' : List IV) (d : Nat), v = .tuple #[.slice s r'.length d, .bool true] ∧ Arr G' s r' ∧ r'.length ≤ d ∧ Bigs G' r' ((rs[i.a.toNat]?.getD []).map (· / (p2 i.c.toNat)))) ∧ Ho = []) :=
      fun hd G1 y hG hy hyn => (h124 G1 y _ hG hy hyn hk0).mono fun v G' Ho _ ⟨p1, p2, p3⟩ => ⟨p1 hd, p3⟩
    have h124N : ¬ AllDiv (p2 i.c.toNat) (rs[i.a.toNat]?.getD []) → ∀ G1 y, G.le G1 → Big G1 y (p2 i.c.toNat) → y.n ≤ 268435456 → Does Tryz.prog 124 [.slice (r[i.a.toNat]?.getD default).a (r[i.a.toNat]?.getD default).n (r[i.a.toNat]?.getD default).c, .agg (Cells.enc y).toArray] G1 [] (fun v G' Ho => v = .tuple #[.slice none 0 0, .bool false] ∧ Ho = []) :=
      fun hd G1 y hG hy hyn => (h124 G1 y _ hG hy hyn hk0).mono fun v G' Ho _ ⟨p1, p2, p3⟩ => ⟨p2 hd, p3⟩
    by_cases hd : AllDiv (p2 i.c.toNat) (rs[i.a.toNat]?.getD [])
    · skip
      refine Wc.gl 2 [] ?_
      refine Wl.box 1 rfl rfl rfl (fun b5 => ?_)
      refine Wl.box 2 rfl rfl rfl (fun b6 => ?_)
      refine Wl.gc 5 [] ?_
      refine Wc.draw [0, 1, 2] [] T.mixed rfl ?_
      refine Gm.q 0 [] (by kernel_rfl) rfl rfl (Qy.move rfl) ?_
      refine Gm.q 1 [] (by kernel_rfl) rfl rfl (Qy.fieldAddr T.fa93_2 rfl) ?_
      refine Gm.q 2 [2] (by kernel_rfl) rfl rfl (Qy.load 2 T.one3 rfl rfl rfl) ?_
      refine Gm.q 3 [] (by kernel_rfl) rfl rfl (Qy.indexAddrO (α := SV) T.sl53 rfl rfl (by assumption) (by omega)) ?_
      refine Gm.q 4 [0] (by kernel_rfl) rfl rfl (Qy.loadO 0 0 T.one44 rfl rfl (by assumption) (by omega) rfl rfl) ?_
      refine Gm.q 5 [] (by kernel_rfl) rfl rfl (Qy.move rfl) ?_
      refine Gm.q 6 [] (by kernel_rfl) rfl rfl (Qy.fieldAddr T.fa93_3 rfl) ?_
      refine Gm.q 7 [2] (by kernel_rfl) rfl rfl (Qy.load 2 T.one3 rfl rfl rfl) ?_
      refine Gm.q 8 [] (by kernel_rfl) rfl rfl (Qy.indexAddrO (α := SV) T.sl53 rfl rfl (by assumption) (by omega)) ?_
      refine Gm.q 9 [0] (by kernel_rfl) rfl rfl (Qy.loadO 0 0 T.one44 rfl rfl (by assumption) (by omega) rfl rfl) ?_
      refine Gm.q 10 [] (by kernel_rfl) rfl rfl (Qy.assign rfl) ?_
      refine Gm.q 11 [] (by kernel_rfl) rfl rfl (Qy.assign rfl) ?_
      refine Gm.doneA (by kernel_rfl) ⟨rfl, rfl, rfl, trivial⟩ (by first | exact Imm.le_refl _ | repeat (first | assumption | refine Imm.le_trans ?_ (by assumption))) ?_
      refine Ar.gc 59 [2, 0, 0, 0, 0, 0, 0, 1] ?_
      refine Wc.draw [0, 1, 2] [(2, 6), (1, 6), (0, 6)] T.mixed rfl ?_
      refine Gm.q 0 [] (by kernel_rfl) rfl rfl (Qy.fieldAddr T.fa131_4 rfl) ?_
      refine Gm.q 1 [1] (by kernel_rfl) rfl rfl (Qy.load 1 T.one129 rfl rfl rfl) ?_
      refine Gm.q 2 [] (by kernel_rfl) rfl rfl (Qy.move rfl) ?_
      refine Gm.q 3 [] (by kernel_rfl) rfl rfl (Qy.fieldAddr T.fa93_4 rfl) ?_
      refine Gm.one 4 ⟨rfl, rfl, rfl, trivial⟩ (by first | exact Imm.le_refl _ | repeat (first | assumption | refine Imm.le_trans ?_ (by assumption))) (by kernel_rfl) rfl ?_
      refine Wl.q rfl (Qy.load 2 T.one3 rfl rfl rfl) ?_
      refine Wl.on0 ?_
      refine Gm.one 5 ⟨rfl, rfl, rfl, trivial⟩ (by first | exact Imm.le_refl _ | repeat (first | assumption | refine Imm.le_trans ?_ (by assumption))) (by kernel_rfl) rfl ?_
      refine Wl.call 3 rfl T.fn153 rfl (c153i _ i.c hc64) (tags_of trivial) (fun v1 G1 Ho1 hle1 hp => ?_)
      obtain ⟨rk, rfl, hrk, rfl⟩ := hp
      replace a3 := a3.up hle1
      replace a4 := a4.up hle1
      replace b3 := b3.up hle1
      replace b4 := b4.up hle1
      refine Wl.on0 ?_
      refine Gm.one 6 ⟨rfl, rfl, rfl, trivial⟩ (by first | exact Imm.le_refl _ | repeat (first | assumption | refine Imm.le_trans ?_ (by assumption))) (by kernel_rfl) rfl ?_
      refine Wl.callV (fst := []) (cap := []) 3 rfl T.fn124 rfl rfl (h124Y hd _ rk (by assumption) hrk (Nat.le_trans (Big.len hrk hk3) (by decide))) (tags_of trivial) (fun v2 G2 Ho2 hle2 hp => ?_)
      obtain ⟨⟨s2, r2, d2, rfl, hA2, hl82, hB2⟩, rfl⟩ := hp
      replace hrk := hrk.up hle2
      replace a3 := a3.up hle2
      replace a4 := a4.up hle2
      replace b3 := b3.up hle2
      replace b4 := b4.up hle2
      refine Wl.on0 ?_
      refine Gm.q 7 [] (by kernel_rfl) rfl rfl (Qy.extract rfl rfl) ?_
      refine Gm.q 8 [] (by kernel_rfl) rfl rfl (Qy.extract rfl rfl) ?_
      refine Gm.q 9 [] (by kernel_rfl) rfl rfl (Qy.assign rfl) ?_
      refine Gm.q 10 [] (by kernel_rfl) rfl rfl (Qy.assign rfl) ?_
      refine Gm.doneA (by kernel_rfl) trivial (by first | exact Imm.le_refl _ | repeat (first | assumption | refine Imm.le_trans ?_ (by assumption))) ?_
      refine Ar.ga 4 [] ?_
      refine Ar.out2 (.inr rfl) (Ho := Hp.only _ [0]) rfl (.tmp rfl) (.tmp rfl) (Hp.sub_only _ _) ?_
      all_goals exact doR_some (by unfold doI; simp only [h8, or_true, if_true]; first | (rw [if_neg (by decide), if_neg (by decide), if_neg (by decide), if_neg (by decide), e5, if_pos hd]) | (rw [if_neg (by decide), if_neg (by decide), if_neg (by decide), if_neg (by decide)]; exact (by rw [e5]; exact if_pos hd))) (brow_post (by assumption) (by assumption) (by assumption))
    · skip
      refine Wc.gl 2 [] ?_
      refine Wl.box 1 rfl rfl rfl (fun b5 => ?_)
      refine Wl.box 2 rfl rfl rfl (fun b6 => ?_)
      refine Wl.gc 5 [] ?_
      refine Wc.draw [0, 1, 2] [] T.mixed rfl ?_
      refine Gm.q 0 [] (by kernel_rfl) rfl rfl (Qy.move rfl) ?_
      refine Gm.q 1 [] (by kernel_rfl) rfl rfl (Qy.fieldAddr T.fa93_2 rfl) ?_
      refine Gm.q 2 [2] (by kernel_rfl) rfl rfl (Qy.load 2 T.one3 rfl rfl rfl) ?_
      refine Gm.q 3 [] (by kernel_rfl) rfl rfl (Qy.indexAddrO (α := SV) T.sl53 rfl rfl (by assumption) (by omega)) ?_
      refine Gm.q 4 [0] (by kernel_rfl) rfl rfl (Qy.loadO 0 0 T.one44 rfl rfl (by assumption) (by omega) rfl rfl) ?_
      refine Gm.q 5 [] (by kernel_rfl) rfl rfl (Qy.move rfl) ?_
      refine Gm.q 6 [] (by kernel_rfl) rfl rfl (Qy.fieldAddr T.fa93_3 rfl) ?_
      refine Gm.q 7 [2] (by kernel_rfl) rfl rfl (Qy.load 2 T.one3 rfl rfl rfl) ?_
      refine Gm.q 8 [] (by kernel_rfl) rfl rfl (Qy.indexAddrO (α := SV) T.sl53 rfl rfl (by assumption) (by omega)) ?_
      refine Gm.q 9 [0] (by kernel_rfl) rfl rfl (Qy.loadO 0 0 T.one44 rfl rfl (by assumption) (by omega) rfl rfl) ?_
      refine Gm.q 10 [] (by kernel_rfl) rfl rfl (Qy.assign rfl) ?_
      refine Gm.q 11 [] (by kernel_rfl) rfl rfl (Qy.assign rfl) ?_
      refine Gm.doneA (by kernel_rfl) ⟨rfl, rfl, rfl, trivial⟩ (by first | exact Imm.le_refl _ | repeat (first | assumption | refine Imm.le_trans ?_ (by assumption))) ?_
      refine Ar.gc 59 [2, 0, 0, 0, 0, 0, 0, 1] ?_
      refine Wc.draw [0, 1, 2] [(2, 6), (1, 6), (0, 6)] T.mixed rfl ?_
      refine Gm.q 0 [] (by kernel_rfl) rfl rfl (Qy.fieldAddr T.fa131_4 rfl) ?_
      refine Gm.q 1 [1] (by kernel_rfl) rfl rfl (Qy.load 1 T.one129 rfl rfl rfl) ?_
      refine Gm.q 2 [] (by kernel_rfl) rfl rfl (Qy.move rfl) ?_
      refine Gm.q 3 [] (by kernel_rfl) rfl rfl (Qy.fieldAddr T.fa93_4 rfl) ?_
      refine Gm.one 4 ⟨rfl, rfl, rfl, trivial⟩ (by first | exact Imm.le_refl _ | repeat (first | assumption | refine Imm.le_trans ?_ (by assumption))) (by kernel_rfl) rfl ?_
      refine Wl.q rfl (Qy.load 2 T.one3 rfl rfl rfl) ?_
      refine Wl.on0 ?_
      refine Gm.one 5 ⟨rfl, rfl, rfl, trivial⟩ (by first | exact Imm.le_refl _ | repeat (first | assumption | refine Imm.le_trans ?_ (by assumption))) (by kernel_rfl) rfl ?_
      refine Wl.call 3 rfl T.fn153 rfl (c153i _ i.c hc64) (tags_of trivial) (fun v1 G1 Ho1 hle1 hp => ?_)
      obtain ⟨rk, rfl, hrk, rfl⟩ := hp
      replace a3 := a3.up hle1
      replace a4 := a4.up hle1
      replace b3 := b3.up hle1
      replace b4 := b4.up hle1
      refine Wl.on0 ?_
      refine Gm.one 6 ⟨rfl, rfl, rfl, trivial⟩ (by first | exact Imm.le_refl _ | repeat (first | assumption | refine Imm.le_trans ?_ (by assumption))) (by kernel_rfl) rfl ?_
      refine Wl.callV (fst := []) (cap := []) 3 rfl T.fn124 rfl rfl (h124N hd _ rk (by assumption) hrk (Nat.le_trans (Big.len hrk hk3) (by decide))) (tags_of trivial) (fun v2 G2 Ho2 hle2 hp => ?_)
      obtain ⟨rfl, rfl⟩ := hp
      replace hrk := hrk.up hle2
      replace a3 := a3.up hle2
      replace a4 := a4.up hle2
      replace b3 := b3.up hle2
      replace b4 := b4.up hle2
      refine Wl.on0 ?_
      refine Gm.q 7 [] (by kernel_rfl) rfl rfl (Qy.extract rfl rfl) ?_
      refine Gm.q 8 [] (by kernel_rfl) rfl rfl (Qy.extract rfl rfl) ?_
      refine Gm.q 9 [] (by kernel_rfl) rfl rfl (Qy.assign rfl) ?_
      refine Gm.q 10 [] (by kernel_rfl) rfl rfl (Qy.assign rfl) ?_
      refine Gm.doneA (by kernel_rfl) trivial (by first | exact Imm.le_refl _ | repeat (first | assumption | refine Imm.le_trans ?_ (by assumption))) ?_
      refine Ar.ga 4 [] ?_
      refine Ar.out2 (.inr rfl) (Ho := Hp.only _ [0]) rfl (.tmp rfl) (.tmp rfl) (Hp.sub_only _ _) ?_
      all_goals exact doR_none (by unfold doI; simp only [h8, or_true, if_true]; rw [if_neg (by decide), if_neg (by decide), if_neg (by decide), if_neg (by decide), e5, if_neg hd])
end Go.Proofs.YtbppmiimeccclaaGreat
set_option maxRecDepth 100000
set_option linter.unusedVariables false
namespace Go.Proofs.YtbppmiimeccclaaGreat
open Go Go.Sl
set_option maxHeartbeats 4000000
theorem belowB_map {m k : Nat} {xs : List Int} {f : Int → Int} (h : ∀ x : Int, (x.natAbs : Int) < pb m → ((f x).natAbs : Int) < pb k) (hx : Below m xs) : Below k (xs.map f) := fun z hz => by
  obtain ⟨x, h1, rfl⟩ := List.mem_map.1 hz
  exact h x (hx x h1)
theorem belowB_zip {m k : Nat} {xs ys : List Int} {f : Int → Int → Int} (h : ∀ x y : Int, (x.natAbs : Int) < pb m → (y.natAbs : Int) < pb m → ((f x y).natAbs : Int) < pb k) (hx : Below m xs) (hy : Below m ys) : Below k (List.zipWith f xs ys) := fun z hz => by
  rw [List.mem_iff_getElem] at hz
  obtain ⟨n, hn, rfl⟩ := hz
  rw [List.getElem_zipWith]
  exact h _ _ (hx _ (List.getElem_mem _)) (hy _ (List.getElem_mem _))
theorem doI_small {i : Sl.Instr} {rs : List (List Int)} {m N : Nat} {x : List Int} (he : EvenB m N rs) (ha : 0 ≤ i.a ∧ i.a < rs.length) (hb : i.op = 3 ∨ i.op = 4 → 0 ≤ i.b ∧ i.b < rs.length)
    (hz : i.op = 5 ∨ i.op = 7 → ((cst i).natAbs : Int) < pb 3) (h : doI i rs = some x) : x.length = N ∧ Below (m + 3) x := by
  obtain ⟨haL, haB⟩ := he.at (k := i.a.toNat) (by omega)
  have hp := pb_pos m
  have h4 : 4294967296 * pb m ≤ pb (m + 3) := by rw [← pb_succ]; exact pb_le (by omega)
  unfold doI at h
  simp only at h
  split at h
  · cases h
    exact ⟨by rw [List.length_map]; exact haL, belowB_map (fun x hx => by omega) haB⟩
  · split at h
    · rename_i h3
      obtain ⟨hbL, hbB⟩ := he.at (k := i.b.toNat) (by have := hb (.inl h3); omega)
      cases h
      exact ⟨by rw [List.length_zipWith, haL, hbL, Nat.min_self], belowB_zip (fun x y hx hy => by omega) haB hbB⟩
    · split at h
      · rename_i h4
        obtain ⟨hbL, hbB⟩ := he.at (k := i.b.toNat) (by have := hb (.inr h4); omega)
        cases h
        exact ⟨by rw [List.length_zipWith, haL, hbL, Nat.min_self], belowB_zip (fun x y hx hy => by omega) haB hbB⟩
      · split at h
        · rename_i h57
          cases h
          exact ⟨by rw [List.length_map]; exact haL, belowB_map (fun x hx => by rw [Nat.add_comm]; exact mul_lt_pb (hz h57) hx) haB⟩
        · split at h
          · split at h
            · cases h
              refine ⟨by rw [List.length_map]; exact haL, belowB_map (fun x hx => ?_) haB⟩
              have h1 : (x / cst i).natAbs ≤ x.natAbs := Int.natAbs_ediv_le_natAbs _ _
              omega
            · cases h
          · cases h
            exact ⟨haL, haB.mono (by omega)⟩
theorem EvenB.mono {m k N : Nat} {rs : List (List Int)} (h : EvenB m N rs) (hk : m ≤ k) : EvenB k N rs := fun zs hz => ⟨(h zs hz).1, (h zs hz).2.mono hk⟩
theorem evenB_set {m N : Nat} {rs : List (List Int)} {x : List Int} (h : EvenB m N rs) (hx : x.length = N ∧ Below m x) (k : Nat) : EvenB m N (rs.set k x) := fun zs hz => by
  rcases List.mem_or_eq_of_mem_set hz with h1 | h1
  · exact h zs h1
  · rw [h1]; exact hx
theorem BGrid.set {G : Imm} {r : List SV} {rs : List (List Int)} (h : BGrid G r rs) {s : SV} {x : List Int} (hs : BRow G s x) (k : Nat) : BGrid G (r.set k s) (rs.set k x) := by
  refine ⟨by rw [List.length_set, List.length_set]; exact h.1, fun i hi => ?_⟩
  rw [List.length_set] at hi
  have hrl := h.1
  rw [List.getElem?_set, List.getElem?_set]
  by_cases e : k = i
  · subst e
    rw [if_pos rfl, if_pos rfl, if_pos hi, if_pos (by omega)]
    exact hs
  · rw [if_neg e, if_neg e]
    exact h.2 i hi
attribute [local irreducible] valB pb cmpZ lstWp p2 cst doI
theorem c70 (G : Imm) (k : Int) (s : SV) : Does Tryz.prog 70 [.int .i64 k, .slice s.a s.n s.c] G [] (fun v G' Ho => v = .bool true ∧ G' = G ∧ Ho = []) := by
  refine Does.enter Tryz.func70 rfl Tryz.ntmps70 rfl (fun w => ?_)
  refine Wc.ga 11 [] ?_
  refine Ar.out1 (.inr rfl) (Ho := Hp.only _ []) rfl (.tmp rfl) (Hp.sub_only _ _) ?_
  exact ⟨rfl, rfl, rfl⟩
/-- the run of a program on rows: its registers behind it, or that it fails -/
def RunRPost (p : PV) (gs : List (List Int)) (m N : Nat) (o : Option Addr) (d : Nat) (r : List SV) (j : List Value) (v : Value) (G' : Imm) (Ho : Hp) : Prop :=
  ∃ (r' : List SV) (k : Int), v = .int .i64 k ∧ Ho = [(0, o.map (·.block), Row 44 r' j)] ∧ r'.length = r.length ∧ OwnA o d r' j ∧
    ((∃ rs', runTo p gs p.code.length = some rs' ∧ k = -1 ∧ BGrid G' r' rs' ∧ EvenB (m + 3 * p.code.length) N rs') ∨ (followP p gs = none ∧ 0 ≤ k))
theorem c68 (G : Imm) (p : PV) (gs : List (List Int)) (ac ao : Option Addr) (cc co : Nat) (o : Option Addr) (d : Nat) (r : List SV) (j : List Value) (m N : Nat) (hc : Arr G ac p.code) (hob : OwnA o d r j) (hg : BGrid G r (regs0 p gs)) (hm : EvenB m N (regs0 p gs)) (hN : N ≤ 1048576)
    (hmm : m + 3 * p.code.length ≤ 268435456) (hlen : p.code.length ≤ 16384) (hr : (r.length : Int) = p.regs) (hrr : r.length ≤ 128) (hmay : ∀ i ∈ p.code, mayOk i p.regs = true) :
    Does Tryz.prog 68 [waysR, .agg #[.int .i64 p.ins, .int .i64 p.regs, .slice ac p.code.length cc, .slice ao p.outs.length co], .slice o r.length d, .func (.func 70) #[] #[]] G [(0, o.map (·.block), Row 44 r j)] (RunRPost p gs m N o d r j) := by
  refine Does.enter Tryz.func68 rfl Tryz.ntmps68 rfl (fun w => ?_)
  refine Wc.gl 2 [] ?_
  refine Wl.box 1 rfl rfl rfl (fun b1 => ?_)
  refine Wl.box 2 rfl rfl rfl (fun b2 => ?_)
  refine Wl.gc 3 [] ?_
  refine Wc.scope ?_
  refine Wc.gc 13 [2] ?_
  refine Wc.loopG (ι := Nat × Imm × List SV × List (List Int)) (fun (i, Gx, r2, rs) => ([(16, .int .i64 (i : Int)), (2, .slice o r2.length d), (15, Go.Value.int Go.IntKind.i64 (↑(List.length (Go.Proofs.YtbppmiimeccclaaGreat.PV.code p)) : Int)), (14, Go.Value.slice ac (List.length (Go.Proofs.YtbppmiimeccclaaGreat.PV.code p)) cc), (4, Go.Value.pointer (Option.some (Go.Addr.mk b1 0 Option.none))), (3, Go.Value.func (Go.Fn.func 70) #[] #[])], [(0, o.map (·.block), Row 44 r2 j), (2, Option.some b2, Go.Obj.cells #[Go.Value.int Go.IntKind.i64 (Go.Proofs.YtbppmiimeccclaaGreat.PV.ins p), Go.Value.int Go.IntKind.i64 (Go.Proofs.YtbppmiimeccclaaGreat.PV.regs p), Go.Value.slice ac (List.length (Go.Proofs.YtbppmiimeccclaaGreat.PV.code p)) cc, Go.Value.slice ao (List.length (Go.Proofs.YtbppmiimeccclaaGreat.PV.outs p)) co] 25), (1, Option.some b1, Go.Obj.cells #[Go.Value.func (Go.Fn.func 118) #[] #[], Go.Value.func (Go.Fn.func 119) #[] #[], Go.Value.func (Go.Fn.func 121) #[] #[], Go.Value.func (Go.Fn.func 123) #[] #[], Go.Value.func (Go.Fn.func 124) #[] #[]] 131)])) (fun (i, Gx, r2, rs) => Gx) (fun (i, Gx, r2, rs) => i ≤ p.code.length ∧ G.le Gx ∧ r2.length = r.length ∧ OwnA o d r2 j ∧ BGrid Gx r2 rs ∧ EvenB (m + 3 * i) N rs ∧ runTo p gs i = some rs) (fun (i, Gx, r2, rs) => p.code.length - i) ((0, G, r, regs0 p gs)) (⟨Nat.zero_le _, Imm.le_refl _, rfl, hob, hg, hm, rfl⟩) rfl ⟨rfl, rfl, rfl, rfl, rfl, rfl, trivial⟩ ⟨rfl, rfl, rfl, trivial⟩ (fun ⟨i, Gx, r2, rs⟩ => fun (hk : i ≤ p.code.length ∧ G.le Gx ∧ r2.length = r.length ∧ OwnA o d r2 j ∧ BGrid Gx r2 rs ∧ EvenB (m + 3 * i) N rs ∧ runTo p gs i = some rs) => ?_)
  obtain ⟨hi0, hgx, hr2, ho2, hg2, hb2, hrun⟩ := hk
  replace hc := hc.up hgx
  have hrl := hg2.1
  rcases Nat.lt_or_ge i p.code.length with hic | hic
  · have hmem : (p.code[((i : Nat) : Int).toNat]?.getD default) ∈ p.code := by
      rw [Int.toNat_natCast, List.getElem?_eq_getElem hic]; exact List.getElem_mem hic
    have hmi := hmay _ hmem
    obtain ⟨m1, m2, m3, m4, m5, m6, m7, m8⟩ := may_facts hmi
    have m9 : (p.code[((i : Nat) : Int).toNat]?.getD default).a < rs.length := by omega
    have hbz : (p.code[((i : Nat) : Int).toNat]?.getD default).op = 3 ∨ (p.code[((i : Nat) : Int).toNat]?.getD default).op = 4 ∨ (p.code[((i : Nat) : Int).toNat]?.getD default).b = 0 := by
      unfold mayOk at hmi
      rw [Bool.and_eq_true, Bool.and_eq_true, decide_eq_true_eq] at hmi
      exact hmi.1.1.2.2.2.2
    have mb : 0 ≤ (p.code[((i : Nat) : Int).toNat]?.getD default).b ∧ (p.code[((i : Nat) : Int).toNat]?.getD default).b < r2.length := by
      rcases hbz with h | h | h
      · have := m4 (.inl h); omega
      · have := m4 (.inr h); omega
      · omega
    have mt : 0 ≤ (p.code[((i : Nat) : Int).toNat]?.getD default).to ∧ (p.code[((i : Nat) : Int).toNat]?.getD default).to < r2.length := by omega
    have ma : 0 ≤ (p.code[((i : Nat) : Int).toNat]?.getD default).a ∧ (p.code[((i : Nat) : Int).toNat]?.getD default).a < r2.length := by omega
    have hmi9 : m + 3 * i ≤ 268435456 := by omega
    have hk3 : (p.code[((i : Nat) : Int).toNat]?.getD default).op ≠ 1 → (p.code[((i : Nat) : Int).toNat]?.getD default).op ≠ 2 → (p.code[((i : Nat) : Int).toNat]?.getD default).op ≠ 3 → (p.code[((i : Nat) : Int).toNat]?.getD default).op ≠ 4 → cst (p.code[((i : Nat) : Int).toNat]?.getD default) ≠ 0 ∧ ((cst (p.code[((i : Nat) : Int).toNat]?.getD default)).natAbs : Int) < pb 3 := fun a b c d => ⟨(m6 a b c d).1, Int.lt_of_lt_of_le (m6 a b c d).2 pw5_pb3⟩
    refine Wc.gl 14 [1] ?_
    refine Wl.q rfl (Qy.at (α := Sl.Instr) T.sl22 rfl rfl (by assumption) (by omega)) ?_
    refine Wl.q rfl (Qy.loadsG T.agg93 rfl (Arr.elem (by assumption) (by omega)) rfl) ?_
    refine Wl.alloc 3 rfl T.zero93 (fun b3 => ?_)
    refine Wl.gl 9 [3, 1, 3] ?_
    refine Wl.call 0 rfl T.fn117 rfl (c117 _ (p.code[((i : Nat) : Int).toNat]?.getD default) o d r2 j rs (m + 3 * i) N ho2 hg2 hb2 hN hmi9 m1 ma mb hk3 m7 m8) (tags_of ⟨rfl, trivial⟩) (fun v1 G1 Ho1 hle1 hp => ?_)
    obtain ⟨x, rfl, hx, rfl⟩ := hp
    replace hc := hc.up hle1
    replace hg2 := hg2.up hle1
    by_cases hd : doI (p.code[((i : Nat) : Int).toNat]?.getD default) rs = none
    · have hd2 : ¬ doI (p.code[((i : Nat) : Int).toNat]?.getD default) rs ≠ none := fun h => h hd
      refine Wl.gl 11 [] ?_
      refine Wl.q rfl (Qy.notD rfl) ?_
      refine Wl.ga 16 [1] ?_
      refine Ar.scopeR ?_
      refine Ar.out1 (.inr rfl) (Ho := Hp.only _ [0]) rfl (.tmp rfl) (Hp.sub_only _ _) ?_
      exact ⟨r2, (i : Int), rfl, rfl, hr2, ho2, .inr ⟨runTo_stop hrun hd hic, by omega⟩⟩
    · obtain ⟨z, hz⟩ := Option.ne_none_iff_exists'.1 hd
      have hxz := hx z hz
      have hok : doI (p.code[((i : Nat) : Int).toNat]?.getD default) rs ≠ none := hd
      refine Wl.gl 11 [] ?_
      refine Wl.q rfl (Qy.notD rfl) ?_
      refine Wl.gc 2 [] ?_
      refine Wc.cond rfl (fun hc1 => ?_) (fun hc1 => ?_)
      refine Wc.ga 13 [] ?_
      refine Ar.scopeR ?_
      refine Ar.out1 (.inr rfl) (Ho := Hp.only _ [0]) rfl (.tmp rfl) (Hp.sub_only _ _) ?_
      rotate_left
      refine Wc.gl 8 [3] ?_
      refine Wl.q rfl (Qy.indexAddrO (α := SV) T.sl53 rfl rfl (by assumption) (by omega)) ?_
      refine Wl.setO (z := _) 0 T.size44 rfl rfl rfl (by assumption) (by omega) rfl (fun ho1 => ?_)
      refine Wl.gl 7 [] ?_
      refine Wl.callV (fst := []) (cap := []) 4 rfl T.fn70 rfl rfl (c70 _ _ _) (tags_of trivial) (fun v2 G2 Ho2 hle2 hp => ?_)
      obtain ⟨rfl, rfl, rfl⟩ := hp
      refine Wl.ga 11 [0] ?_
      rotate_left
      · exact absurd hok hc1
      refine Ar.re 2 rfl (show _ = Value.slice o (r2.set (p.code[((i : Nat) : Int).toNat]?.getD default).to.toNat x).length d by rw [List.length_set]) ?_
      refine Ar.again ((i + 1, _, r2.set (p.code[((i : Nat) : Int).toNat]?.getD default).to.toNat x, rs.set (p.code[((i : Nat) : Int).toNat]?.getD default).to.toNat z)) ?_ ?_ rfl ⟨rfl, rfl, rfl, rfl, rfl, rfl, trivial⟩ ⟨rfl, rfl, rfl, trivial⟩
      · refine ⟨by omega, Imm.le_trans hgx hle1, by rw [List.length_set]; exact hr2, by assumption, hg2.set hxz _, ?_, runTo_succ (x := rs) hrun hz⟩
        have hs := doI_small (i := p.code[((i : Nat) : Int).toNat]?.getD default) hb2 (by rw [← hrl]; exact ma) (fun _ => by rw [← hrl]; exact mb) (fun h => (hk3 (fun e => by rw [e] at h; omega) (fun e => by rw [e] at h; omega) (fun e => by rw [e] at h; omega) (fun e => by rw [e] at h; omega)).2) hz
        rw [show m + 3 * (i + 1) = m + 3 * i + 3 by omega]
        exact evenB_set (hb2.mono (by omega)) hs _
      · show p.code.length - (i + 1) < p.code.length - i
        omega
  · have hii : i = p.code.length := by omega
    subst hii
    refine Wc.ga 18 [0] ?_
    refine Ar.scopeR ?_
    refine Ar.out1 (.inr rfl) (Ho := Hp.only _ [0]) rfl (.tmp rfl) (Hp.sub_only _ _) ?_
    exact ⟨r2, -1, rfl, rfl, hr2, ho2, .inl ⟨rs, hrun, rfl, hg2, hb2⟩⟩
end Go.Proofs.YtbppmiimeccclaaGreat
set_option maxRecDepth 100000
set_option linter.unusedVariables false
namespace Go.Proofs.YtbppmiimeccclaaGreat
open Go Go.Sl
set_option maxHeartbeats 4000000
theorem brow_next {G : Imm} {r : List SV} {rs : List (List Int)} {k : Nat} {s : SV} (h : ∀ q : Nat, q < k → BRow G (r[q]?.getD default) (rs[q]?.getD [])) (hk : k < r.length) (hs : BRow G s (rs[k]?.getD [])) : ∀ q : Nat, q < k + 1 → BRow G ((r.set k s)[q]?.getD default) (rs[q]?.getD []) := fun q hq => by
  rw [List.getElem?_set]
  by_cases he : k = q
  · subst he; rw [if_pos rfl, if_pos hk]; exact hs
  · rw [if_neg he]; exact h q (by omega)
theorem brows_up {G G' : Imm} {r : List SV} {rs : List (List Int)} {k : Nat} (h : ∀ q : Nat, q < k → BRow G (r[q]?.getD default) (rs[q]?.getD [])) (hl : G.le G') : ∀ q : Nat, q < k → BRow G' (r[q]?.getD default) (rs[q]?.getD []) := fun q hq => (h q hq).up hl
attribute [local irreducible] valB pb cmpZ lstWp p2 cst doI
theorem c67 (G : Imm) (p : PV) (ac ao ga : Option Addr) (cc co gc : Nat) (gl : List SV) (gs : List (List Int)) (m N : Nat) (hc : Arr G ac p.code) (ho : Arr G ao p.outs) (hga : Arr G ga gl) (hgg : BGrid G gl gs) (hev : EvenB m N gs) (hN : N ≤ 4096) (hR : rightP p = true) (hgi : (gl.length : Int) = p.ins) :
    Does Tryz.prog 67 [.agg #[.int .i64 p.ins, .int .i64 p.regs, .slice ac p.code.length cc, .slice ao p.outs.length co], .slice ga gl.length gc] G [] (fun v G' Ho => ∃ b r, v = .tuple #[.slice (some ⟨b, 0, none⟩) r.length p.regs.toNat, .int .i64 0] ∧ BGrid G' r (regs0 p gs) ∧ r.length = p.regs.toNat ∧ Ho = [(1, some b, Row 44 r [])]) := by
  obtain ⟨f1, f2, f3, f4, f5, f6, f7, f8⟩ := right_facts hR
  have h1 : p.code.length ≤ 1099511627776 := by omega
  have h2 : p.outs.length ≤ 1099511627776 := by omega
  have hgl := hgg.1
  obtain ⟨R, hRR⟩ : ∃ R : Nat, p.regs = (R : Int) := ⟨p.regs.toNat, by omega⟩
  refine Does.enter Tryz.func67 rfl Tryz.ntmps67 rfl (fun w => ?_)
  have hM : p.regs.toNat = R := by omega
  have hrl0 := regs0_len p gs
  rw [hM] at hrl0
  have hgl0 : 0 < gl.length := by omega
  obtain ⟨h0L, h0B⟩ := hev.at (k := 0) (by omega)
  obtain ⟨l0, e1, e2, e3, e4⟩ := hgg.2 0 (by omega)
  have h0n : (gl[(0 : Int).toNat]?.getD default).n = N := by
    show (gl[0]?.getD default).n = N
    rw [← e1, e4.1, h0L]
  refine Wc.gl 2 [] ?_
  refine Wl.box 0 rfl rfl rfl (fun b1 => ?_)
  refine Wl.gl 10 [0] ?_
  refine Wl.call0 rfl T.fn53 rfl (c53 _ p _ _ _ _ (by assumption) (by assumption) h1 h2 hR _ hgi) ?_
  refine Wl.gl 15 [0] ?_
  refine Wl.q rfl (Qy.at (α := SV) T.sl53 rfl rfl (by assumption) (by omega)) ?_
  refine Wl.q rfl (Qy.loadG T.one44 rfl (Arr.cell (by assumption) (by omega) 0 rfl rfl)) ?_
  refine Wl.gl 8 [0] ?_
  refine Wl.make (α := SV) 1 rfl T.sl53 T.el44 rfl rfl (by omega) (by omega) (fun b2 => ?_)
  refine Wl.gc 12 [] ?_
  rw [hM]
  have hown : ∀ r : List SV, r.length = R → OwnA (some ⟨b2, 0, none⟩) R r [] := fun r hr => .inr ⟨b2, rfl, by rw [hr]; rfl, by omega, by simp only [maxLen]; omega⟩
  refine Wc.re 8 rfl (show _ = Value.slice (some ⟨b2, 0, none⟩) (List.replicate R (default : SV)).length R by rw [List.length_replicate]) ?_
  refine Wc.re 7 rfl (show _ = Value.int .i64 (N : Int) by rw [h0n]) ?_
  refine Wc.re 25 rfl (show _ = Value.int .i64 (R : Int) by rw [List.length_replicate]) ?_
  refine Wc.loopG (ι := Nat × Imm × List SV) (fun (k, Gx, r) => ([(26, .int .i64 (k : Int)), (8, .slice (some ⟨b2, 0, none⟩) r.length R), (25, Go.Value.int Go.IntKind.i64 (↑R : Int)), (7, Go.Value.int Go.IntKind.i64 (↑N : Int)), (1, Go.Value.slice ga (List.length gl) gc)], [(1, some b2, Row 44 r []), (0, Option.some b1, Go.Obj.cells #[Go.Value.int Go.IntKind.i64 (Go.Proofs.YtbppmiimeccclaaGreat.PV.ins p), Go.Value.int Go.IntKind.i64 (Go.Proofs.YtbppmiimeccclaaGreat.PV.regs p), Go.Value.slice ac (List.length (Go.Proofs.YtbppmiimeccclaaGreat.PV.code p)) cc, Go.Value.slice ao (List.length (Go.Proofs.YtbppmiimeccclaaGreat.PV.outs p)) co] 25)])) (fun (k, Gx, r) => Gx) (fun (k, Gx, r) => k ≤ R ∧ G.le Gx ∧ r.length = R ∧ ∀ q : Nat, q < k → BRow Gx (r[q]?.getD default) ((regs0 p gs)[q]?.getD [])) (fun (k, Gx, r) => R - k) ((0, G, List.replicate R (default : SV))) (⟨Nat.zero_le _, Imm.le_refl _, List.length_replicate, fun q hq => by omega⟩) rfl ⟨rfl, rfl, rfl, rfl, rfl, trivial⟩ ⟨rfl, rfl, trivial⟩ (fun ⟨k, Gx, r⟩ => fun (hk : k ≤ R ∧ G.le Gx ∧ r.length = R ∧ ∀ q : Nat, q < k → BRow Gx (r[q]?.getD default) ((regs0 p gs)[q]?.getD [])) => ?_)
  obtain ⟨hk0, hgx, hrR, hrow⟩ := hk
  replace hga := hga.up hgx
  replace hgg := hgg.up hgx
  have hor := hown r hrR
  rcases Nat.lt_or_ge k R with hkR | hkR
  · by_cases hkg : k < gl.length
    · have hkn : (gl[((k : Nat) : Int).toNat]?.getD default).n = N := by
        obtain ⟨l1, a1, a2, a3, a4⟩ := hgg.2 k hkg
        rw [Int.toNat_natCast, ← a1, a4.1]
        exact (hev.at (k := k) (by omega)).1
      refine Wc.gl 22 [1] ?_
      refine Wl.make (α := IV) 2 rfl T.sl44 T.el104 rfl rfl (by omega) (by omega) (fun b3 => ?_)
      refine Wl.q rfl (Qy.indexAddrO (α := SV) T.sl53 rfl rfl (by assumption) (by omega)) ?_
      refine Wl.re 32 rfl (show _ = Value.slice (some ⟨b3, 0, none⟩) N N by rw [List.length_replicate]; rfl) ?_
      refine Wl.reH 2 (Row 104 (List.replicate N (default : IV)) []) rfl rfl ?_
      refine Wl.setO (z := (⟨some ⟨b3, 0, none⟩, N, N⟩ : SV)) (m := ((k : Nat) : Int)) 1 T.size44 rfl rfl rfl hor (by omega) rfl (fun ho1 => ?_)
      have hrk : ((r.set k (⟨some ⟨b3, 0, none⟩, N, N⟩ : SV))[k]?.getD default) = ⟨some ⟨b3, 0, none⟩, N, N⟩ := by rw [List.getElem?_set, if_pos rfl, if_pos (by omega)]; rfl
      have ho3 : OwnA (some ⟨b3, 0, none⟩) N (List.replicate N (default : IV)) [] := .inr ⟨b3, rfl, by rw [List.length_replicate]; rfl, by rw [List.length_replicate]; exact Nat.le_refl _, by simp only [maxLen]; omega⟩
      rw [Int.toNat_natCast] at ho1 ⊢
      obtain ⟨r9, hr9⟩ : ∃ r9, r9 = r.set k (⟨some ⟨b3, 0, none⟩, N, N⟩ : SV) := ⟨_, rfl⟩
      have hr9l : r9.length = R := by rw [hr9, List.length_set]; exact hrR
      rw [← hr9] at ho1 hrk ⊢
      refine Wl.gl 16 [1] ?_
      refine Wl.q rfl (Qy.at (α := SV) T.sl53 rfl rfl (by assumption) (by omega)) ?_
      refine Wl.q rfl (Qy.loadG T.one44 rfl (Arr.cell (by assumption) (by omega) 0 rfl rfl)) ?_
      refine Wl.ll0 4 [] ?_
      refine Wl.no 45 rfl (by first | assumption | omega) ?_
      refine Wl.gc 10 [0] ?_
      refine Wc.draw [0, 2, 1] [(1, 8), (2, 8)] T.mixed rfl ?_
      refine Gm.q 0 [] (by kernel_rfl) rfl rfl (Qy.move rfl) ?_
      refine Gm.q 1 [] (by kernel_rfl) rfl rfl (Qy.move rfl) ?_
      refine Gm.q 2 [] (by kernel_rfl) rfl rfl (Qy.indexAddrO (α := SV) T.sl53 rfl rfl (by assumption) (by omega)) ?_
      refine Gm.q 3 [0, 1] (by kernel_rfl) rfl rfl (Qy.loadO 1 0 T.one44 rfl rfl (by assumption) (by omega) rfl rfl) ?_
      refine Gm.q 4 [] (by kernel_rfl) rfl rfl (Qy.move rfl) ?_
      refine Gm.q 5 [] (by kernel_rfl) rfl rfl (Qy.move rfl) ?_
      refine Gm.q 6 [] (by kernel_rfl) rfl rfl (Qy.at (α := SV) T.sl53 rfl rfl (by assumption) (by omega)) ?_
      refine Gm.q 7 [0] (by kernel_rfl) rfl rfl (Qy.loadG T.one44 rfl (Arr.cell (by assumption) (by omega) 0 rfl rfl)) ?_
      refine Gm.one 8 ⟨rfl, rfl, rfl, trivial⟩ (by first | exact Imm.le_refl _ | repeat (first | assumption | refine Imm.le_trans ?_ (by assumption))) (by kernel_rfl) rfl ?_
      obtain ⟨l1, a1, a2, a3, a4⟩ := hgg.2 k hkg
      have hl1 : l1.length = N := by rw [a1]; exact hkn
      refine Wl.re 52 rfl (show _ = Value.slice (some ⟨b3, 0, none⟩) (List.replicate N (default : IV)).length N by rw [Int.toNat_natCast, hrk, List.length_replicate]) ?_
      refine Wl.re 56 rfl (show _ = Value.slice (gl[k]?.getD default).a l1.length (gl[k]?.getD default).c by rw [a1]; rfl) ?_
      refine Wl.copyRow (α := IV) 2 rfl T.sl44 rfl rfl rfl (Src.arr a3) (by rw [hl1, List.length_replicate]; exact Nat.le_refl _) ?_
      refine Wl.reH 2 (Row 104 l1 []) rfl (by rw [hl1, List.drop_replicate, Nat.sub_self, List.replicate_zero, List.append_nil]) ?_
      have ho4 : OwnA (some ⟨b3, 0, none⟩) N l1 [] := .inr ⟨b3, rfl, by rw [hl1]; rfl, by rw [hl1]; exact Nat.le_refl _, by simp only [maxLen]; omega⟩
      refine Wl.on0 ?_
      refine Gm.doneA (by kernel_rfl) ⟨rfl, trivial⟩ (by first | exact Imm.le_refl _ | repeat (first | assumption | refine Imm.le_trans ?_ (by assumption))) ?_
      refine Ar.ga 6 [] ?_
      refine Ar.freezeRow 2 rfl ho4 (fun G1 hle1 hA1 => ?_)
      refine Ar.re 8 rfl (show _ = Value.slice (some ⟨b2, 0, none⟩) r9.length R by rw [hr9l, hrR]) ?_
      refine Ar.again ((k + 1, G1, r9)) ?_ ?_ rfl ⟨rfl, rfl, rfl, rfl, rfl, trivial⟩ ⟨rfl, rfl, trivial⟩
      · have hs9 : BRow G1 ⟨some ⟨b3, 0, none⟩, N, N⟩ ((regs0 p gs)[k]?.getD []) := by
          rw [regs0_at (by omega), if_pos (by omega)]
          exact ⟨l1, hl1, Nat.le_refl _, hA1, a4.up hle1⟩
        refine ⟨by omega, Imm.le_trans hgx hle1, hr9l, fun q hq => ?_⟩
        rw [hr9]
        exact brow_next (brows_up hrow hle1) (by omega) hs9 q hq
      · show R - (k + 1) < R - k
        omega
    · refine Wc.gl 22 [1] ?_
      refine Wl.make (α := IV) 2 rfl T.sl44 T.el104 rfl rfl (by omega) (by omega) (fun b3 => ?_)
      refine Wl.q rfl (Qy.indexAddrO (α := SV) T.sl53 rfl rfl (by assumption) (by omega)) ?_
      refine Wl.re 32 rfl (show _ = Value.slice (some ⟨b3, 0, none⟩) N N by rw [List.length_replicate]; rfl) ?_
      refine Wl.reH 2 (Row 104 (List.replicate N (default : IV)) []) rfl rfl ?_
      refine Wl.setO (z := (⟨some ⟨b3, 0, none⟩, N, N⟩ : SV)) (m := ((k : Nat) : Int)) 1 T.size44 rfl rfl rfl hor (by omega) rfl (fun ho1 => ?_)
      have hrk : ((r.set k (⟨some ⟨b3, 0, none⟩, N, N⟩ : SV))[k]?.getD default) = ⟨some ⟨b3, 0, none⟩, N, N⟩ := by rw [List.getElem?_set, if_pos rfl, if_pos (by omega)]; rfl
      have ho3 : OwnA (some ⟨b3, 0, none⟩) N (List.replicate N (default : IV)) [] := .inr ⟨b3, rfl, by rw [List.length_replicate]; rfl, by rw [List.length_replicate]; exact Nat.le_refl _, by simp only [maxLen]; omega⟩
      rw [Int.toNat_natCast] at ho1 ⊢
      obtain ⟨r9, hr9⟩ : ∃ r9, r9 = r.set k (⟨some ⟨b3, 0, none⟩, N, N⟩ : SV) := ⟨_, rfl⟩
      have hr9l : r9.length = R := by rw [hr9, List.length_set]; exact hrR
      rw [← hr9] at ho1 hrk ⊢
      refine Wl.ga 18 [0] ?_
      refine Ar.freezeRow 2 rfl ho3 (fun G1 hle1 hA1 => ?_)
      refine Ar.re 8 rfl (show _ = Value.slice (some ⟨b2, 0, none⟩) r9.length R by rw [hr9l, hrR]) ?_
      refine Ar.again ((k + 1, G1, r9)) ?_ ?_ rfl ⟨rfl, rfl, rfl, rfl, rfl, trivial⟩ ⟨rfl, rfl, trivial⟩
      · have hs9 : BRow G1 ⟨some ⟨b3, 0, none⟩, N, N⟩ ((regs0 p gs)[k]?.getD []) := by
          rw [regs0_at (by omega), if_neg (by omega), h0L]
          exact ⟨_, List.length_replicate, Nat.le_refl _, hA1, Bigs.zeros _ _⟩
        refine ⟨by omega, Imm.le_trans hgx hle1, hr9l, fun q hq => ?_⟩
        rw [hr9]
        exact brow_next (brows_up hrow hle1) (by omega) hs9 q hq
      · show R - (k + 1) < R - k
        omega
  · refine Wc.ga 20 [0] ?_
    refine Ar.out2 (.inr rfl) (Ho := [(1, some b2, Row 44 r [])]) rfl (.tmp rfl) (.tmp rfl) ⟨rfl, trivial⟩ ?_
    exact ⟨b2, r, rfl, ⟨by omega, fun i hi => hrow i (by omega)⟩, hrR, rfl⟩
end Go.Proofs.YtbppmiimeccclaaGreat
set_option maxRecDepth 100000
set_option linter.unusedVariables false
namespace Go.Proofs.YtbppmiimeccclaaGreat
open Go Go.Sl
set_option maxHeartbeats 4000000
theorem brow_snoc {G : Imm} {q : List SV} {os : List (List Int)} {i : Nat} {s : SV} (h : ∀ t : Nat, t < i → BRow G (q[t]?.getD default) (os[t]?.getD [])) (hq : q.length = i) (hs : BRow G s (os[i]?.getD [])) : ∀ t : Nat, t < i + 1 → BRow G ((q ++ [s])[t]?.getD default) (os[t]?.getD []) := fun t ht => by
  rcases Nat.lt_or_ge t i with h1 | h1
  · rw [List.getElem?_append_left (by omega)]; exact h t h1
  · have e : t = i := by omega
    subst e
    rw [List.getElem?_append_right (by omega), hq, Nat.sub_self]; exact hs
theorem outs_at {p : PV} {rs : List (List Int)} {i : Nat} (hi : i < p.outs.length) : (outsOf p rs)[i]?.getD [] = rs[(p.outs[((i : Nat) : Int).toNat]?.getD default).toNat]?.getD [] := by
  unfold outsOf
  rw [List.getElem?_map, Int.toNat_natCast, List.getElem?_eq_getElem hi]; rfl
attribute [local irreducible] valB pb cmpZ lstWp p2 cst doI
theorem c71 (G : Imm) (a : Option Addr) (c : Nat) (l : List IV) (ha : Arr G a l) (h0 : 0 < l.length) (hl : l.length ≤ 1048576) :
    Does Tryz.prog 71 [.slice a l.length c] G [] (fun v G' Ho => ∃ s d, v = .slice s l.length d ∧ Arr G' s l ∧ l.length ≤ d ∧ Ho = []) := by
  have hne : ¬ a = none := by rw [ha.addr h0]; exact fun h => by cases h
  refine Does.enter Tryz.func71 rfl Tryz.ntmps71 rfl (fun w => ?_)
  refine Wc.gl 9 [] ?_
  refine Wl.q rfl (Qy.eqlSliceNil T.sl44 rfl rfl) ?_
  refine Wl.gl 7 [0] ?_
  refine Wl.lit0 0 rfl T.sl44 (fun b1 => ?_)
  refine Wl.q rfl (Qy.move rfl) ?_
  refine Wl.reH 0 (Row 104 ([] : List IV) []) rfl rfl ?_
  refine Wl.append (α := IV) (xs := []) (ys := l) (junk := []) 0 rfl T.sl44 T.el104 rfl rfl rfl (.inr ⟨b1, rfl, rfl, Nat.le_refl _, Nat.zero_le _⟩) (Src.arr ha) (by rw [List.length_nil]; omega) (by rw [List.length_nil]; simp only [maxLen]; omega) (fun a1 c1 junk1 ho1 => ?_)
  rw [List.nil_append] at ho1 ⊢
  have hc1 := ho1.le
  refine Wl.ga 4 [] ?_
  refine Ar.freezeRow 0 rfl ho1 (fun G1 hle1 hA1 => ?_)
  refine Ar.out1 (.inr rfl) (Ho := Hp.only _ []) rfl (.tmp rfl) (Hp.sub_only _ _) ?_
  exact ⟨a1, c1, rfl, hA1, hc1, rfl⟩
/-- what Rows answers -/
def RowsPost (p : PV) (gs : List (List Int)) (m N : Nat) (v : Value) (G' : Imm) (Ho : Hp) : Prop :=
  Ho = [] ∧ ((∃ os b r c', followP p gs = some os ∧ v = .tuple #[.slice b (List.length r) c', .int .i64 0, .int .i64 0] ∧ Arr G' b r ∧ List.length r ≤ c' ∧ BGrid G' r os ∧ EvenB (m + 3 * p.code.length) N os) ∨ (followP p gs = none ∧ ∃ k, v = .tuple #[.slice none 0 0, .int .i64 k, .int .i64 20]))
theorem c24 (G : Imm) (p : PV) (ac ao ga : Option Addr) (cc co gc : Nat) (gl : List SV) (gs : List (List Int)) (m N : Nat) (hc : Arr G ac p.code) (ho : Arr G ao p.outs) (hga : Arr G ga gl) (hgg : BGrid G gl gs) (hev : EvenB m N gs) (hmm : m ≤ 1048576) (hN0 : 1 ≤ N) (hN : N ≤ 4096) (hR : rightP p = true) (hgi : (gl.length : Int) = p.ins) :
    Does Tryz.prog 24 [.agg #[.int .i64 p.ins, .int .i64 p.regs, .slice ac p.code.length cc, .slice ao p.outs.length co], .slice ga gl.length gc] G [] (RowsPost p gs m N) := by
  obtain ⟨f1, f2, f3, f4, f5, f6, f7, f8⟩ := right_facts hR
  obtain ⟨R, hRR⟩ : ∃ R : Nat, p.regs = (R : Int) := ⟨p.regs.toNat, by omega⟩
  refine Does.enter Tryz.func24 rfl Tryz.ntmps24 rfl (fun w => ?_)
  refine Wc.nilRow 0 (Row 44 ([] : List SV) []) ?_
  refine Wc.gl 2 [] ?_
  refine Wl.box 1 rfl rfl rfl (fun b1 => ?_)
  refine Wl.gl 9 [1] ?_
  refine Wl.call 2 rfl T.fn67 rfl (c67 _ p ac ao ga cc co gc gl gs m N hc ho hga hgg hev hN hR hgi) (tags_of trivial) (fun v1 G1 Ho1 hle1 hp => ?_)
  obtain ⟨b9, r0, rfl, hg0, hr0, rfl⟩ := hp
  replace hc := hc.up hle1
  replace ho := ho.up hle1
  have hrl0 := regs0_len p gs
  have hm0 : EvenB m N (regs0 p gs) := fun zs hz => by
    unfold regs0 at hz
    obtain ⟨k, hk, rfl⟩ := List.mem_map.1 hz
    have hN9 := (hev.at (k := 0) (by have := hgg.1; omega)).1
    split
    · exact hev.at (k := k) (by omega)
    · rw [hN9]
      exact ⟨List.length_replicate, below_zeros m _⟩
  refine Wl.gc 19 [0] ?_
  refine Wc.draw [0, 1, 3] [(3, 3), (1, 3), (0, 3)] T.mixed rfl ?_
  refine Gm.q 1 [1] (by kernel_rfl) rfl rfl (Qy.loadAll 1 T.agg25 rfl rfl rfl) ?_
  refine Gm.q 2 [] (by kernel_rfl) rfl rfl (Qy.move rfl) ?_
  refine Gm.one 0 ⟨rfl, rfl, rfl, trivial⟩ (by first | exact Imm.le_refl _ | repeat (first | assumption | refine Imm.le_trans ?_ (by assumption))) (by kernel_rfl) rfl ?_
  refine Wl.call0 rfl T.fn69 rfl (c69 _) ?_
  refine Wl.on0 ?_
  refine Gm.one 3 ⟨rfl, rfl, rfl, trivial⟩ (by first | exact Imm.le_refl _ | repeat (first | assumption | refine Imm.le_trans ?_ (by assumption))) (by kernel_rfl) rfl ?_
  refine Wl.call 3 rfl T.fn68 rfl (c68 _ p gs ac ao cc co (some ⟨b9, 0, none⟩) p.regs.toNat r0 [] m N hc (.inr ⟨b9, rfl, by rw [hr0]; rfl, by omega, by simp only [maxLen]; omega⟩) hg0 hm0 (by omega) (by omega) f4 (by omega) (by omega) f8) (tags_of ⟨rfl, trivial⟩) (fun v9 G9 Ho9 hle9 hp => ?_)
  obtain ⟨r9, k9, rfl, rfl, hr9, ho9, hcase⟩ := hp
  replace ho := ho.up hle9
  rcases hcase with ⟨rs, hrs, rfl, hg9, he9⟩ | ⟨hno, hk9⟩
  · have hrs1 := hg9.1
    have lr9 : r9.length = R := by omega
    have hfol : followP p gs = some (outsOf p rs) := by unfold followP; rw [hrs]; rfl
    refine Wl.on0 ?_
    refine Gm.q 4 [] (by kernel_rfl) rfl rfl (Qy.assign rfl) ?_
    refine Gm.doneA (by kernel_rfl) trivial (by first | exact Imm.le_refl _ | repeat (first | assumption | refine Imm.le_trans ?_ (by assumption))) ?_
    refine Ar.gc 25 [0, 1] ?_
    refine Wc.re 7 rfl (show _ = Value.slice (some ⟨b9, 0, none⟩) r9.length p.regs.toNat by rw [hr9]) ?_
    refine Wc.loopG (ι := Nat × Imm × List SV × (Option Addr × Nat × List Value)) (fun (i, Gx, q, (o, d, j)) => ([(32, .int .i64 (i : Int)), (10, .slice o q.length d), (7, Go.Value.slice (Option.some (Go.Addr.mk b9 0 Option.none)) (List.length r9) (Int.toNat (Go.Proofs.YtbppmiimeccclaaGreat.PV.regs p))), (31, Go.Value.int Go.IntKind.i64 (↑(List.length (Go.Proofs.YtbppmiimeccclaaGreat.PV.outs p)) : Int)), (30, Go.Value.slice ao (List.length (Go.Proofs.YtbppmiimeccclaaGreat.PV.outs p)) co), (6, Go.Value.int Go.IntKind.i64 0), (5, Go.Value.int Go.IntKind.i64 0), (4, Go.Value.slice Option.none 0 0)], [(0, o.map (·.block), Row 44 q j), (3, some b9, Row 44 r9 []), (1, Option.some b1, Go.Obj.cells #[Go.Value.int Go.IntKind.i64 (Go.Proofs.YtbppmiimeccclaaGreat.PV.ins p), Go.Value.int Go.IntKind.i64 (Go.Proofs.YtbppmiimeccclaaGreat.PV.regs p), Go.Value.slice ac (List.length (Go.Proofs.YtbppmiimeccclaaGreat.PV.code p)) cc, Go.Value.slice ao (List.length (Go.Proofs.YtbppmiimeccclaaGreat.PV.outs p)) co] 25)])) (fun (i, Gx, q, (o, d, j)) => Gx) (fun (i, Gx, q, (o, d, j)) => i ≤ p.outs.length ∧ G9.le Gx ∧ q.length = i ∧ (∀ t : Nat, t < i → BRow Gx (q[t]?.getD default) ((outsOf p rs)[t]?.getD [])) ∧ OwnA o d q j) (fun (i, Gx, q, (o, d, j)) => p.outs.length - i) ((0, G9, [], (none, 0, []))) (⟨Nat.zero_le _, Imm.le_refl _, rfl, fun t ht => by omega, OwnA.nil⟩) rfl ⟨rfl, rfl, rfl, rfl, rfl, rfl, rfl, rfl, trivial⟩ ⟨rfl, rfl, rfl, trivial⟩ (fun ⟨i, Gx, q, (o, d, j)⟩ => fun (hk : i ≤ p.outs.length ∧ G9.le Gx ∧ q.length = i ∧ (∀ t : Nat, t < i → BRow Gx (q[t]?.getD default) ((outsOf p rs)[t]?.getD [])) ∧ OwnA o d q j) => ?_)
    obtain ⟨hi0, hgx, hqi, hbq, hoq⟩ := hk
    replace ho := ho.up hgx
    rcases Nat.lt_or_ge i p.outs.length with hio | hio
    · have hmem : p.outs[((i : Nat) : Int).toNat]?.getD default ∈ p.outs := by
        rw [Int.toNat_natCast, List.getElem?_eq_getElem hio]; exact List.getElem_mem hio
      have hrg := f7 _ hmem
      obtain ⟨l1, a1, a2, a3, a4⟩ := hg9.2 (p.outs[((i : Nat) : Int).toNat]?.getD default).toNat (by omega)
      have hN1 := (he9.at (k := (p.outs[((i : Nat) : Int).toNat]?.getD default).toNat) (by omega)).1
      have hl1 : l1.length = N := by rw [a4.1, hN1]
      refine Wc.gl 13 [1] ?_
      refine Wl.q rfl (Qy.at (α := Int) T.sl23 rfl rfl (by assumption) (by omega)) ?_
      refine Wl.q rfl (Qy.loadG T.one3 rfl (Arr.cell (by assumption) (by omega) 0 rfl rfl)) ?_
      refine Wl.gl 7 [] ?_
      refine Wl.q rfl (Qy.indexAddrO (α := SV) T.sl53 rfl rfl (by assumption) (by omega)) ?_
      refine Wl.q rfl (Qy.loadO 3 0 T.one44 rfl rfl (by assumption) (by omega) rfl rfl) ?_
      refine Wl.re 40 rfl (show _ = Value.slice (r9[(p.outs[((i : Nat) : Int).toNat]?.getD default).toNat]?.getD default).a l1.length (r9[(p.outs[((i : Nat) : Int).toNat]?.getD default).toNat]?.getD default).c by rw [a1]) ?_
      refine Wl.call 20 rfl T.fn71 rfl (c71 _ _ _ l1 (a3.up hgx) (by omega) (by omega)) (tags_of trivial) (fun v1 G2 Ho1 hle2 hp => ?_)
      obtain ⟨s2, d2, rfl, hA2, hd2, rfl⟩ := hp
      refine Wl.lit (α := SV) 4 [⟨_, _, _⟩] rfl T.sl53 T.el44 rfl rfl rfl rfl rfl (fun b2 => ?_)
      refine Wl.append (α := SV) 0 rfl T.sl53 T.el44 rfl rfl rfl (by first | assumption | exact OwnA.nil | exact OwnA.made (by simp)) (Src.row 4 rfl) (by first | omega | (simp only [List.length_append, List.length_cons, List.length_nil, maxLen]; omega)) (by first | omega | (simp only [List.length_append, List.length_cons, List.length_nil, maxLen]; omega)) (fun a1 c1 junk1 ho1 => ?_)
      refine Wl.ga 8 [] ?_
      refine Ar.again ((i + 1, G2, q ++ [⟨s2, l1.length, d2⟩], (a1, c1, junk1))) ?_ ?_ rfl ⟨rfl, rfl, rfl, rfl, rfl, rfl, rfl, rfl, trivial⟩ ⟨rfl, rfl, rfl, trivial⟩
      · refine ⟨by omega, Imm.le_trans hgx hle2, by rw [List.length_append, hqi]; rfl, brow_snoc (fun t ht => (hbq t ht).up hle2) hqi ?_, ho1⟩
        rw [outs_at hio]
        exact ⟨l1, rfl, hd2, hA2, a4.up (Imm.le_trans hgx hle2)⟩
      · show p.outs.length - (i + 1) < p.outs.length - i
        omega
    · have hii : i = p.outs.length := by omega
      subst hii
      have hqd := hoq.le
      refine Wc.ga 21 [0] ?_
      refine Ar.freezeRow 0 rfl hoq (fun G8 hle8 hA => ?_)
      refine Ar.out3 (.inr rfl) (Ho := []) rfl (.tmp rfl) (.tmp rfl) (.tmp rfl) trivial ?_
      have hol : (outsOf p rs).length = p.outs.length := by unfold outsOf; rw [List.length_map]
      refine ⟨rfl, .inl ⟨outsOf p rs, o, q, d, hfol, rfl, hA, hqd, ⟨by omega, fun t ht => (hbq t (by omega)).up hle8⟩, fun zs hz => ?_⟩⟩
      unfold outsOf at hz
      obtain ⟨x, hx, rfl⟩ := List.mem_map.1 hz
      have hx7 := f7 x hx
      exact he9.at (k := x.toNat) (by omega)
  · refine Wl.on0 ?_
    refine Gm.q 4 [] (by kernel_rfl) rfl rfl (Qy.assign rfl) ?_
    refine Gm.doneA (by kernel_rfl) trivial (by first | exact Imm.le_refl _ | repeat (first | assumption | refine Imm.le_trans ?_ (by assumption))) ?_
    refine Ar.ga 18 [1] ?_
    refine Ar.out3 (.inr rfl) (Ho := []) rfl (.tmp rfl) (.tmp rfl) (.tmp rfl) trivial ?_
    exact ⟨rfl, .inr ⟨hno, k9, rfl⟩⟩
end Go.Proofs.YtbppmiimeccclaaGreat
set_option maxRecDepth 100000
set_option linter.unusedVariables false
namespace Go.Proofs.YtbppmiimeccclaaGreat
open Go Go.Sl
set_option maxHeartbeats 4000000
attribute [local irreducible] valB pb cmpZ lstWp p2 cst doI
theorem c76 (G : Imm) (n : Nat) (hn : n ≤ 4096) :
    Does Tryz.prog 76 [.int .i64 (n : Int)] G [] (fun v G' Ho => ∃ b, v = .tuple #[.slice (some ⟨b, 0, none⟩) (List.replicate n (default : IV)).length n, .int .i64 0] ∧ G' = G ∧ Ho = [(0, some b, Row 104 (List.replicate n (default : IV)) [])]) := by
  refine Does.enter Tryz.func76 rfl Tryz.ntmps76 rfl (fun w => ?_)
  refine Wc.gl 12 [] ?_
  refine Wl.no 6 rfl (by first | assumption | omega) ?_
  refine Wl.gl 13 [0] ?_
  refine Wl.make (α := IV) 0 rfl T.sl44 T.el104 rfl rfl (by omega) (by omega) (fun b1 => ?_)
  refine Wl.ga 5 [] ?_
  refine Ar.out2 (.inr rfl) (Ho := [(0, some b1, Row 104 (List.replicate n (default : IV)) [])]) rfl (.tmp rfl) (.tmp rfl) ⟨rfl, trivial⟩ ?_
  exact ⟨b1, by simp, rfl, rfl⟩
theorem c28 (G : Imm) (n j : Nat) (hn : n ≤ 4096) (hj : j < n) :
    Does Tryz.prog 28 [.int .i64 (n : Int), .int .i64 (j : Int)] G [] (fun v G' Ho => ∃ s l d, v = .tuple #[.slice s (List.length l) d, .int .i64 0] ∧ Arr G' s l ∧ List.length l = n ∧ n ≤ d ∧ Bigs G' l (unitR n j) ∧ Ho = []) := by
  refine Does.enter Tryz.func28 rfl Tryz.ntmps28 rfl (fun w => ?_)
  refine Wc.gl 9 [] ?_
  refine Wl.call 0 rfl T.fn76 rfl (c76 _ n hn) (tags_of trivial) (fun v1 G1 Ho1 hle1 hp => ?_)
  obtain ⟨b1, rfl, rfl, rfl⟩ := hp
  have ho3 : OwnA (some ⟨b1, 0, none⟩) n (List.replicate n (default : IV)) [] := .inr ⟨b1, rfl, by rw [List.length_replicate]; rfl, by rw [List.length_replicate]; exact Nat.le_refl _, by simp only [maxLen]; omega⟩
  obtain ⟨r0, hr0⟩ : ∃ r0, r0 = List.replicate n (default : IV) := ⟨_, rfl⟩
  have lr0 : r0.length = n := by rw [hr0, List.length_replicate]
  rw [← hr0] at ho3 ⊢
  refine Wl.gl 22 [0] ?_
  refine Wl.no 20 rfl (by first | assumption | omega) ?_
  refine Wl.gl 18 [0] ?_
  refine Wl.call 1 rfl T.fn57 rfl (c57 _ _ (by decide)) (tags_of trivial) (fun v2 G2 Ho2 hle2 hp => ?_)
  obtain ⟨ri2, rfl, hri2, rfl⟩ := hp
  refine Wl.q rfl (Qy.indexAddrO (α := IV) T.sl44 rfl rfl (by assumption) (by omega)) ?_
  refine Wl.setO (z := ri2) (m := ((j : Nat) : Int)) 0 T.size104 rfl rfl rfl ho3 (by omega) rfl (fun ho1 => ?_)
  have hB : Bigs G2 (r0.set j ri2) (unitR n j) := by
    rw [hr0]; unfold unitR
    exact (Bigs.zeros G2 n).set j hri2
  have hl9 : (r0.set j ri2).length = n := by rw [List.length_set]; exact lr0
  rw [Int.toNat_natCast] at ho1 ⊢
  obtain ⟨r9, hr9⟩ : ∃ r9, r9 = r0.set j ri2 := ⟨_, rfl⟩
  rw [← hr9] at ho1 hB hl9 ⊢
  refine Wl.ga 10 [] ?_
  refine Ar.freezeRow 0 rfl ho1 (fun G3 hle3 hA3 => ?_)
  refine Ar.re 4 rfl (show _ = Value.slice (some ⟨b1, 0, none⟩) r9.length n by rw [hl9, lr0]) ?_
  refine Ar.out2 (.inr rfl) (Ho := Hp.only _ []) rfl (.tmp rfl) (.tmp rfl) (Hp.sub_only _ _) ?_
  exact ⟨_, r9, n, rfl, hA3, hl9, Nat.le_refl _, hB.up hle3, rfl⟩
end Go.Proofs.YtbppmiimeccclaaGreat
set_option maxRecDepth 100000
set_option linter.unusedVariables false
namespace Go.Proofs.YtbppmiimeccclaaGreat
open Go Go.Sl
set_option maxHeartbeats 4000000
theorem pb2_pw4 : pb 2 = pw 4 := by unfold pb pw; decide
theorem even_evenB {N : Nat} {gs : List (List Int)} (h : Even 4 N gs) : EvenB 2 N gs := fun zs hz => ⟨(h zs hz).1, fun z hz' => by rw [pb2_pw4]; exact (h zs hz).2 z hz'⟩
theorem unit_belowB (n j : Nat) : Below 2 (unitR n j) := fun z hz => by
  rw [pb2_pw4]; exact unit_below n j 4 (by omega) z hz
/-- the rows are the units'? -/
theorem units_eq {os : List (List Int)} {n : Nat} (hl : os.length = n) : (os = (List.range n).map (unitR n)) ↔ ∀ t : Nat, t < n → os[t]?.getD [] = unitR n t := by
  constructor
  · intro h t ht
    rw [h, List.getElem?_map, List.getElem?_range ht]; rfl
  · intro h
    refine List.ext_getElem? fun i => ?_
    rcases Nat.lt_or_ge i n with h1 | h1
    · have := h i h1
      rw [List.getElem?_eq_getElem (by omega)] at this ⊢
      rw [List.getElem?_map, List.getElem?_range h1]
      show some os[i] = some (unitR n i)
      rw [← this]; rfl
    · rw [List.getElem?_eq_none (by omega), List.getElem?_eq_none (by rw [List.length_map, List.length_range]; omega)]
attribute [local irreducible] valB pb pw cmpZ lstWp p2 cst doI followP gridR rightP unitR
theorem c7W (G : Imm) (p : PV) (ac ao : Option Addr) (cc co : Nat) (a : Option Addr) (c : Nat) (l : List R2) (ha : Arr G a l) (hac : l.length ≤ c) (hl : l.length ≤ 1048576) (hR : ¬ RightL l) :
    Does Tryz.prog 7 [.agg #[.int .i64 p.ins, .int .i64 p.regs, .slice ac p.code.length cc, .slice ao p.outs.length co], .slice a l.length c] G [] (fun v G' Ho => v = .tuple #[.bool false, .int .i64 2] ∧ Ho = []) := by
  refine Does.enter Tryz.func7 rfl Tryz.ntmps7 rfl (fun w => ?_)
  refine Wc.gl 2 [] ?_
  refine Wl.box 0 rfl rfl rfl (fun b1 => ?_)
  refine Wl.gl 7 [] ?_
  refine Wl.call0 rfl T.fn27 rfl (c27W _ a c l (by assumption) (by omega) hac hR) ?_
  refine Wl.ga 24 [1] ?_
  refine Ar.out2 (.inr rfl) (Ho := Hp.only _ []) rfl (.tmp rfl) (.tmp rfl) (Hp.sub_only _ _) ?_
  exact ⟨rfl, rfl⟩
theorem c18P (G : Imm) (p : PV) (ac ao : Option Addr) (cc co : Nat) (hc : Arr G ac p.code) (ho : Arr G ao p.outs) (h1 : p.code.length ≤ 1099511627776) (h2 : p.outs.length ≤ 1099511627776) (hP : ¬ rightP p = true) :
    Does Tryz.prog 18 [.agg #[.int .i64 p.ins, .int .i64 p.regs, .slice ac p.code.length cc, .slice ao p.outs.length co]] G [] (fun v G' Ho => v = .tuple #[.int .i64 (checkP p).1, .int .i64 80] ∧ G' = G ∧ Ho = []) := by
  have hf : (checkP p).2 = true := by unfold rightP at hP; simpa using hP
  have h := c18 G p ac ao cc co hc ho h1 h2
  rw [hf] at h
  exact h
theorem c7P (G : Imm) (p : PV) (ac ao : Option Addr) (cc co : Nat) (a : Option Addr) (c : Nat) (l : List R2) (hc : Arr G ac p.code) (ho : Arr G ao p.outs) (hcl : p.code.length ≤ 1099511627776) (hol : p.outs.length ≤ 1099511627776) (ha : Arr G a l) (hac : l.length ≤ c) (hl : l.length ≤ 1048576) (hR : RightL l) (hP : ¬ rightP p = true) :
    Does Tryz.prog 7 [.agg #[.int .i64 p.ins, .int .i64 p.regs, .slice ac p.code.length cc, .slice ao p.outs.length co], .slice a l.length c] G [] (fun v G' Ho => v = .tuple #[.bool false, .int .i64 80] ∧ Ho = []) := by
  have hl15 := hR.2.1
  refine Does.enter Tryz.func7 rfl Tryz.ntmps7 rfl (fun w => ?_)
  refine Wc.gl 2 [] ?_
  refine Wl.box 0 rfl rfl rfl (fun b1 => ?_)
  refine Wl.gl 7 [] ?_
  refine Wl.call 1 rfl T.fn27 rfl (c27R _ a c l (by assumption) (by omega) hac hR hl15 hR.2.2.1) (tags_of trivial) (fun v1 G1 Ho1 hle1 hp => ?_)
  obtain ⟨gs1, gr1, gc1, rfl, hga1, hgb1, hgc1, rfl⟩ := hp
  replace hc := hc.up hle1
  replace ho := ho.up hle1
  replace ha := ha.up hle1
  refine Wl.gl 21 [0, 0] ?_
  refine Wl.call0 rfl T.fn18 rfl (c18P _ p _ _ _ _ (by assumption) (by assumption) hcl hol hP) ?_
  refine Wl.ga 22 [1] ?_
  refine Ar.out2 (.inr rfl) (Ho := Hp.only _ []) rfl (.tmp rfl) (.tmp rfl) (Hp.sub_only _ _) ?_
  exact ⟨rfl, rfl⟩
theorem c7Y (G : Imm) (p : PV) (ac ao : Option Addr) (cc co : Nat) (a : Option Addr) (c : Nat) (l : List R2) (hc : Arr G ac p.code) (ho : Arr G ao p.outs) (hcl : p.code.length ≤ 1099511627776) (hol : p.outs.length ≤ 1099511627776) (ha : Arr G a l) (hac : l.length ≤ c) (hl : l.length ≤ 1048576) (hR : RightL l) (hP : rightP p = true) :
    Does Tryz.prog 7 [.agg #[.int .i64 p.ins, .int .i64 p.regs, .slice ac p.code.length cc, .slice ao p.outs.length co], .slice a l.length c] G [] (fun v G' Ho => v = .tuple #[.bool (decide (InterpP p l)), .int .i64 0] ∧ Ho = []) := by
  have hl1 := hR.1
  have hl15 := hR.2.1
  have hev := even_evenB (gridR_even hl15 (fun i hi => (hR.2.2.1 i hi).1))
  have hgl := gridR_lenN l
  obtain ⟨f1, f2, f3, f4, f5, f6, f7, f8⟩ := right_facts hP
  refine Does.enter Tryz.func7 rfl Tryz.ntmps7 rfl (fun w => ?_)
  by_cases hI : p.ins = l.length
  · by_cases hO : p.outs.length = l.length
    · refine Wc.gl 2 [] ?_
      refine Wl.box 0 rfl rfl rfl (fun b1 => ?_)
      refine Wl.gl 7 [] ?_
      refine Wl.call 1 rfl T.fn27 rfl (c27R _ a c l (by assumption) (by omega) hac hR hl15 hR.2.2.1) (tags_of trivial) (fun v1 G1 Ho1 hle1 hp => ?_)
      obtain ⟨gs1, gr1, gc1, rfl, hga1, hgb1, hgc1, rfl⟩ := hp
      replace hc := hc.up hle1
      replace ho := ho.up hle1
      replace ha := ha.up hle1
      refine Wl.gl 21 [0, 0] ?_
      refine Wl.call0 rfl T.fn18 rfl (c18R _ p _ _ _ _ (by assumption) (by assumption) hcl hol hP) ?_
      refine Wl.gl 24 [0, 0] ?_
      refine Wl.no 35 rfl (by first | assumption | omega) ?_
      refine Wl.gl 22 [0, 0, 0] ?_
      refine Wl.call 20 rfl T.fn24 rfl (c24 _ p ac ao gs1 cc co gc1 gr1 (gridR l) 2 l.length (by assumption) (by assumption) (by assumption) (by assumption) hev (by omega) hl1 (by omega) hP (by rw [hgb1.1, hgl, hI])) (tags_of trivial) (fun v9 G9 Ho9 hle9 hp => ?_)
      obtain ⟨rfl, ⟨os, ob, orr, oc, hfo, rfl, hoA, hol9, hoB, hoE⟩ | ⟨hno, k9, rfl⟩⟩ := hp
      · have hos := follow_len hfo
        have hoL := hoB.1
        replace ha := ha.up hle9
        have hiff : InterpP p l ↔ ∀ t : Nat, t < l.length → os[t]?.getD [] = unitR l.length t := by
          rw [← units_eq (by omega)]
          unfold InterpP
          rw [hfo]
          exact ⟨fun h => Option.some.inj h.2.2.2, fun h => ⟨hP, hI, hO, by rw [h]⟩⟩
        refine Wl.gc 28 [0] ?_
        refine Wc.loopG (ι := Nat × Imm) (fun (i, Gx) => ([(54, .int .i64 (i : Int)), (53, Go.Value.int Go.IntKind.i64 (↑(List.length orr) : Int)), (52, Go.Value.slice ob (List.length orr) oc), (1, Go.Value.slice a (List.length l) c)], [(0, Option.some b1, Go.Obj.cells #[Go.Value.int Go.IntKind.i64 (Go.Proofs.YtbppmiimeccclaaGreat.PV.ins p), Go.Value.int Go.IntKind.i64 (Go.Proofs.YtbppmiimeccclaaGreat.PV.regs p), Go.Value.slice ac (List.length (Go.Proofs.YtbppmiimeccclaaGreat.PV.code p)) cc, Go.Value.slice ao (List.length (Go.Proofs.YtbppmiimeccclaaGreat.PV.outs p)) co] 25)])) (fun (i, Gx) => Gx) (fun (i, Gx) => i ≤ l.length ∧ G9.le Gx ∧ ∀ t : Nat, t < i → os[t]?.getD [] = unitR l.length t) (fun (i, Gx) => l.length - i) ((0, G9)) (⟨Nat.zero_le _, Imm.le_refl _, fun t ht => by omega⟩) rfl ⟨rfl, rfl, rfl, rfl, trivial⟩ ⟨rfl, trivial⟩ (fun ⟨i, Gx⟩ => fun (hk : i ≤ l.length ∧ G9.le Gx ∧ ∀ t : Nat, t < i → os[t]?.getD [] = unitR l.length t) => ?_)
        obtain ⟨hi0, hgx, hall⟩ := hk
        replace hoA := hoA.up hgx
        rcases Nat.lt_or_ge i l.length with hil | hil
        · obtain ⟨l1, a1, a2, a3, a4⟩ := (hoB.up hgx).2 i (by omega)
          have hE1 := hoE.at (k := i) (by omega)
          refine Wc.gl 14 [1] ?_
          refine Wl.q rfl (Qy.at (α := SV) T.sl53 rfl rfl (by assumption) (by omega)) ?_
          refine Wl.q rfl (Qy.loadG T.one44 rfl (Arr.cell (by assumption) (by omega) 0 rfl rfl)) ?_
          refine Wl.gl 9 [] ?_
          refine Wl.call 20 rfl T.fn28 rfl (c28 _ l.length i (by omega) hil) (tags_of trivial) (fun v1 G2 Ho1 hle2 hp => ?_)
          obtain ⟨s2, l2, d2, rfl, hA2, hl2, hd2, hB2, rfl⟩ := hp
          refine Wl.gl 11 [] ?_
          refine Wl.re 66 rfl (show _ = Value.slice (orr[i]?.getD default).a l1.length (orr[i]?.getD default).c by rw [a1]; rfl) ?_
          refine Wl.call 20 rfl T.fn29 rfl (c29 _ _ _ _ _ l1 l2 (os[i]?.getD []) (unitR l.length i) (a3.up hle2) hA2 (a4.up hle2) hB2 (by rw [a4.1, hE1.1]; omega) (by omega) (2 + 3 * p.code.length) (by omega) hE1.2 ((unit_belowB _ _).mono (by omega))) (tags_of trivial) (fun v1 G3 Ho1 hle3 hp => ?_)
          obtain ⟨rfl, rfl, rfl⟩ := hp
          by_cases he : os[i]?.getD [] = unitR l.length i
          · have he2 : ¬ ¬ (os[i]?.getD [] = unitR l.length i) := fun h => h he
            refine Wl.q rfl (Qy.notD rfl) ?_
            refine Wl.ga 10 [0] ?_
            refine Ar.again ((i + 1, G3)) ?_ ?_ rfl ⟨rfl, rfl, rfl, rfl, trivial⟩ ⟨rfl, trivial⟩
            · refine ⟨by omega, Imm.le_trans hgx hle2, fun t ht => ?_⟩
              rcases Nat.lt_or_ge t i with h1 | h1
              · exact hall t h1
              · have e : t = i := by omega
                rw [e]; exact he
            · show l.length - (i + 1) < l.length - i
              omega
          · have hnI : ¬ InterpP p l := fun h => he (hiff.1 h i hil)
            refine Wl.q rfl (Qy.notD rfl) ?_
            refine Wl.ga 15 [1] ?_
            refine Ar.out2 (.inr rfl) (Ho := Hp.only _ []) rfl (.tmp rfl) (.tmp rfl) (Hp.sub_only _ _) ?_
            exact ⟨by rw [decide_eq_false hnI], rfl⟩
        · have hyI : InterpP p l := hiff.2 (fun t ht => hall t (by omega))
          refine Wc.ga 19 [0] ?_
          refine Ar.out2 (.inr rfl) (Ho := Hp.only _ []) rfl (.tmp rfl) (.tmp rfl) (Hp.sub_only _ _) ?_
          exact ⟨by rw [decide_eq_true hyI], rfl⟩
      · have hnI : ¬ InterpP p l := fun h => by have := h.2.2.2; rw [hno] at this; cases this
        refine Wl.ga 25 [1] ?_
        refine Ar.out2 (.inr rfl) (Ho := Hp.only _ []) rfl (.tmp rfl) (.tmp rfl) (Hp.sub_only _ _) ?_
        exact ⟨by rw [decide_eq_false hnI], rfl⟩
    · have hnI : ¬ InterpP p l := fun h => hO h.2.2.1
      refine Wc.gl 2 [] ?_
      refine Wl.box 0 rfl rfl rfl (fun b1 => ?_)
      refine Wl.gl 7 [] ?_
      refine Wl.call 1 rfl T.fn27 rfl (c27R _ a c l (by assumption) (by omega) hac hR hl15 hR.2.2.1) (tags_of trivial) (fun v1 G1 Ho1 hle1 hp => ?_)
      obtain ⟨gs1, gr1, gc1, rfl, hga1, hgb1, hgc1, rfl⟩ := hp
      replace hc := hc.up hle1
      replace ho := ho.up hle1
      replace ha := ha.up hle1
      refine Wl.gl 21 [0, 0] ?_
      refine Wl.call0 rfl T.fn18 rfl (c18R _ p _ _ _ _ (by assumption) (by assumption) hcl hol hP) ?_
      refine Wl.gl 24 [0, 0] ?_
      refine Wl.no 35 rfl (by first | assumption | omega) ?_
      refine Wl.ga 24 [0, 1] ?_
      refine Ar.out2 (.inr rfl) (Ho := Hp.only _ []) rfl (.tmp rfl) (.tmp rfl) (Hp.sub_only _ _) ?_
      all_goals exact ⟨by rw [decide_eq_false hnI], rfl⟩
  · have hnI : ¬ InterpP p l := fun h => hI h.2.1
    refine Wc.gl 2 [] ?_
    refine Wl.box 0 rfl rfl rfl (fun b1 => ?_)
    refine Wl.gl 7 [] ?_
    refine Wl.call 1 rfl T.fn27 rfl (c27R _ a c l (by assumption) (by omega) hac hR hl15 hR.2.2.1) (tags_of trivial) (fun v1 G1 Ho1 hle1 hp => ?_)
    obtain ⟨gs1, gr1, gc1, rfl, hga1, hgb1, hgc1, rfl⟩ := hp
    replace hc := hc.up hle1
    replace ho := ho.up hle1
    replace ha := ha.up hle1
    refine Wl.gl 21 [0, 0] ?_
    refine Wl.call0 rfl T.fn18 rfl (c18R _ p _ _ _ _ (by assumption) (by assumption) hcl hol hP) ?_
    refine Wl.gl 24 [0, 0] ?_
    refine Wl.yes 35 rfl (by first | assumption | omega) ?_
    refine Wl.ga 18 [1] ?_
    refine Ar.out2 (.inr rfl) (Ho := Hp.only _ []) rfl (.tmp rfl) (.tmp rfl) (Hp.sub_only _ _) ?_
    all_goals exact ⟨by rw [decide_eq_false hnI], rfl⟩
end Go.Proofs.YtbppmiimeccclaaGreat
set_option maxRecDepth 100000
set_option linter.unusedVariables false
set_option linter.unusedSectionVars false
set_option linter.unusedSimpArgs false
namespace Go.Proofs.YtbppmiimeccclaaGreat
open Go Go.Sl
set_option maxHeartbeats 4000000
attribute [local irreducible] RightL RightR gridR InterpP rightP
theorem right_live : RightL [⟨0, 1⟩] := by
  unfold RightL
  refine ⟨by simp, by simp, fun i hi => ?_, ?_⟩
  · have : i = 0 := by simp at hi; omega
    subst this
    show okP ⟨0, 1⟩
    unfold okP near
    simp
  · rintro ⟨j, hj, i, hi, _⟩
    simp at hj; omega
theorem c26L (G : Imm) (a : Option Addr) (c : Nat) (ha : Arr G a [(⟨0, 1⟩ : R2)]) (hc : 1 ≤ c) : Does Tryz.prog 26 [.slice a [(⟨0, 1⟩ : R2)].length c] G [] (fun v G' Ho => v = .bool true ∧ G' = G ∧ Ho = []) :=
  c26Y G a c _ ha (by simp) (by simpa using hc) right_live
theorem c6 (G : Imm) : Does Tryz.prog 6 [] G [] (fun v G' Ho => v = .bool true ∧ G' = G ∧ Ho = []) := by
  refine Does.enter Tryz.func6 rfl Tryz.ntmps6 rfl (fun w => ?_)
  refine Wc.gl 7 [] ?_
  refine Wl.q rfl (Qy.build (cs := [_, _]) T.st59 rfl rfl rfl) ?_
  refine Wl.lit (α := R2) 0 [⟨0, 1⟩] rfl T.sl26 T.el59 rfl rfl rfl rfl rfl (fun b1 => ?_)
  refine Wl.callB 1 rfl T.fn26 rfl (fun Gx hGx hgx => (c26L _ _ _ (by first | exact Arr.up (by assumption) hGx | exact Arr.nil _ | exact Arr.own hgx 0 rfl (by first | assumption | exact OwnA.made (by simp [maxLen]))) (by omega))) (fun v1 Gx1 G1 Ho1 hlx1 hp => ?_)
  obtain ⟨rfl, rfl, rfl⟩ := hp
  refine Wl.ga 4 [] ?_
  refine Ar.out1 (.inr rfl) (Ho := []) rfl (.tmp rfl) trivial ?_
  exact ⟨rfl, rfl, rfl⟩
theorem c6D (G : Imm) : Does Tryz.prog 6 [] G [] (fun v G' Ho => v = .bool (decide (1 = 1)) ∧ G' = G ∧ Ho = []) := c6 G
theorem c8Y (G : Imm) (a : Option Addr) (c : Nat) (l : List R2) (ha : Arr G a l) (h1 : l.length ≤ 1048576) (hc : l.length ≤ c) (hR : RightL l) : Does Tryz.prog 8 [.slice a l.length c] G [] (fun v G' Ho => v = .bool true ∧ G' = G ∧ Ho = []) :=
  (c8 G a c l ha h1 hc).mono fun v G' Ho _ ⟨b, e1, e2, e3, e4⟩ => ⟨by rw [e1, e2.2 ((right_iff l).1 hR)], e3, e4⟩
theorem c8N (G : Imm) (a : Option Addr) (c : Nat) (l : List R2) (ha : Arr G a l) (h1 : l.length ≤ 1048576) (hc : l.length ≤ c) (hR : ¬ RightL l) : Does Tryz.prog 8 [.slice a l.length c] G [] (fun v G' Ho => v = .bool false ∧ G' = G ∧ Ho = []) :=
  (c8 G a c l ha h1 hc).mono fun v G' Ho _ ⟨b, e1, e2, e3, e4⟩ => ⟨by rw [e1]; congr 1; cases b; { rfl }; exact absurd ((right_iff l).2 (e2.1 rfl)) hR, e3, e4⟩
section
variable (G : Imm) (p : PV) (ac ao : Option Addr) (cc co : Nat) (a : Option Addr) (c : Nat) (l : List R2) (hc : Arr G ac p.code) (ho : Arr G ao p.outs) (hcl : p.code.length ≤ 1099511627776) (hol : p.outs.length ≤ 1099511627776) (ha : Arr G a l) (hac : l.length ≤ c) (hl : l.length ≤ 1048576)
include hc ho hcl hol
theorem c9Y (hP : rightP p = true) : Does Tryz.prog 9 [.agg #[.int .i64 p.ins, .int .i64 p.regs, .slice ac p.code.length cc, .slice ao p.outs.length co]] G [] (fun v G' Ho => v = .bool true ∧ G' = G ∧ Ho = []) := by
  have h := c9 G p ac ao cc co hc ho hcl hol
  rw [decide_eq_true hP] at h; exact h
theorem c9N (hP : ¬ rightP p = true) : Does Tryz.prog 9 [.agg #[.int .i64 p.ins, .int .i64 p.regs, .slice ac p.code.length cc, .slice ao p.outs.length co]] G [] (fun v G' Ho => v = .bool false ∧ G' = G ∧ Ho = []) := by
  have h := c9 G p ac ao cc co hc ho hcl hol
  rw [decide_eq_false hP] at h; exact h
include ha hac hl
theorem c7T (hR : RightL l) (hP : rightP p = true) (hI : InterpP p l) : Does Tryz.prog 7 [.agg #[.int .i64 p.ins, .int .i64 p.regs, .slice ac p.code.length cc, .slice ao p.outs.length co], .slice a l.length c] G [] (fun v G' Ho => v = .tuple #[.bool true, .int .i64 0] ∧ Ho = []) := by
  have h := c7Y G p ac ao cc co a c l hc ho hcl hol ha hac hl hR hP
  rw [decide_eq_true hI] at h; exact h
theorem c7F (hR : RightL l) (hP : rightP p = true) (hI : ¬ InterpP p l) : Does Tryz.prog 7 [.agg #[.int .i64 p.ins, .int .i64 p.regs, .slice ac p.code.length cc, .slice ao p.outs.length co], .slice a l.length c] G [] (fun v G' Ho => v = .tuple #[.bool false, .int .i64 0] ∧ Ho = []) := by
  have h := c7Y G p ac ao cc co a c l hc ho hcl hol ha hac hl hR hP
  rw [decide_eq_false hI] at h; exact h
theorem c10T (hcl2 : p.code.length ≤ 16384) (h1 : 1 ≤ l.length) (h15 : l.length ≤ 15) (hr2 : ∀ i, i < l.length → okP (l[i]?.getD default)) (hI : InterpP p l) : Does Tryz.prog 10 [.agg #[.int .i64 p.ins, .int .i64 p.regs, .slice ac p.code.length cc, .slice ao p.outs.length co], .slice a l.length c] G [] (fun v G' Ho => v = .bool true ∧ Ho = []) := by
  have h := c10 G p ac ao a cc co c l hc ho ha hcl2 hol hac h1 h15 hr2
  rw [decide_eq_true hI] at h; exact h
theorem c10F (hcl2 : p.code.length ≤ 16384) (h1 : 1 ≤ l.length) (h15 : l.length ≤ 15) (hr2 : ∀ i, i < l.length → okP (l[i]?.getD default)) (hI : ¬ InterpP p l) : Does Tryz.prog 10 [.agg #[.int .i64 p.ins, .int .i64 p.regs, .slice ac p.code.length cc, .slice ao p.outs.length co], .slice a l.length c] G [] (fun v G' Ho => v = .bool false ∧ Ho = []) := by
  have h := c10 G p ac ao a cc co c l hc ho ha hcl2 hol hac h1 h15 hr2
  rw [decide_eq_false hI] at h; exact h
end
/-- the law's answer -/
def LawTrue (v : Value) (G' : Imm) (Ho : Hp) : Prop := v = .bool true ∧ Ho = []
section
variable (G : Imm) (p : PV) (ac ao : Option Addr) (cc co : Nat) (a : Option Addr) (c : Nat) (l : List R2) (hc : Arr G ac p.code) (ho : Arr G ao p.outs) (hcl : p.code.length ≤ 1048576) (hol : p.outs.length ≤ 1048576) (ha : Arr G a l) (hac : l.length ≤ c) (hl : l.length ≤ 1048576)
include hc ho hcl hol ha hac hl
theorem c3L (hbig : 300 < l.length ∨ 400 < p.code.length ∨ 400 < p.outs.length) : Does Tryz.prog 3 [.agg #[.int .i64 p.ins, .int .i64 p.regs, .slice ac p.code.length cc, .slice ao p.outs.length co], .slice a l.length c] G [] LawTrue := by
  refine Does.enter Tryz.func3 rfl Tryz.ntmps3 rfl (fun w => ?_)
  by_cases h1 : 300 < l.length
  · refine Wc.gl 2 [] ?_
    refine Wl.box 0 rfl rfl rfl (fun b1 => ?_)
    refine Wl.gl 6 [] ?_
    refine Wl.call0 rfl T.fn6 rfl (c6 _) ?_
    refine Wl.gl 13 [0] ?_
    refine Wl.yes 14 rfl (by first | assumption | omega) ?_
    refine Wl.ga 21 [1] ?_
    refine Ar.out1 (.inr rfl) (Ho := Hp.only _ []) rfl (.tmp rfl) (Hp.sub_only _ _) ?_
    all_goals exact ⟨rfl, rfl⟩
  by_cases h2 : 400 < p.code.length
  · refine Wc.gl 2 [] ?_
    refine Wl.box 0 rfl rfl rfl (fun b1 => ?_)
    refine Wl.gl 6 [] ?_
    refine Wl.call0 rfl T.fn6 rfl (c6 _) ?_
    refine Wl.gl 13 [0] ?_
    refine Wl.no 14 rfl (by first | assumption | omega) ?_
    refine Wl.ll0 10 [0] ?_
    refine Wl.yes 20 rfl (by first | assumption | omega) ?_
    refine Wl.ga 15 [1] ?_
    refine Ar.out1 (.inr rfl) (Ho := Hp.only _ []) rfl (.tmp rfl) (Hp.sub_only _ _) ?_
    all_goals exact ⟨rfl, rfl⟩
  have h3 : 400 < p.outs.length := by omega
  refine Wc.gl 2 [] ?_
  refine Wl.box 0 rfl rfl rfl (fun b1 => ?_)
  refine Wl.gl 6 [] ?_
  refine Wl.call0 rfl T.fn6 rfl (c6 _) ?_
  refine Wl.gl 13 [0] ?_
  refine Wl.no 14 rfl (by first | assumption | omega) ?_
  refine Wl.ll0 10 [0] ?_
  refine Wl.no 20 rfl (by first | assumption | omega) ?_
  refine Wl.ga 19 [0, 1] ?_
  refine Ar.out1 (.inr rfl) (Ho := Hp.only _ []) rfl (.tmp rfl) (Hp.sub_only _ _) ?_
  all_goals exact ⟨rfl, rfl⟩
theorem c3W (g1 : ¬ 300 < l.length) (g2 : ¬ 400 < p.code.length) (g3 : ¬ 400 < p.outs.length) (hR : ¬ RightL l) : Does Tryz.prog 3 [.agg #[.int .i64 p.ins, .int .i64 p.regs, .slice ac p.code.length cc, .slice ao p.outs.length co], .slice a l.length c] G [] LawTrue := by
  refine Does.enter Tryz.func3 rfl Tryz.ntmps3 rfl (fun w => ?_)
  by_cases hP : rightP p = true
  · skip
    refine Wc.gl 2 [] ?_
    refine Wl.box 0 rfl rfl rfl (fun b1 => ?_)
    refine Wl.gl 6 [] ?_
    refine Wl.call0 rfl T.fn6 rfl (c6 _) ?_
    refine Wl.gl 13 [0] ?_
    refine Wl.no 14 rfl (by first | assumption | omega) ?_
    refine Wl.ll0 10 [0] ?_
    refine Wl.no 20 rfl (by first | assumption | omega) ?_
    refine Wl.gl 18 [0, 0, 0] ?_
    refine Wl.call 1 rfl T.fn7 rfl (c7W _ p _ _ _ _ _ _ l (by assumption) hac hl hR) (tags_of trivial) (fun v1 G1 Ho1 hle1 hp => ?_)
    obtain ⟨rfl, rfl⟩ := hp
    replace hc := hc.up hle1
    replace ho := ho.up hle1
    replace ha := ha.up hle1
    refine Wl.gl 10 [] ?_
    refine Wl.call0 rfl T.fn8 rfl (c8N _ _ _ l (by assumption) hl hac hR) ?_
    refine Wl.gl 6 [0] ?_
    refine Wl.call0 rfl T.fn9 rfl (c9Y _ p _ _ _ _ (by assumption) (by assumption) (by omega) (by omega) hP) ?_
    refine Wl.gl 46 [1] ?_
    refine Wl.yes 59 rfl (by first | assumption | omega) ?_
    refine Wl.want rfl rfl ?_
    refine Wl.call0 rfl T.fn6 rfl (c6 _) ?_
    refine Wl.ga 6 [] ?_
    refine Ar.out1 (.inr rfl) (Ho := Hp.only _ []) rfl (.tmp rfl) (Hp.sub_only _ _) ?_
    all_goals exact ⟨rfl, rfl⟩
  · skip
    refine Wc.gl 2 [] ?_
    refine Wl.box 0 rfl rfl rfl (fun b1 => ?_)
    refine Wl.gl 6 [] ?_
    refine Wl.call0 rfl T.fn6 rfl (c6 _) ?_
    refine Wl.gl 13 [0] ?_
    refine Wl.no 14 rfl (by first | assumption | omega) ?_
    refine Wl.ll0 10 [0] ?_
    refine Wl.no 20 rfl (by first | assumption | omega) ?_
    refine Wl.gl 18 [0, 0, 0] ?_
    refine Wl.call 1 rfl T.fn7 rfl (c7W _ p _ _ _ _ _ _ l (by assumption) hac hl hR) (tags_of trivial) (fun v1 G1 Ho1 hle1 hp => ?_)
    obtain ⟨rfl, rfl⟩ := hp
    replace hc := hc.up hle1
    replace ho := ho.up hle1
    replace ha := ha.up hle1
    refine Wl.gl 10 [] ?_
    refine Wl.call0 rfl T.fn8 rfl (c8N _ _ _ l (by assumption) hl hac hR) ?_
    refine Wl.gl 6 [0] ?_
    refine Wl.call0 rfl T.fn9 rfl (c9N _ p _ _ _ _ (by assumption) (by assumption) (by omega) (by omega) hP) ?_
    refine Wl.gl 46 [1] ?_
    refine Wl.yes 59 rfl (by first | assumption | omega) ?_
    refine Wl.want rfl rfl ?_
    refine Wl.call0 rfl T.fn6 rfl (c6 _) ?_
    refine Wl.ga 6 [] ?_
    refine Ar.out1 (.inr rfl) (Ho := Hp.only _ []) rfl (.tmp rfl) (Hp.sub_only _ _) ?_
    all_goals exact ⟨rfl, rfl⟩
theorem c3P (g1 : ¬ 300 < l.length) (g2 : ¬ 400 < p.code.length) (g3 : ¬ 400 < p.outs.length) (hR : RightL l) (hP : ¬ rightP p = true) : Does Tryz.prog 3 [.agg #[.int .i64 p.ins, .int .i64 p.regs, .slice ac p.code.length cc, .slice ao p.outs.length co], .slice a l.length c] G [] LawTrue := by
  refine Does.enter Tryz.func3 rfl Tryz.ntmps3 rfl (fun w => ?_)
  refine Wc.gl 2 [] ?_
  refine Wl.box 0 rfl rfl rfl (fun b1 => ?_)
  refine Wl.gl 6 [] ?_
  refine Wl.call0 rfl T.fn6 rfl (c6 _) ?_
  refine Wl.gl 13 [0] ?_
  refine Wl.no 14 rfl (by first | assumption | omega) ?_
  refine Wl.ll0 10 [0] ?_
  refine Wl.no 20 rfl (by first | assumption | omega) ?_
  refine Wl.gl 18 [0, 0, 0] ?_
  refine Wl.call 1 rfl T.fn7 rfl (c7P _ p _ _ _ _ _ _ l (by assumption) (by assumption) (by omega) (by omega) (by assumption) hac hl hR hP) (tags_of trivial) (fun v1 G1 Ho1 hle1 hp => ?_)
  obtain ⟨rfl, rfl⟩ := hp
  replace hc := hc.up hle1
  replace ho := ho.up hle1
  replace ha := ha.up hle1
  refine Wl.gl 10 [] ?_
  refine Wl.call0 rfl T.fn8 rfl (c8Y _ _ _ l (by assumption) hl hac hR) ?_
  refine Wl.gl 6 [0] ?_
  refine Wl.call0 rfl T.fn9 rfl (c9N _ p _ _ _ _ (by assumption) (by assumption) (by omega) (by omega) hP) ?_
  refine Wl.gl 34 [1] ?_
  refine Wl.yes 50 rfl (by first | assumption | omega) ?_
  refine Wl.ll0 3 [] ?_
  refine Wl.passU rfl rfl rfl ?_
  refine Wl.passU rfl rfl rfl ?_
  refine Wl.ll0 6 [] ?_
  refine Wl.call0 rfl T.fn6 rfl (c6 _) ?_
  refine Wl.ga 6 [] ?_
  refine Ar.out1 (.inr rfl) (Ho := Hp.only _ []) rfl (.tmp rfl) (Hp.sub_only _ _) ?_
  all_goals exact ⟨rfl, rfl⟩
theorem c3Y (g1 : ¬ 300 < l.length) (g2 : ¬ 400 < p.code.length) (g3 : ¬ 400 < p.outs.length) (hR : RightL l) (hP : rightP p = true) : Does Tryz.prog 3 [.agg #[.int .i64 p.ins, .int .i64 p.regs, .slice ac p.code.length cc, .slice ao p.outs.length co], .slice a l.length c] G [] LawTrue := by
  have hrr : 1 ≤ l.length ∧ l.length ≤ 15 ∧ (∀ i, i < l.length → okP (l[i]?.getD default)) := by
    unfold RightL at hR; exact ⟨hR.1, hR.2.1, hR.2.2.1⟩
  obtain ⟨hr1, hr15, hr2⟩ := hrr
  refine Does.enter Tryz.func3 rfl Tryz.ntmps3 rfl (fun w => ?_)
  by_cases hI : InterpP p l
  · skip
    refine Wc.gl 2 [] ?_
    refine Wl.box 0 rfl rfl rfl (fun b1 => ?_)
    refine Wl.gl 6 [] ?_
    refine Wl.call0 rfl T.fn6 rfl (c6D _) ?_
    refine Wl.q rfl (Qy.notD rfl) ?_
    refine Wl.gl 12 [0] ?_
    refine Wl.no 14 rfl (by first | assumption | omega) ?_
    refine Wl.ll0 10 [0] ?_
    refine Wl.no 20 rfl (by first | assumption | omega) ?_
    refine Wl.gl 18 [0, 0, 0] ?_
    refine Wl.call 1 rfl T.fn7 rfl (c7T _ p _ _ _ _ _ _ l (by assumption) (by assumption) (by omega) (by omega) (by assumption) hac hl hR hP hI) (tags_of trivial) (fun v1 G1 Ho1 hle1 hp => ?_)
    obtain ⟨rfl, rfl⟩ := hp
    replace hc := hc.up hle1
    replace ho := ho.up hle1
    replace ha := ha.up hle1
    refine Wl.gl 10 [] ?_
    refine Wl.call0 rfl T.fn8 rfl (c8Y _ _ _ l (by assumption) hl hac hR) ?_
    refine Wl.gl 6 [0] ?_
    refine Wl.call0 rfl T.fn9 rfl (c9Y _ p _ _ _ _ (by assumption) (by assumption) (by omega) (by omega) hP) ?_
    refine Wl.gl 24 [0] ?_
    refine Wl.yes 64 rfl (by first | assumption | omega) ?_
    refine Wl.ll0 7 [0] ?_
    refine Wl.call 1 rfl T.fn10 rfl (c10T _ p _ _ _ _ _ _ l (by assumption) (by assumption) (by omega) (by omega) (by assumption) hac hl (by omega) hr1 hr15 hr2 hI) (tags_of trivial) (fun v2 G2 Ho2 hle2 hp => ?_)
    obtain ⟨rfl, rfl⟩ := hp
    replace hc := hc.up hle2
    replace ho := ho.up hle2
    replace ha := ha.up hle2
    refine Wl.want rfl rfl ?_
    refine Wl.q rfl (Qy.eqlB T.u4 rfl rfl) ?_
    refine Wl.ll0 2 [] ?_
    apply Wl.joinAnd 2 71 73 rfl
    intro hg1
    refine Wl.want rfl rfl ?_
    refine Wl.call0 rfl T.fn6 rfl (c6D _) ?_
    refine Wl.q rfl (Qy.pick rfl rfl) ?_
    exact Wl.back 2 0 rfl rfl rfl rfl rfl
    intro hg1
    refine Wl.ll0 2 [] ?_
    exact Wl.back 2 0 rfl rfl rfl rfl rfl
    refine Wl.ga 4 [] ?_
    refine Ar.out1 (.inr rfl) (Ho := Hp.only _ []) rfl (.tmp rfl) (Hp.sub_only _ _) ?_
    all_goals exact ⟨by simp, rfl⟩
  · skip
    refine Wc.gl 2 [] ?_
    refine Wl.box 0 rfl rfl rfl (fun b1 => ?_)
    refine Wl.gl 6 [] ?_
    refine Wl.call0 rfl T.fn6 rfl (c6D _) ?_
    refine Wl.q rfl (Qy.notD rfl) ?_
    refine Wl.gl 12 [0] ?_
    refine Wl.no 14 rfl (by first | assumption | omega) ?_
    refine Wl.ll0 10 [0] ?_
    refine Wl.no 20 rfl (by first | assumption | omega) ?_
    refine Wl.gl 18 [0, 0, 0] ?_
    refine Wl.call 1 rfl T.fn7 rfl (c7F _ p _ _ _ _ _ _ l (by assumption) (by assumption) (by omega) (by omega) (by assumption) hac hl hR hP hI) (tags_of trivial) (fun v1 G1 Ho1 hle1 hp => ?_)
    obtain ⟨rfl, rfl⟩ := hp
    replace hc := hc.up hle1
    replace ho := ho.up hle1
    replace ha := ha.up hle1
    refine Wl.gl 10 [] ?_
    refine Wl.call0 rfl T.fn8 rfl (c8Y _ _ _ l (by assumption) hl hac hR) ?_
    refine Wl.gl 6 [0] ?_
    refine Wl.call0 rfl T.fn9 rfl (c9Y _ p _ _ _ _ (by assumption) (by assumption) (by omega) (by omega) hP) ?_
    refine Wl.gl 24 [0] ?_
    refine Wl.yes 64 rfl (by first | assumption | omega) ?_
    refine Wl.ll0 7 [0] ?_
    refine Wl.call 1 rfl T.fn10 rfl (c10F _ p _ _ _ _ _ _ l (by assumption) (by assumption) (by omega) (by omega) (by assumption) hac hl (by omega) hr1 hr15 hr2 hI) (tags_of trivial) (fun v2 G2 Ho2 hle2 hp => ?_)
    obtain ⟨rfl, rfl⟩ := hp
    replace hc := hc.up hle2
    replace ho := ho.up hle2
    replace ha := ha.up hle2
    refine Wl.want rfl rfl ?_
    refine Wl.q rfl (Qy.eqlB T.u4 rfl rfl) ?_
    refine Wl.ll0 2 [] ?_
    apply Wl.joinAnd 2 71 73 rfl
    intro hg1
    refine Wl.want rfl rfl ?_
    refine Wl.call0 rfl T.fn6 rfl (c6D _) ?_
    refine Wl.q rfl (Qy.pick rfl rfl) ?_
    exact Wl.back 2 0 rfl rfl rfl rfl rfl
    intro hg1
    refine Wl.ll0 2 [] ?_
    exact Wl.back 2 0 rfl rfl rfl rfl rfl
    refine Wl.ga 4 [] ?_
    refine Ar.out1 (.inr rfl) (Ho := Hp.only _ []) rfl (.tmp rfl) (Hp.sub_only _ _) ?_
    all_goals exact ⟨by simp, rfl⟩
theorem c3 : Does Tryz.prog 3 [.agg #[.int .i64 p.ins, .int .i64 p.regs, .slice ac p.code.length cc, .slice ao p.outs.length co], .slice a l.length c] G [] LawTrue := by
  by_cases hbig : 300 < l.length ∨ 400 < p.code.length ∨ 400 < p.outs.length
  · exact c3L G p ac ao cc co a c l hc ho hcl hol ha hac hl hbig
  have g1 : ¬ 300 < l.length := by omega
  have g2 : ¬ 400 < p.code.length := by omega
  have g3 : ¬ 400 < p.outs.length := by omega
  by_cases hR : RightL l
  · by_cases hP : rightP p = true
    · exact c3Y G p ac ao cc co a c l hc ho hcl hol ha hac hl g1 g2 g3 hR hP
    · exact c3P G p ac ao cc co a c l hc ho hcl hol ha hac hl g1 g2 g3 hR hP
  · exact c3W G p ac ao cc co a c l hc ho hcl hol ha hac hl g1 g2 g3 hR
end
end Go.Proofs.YtbppmiimeccclaaGreat
set_option maxRecDepth 100000
set_option linter.unusedVariables false
namespace Go.Proofs.YtbppmiimeccclaaGreat
open Go Go.Sl
set_option maxHeartbeats 4000000
attribute [local irreducible] madeP codeP InterpP FewP RightL OrderP
theorem c4N (G : Imm) (a : Option Addr) (c : Nat) (l : List R2) (ha : Arr G a l) (hac : l.length ≤ c) (hl : l.length ≤ 1048576) (hR : ¬ RightL l) :
    Does Tryz.prog 4 [.slice a l.length c] G [] LawTrue := by
  refine Does.enter Tryz.func4 rfl Tryz.ntmps4 rfl (fun w => ?_)
  refine Wc.gl 8 [] ?_
  refine Wl.call0 rfl T.fn6 rfl (c6 _) ?_
  refine Wl.gc 14 [0] ?_
  refine Wc.cond rfl (fun hc1 => ?_) (fun hc1 => ?_)
  refine Wc.ga 7 [] ?_
  refine Ar.out1 (.inr rfl) (Ho := Hp.only _ []) rfl (.tmp rfl) (Hp.sub_only _ _) ?_
  rotate_left
  refine Wc.gl 5 [] ?_
  refine Wl.call 0 rfl T.fn11 rfl (c11N _ a c l (by assumption) hac (by omega) hR) (tags_of trivial) (fun v1 G1 Ho1 hle1 hp => ?_)
  obtain ⟨rfl, rfl⟩ := hp
  replace ha := ha.up hle1
  refine Wl.ll0 4 [] ?_
  refine Wl.alloc 0 rfl T.zero25 (fun b1 => ?_)
  refine Wl.gl 8 [0] ?_
  refine Wl.call0 rfl T.fn8 rfl (c8N _ a c l (by assumption) (by omega) hac hR) ?_
  refine Wl.gl 14 [1, 0] ?_
  refine Wl.call0 rfl T.fn12 rfl (c12 _ ⟨0, 0, [], []⟩ none none 0 0) ?_
  refine Wl.q rfl (Qy.move rfl) ?_
  apply Wl.joinAnd 4 28 32 rfl
  intro hg1
  refine Wl.ll0 7 [] ?_
  exact Wl.back 4 0 rfl rfl rfl rfl rfl
  intro hg1
  refine Wl.ll0 4 [] ?_
  exact Wl.back 4 0 rfl rfl rfl rfl rfl
  refine Wl.q rfl (Qy.move rfl) ?_
  apply Wl.joinAnd 3 33 36 rfl
  intro hg1
  refine Wl.ll0 5 [] ?_
  exact Wl.back 3 0 rfl rfl rfl rfl rfl
  intro hg1
  refine Wl.ll0 3 [] ?_
  exact Wl.back 3 0 rfl rfl rfl rfl rfl
  refine Wl.q rfl (Qy.move rfl) ?_
  apply Wl.joinAnd 2 37 39 rfl
  intro hg1
  refine Wl.want rfl rfl ?_
  refine Wl.call0 rfl T.fn6 rfl (c6 _) ?_
  refine Wl.q rfl (Qy.pick rfl rfl) ?_
  refine Wl.re 39 rfl (Go.Sl.boolDec _) ?_
  exact Wl.back 3 0 rfl rfl rfl rfl rfl
  intro hg1
  refine Wl.ll0 2 [] ?_
  exact Wl.back 2 0 rfl rfl rfl rfl rfl
  refine Wl.ga 5 [] ?_
  refine Ar.out1 (.inr rfl) (Ho := Hp.only _ []) rfl (.tmp rfl) (Hp.sub_only _ _) ?_
  rotate_left
  all_goals exact ⟨rfl, rfl⟩
theorem c14T (G : Imm) (a : Option Addr) (c : Nat) (o : List Int) (n : Nat) (ha : Arr G a o) (h1 : o.length ≤ 1048576) (hn : n ≤ 1048576) (hO : OrderP o n) :
    Does Tryz.prog 14 [.slice a o.length c, .int .i64 (n : Int)] G [] (fun v G' Ho => v = .bool true ∧ G' = G ∧ Ho = []) := by
  have h := c14 G a c o n ha h1 hn
  rw [decide_eq_true hO] at h; exact h
theorem c4Y (G : Imm) (a : Option Addr) (c : Nat) (l : List R2) (ha : Arr G a l) (hac : l.length ≤ c) (hl : l.length ≤ 1048576) (hR : RightL l) :
    Does Tryz.prog 4 [.slice a l.length c] G [] LawTrue := by
  have hrr : 1 ≤ l.length ∧ l.length ≤ 15 ∧ (∀ i, i < l.length → okP (l[i]?.getD default)) := by
    unfold RightL at hR; exact ⟨hR.1, hR.2.1, hR.2.2.1⟩
  obtain ⟨hr1, hr15, hr2⟩ := hrr
  refine Does.enter Tryz.func4 rfl Tryz.ntmps4 rfl (fun w => ?_)
  refine Wc.gl 8 [] ?_
  refine Wl.call0 rfl T.fn6 rfl (c6 _) ?_
  refine Wl.gc 14 [0] ?_
  refine Wc.cond rfl (fun hc1 => ?_) (fun hc1 => ?_)
  refine Wc.ga 7 [] ?_
  refine Ar.out1 (.inr rfl) (Ho := Hp.only _ []) rfl (.tmp rfl) (Hp.sub_only _ _) ?_
  rotate_left
  refine Wc.gl 5 [] ?_
  rotate_left
  · exact ⟨rfl, rfl⟩
  refine Wl.call 20 rfl T.fn11 rfl (c11Y _ a c l ha hac hl hR) (tags_of trivial) (fun v1 G1 Ho1 hle1 hp => ?_)
  obtain ⟨o, bc, bo, sa, dc, do_, sc, hO, hlen, rfl, hA1, hA2, hA3, hosc, rfl⟩ := hp
  have hI := interp_made hR hO
  have hcl : (madeP l o).code.length ≤ 16384 := (right_facts (made_right hR hO)).2.2.2.1
  have hoo : (madeP l o).outs.length ≤ 128 := (right_facts (made_right hR hO)).2.2.2.2.2.1
  have hol : o.length = l.length := by unfold OrderP at hO; exact hO.1
  replace ha := ha.up hle1
  refine Wl.ll0 4 [] ?_
  refine Wl.alloc 0 rfl T.zero25 (fun b1 => ?_)
  refine Wl.gl 8 [0] ?_
  refine Wl.call0 rfl T.fn8 rfl (c8Y _ a c l (by assumption) (by omega) hac hR) ?_
  refine Wl.gl 16 [0] ?_
  refine Wl.call 30 rfl T.fn13 rfl (c13Y _ a c l ha hac hR) (tags_of trivial) (fun v2 G2 Ho2 hle2 hp => ?_)
  obtain ⟨yc, yo, yd, ye, y1, y2, rfl, hy1, hy2, rfl⟩ := hp
  replace ha := ha.up hle2
  replace hA1 := hA1.up hle2
  replace hA2 := hA2.up hle2
  replace hA3 := hA3.up hle2
  generalize madeP l (idx l.length) = q at *
  generalize madeP l o = p at *
  refine Wl.ll0 3 [] ?_
  refine Wl.alloc 32 rfl T.zero25 (fun b2 => ?_)
  refine Wl.gl 8 [32, 0] ?_
  refine Wl.call 33 rfl T.fn10 rfl (c10T _ p _ _ _ _ _ _ l (by assumption) (by assumption) (by omega) (by omega) (by assumption) hac (by omega) (by omega) hr1 hr15 hr2 hI) (tags_of trivial) (fun v3 G3 Ho3 hle3 hp => ?_)
  obtain ⟨rfl, rfl⟩ := hp
  replace ha := ha.up hle3
  replace hA3 := hA3.up hle3
  replace hA1 := hA1.up hle3
  replace hA2 := hA2.up hle3
  refine Wl.gl 8 [] ?_
  refine Wl.call0 rfl T.fn14 rfl (c14T _ _ _ o l.length (by assumption) (by omega) (by omega) hO) ?_
  refine Wl.gl 17 [] ?_
  refine Wl.yes 60 rfl (by first | assumption | omega) ?_
  refine Wl.ll0 6 [] ?_
  refine Wl.yes 64 rfl (by first | assumption | omega) ?_
  refine Wl.ga 19 [0, 32] ?_
  refine Ar.out1 (.inr rfl) (Ho := Hp.only _ []) rfl (.tmp rfl) (Hp.sub_only _ _) ?_
  exact ⟨by rw [decide_eq_true (show (p.code.length : Int) ≤ q.code.length by omega)], rfl⟩
theorem c4 (G : Imm) (a : Option Addr) (c : Nat) (l : List R2) (ha : Arr G a l) (hac : l.length ≤ c) (hl : l.length ≤ 1048576) :
    Does Tryz.prog 4 [.slice a l.length c] G [] LawTrue := by
  by_cases hR : RightL l
  · exact c4Y G a c l ha hac hl hR
  · exact c4N G a c l ha hac hl hR
end Go.Proofs.YtbppmiimeccclaaGreat
