/- Parts of the proof (part 6): what the rows' text needs of the texts that lead to it. -/
import Derived.Test.YtbppmiimeccclaaMNe
set_option maxRecDepth 100000
set_option linter.unusedVariables false
namespace Go.Proofs.Ytbppmiimeccclaa
open Go Go.Sl
set_option maxHeartbeats 4000000
theorem backAll_le (n : Int) (wh : List R2) : ∀ (o : List Int) (t : Nat), (backAll n wh (o.drop t)).length ≤ (backAll n wh o).length
  | [], t => by rw [List.drop_nil]; exact Nat.le_refl _
  | k :: o, 0 => Nat.le_refl _
  | [k], t + 1 => by rw [List.drop_succ_cons, List.drop_nil]; exact Nat.zero_le _
  | k :: i :: left, t + 1 => by
    rw [List.drop_succ_cons]
    refine Nat.le_trans (backAll_le n wh (i :: left) t) ?_
    show _ ≤ (backAll n wh (i :: left) ++ _).length
    rw [List.length_append]; omega
theorem backAll_cons (n : Int) (wh : List R2) (k : Int) {rest : List Int} (h : 1 ≤ rest.length) : backAll n wh (k :: rest) = backAll n wh rest ++ backI n wh k rest.length := by
  cases rest with
  | nil => simp at h
  | cons i left => rfl
theorem arr_drop {α : Type} [Cells α] {G : Imm} {a : Option Addr} {c : Nat} {l : List α} (h : Arr G a l) (n : Nat) (hn : n ≤ l.length) (hc : l.length ≤ c) : Arr G (subA a c n (Cells.sz α)) (l.drop n) := by
  have h1 := SlG.sub h hn hc
  unfold Arr
  have e : flat l = flat (l.take n) ++ flat (l.drop n) := by rw [← flat_append, List.take_append_drop]
  have e2 : (flat l).drop (n * Cells.sz α) = flat (l.drop n) := by
    rw [e, List.drop_left' (by rw [flat_length, List.length_take, Nat.min_eq_left hn])]
  rw [← e2, List.length_drop]; exact h1
def outsP (n t : Nat) : List Int := (List.range t).map fun j : Nat => (n : Int) + j
theorem outsP_len (n t : Nat) : (outsP n t).length = t := by unfold outsP; rw [List.length_map, List.length_range]
theorem outsP_succ (n t : Nat) : outsP n (t + 1) = outsP n t ++ [(n : Int) + t] := by unfold outsP; rw [List.range_succ, List.map_append]; rfl
theorem c125n (G : Imm) (n b : Nat) (ac : Option Addr) (cc : Nat) (code : List Sl.Instr) (j : List Value) (wa : Option Addr) (wc : Nat) (wh : List R2) (k : Int) (la : Option Addr) (lc m : Nat) (left : List Int) (e : Nat) (hn : wh.length = n) (hm : left.length = m) (ho : OwnA ac cc code j) (hw : Arr G wa wh) (hla : Arr G la left)
    (hwl : n ≤ 15) (hk : 0 ≤ k ∧ k < n) (hll : m ≤ 15) (hleft : ∀ i ∈ left, 0 ≤ i ∧ i < n) (he : e ≤ 14) (hok : ∀ i, i < n → okP (wh[i]?.getD default)) (hl : (code ++ awayI n wh k e left).length ≤ 1048576) :
    Does Try.prog 125 [.pointer (some ⟨b, 0, none⟩), .int .i64 k, .slice la m lc, .int .i64 e] G [(0, some b, .cells #[.int .i64 n, .slice ac code.length cc, .slice wa n wc] 175), (1, ac.map (·.block), Row 72 code j)]
      (fun v G' Ho => v = .tuple #[] ∧ G' = G ∧ ∃ (a' : Option Addr) (c' : Nat) (j' : List Value), OwnA a' c' (code ++ awayI n wh k e left) j' ∧ Ho = [(0, some b, .cells #[.int .i64 n, .slice a' (code ++ awayI n wh k e left).length c', .slice wa n wc] 175), (1, a'.map (·.block), Row 72 (code ++ awayI n wh k e left) j')]) := by
  subst hn hm
  exact c125 G b ac cc code j wa wc wh k la lc left e ho hw hla hwl hk hll (fun i hi => hleft _ (by rw [List.getElem?_eq_getElem hi]; exact List.getElem_mem _)) he hok hl
theorem c128n (G : Imm) (n b : Nat) (ac : Option Addr) (cc : Nat) (code : List Sl.Instr) (j : List Value) (wa : Option Addr) (wc : Nat) (wh : List R2) (k : Int) (e : Nat) (hn : wh.length = n) (ho : OwnA ac cc code j) (hw : Arr G wa wh)
    (hwl : n ≤ 15) (hk : 0 ≤ k ∧ k < n) (he1 : 1 ≤ e) (he : e < n) (hok : okP (wh[k.toNat]?.getD default)) (hl : (code ++ backI n wh k e).length ≤ 1048576) :
    Does Try.prog 128 [.pointer (some ⟨b, 0, none⟩), .int .i64 k, .int .i64 e] G [(0, some b, .cells #[.int .i64 n, .slice ac code.length cc, .slice wa n wc] 175), (1, ac.map (·.block), Row 72 code j)]
      (fun v G' Ho => v = .tuple #[] ∧ G' = G ∧ ∃ (a' : Option Addr) (c' : Nat) (j' : List Value), OwnA a' c' (code ++ backI n wh k e) j' ∧ Ho = [(0, some b, .cells #[.int .i64 n, .slice a' (code ++ backI n wh k e).length c', .slice wa n wc] 175), (1, a'.map (·.block), Row 72 (code ++ backI n wh k e) j')]) := by
  subst hn
  exact c128 G b ac cc code j wa wc wh k e ho hw hwl hk he1 he hok hl
theorem c83 (G : Imm) (a : Option Addr) (c : Nat) (l : List R2) (oa : Option Addr) (oc : Nat) (o : List Int) (ha : Arr G a l) (hoa : Arr G oa o) (hac : l.length ≤ c) (hocc : o.length ≤ oc) (hR : RightL l) (hO : OrderP o l.length) :
    Does Try.prog 83 [.slice a l.length c, .slice oa o.length oc] G [] (fun v G' Ho => ∃ (bc bo : Option Addr) (dc do_ : Nat) (j1 j2 : List Value), v = .agg #[.int .i64 (madeP l o).ins, .int .i64 (madeP l o).regs, .slice bc (madeP l o).code.length dc, .slice bo (madeP l o).outs.length do_] ∧ OwnA bc dc (madeP l o).code j1 ∧ OwnA bo do_ (madeP l o).outs j2 ∧
      Ho = [(0, bc.map (·.block), Row 72 (madeP l o).code j1), (1, bo.map (·.block), Row 3 (madeP l o).outs j2)]) := by
  have hgood := code_good hR hO
  have hok : ∀ i, i < l.length → okP (l[i]?.getD default) := hR.2.2.1
  have hl1 := hR.1
  have hl15 := hR.2.1
  obtain ⟨o1, o2, o3⟩ := hO
  refine Does.enter Try.func83 rfl Try.ntmps83 rfl (fun w => ?_)
  refine Wc.seq ?_
  refine Wc.region rfl ?_
  refine Wl.alloc 0 rfl T.zero25 (fun b1 => ?_)
  refine Wl.done ?_
  refine Ar.next ?_
  refine Wc.seq ?_
  refine Wc.region rfl ?_
  refine Wl.q rfl (Qy.move rfl) ?_
  refine Wl.q rfl (Qy.len T.sl47 rfl) ?_
  refine Wl.q rfl (Qy.assign rfl) ?_
  refine Wl.done ?_
  refine Ar.next ?_
  refine Wc.seq ?_
  refine Wc.region rfl ?_
  refine Wl.q rfl (Qy.move rfl) ?_
  refine Wl.q rfl (Qy.build (cs := [_, _, _]) T.st175 rfl rfl rfl) ?_
  refine Wl.box 1 rfl rfl rfl (fun b2 => ?_)
  refine Wl.q rfl (Qy.assign rfl) ?_
  refine Wl.done ?_
  refine Ar.next ?_
  refine Wc.seq ?_
  refine Wc.seq ?_
  refine Wc.region rfl ?_
  refine Wl.q rfl (Qy.move rfl) ?_
  refine Wl.q rfl (Qy.len T.sl47 rfl) ?_
  refine Wl.q rfl (Qy.move rfl) ?_
  refine Wl.done ?_
  refine Ar.next ?_
  refine Wc.block ?_
  refine Wc.nilRow 2 (Row 72 ([] : List Sl.Instr) []) (Wc.nilRow 3 (Row 75 ([] : List R2) []) ?_)
  generalize hN : normAll (l.length - 1) l 0 = N at *
  have hNl : N.length ≤ 16384 := by
    have := hgood.len
    unfold codeP at this
    rw [hN, List.length_append] at this; omega
  refine Wc.loop (ι := Nat × List Sl.Instr × (Option Addr × Nat × List Value) × List R2 × (Option Addr × Nat × List Value)) (fun (k, cd, (u, d, q), wh, (wa, wd, wq)) => ([(25, .int .i64 (k : Int)), (5, .int .i64 l.length), (6, .pointer (some ⟨b2, 0, none⟩)), (1, .slice oa o.length oc), (24, Go.Value.int Go.IntKind.i64 (↑(List.length l) : Int)), (23, Go.Value.slice a (List.length l) c), (4, Go.Value.pointer (Option.some (Go.Addr.mk b1 0 Option.none)))], [(1, some b2, .cells #[.int .i64 l.length, .slice u cd.length d, .slice wa wh.length wd] 175), (2, u.map (·.block), Row 72 cd q), (3, wa.map (·.block), Row 75 wh wq), (0, Option.some b1, Go.Obj.cells #[Go.Value.int Go.IntKind.i64 0, Go.Value.int Go.IntKind.i64 0, Go.Value.slice Option.none 0 0, Go.Value.slice Option.none 0 0] 25)])) (fun (k, cd, (u, d, q), wh, (wa, wd, wq)) => k ≤ l.length ∧ cd ++ normAll (l.length - 1) (l.drop k) k = N ∧ OwnA u d cd q ∧ wh = (l.take k).map wholeP ∧ OwnA wa wd wh wq) (fun (k, cd, (u, d, q), wh, (wa, wd, wq)) => l.length - k) ((0, [], (none, 0, []), [], (none, 0, []))) (⟨Nat.zero_le _, hN, OwnA.nil, rfl, OwnA.nil⟩) ⟨rfl, rfl, rfl, rfl, rfl, rfl, rfl, trivial⟩ ⟨rfl, rfl, rfl, rfl, trivial⟩ (fun ⟨k, cd, (u, d, q), wh, (wa, wd, wq)⟩ => fun (hk : k ≤ l.length ∧ cd ++ normAll (l.length - 1) (l.drop k) k = N ∧ OwnA u d cd q ∧ wh = (l.take k).map wholeP ∧ OwnA wa wd wh wq) => ?_)
  obtain ⟨hk1, hk2, hk3, hk4, hk5⟩ := hk
  have hcl : cd.length ≤ 16384 := by rw [← hk2, List.length_append] at hNl; omega
  rcases Nat.lt_or_ge k l.length with hkl | hkl
  · obtain ⟨hnk, hzk⟩ := hok k hkl
    have hgn := gcd_near ⟨hnk, hzk⟩
    have hdr : l.drop k = l[((k : Nat) : Int).toNat]?.getD default :: l.drop (k + 1) := by
      rw [List.drop_eq_getElem_cons hkl, Int.toNat_natCast, List.getElem?_eq_getElem hkl]; rfl
    rw [hdr] at hk2
    have hk2 : cd ++ ((List.replicate (l.length - 1) (overI (k : Int) (Int.gcd (l[((k : Nat) : Int).toNat]?.getD default).a (l[((k : Nat) : Int).toNat]?.getD default).b))).flatten ++ normAll (l.length - 1) (l.drop (k + 1)) (k + 1)) = N := hk2
    refine Wc.seq ?_
    refine Wc.region rfl ?_
    refine Wl.q rfl (Qy.lss rfl rfl) ?_
    refine Wl.done ?_
    refine Ar.next ?_
    refine Wc.seq ?_
    refine Wc.condP rfl (by first | assumption | omega) ?_
    refine Wc.skip ?_
    refine Ar.next ?_
    refine Wc.seq ?_
    refine Wc.block ?_
    refine Wc.seq ?_
    refine Wc.region rfl ?_
    refine Wl.q rfl (Qy.move rfl) ?_
    refine Wl.q rfl (Qy.at (α := R2) T.sl47 rfl rfl (by assumption) (by omega)) ?_
    refine Wl.q rfl (Qy.loadsG T.agg75 rfl (Arr.elem (by assumption) (by omega)) rfl) ?_
    refine Wl.alloc 4 rfl T.zero75 (fun b3 => ?_)
    refine Wl.q rfl (Qy.assign rfl) ?_
    refine Wl.storeAll 4 T.size75 rfl rfl rfl rfl rfl rfl ?_
    refine Wl.done ?_
    refine Ar.next ?_
    refine Wc.seq ?_
    refine Wc.region rfl ?_
    refine Wl.q rfl (Qy.loadAll 4 T.agg75 rfl rfl rfl) ?_
    refine Wl.call0 rfl T.fn123 rfl (c123 _ _ _ (by assumption) (by assumption)) ?_
    refine Wl.q rfl (Qy.move rfl) ?_
    refine Wl.q rfl (Qy.extract rfl rfl) ?_
    refine Wl.q rfl (Qy.extract rfl rfl) ?_
    refine Wl.q rfl (Qy.extract rfl rfl) ?_
    refine Wl.q rfl (Qy.extract rfl rfl) ?_
    refine Wl.q rfl (Qy.assign rfl) ?_
    refine Wl.q rfl (Qy.assign rfl) ?_
    refine Wl.q rfl (Qy.assign rfl) ?_
    refine Wl.q rfl (Qy.assign rfl) ?_
    refine Wl.done ?_
    refine Ar.next ?_
    refine Wc.seq ?_
    refine Wc.seq ?_
    refine Wc.region rfl ?_
    refine Wl.q rfl (Qy.move rfl) ?_
    refine Wl.q rfl (Qy.sub rfl rfl (by omega)) ?_
    refine Wl.q rfl (Qy.move rfl) ?_
    refine Wl.done ?_
    refine Ar.next ?_
    refine Wc.block ?_
    generalize hpp : l[((k : Nat) : Int).toNat]?.getD default = p at *
    have hnk : near p.a p.b := by rw [← hpp]; exact hnk
    have hzk : ¬ (p.a = 0 ∧ p.b = 0) := by rw [← hpp]; exact hzk
    have hgn : 1 ≤ Int.gcd p.a p.b ∧ Int.gcd p.a p.b ≤ 16 := by rw [← hpp]; exact hgn
    refine Wc.loop (ι := Nat × List Sl.Instr × (Option Addr × Nat × List Value)) (fun (i, ce, (u, d, q)) => ([(39, .int .i64 (i : Int)), (25, .int .i64 (k : Int)), (5, .int .i64 l.length), (6, .pointer (some ⟨b2, 0, none⟩)), (1, .slice oa o.length oc), (24, .int .i64 l.length), (23, .slice a l.length c), (4, .pointer (some ⟨b1, 0, none⟩)), (7, .int .i64 (k : Int)), (8, .pointer (some ⟨b3, 0, none⟩)), (9, .int .i64 (Int.gcd p.a p.b)), (38, Go.Value.int Go.IntKind.i64 ((↑(List.length l) : Int) - 1))], [(1, some b2, .cells #[.int .i64 l.length, .slice u ce.length d, .slice wa wh.length wd] 175), (2, u.map (·.block), Row 72 ce q), (4, Option.some b3, Go.Obj.cells (List.toArray (Go.Sl.Cells.enc p)) 75), (3, Option.map (fun x => Go.Addr.block x) wa, Go.Sl.Row (α := Go.Sl.R2) 75 (wh) (wq)), (0, Option.some b1, Go.Obj.cells #[Go.Value.int Go.IntKind.i64 0, Go.Value.int Go.IntKind.i64 0, Go.Value.slice Option.none 0 0, Go.Value.slice Option.none 0 0] 25)])) (fun (i, ce, (u, d, q)) => i ≤ l.length - 1 ∧ ce ++ ((List.replicate (l.length - 1 - i) (overI (k : Int) (Int.gcd p.a p.b))).flatten ++ normAll (l.length - 1) (l.drop (k + 1)) (k + 1)) = N ∧ OwnA u d ce q) (fun (i, ce, (u, d, q)) => l.length - 1 - i) ((0, cd, (u, d, q))) (⟨Nat.zero_le _, hk2, hk3⟩) ⟨rfl, rfl, rfl, rfl, rfl, rfl, rfl, rfl, rfl, rfl, rfl, rfl, trivial⟩ ⟨rfl, rfl, rfl, rfl, rfl, trivial⟩ (fun ⟨i, ce, (u, d, q)⟩ => fun (hk : i ≤ l.length - 1 ∧ ce ++ ((List.replicate (l.length - 1 - i) (overI (k : Int) (Int.gcd p.a p.b))).flatten ++ normAll (l.length - 1) (l.drop (k + 1)) (k + 1)) = N ∧ OwnA u d ce q) => ?_)
    obtain ⟨hi1, hi2, hi3⟩ := hk
    have hel : ce.length ≤ 16384 := by rw [← hi2, List.length_append] at hNl; omega
    rcases Nat.lt_or_ge i (l.length - 1) with hil | hil
    · have er : l.length - 1 - i = (l.length - 1 - (i + 1)) + 1 := by omega
      rw [er, List.replicate_succ, List.flatten_cons] at hi2
      refine Wc.seq ?_
      refine Wc.region rfl ?_
      refine Wl.q rfl (Qy.lss rfl rfl) ?_
      refine Wl.done ?_
      refine Ar.next ?_
      refine Wc.seq ?_
      refine Wc.condP rfl (by first | assumption | omega) ?_
      refine Wc.skip ?_
      refine Ar.next ?_
      refine Wc.seq ?_
      refine Wc.block ?_
      refine Wc.region rfl ?_
      refine Wl.q rfl (Qy.move rfl) ?_
      refine Wl.q rfl (Qy.move rfl) ?_
      refine Wl.q rfl (Qy.move rfl) ?_
      refine Wl.call 1 rfl T.fn124 rfl (c124 _ b2 _ u d ce q wa _ wd _ _ hi3 (by omega)) (tags_of ⟨rfl, rfl, trivial⟩) (fun v1 G1 Ho1 hle1 hp => ?_)
      obtain ⟨rfl, rfl, a1, d1, j1, ho1, rfl⟩ := hp
      refine Wl.done ?_
      refine Ar.outNormal ?_
      refine Ar.next ?_
      refine Wc.region rfl ?_
      refine Wl.q rfl (Qy.add rfl rfl (by omega)) ?_
      refine Wl.q rfl (Qy.move rfl) ?_
      refine Wl.done ?_
      refine Ar.re 39 rfl (show _ = Value.int .i64 ((i + 1 : Nat) : Int) from rfl) ?_
      refine Ar.again ((i + 1, _, (a1, d1, j1))) ?_ ?_ rfl ⟨rfl, rfl, rfl, rfl, rfl, rfl, rfl, rfl, rfl, rfl, rfl, rfl, trivial⟩ ⟨rfl, rfl, rfl, rfl, rfl, trivial⟩
      · refine ⟨hil, ?_, ho1⟩
        rw [← hi2]; simp only [List.append_assoc]
      · show l.length - 1 - (i + 1) < l.length - 1 - i
        omega
    · have hil : i = l.length - 1 := by omega
      have hi2 : ce ++ normAll (l.length - 1) (l.drop (k + 1)) (k + 1) = N := by rw [← hi2, hil, Nat.sub_self]; rfl
      have hwl : wh.length = k := by rw [hk4, List.length_map, List.length_take]; omega
      have q1 := tdiv_rng p.a (Int.gcd p.a p.b)
      have q2 := tdiv_rng p.b (Int.gcd p.a p.b)
      have hnk2 := hnk
      unfold near at hnk2
      refine Wc.seq ?_
      refine Wc.region rfl ?_
      refine Wl.q rfl (Qy.lss rfl rfl) ?_
      refine Wl.done ?_
      refine Ar.next ?_
      refine Wc.seq ?_
      refine Wc.condN rfl (by first | assumption | omega) ?_
      refine Wc.exit ?_
      refine Ar.passExit ?_
      refine Ar.passExit ?_
      refine Ar.here ?_
      refine Ar.next ?_
      refine Wc.draw [0, 3, 4, 2, 1] [(1, 18), (2, 15), (3, 15)] T.mixed rfl ?_
      refine Gm.q 0 [] (by kernel_rfl) rfl rfl (Qy.move rfl) ?_
      refine Gm.q 1 [] (by kernel_rfl) rfl rfl (Qy.move rfl) ?_
      refine Gm.q 2 [] (by kernel_rfl) rfl rfl (Qy.nilCheck rfl) ?_
      refine Gm.q 3 [] (by kernel_rfl) rfl rfl (Qy.fieldAddr T.fa175_2 rfl) ?_
      refine Gm.q 4 [1] (by kernel_rfl) rfl rfl (Qy.load 1 T.one47 rfl rfl rfl) ?_
      refine Gm.q 5 [] (by kernel_rfl) rfl rfl (Qy.fieldAddr T.fa75_0 rfl) ?_
      refine Gm.q 6 [4] (by kernel_rfl) rfl rfl (Qy.load 4 T.one3 rfl rfl rfl) ?_
      refine Gm.q 7 [] (by kernel_rfl) rfl rfl (Qy.move rfl) ?_
      refine Gm.q 8 [] (by kernel_rfl) rfl rfl (Qy.quo rfl rfl (by omega) (by omega)) ?_
      refine Gm.q 9 [] (by kernel_rfl) rfl rfl (Qy.fieldAddr T.fa75_1 rfl) ?_
      refine Gm.q 10 [4] (by kernel_rfl) rfl rfl (Qy.load 4 T.one3 rfl rfl rfl) ?_
      refine Gm.q 11 [] (by kernel_rfl) rfl rfl (Qy.move rfl) ?_
      refine Gm.q 12 [] (by kernel_rfl) rfl rfl (Qy.quo rfl rfl (by omega) (by omega)) ?_
      refine Gm.q 13 [] (by kernel_rfl) rfl rfl (Qy.build (cs := [_, _]) T.st75 rfl rfl rfl) ?_
      refine Gm.one 14 ⟨rfl, rfl, rfl, rfl, rfl, trivial⟩ (by first | exact Imm.le_refl _ | repeat (first | assumption | refine Imm.le_trans ?_ (by assumption))) (by kernel_rfl) rfl ?_
      refine Wl.lit (α := R2) 5 [⟨Int.tdiv (Go.Sl.R2.a p) (↑(Int.gcd (Go.Sl.R2.a p) (Go.Sl.R2.b p)) : Int), Int.tdiv (Go.Sl.R2.b p) (↑(Int.gcd (Go.Sl.R2.a p) (Go.Sl.R2.b p)) : Int)⟩] rfl T.sl47 T.el75 rfl rfl rfl rfl rfl (fun b4 => ?_)
      refine Wl.on0 ?_
      refine Gm.one 15 ⟨rfl, rfl, rfl, rfl, rfl, trivial⟩ (by first | exact Imm.le_refl _ | repeat (first | assumption | refine Imm.le_trans ?_ (by assumption))) (by kernel_rfl) rfl ?_
      refine Wl.append (α := R2) 3 rfl T.sl47 T.el75 rfl rfl rfl (by first | assumption | exact OwnA.nil | exact OwnA.made (by simp)) (Src.row 5 rfl) (by first | omega | (simp only [List.length_append, List.length_cons, List.length_nil, maxLen]; omega)) (by first | omega | (simp only [List.length_append, List.length_cons, List.length_nil, maxLen]; omega)) (fun a1 c1 junk1 ho1 => ?_)
      refine Wl.on0 ?_
      refine Gm.q 16 [] (by kernel_rfl) rfl rfl (Qy.nilCheck rfl) ?_
      refine Gm.q 17 [] (by kernel_rfl) rfl rfl (Qy.fieldAddr T.fa175_2 rfl) ?_
      refine Gm.one 18 ⟨rfl, rfl, rfl, trivial⟩ (by first | exact Imm.le_refl _ | repeat (first | assumption | refine Imm.le_trans ?_ (by assumption))) (by kernel_rfl) rfl ?_
      refine Wl.store 1 T.one47 rfl rfl rfl rfl rfl ?_
      refine Wl.on0 ?_
      refine Gm.doneA (by kernel_rfl) ⟨rfl, rfl, trivial⟩ (by first | exact Imm.le_refl _ | repeat (first | assumption | refine Imm.le_trans ?_ (by assumption))) ?_
      refine Ar.outNormal ?_
      refine Ar.next ?_
      refine Wc.region rfl ?_
      refine Wl.q rfl (Qy.add rfl rfl (by omega)) ?_
      refine Wl.q rfl (Qy.move rfl) ?_
      refine Wl.done ?_
      refine Ar.re 25 rfl (show _ = Value.int .i64 ((k + 1 : Nat) : Int) from rfl) ?_
      refine Ar.again ((k + 1, ce, (u, d, q), wh ++ [⟨p.a.tdiv (Int.gcd p.a p.b), p.b.tdiv (Int.gcd p.a p.b)⟩], (a1, c1, junk1))) ?_ ?_ rfl ⟨rfl, rfl, rfl, rfl, rfl, rfl, rfl, trivial⟩ ⟨rfl, rfl, rfl, rfl, trivial⟩
      · refine ⟨hkl, hi2, hi3, ?_, ho1⟩
        rw [hk4, List.take_add_one, List.map_append, List.getElem?_eq_getElem hkl]
        rw [Int.toNat_natCast, List.getElem?_eq_getElem hkl] at hpp
        have hpp : l[k] = p := hpp
        rw [hpp]; rfl
      · show l.length - (k + 1) < l.length - k
        omega
  · have hkl : k = l.length := by omega
    subst hkl
    rw [List.drop_length] at hk2
    have hk2 : cd = N := by rw [← hk2]; exact (List.append_nil _).symm
    rw [List.take_length] at hk4
    subst hk4
    have hwl : (l.map wholeP).length = l.length := List.length_map _
    have hwok : ∀ i, i < (l.map wholeP).length → okP ((l.map wholeP)[i]?.getD default) := fun i hi => by
      rw [hwl] at hi
      rw [List.getElem?_map]
      have := hok i hi
      rw [List.getElem?_eq_getElem hi] at this ⊢
      exact (whole_facts this).2.2.2
    refine Wc.freezeRow 3 rfl hk5 (fun G2 hle2 hw2 => ?_)
    replace ha := ha.up hle2
    replace hoa := hoa.up hle2
    generalize hWh : l.map wholeP = wh at *
    refine Wc.reH 1 (.cells #[.int .i64 l.length, .slice u cd.length d, .slice wa l.length wd] 175) rfl (by rw [hwl]) ?_
    rw [hwl] at hwok
    have hgl : (N ++ (awayAll l.length wh o ++ backAll l.length wh o)).length ≤ 16384 := by
      have := hgood.len
      unfold codeP at this
      rw [hN, hWh] at this; exact this
    generalize hA : awayAll l.length wh o = A at *
    have hgA : (N ++ A).length ≤ 16384 := by rw [← List.append_assoc, List.length_append] at hgl; omega
    refine Wc.seq ?_
    refine Wc.region rfl ?_
    refine Wl.q rfl (Qy.lss rfl rfl) ?_
    refine Wl.done ?_
    refine Ar.next ?_
    refine Wc.seq ?_
    refine Wc.condN rfl (by first | assumption | omega) ?_
    refine Wc.exit ?_
    refine Ar.passExit ?_
    refine Ar.passExit ?_
    refine Ar.here ?_
    refine Ar.next ?_
    refine Wc.seq ?_
    refine Wc.seq ?_
    refine Wc.region rfl ?_
    refine Wl.q rfl (Qy.move rfl) ?_
    refine Wl.q rfl (Qy.len T.sl23 rfl) ?_
    refine Wl.q rfl (Qy.move rfl) ?_
    refine Wl.done ?_
    refine Ar.next ?_
    refine Wc.block ?_
    refine Wc.loop (ι := Nat × List Sl.Instr × (Option Addr × Nat × List Value)) (fun (t, ce, (u, d, q)) => ([(67, .int .i64 (t : Int)), (66, Go.Value.int Go.IntKind.i64 (↑(List.length o) : Int)), (65, Go.Value.slice oa (List.length o) oc), (5, Go.Value.int Go.IntKind.i64 (↑(List.length l) : Int)), (6, Go.Value.pointer (Option.some (Go.Addr.mk b2 0 Option.none))), (1, Go.Value.slice oa (List.length o) oc), (4, Go.Value.pointer (Option.some (Go.Addr.mk b1 0 Option.none)))], [(1, some b2, .cells #[.int .i64 l.length, .slice u ce.length d, .slice wa l.length wd] 175), (2, u.map (·.block), Row 72 ce q), (0, Option.some b1, Go.Obj.cells #[Go.Value.int Go.IntKind.i64 0, Go.Value.int Go.IntKind.i64 0, Go.Value.slice Option.none 0 0, Go.Value.slice Option.none 0 0] 25)])) (fun (t, ce, (u, d, q)) => t ≤ o.length ∧ ce ++ awayAll l.length wh (o.drop t) = N ++ A ∧ OwnA u d ce q) (fun (t, ce, (u, d, q)) => o.length - t) ((0, cd, (u, d, q))) (⟨Nat.zero_le _, by rw [hk2, ← hA]; rfl, hk3⟩) ⟨rfl, rfl, rfl, rfl, rfl, rfl, rfl, trivial⟩ ⟨rfl, rfl, rfl, trivial⟩ (fun ⟨t, ce, (u, d, q)⟩ => fun (hk : t ≤ o.length ∧ ce ++ awayAll l.length wh (o.drop t) = N ++ A ∧ OwnA u d ce q) => ?_)
    obtain ⟨ht1, ht2, ht3⟩ := hk
    have hel : ce.length ≤ 16384 := by rw [← ht2, List.length_append] at hgA; omega
    rcases Nat.lt_or_ge t o.length with hte | hte
    · have hdr : o.drop t = o[((t : Nat) : Int).toNat]?.getD default :: o.drop (t + 1) := by
        rw [List.drop_eq_getElem_cons hte, Int.toNat_natCast, List.getElem?_eq_getElem hte]; rfl
      rw [hdr] at ht2
      have hok2 := o2 (o[((t : Nat) : Int).toNat]?.getD default) (by rw [Int.toNat_natCast, List.getElem?_eq_getElem hte]; exact List.getElem_mem _)
      have hdl : (o.drop (t + 1)).length = o.length - ((t : Int) + 1).toNat := by rw [List.length_drop]; omega
      have hdA := arr_drop hoa (t + 1) (by omega) hocc
      have ht2 : ce ++ (awayI l.length wh (o[((t : Nat) : Int).toNat]?.getD default) (o.drop (t + 1)).length (o.drop (t + 1)) ++ awayAll l.length wh (o.drop (t + 1))) = N ++ A := ht2
      have hb : (ce ++ awayI l.length wh (o[((t : Nat) : Int).toNat]?.getD default) (o.drop (t + 1)).length (o.drop (t + 1))).length ≤ 1048576 := by
        rw [← ht2, ← List.append_assoc, List.length_append] at hgA; omega
      refine Wc.seq ?_
      refine Wc.region rfl ?_
      refine Wl.q rfl (Qy.lss rfl rfl) ?_
      refine Wl.done ?_
      refine Ar.next ?_
      refine Wc.seq ?_
      refine Wc.condP rfl (by first | assumption | omega) ?_
      refine Wc.skip ?_
      refine Ar.next ?_
      refine Wc.seq ?_
      refine Wc.block ?_
      refine Wc.seq ?_
      refine Wc.region rfl ?_
      refine Wl.q rfl (Qy.move rfl) ?_
      refine Wl.q rfl (Qy.at (α := Int) T.sl23 rfl rfl (by assumption) (by omega)) ?_
      refine Wl.q rfl (Qy.loadG T.one3 rfl (Arr.cell (by assumption) (by omega) 0 rfl rfl)) ?_
      refine Wl.q rfl (Qy.assign rfl) ?_
      refine Wl.q rfl (Qy.assign rfl) ?_
      refine Wl.done ?_
      refine Ar.next ?_
      refine Wc.region rfl ?_
      refine Wl.q rfl (Qy.move rfl) ?_
      refine Wl.q rfl (Qy.move rfl) ?_
      refine Wl.q rfl (Qy.move rfl) ?_
      refine Wl.q rfl (Qy.move rfl) ?_
      refine Wl.q rfl (Qy.add rfl rfl (by omega)) ?_
      refine Wl.q rfl (Qy.cutL T.sl23 rfl rfl (by omega) (by omega)) ?_
      refine Wl.q rfl (Qy.move rfl) ?_
      refine Wl.q rfl (Qy.sub rfl rfl (by omega)) ?_
      refine Wl.q rfl (Qy.move rfl) ?_
      refine Wl.q rfl (Qy.sub rfl rfl (by omega)) ?_
      have et : ((t : Int) + 1).toNat = t + 1 := by omega
      refine Wl.re 77 rfl (show _ = Value.slice (subA oa oc (t + 1) (Cells.sz Int)) (o.drop (t + 1)).length (oc - (t + 1)) by rw [hdl, et]; rfl) ?_
      refine Wl.re 81 rfl (show _ = Value.int .i64 ((o.drop (t + 1)).length : Nat) by congr 1; rw [hdl, et]; omega) ?_
      refine Wl.call 1 rfl T.fn125 rfl (c125n _ l.length b2 u d ce q wa wd wh _ (subA oa oc (t + 1) (Cells.sz Int)) _ (o.drop (t + 1)).length (o.drop (t + 1)) (o.drop (t + 1)).length hwl rfl ht3 hw2 hdA hl15 hok2 (by rw [hdl]; omega) (fun i hi => o2 i (List.mem_of_mem_drop hi)) (by rw [hdl]; omega) hwok hb) (tags_of ⟨rfl, rfl, trivial⟩) (fun v1 G1 Ho1 hle1 hp => ?_)
      obtain ⟨rfl, rfl, a1, d1, j1, ho1, rfl⟩ := hp
      refine Wl.done ?_
      refine Ar.outNormal ?_
      refine Ar.next ?_
      refine Wc.region rfl ?_
      refine Wl.q rfl (Qy.add rfl rfl (by omega)) ?_
      refine Wl.q rfl (Qy.move rfl) ?_
      refine Wl.done ?_
      refine Ar.re 67 rfl (show _ = Value.int .i64 ((t + 1 : Nat) : Int) from rfl) ?_
      refine Ar.again ((t + 1, _, (a1, d1, j1))) ?_ ?_ rfl ⟨rfl, rfl, rfl, rfl, rfl, rfl, rfl, trivial⟩ ⟨rfl, rfl, rfl, trivial⟩
      · refine ⟨hte, ?_, ho1⟩
        rw [← ht2]; simp only [List.append_assoc]
      · show o.length - (t + 1) < o.length - t
        omega
    · have hte : t = o.length := by omega
      subst hte
      rw [List.drop_length] at ht2
      have ht2 : ce = N ++ A := by rw [← ht2]; exact (List.append_nil _).symm
      refine Wc.seq ?_
      refine Wc.region rfl ?_
      refine Wl.q rfl (Qy.lss rfl rfl) ?_
      refine Wl.done ?_
      refine Ar.next ?_
      refine Wc.seq ?_
      refine Wc.condN rfl (by first | assumption | omega) ?_
      refine Wc.exit ?_
      refine Ar.passExit ?_
      refine Ar.passExit ?_
      refine Ar.here ?_
      refine Ar.next ?_
      refine Wc.seq ?_
      refine Wc.draw [0, 2, 1] [(2, 8), (1, 8)] T.mixed rfl ?_
      refine Gm.q 0 [] (by kernel_rfl) rfl rfl (Qy.move rfl) ?_
      refine Gm.q 1 [] (by kernel_rfl) rfl rfl (Qy.move rfl) ?_
      refine Gm.q 3 [] (by kernel_rfl) rfl rfl (Qy.move rfl) ?_
      refine Gm.q 4 [] (by kernel_rfl) rfl rfl (Qy.move rfl) ?_
      refine Gm.q 5 [] (by kernel_rfl) rfl rfl (Qy.sub rfl rfl (by omega)) ?_
      refine Gm.q 6 [] (by kernel_rfl) rfl rfl (Qy.at (α := Int) T.sl23 rfl rfl (by assumption) (by omega)) ?_
      refine Gm.q 7 [0] (by kernel_rfl) rfl rfl (Qy.loadG T.one3 rfl (Arr.cell (by assumption) (by omega) 0 rfl rfl)) ?_
      refine Gm.one 2 ⟨rfl, rfl, rfl, trivial⟩ (by first | exact Imm.le_refl _ | repeat (first | assumption | refine Imm.le_trans ?_ (by assumption))) (by kernel_rfl) rfl ?_
      refine Wl.call1 1 rfl T.fn127 rfl (c127 _ b2 _ _ _ _ (by omega) (by omega)) (tags_of ⟨rfl, trivial⟩) ?_
      refine Wl.on0 ?_
      refine Gm.one 8 ⟨rfl, rfl, rfl, trivial⟩ (by first | exact Imm.le_refl _ | repeat (first | assumption | refine Imm.le_trans ?_ (by assumption))) (by kernel_rfl) rfl ?_
      refine Wl.call 1 rfl T.fn126 rfl (c126 _ b2 _ u d ce q wa _ wd _ _ _ ht3 (by omega)) (tags_of ⟨rfl, rfl, trivial⟩) (fun v1 G1 Ho1 hle1 hp => ?_)
      obtain ⟨rfl, rfl, a1, d1, j1, ho1, rfl⟩ := hp
      refine Wl.on0 ?_
      refine Gm.doneA (by kernel_rfl) ⟨rfl, trivial⟩ (by first | exact Imm.le_refl _ | repeat (first | assumption | refine Imm.le_trans ?_ (by assumption))) ?_
      refine Ar.next ?_
      refine Wc.seq ?_
      refine Wc.seq ?_
      refine Wc.region rfl ?_
      refine Wl.q rfl (Qy.move rfl) ?_
      refine Wl.q rfl (Qy.sub rfl rfl (by omega)) ?_
      refine Wl.q rfl (Qy.assign rfl) ?_
      refine Wl.done ?_
      refine Ar.next ?_
      refine Wc.block ?_
      have hbl : ∀ m, (N ++ A ++ backAll l.length wh (o.drop m)).length ≤ 16384 := fun m => by
        have := backAll_le l.length wh o m
        rw [List.length_append, List.length_append] at hgl
        rw [List.length_append, List.length_append]; omega
      have hi0 : ce ++ timesI ((l.length : Int) + 0) (o[((l.length : Int) - 1).toNat]?.getD default) 1 = N ++ A ++ backAll l.length wh (o.drop (l.length - 1)) := by
        have e1 : o.drop (l.length - 1) = [o[l.length - 1]?.getD default] := by
          rw [List.drop_eq_getElem_cons (by omega), List.getElem?_eq_getElem (by omega), List.drop_eq_nil_of_le (by omega)]; rfl
        rw [e1, ht2, Int.add_zero, show ((l.length : Int) - 1).toNat = l.length - 1 by omega]; rfl
      refine Wc.re 15 rfl (show _ = Value.int .i64 (((l.length - 1 : Nat) : Int) - 1) by congr 1; omega) ?_
      refine Wc.loop (ι := Nat × List Sl.Instr × (Option Addr × Nat × List Value)) (fun (m, cf, (u, d, q)) => ([(15, .int .i64 ((m : Int) - 1)), (5, Go.Value.int Go.IntKind.i64 (↑(List.length l) : Int)), (6, Go.Value.pointer (Option.some (Go.Addr.mk b2 0 Option.none))), (1, Go.Value.slice oa (List.length o) oc), (4, Go.Value.pointer (Option.some (Go.Addr.mk b1 0 Option.none)))], [(1, some b2, .cells #[.int .i64 l.length, .slice u cf.length d, .slice wa l.length wd] 175), (2, u.map (·.block), Row 72 cf q), (0, Option.some b1, Go.Obj.cells #[Go.Value.int Go.IntKind.i64 0, Go.Value.int Go.IntKind.i64 0, Go.Value.slice Option.none 0 0, Go.Value.slice Option.none 0 0] 25)])) (fun (m, cf, (u, d, q)) => m ≤ l.length - 1 ∧ cf = N ++ A ++ backAll l.length wh (o.drop m) ∧ OwnA u d cf q) (fun (m, cf, (u, d, q)) => m) ((l.length - 1, _, (a1, d1, j1))) (⟨Nat.le_refl _, hi0, ho1⟩) ⟨rfl, rfl, rfl, rfl, rfl, trivial⟩ ⟨rfl, rfl, rfl, trivial⟩ (fun ⟨m, cf, (u, d, q)⟩ => fun (hk : m ≤ l.length - 1 ∧ cf = N ++ A ++ backAll l.length wh (o.drop m) ∧ OwnA u d cf q) => ?_)
      obtain ⟨hm1, hm2, hm3⟩ := hk
      rcases Nat.eq_zero_or_pos m with hm0 | hm0
      · subst hm0
        refine Wc.seq ?_
        refine Wc.seq ?_
        refine Wc.region rfl ?_
        refine Wl.q rfl (Qy.move rfl) ?_
        refine Wl.q rfl (Qy.geq rfl rfl) ?_
        refine Wl.done ?_
        refine Ar.next ?_
        refine Wc.condN rfl (by first | assumption | omega) ?_
        refine Wc.exit ?_
        refine Ar.passExit ?_
        refine Ar.passExit ?_
        refine Ar.here ?_
        refine Ar.next ?_
        refine Wc.seq ?_
        refine Wc.region rfl ?_
        refine Wl.q rfl (Qy.move rfl) ?_
        refine Wl.q rfl (Qy.move rfl) ?_
        refine Wl.q rfl (Qy.mul rfl rfl (by omega)) ?_
        refine Wl.q rfl (Qy.add rfl rfl (by omega)) ?_
        refine Wl.q rfl (Qy.move rfl) ?_
        refine Wl.q rfl (Qy.nilCheck rfl) ?_
        refine Wl.q rfl (Qy.fieldAddr T.fa175_1 rfl) ?_
        refine Wl.q rfl (Qy.load 1 T.one22 rfl rfl rfl) ?_
        refine Wl.q rfl (Qy.build (cs := [_, _, _, _]) T.st25 rfl rfl rfl) ?_
        refine Wl.alloc 3 rfl T.zero25 (fun b3 => ?_)
        refine Wl.storeAll 3 T.size25 rfl rfl rfl rfl rfl rfl ?_
        refine Wl.done ?_
        refine Ar.next ?_
        refine Wc.seq ?_
        refine Wc.seq ?_
        refine Wc.region rfl ?_
        refine Wl.q rfl (Qy.move rfl) ?_
        refine Wl.q rfl (Qy.move rfl) ?_
        refine Wl.done ?_
        refine Ar.next ?_
        refine Wc.block ?_
        refine Wc.nilRow 4 (Row 3 ([] : List Int) []) ?_
        have hcf : cf = codeP l o := by
          rw [hm2, List.drop_zero]
          unfold codeP
          rw [hN, hWh, hA, List.append_assoc]
        refine Wc.loop (ι := Nat × (Option Addr × Nat × List Value)) (fun (t, (x, y, z)) => ([(119, .int .i64 (t : Int)), (118, Go.Value.int Go.IntKind.i64 (↑(List.length l) : Int)), (16, Go.Value.pointer (Option.some (Go.Addr.mk b3 0 Option.none))), (6, Go.Value.pointer (Option.some (Go.Addr.mk b2 0 Option.none))), (4, Go.Value.pointer (Option.some (Go.Addr.mk b1 0 Option.none)))], [(3, some b3, .cells #[.int .i64 l.length, .int .i64 (3 * (l.length : Int) + 1), .slice u cf.length d, .slice x (outsP l.length t).length y] 25), (4, x.map (·.block), Row 3 (outsP l.length t) z), (1, Option.some b2, Go.Obj.cells #[Go.Value.int Go.IntKind.i64 (↑(List.length l) : Int), Go.Value.slice u (List.length cf) d, Go.Value.slice wa (List.length l) wd] 175), (2, Option.map (fun x => Go.Addr.block x) u, Go.Sl.Row (α := Go.Sl.Instr) 72 (cf) (q)), (0, Option.some b1, Go.Obj.cells #[Go.Value.int Go.IntKind.i64 0, Go.Value.int Go.IntKind.i64 0, Go.Value.slice Option.none 0 0, Go.Value.slice Option.none 0 0] 25)])) (fun (t, (x, y, z)) => t ≤ l.length ∧ OwnA x y (outsP l.length t) z) (fun (t, (x, y, z)) => l.length - t) ((0, (none, 0, []))) (⟨Nat.zero_le _, OwnA.nil⟩) ⟨rfl, rfl, rfl, rfl, rfl, trivial⟩ ⟨rfl, rfl, rfl, rfl, rfl, trivial⟩ (fun ⟨t, (x, y, z)⟩ => fun (hk : t ≤ l.length ∧ OwnA x y (outsP l.length t) z) => ?_)
        obtain ⟨hx1, hx2⟩ := hk
        have hol : (outsP l.length t).length = t := outsP_len _ _
        rcases Nat.lt_or_ge t l.length with htl | htl
        · refine Wc.seq ?_
          refine Wc.region rfl ?_
          refine Wl.q rfl (Qy.lss rfl rfl) ?_
          refine Wl.done ?_
          refine Ar.next ?_
          refine Wc.seq ?_
          refine Wc.condP rfl (by first | assumption | omega) ?_
          refine Wc.skip ?_
          refine Ar.next ?_
          refine Wc.seq ?_
          refine Wc.block ?_
          refine Wc.seq ?_
          refine Wc.region rfl ?_
          refine Wl.q rfl (Qy.move rfl) ?_
          refine Wl.q rfl (Qy.assign rfl) ?_
          refine Wl.done ?_
          refine Ar.next ?_
          refine Wc.draw [0, 2, 1, 4, 3] [(3, 8), (4, 6), (2, 6)] T.mixed rfl ?_
          refine Gm.q 0 [] (by kernel_rfl) rfl rfl (Qy.fieldAddr T.fa25_3 rfl) ?_
          refine Gm.q 1 [3] (by kernel_rfl) rfl rfl (Qy.load 3 T.one23 rfl rfl rfl) ?_
          refine Gm.q 2 [] (by kernel_rfl) rfl rfl (Qy.move rfl) ?_
          refine Gm.q 3 [] (by kernel_rfl) rfl rfl (Qy.move rfl) ?_
          refine Gm.one 4 ⟨rfl, rfl, rfl, rfl, rfl, trivial⟩ (by first | exact Imm.le_refl _ | repeat (first | assumption | refine Imm.le_trans ?_ (by assumption))) (by kernel_rfl) rfl ?_
          refine Wl.call1 1 rfl T.fn127 rfl (c127 _ b2 _ _ _ _ (by omega) (by omega)) (tags_of ⟨rfl, trivial⟩) ?_
          refine Wl.on0 ?_
          refine Gm.one 5 ⟨rfl, rfl, rfl, rfl, rfl, trivial⟩ (by first | exact Imm.le_refl _ | repeat (first | assumption | refine Imm.le_trans ?_ (by assumption))) (by kernel_rfl) rfl ?_
          refine Wl.lit (α := Int) 5 [((↑(List.length l) : Int) + (↑t : Int))] rfl T.sl23 T.el3 rfl rfl rfl rfl rfl (fun b4 => ?_)
          refine Wl.on0 ?_
          refine Gm.one 6 ⟨rfl, rfl, rfl, rfl, rfl, trivial⟩ (by first | exact Imm.le_refl _ | repeat (first | assumption | refine Imm.le_trans ?_ (by assumption))) (by kernel_rfl) rfl ?_
          refine Wl.append (α := Int) 4 rfl T.sl23 T.el3 rfl rfl rfl (by first | assumption | exact OwnA.nil | exact OwnA.made (by simp)) (Src.row 5 rfl) (by first | omega | (simp only [List.length_append, List.length_cons, List.length_nil, maxLen]; omega)) (by first | omega | (simp only [List.length_append, List.length_cons, List.length_nil, maxLen]; omega)) (fun a2 c2 junk2 ho2 => ?_)
          refine Wl.on0 ?_
          refine Gm.q 7 [] (by kernel_rfl) rfl rfl (Qy.fieldAddr T.fa25_3 rfl) ?_
          refine Gm.one 8 ⟨rfl, rfl, rfl, trivial⟩ (by first | exact Imm.le_refl _ | repeat (first | assumption | refine Imm.le_trans ?_ (by assumption))) (by kernel_rfl) rfl ?_
          refine Wl.store 3 T.one23 rfl rfl rfl rfl rfl ?_
          refine Wl.on0 ?_
          refine Gm.doneA (by kernel_rfl) ⟨rfl, rfl, trivial⟩ (by first | exact Imm.le_refl _ | repeat (first | assumption | refine Imm.le_trans ?_ (by assumption))) ?_
          refine Ar.outNormal ?_
          refine Ar.next ?_
          refine Wc.region rfl ?_
          refine Wl.q rfl (Qy.add rfl rfl (by omega)) ?_
          refine Wl.q rfl (Qy.move rfl) ?_
          refine Wl.done ?_
          refine Ar.re 119 rfl (show _ = Value.int .i64 ((t + 1 : Nat) : Int) from rfl) ?_
          refine Ar.reH 3 (.cells #[.int .i64 l.length, .int .i64 (3 * (l.length : Int) + 1), .slice u cf.length d, .slice a2 (outsP l.length (t + 1)).length c2] 25) rfl (by rw [outsP_succ]; rfl) ?_
          refine Ar.reH 4 (Row 3 (outsP l.length (t + 1)) junk2) rfl (by rw [outsP_succ]) ?_
          refine Ar.again ((t + 1, (a2, c2, junk2))) ?_ ?_ rfl ⟨rfl, rfl, rfl, rfl, rfl, trivial⟩ ⟨rfl, rfl, rfl, rfl, rfl, trivial⟩
          · exact ⟨htl, by rw [outsP_succ]; exact ho2⟩
          · show l.length - (t + 1) < l.length - t
            omega
        · have htl : t = l.length := by omega
          subst htl
          subst hcf
          refine Wc.seq ?_
          refine Wc.region rfl ?_
          refine Wl.q rfl (Qy.lss rfl rfl) ?_
          refine Wl.done ?_
          refine Ar.next ?_
          refine Wc.seq ?_
          refine Wc.condN rfl (by first | assumption | omega) ?_
          refine Wc.exit ?_
          refine Ar.passExit ?_
          refine Ar.passExit ?_
          refine Ar.here ?_
          refine Ar.next ?_
          refine Wc.seq ?_
          refine Wc.region rfl ?_
          refine Wl.q rfl (Qy.loadAll 3 T.agg25 rfl rfl rfl) ?_
          refine Wl.storeAll 0 T.size25 rfl rfl rfl rfl rfl rfl ?_
          refine Wl.done ?_
          refine Ar.next ?_
          refine Wc.ret ?_
          refine Ar.pick [2, 4, 0] (by decide) (Ar.out1 (.inr rfl) (Ho := Hp.only _ [0, 1]) rfl (.agg 2 rfl rfl T.agg25) (Hp.sub_only _ _) ?_)
          exact ⟨u, x, d, y, q, z, rfl, hm3, hx2, rfl⟩
      · obtain ⟨i, rfl⟩ : ∃ i, m = i + 1 := ⟨m - 1, by omega⟩
        refine Wc.re 15 rfl (show _ = Value.int .i64 (i : Int) by congr 1; omega) ?_
        have hin : i < o.length := by omega
        have hdr : o.drop i = o[((i : Nat) : Int).toNat]?.getD default :: o.drop (i + 1) := by
          rw [List.drop_eq_getElem_cons hin, Int.toNat_natCast, List.getElem?_eq_getElem hin]; rfl
        have hok2 := o2 (o[((i : Nat) : Int).toNat]?.getD default) (by rw [Int.toNat_natCast, List.getElem?_eq_getElem hin]; exact List.getElem_mem _)
        have hdl : (o.drop (i + 1)).length = o.length - (i + 1) := List.length_drop
        have hbk : cf ++ backI l.length wh (o[((i : Nat) : Int).toNat]?.getD default) (o.drop (i + 1)).length = N ++ A ++ backAll l.length wh (o.drop i) := by
          rw [hm2, hdr, backAll_cons _ _ _ (by omega)]; simp only [List.append_assoc]
        have hb : (cf ++ backI l.length wh (o[((i : Nat) : Int).toNat]?.getD default) (o.drop (i + 1)).length).length ≤ 1048576 := by
          rw [hbk]; have := hbl i; omega
        refine Wc.seq ?_
        refine Wc.seq ?_
        refine Wc.region rfl ?_
        refine Wl.q rfl (Qy.move rfl) ?_
        refine Wl.q rfl (Qy.geq rfl rfl) ?_
        refine Wl.done ?_
        refine Ar.next ?_
        refine Wc.condP rfl (by first | assumption | omega) ?_
        refine Wc.skip ?_
        refine Ar.next ?_
        refine Wc.seq ?_
        refine Wc.block ?_
        refine Wc.region rfl ?_
        refine Wl.q rfl (Qy.move rfl) ?_
        refine Wl.q rfl (Qy.move rfl) ?_
        refine Wl.q rfl (Qy.move rfl) ?_
        refine Wl.q rfl (Qy.at (α := Int) T.sl23 rfl rfl (by assumption) (by omega)) ?_
        refine Wl.q rfl (Qy.loadG T.one3 rfl (Arr.cell (by assumption) (by omega) 0 rfl rfl)) ?_
        refine Wl.q rfl (Qy.move rfl) ?_
        refine Wl.q rfl (Qy.sub rfl rfl (by omega)) ?_
        refine Wl.q rfl (Qy.move rfl) ?_
        refine Wl.q rfl (Qy.sub rfl rfl (by omega)) ?_
        refine Wl.re 107 rfl (show _ = Value.int .i64 ((o.drop (i + 1)).length : Nat) by congr 1; rw [hdl]; omega) ?_
        refine Wl.call 1 rfl T.fn128 rfl (c128n _ l.length b2 u d cf q wa wd wh _ (o.drop (i + 1)).length hwl hm3 hw2 hl15 hok2 (by rw [hdl]; omega) (by rw [hdl]; omega) (hwok _ (by omega)) hb) (tags_of ⟨rfl, rfl, trivial⟩) (fun v3 G3 Ho3 hle3 hp => ?_)
        obtain ⟨rfl, rfl, a3, d3, j3, ho3, rfl⟩ := hp
        refine Wl.done ?_
        refine Ar.outNormal ?_
        refine Ar.next ?_
        refine Wc.region rfl ?_
        refine Wl.q rfl (Qy.move rfl) ?_
        refine Wl.q rfl (Qy.sub rfl rfl (by omega)) ?_
        refine Wl.q rfl (Qy.assign rfl) ?_
        refine Wl.done ?_
        refine Ar.re 15 rfl (show _ = Value.int .i64 ((i : Int) - 1) from rfl) ?_
        refine Ar.again ((i, _, (a3, d3, j3))) ?_ ?_ rfl ⟨rfl, rfl, rfl, rfl, rfl, trivial⟩ ⟨rfl, rfl, rfl, trivial⟩
        · exact ⟨by omega, hbk, ho3⟩
        · show i < i + 1
          omega
end Go.Proofs.Ytbppmiimeccclaa
set_option maxRecDepth 100000
set_option linter.unusedVariables false
namespace Go.Proofs.Ytbppmiimeccclaa
open Go Go.Sl
set_option maxHeartbeats 4000000
theorem cell_oneS {G : Imm} {b : Nat} {cs : List Value} {T : TypeId} {fz : Nat × Nat} (h : G b = some (.cells cs.toArray T fz)) (k : Nat) {v : Value} (hv : cs[k]? = some v) : G.cell b k = some v := by
  simp only [Imm.cell, h]; simpa using hv
/-- slices.Values -/
theorem c81 (G : Imm) (a : Option Addr) (n c : Nat) : Does Try.prog 81 [.slice a n c] G [] (fun v G' Ho => ∃ b, v = .func (.func 122) #[] #[.pointer (some ⟨b, 0, none⟩)] ∧ Ho = [] ∧ G' b = some (.cells [.slice a n c].toArray 23)) := by
  refine Does.enter Try.func81 rfl Try.ntmps81 rfl (fun w => ?_)
  refine Wc.seq ?_
  refine Wc.region rfl ?_
  refine Wl.box 0 rfl rfl rfl (fun b1 => ?_)
  refine Wl.q rfl (Qy.assign rfl) ?_
  refine Wl.done ?_
  refine Ar.next ?_
  refine Wc.seq ?_
  refine Wc.region rfl ?_
  refine Wl.q rfl (Qy.makeFunc rfl rfl) ?_
  refine Wl.q rfl (Qy.assign rfl) ?_
  refine Wl.done ?_
  refine Ar.next ?_
  refine Wc.ret ?_
  refine Ar.freeze 0 rfl (fun G' hle hb => ?_)
  refine Ar.out1 (.inr rfl) (Ho := []) rfl (.tmp rfl) trivial ?_
  exact ⟨_, rfl, rfl, hb⟩
def encI (x : Int) : List Value := [.int .i64 x]
theorem c122 (G : Imm) (a : Option Addr) (c : Nat) (xs : List Int) (b : Nat) (hx : Arr G a xs) (hl : xs.length ≤ 1099511627776) (hb : G b = some (.cells [.slice a xs.length c].toArray 23)) :
    IterDoes Try.prog 122 [.pointer (some ⟨b, 0, none⟩)] G encI xs := by
  intro ι J inv stop ly i0 hi0 hY
  have hcell : G.cell b 0 = some (.slice a xs.length c) := cell_oneS hb 0 rfl
  refine Does.enter Try.func122 rfl Try.ntmps122 rfl (fun w => ?_)
  refine Wc.lift 1000 ?_
  refine Wc.seq ?_
  refine Wc.region rfl ?_
  refine Wl.q rfl (Qy.loadG T.one23 rfl (by assumption)) ?_
  refine Wl.q rfl (Qy.len T.sl23 rfl) ?_
  refine Wl.q rfl (Qy.move rfl) ?_
  refine Wl.done ?_
  refine Ar.next ?_
  refine Wc.block ?_
  refine Wc.loopT (ι := Nat × ι) 1000 (fun (m, s) => ([(7, .int .i64 (m : Int)), (6, Go.Value.int Go.IntKind.i64 (↑(List.length xs) : Int)), (5, Go.Value.slice a (List.length xs) c), (0, Go.Value.func (Go.Fn.yield ly) #[] #[])], [])) (fun (m, s) => J s) (fun (m, s) => m ≤ xs.length ∧ inv m s) (fun (m, s) => xs.length - m) ((0, i0)) (⟨Nat.zero_le _, hi0⟩) ⟨rfl, rfl, rfl, rfl, trivial⟩ trivial (by repeat (first | exact Hp.tl_self _ _ | refine Hp.tl_cons rfl ?_)) (fun ⟨m, s⟩ => fun (hk : m ≤ xs.length ∧ inv m s) => ?_)
  obtain ⟨hm1, hinv⟩ := hk
  refine Wc.seq ?_
  refine Wc.region rfl ?_
  refine Wl.q rfl (Qy.lss rfl rfl) ?_
  refine Wl.done ?_
  refine Ar.next ?_
  refine Wc.seq ?_
  refine Wc.cond rfl (fun hc1 => ?_) (fun hc1 => ?_)
  refine Wc.skip ?_
  refine Ar.next ?_
  refine Wc.seq ?_
  refine Wc.block ?_
  refine Wc.seq ?_
  refine Wc.region rfl ?_
  refine Wl.q rfl (Qy.at (α := Int) T.sl23 rfl rfl (by assumption) (by omega)) ?_
  refine Wl.q rfl (Qy.loadG T.one3 rfl (Arr.cell (by assumption) (by omega) 0 rfl rfl)) ?_
  refine Wl.q rfl (Qy.assign rfl) ?_
  refine Wl.done ?_
  refine Ar.next ?_
  refine Wc.seq ?_
  refine Wc.region rfl ?_
  refine Wl.q rfl (Qy.move rfl) ?_
  refine Wl.q rfl (Qy.move rfl) ?_
  rotate_left
  refine Wc.exit ?_
  refine Ar.passExit ?_
  refine Ar.passExit ?_
  refine Ar.here ?_
  rotate_left
  · have hml : m < xs.length := by omega
    have hbx : xs[m]? = some (xs[((m : Nat) : Int).toNat]?.getD default) := by
      rw [Int.toNat_natCast, List.getElem?_eq_getElem hml]; rfl
    refine Wl.yieldT (A := []) 1000 rfl rfl rfl trivial (by repeat (first | exact Hp.tl_self _ _ | refine Hp.tl_cons rfl ?_)) rfl (hY m _ s hbx hinv) (fun vy Gy Hy hly hp => ?_)
    obtain ⟨rfl, s', rfl, hp⟩ := hp
    rcases hp with ⟨rfl, hinv'⟩ | ⟨rfl, hst⟩
    · refine Wl.q rfl (Qy.not rfl) ?_
      refine Wl.done ?_
      refine Ar.next ?_
      refine Wc.condF rfl ?_
      refine Wc.skip ?_
      refine Ar.outNormal ?_
      refine Ar.next ?_
      refine Wc.region rfl ?_
      refine Wl.q rfl (Qy.add rfl rfl (by omega)) ?_
      refine Wl.q rfl (Qy.move rfl) ?_
      refine Wl.done ?_
      refine Ar.re 7 rfl (show _ = Value.int .i64 ((m + 1 : Nat) : Int) from rfl) ?_
      refine Ar.againGT ((m + 1, s')) ?_ ?_ rfl ⟨rfl, rfl, rfl, rfl, trivial⟩ trivial (by repeat (first | exact Hp.tl_self _ _ | refine Hp.tl_cons rfl ?_))
      · exact ⟨hml, hinv'⟩
      · show xs.length - (m + 1) < xs.length - m
        omega
    · refine Wl.q rfl (Qy.not rfl) ?_
      refine Wl.done ?_
      refine Ar.next ?_
      refine Wc.condT rfl ?_
      refine Wc.ret ?_
      refine Ar.outRet ?_
      refine Ar.passRet ?_
      refine Ar.passRet ?_
      refine Ar.outRet ?_
      refine Ar.outT (k := 1000) (.inr rfl) rfl (by repeat (first | exact Hp.tl_self _ _ | refine Hp.tl_cons rfl ?_)) ⟨rfl, s', rfl, .inr hst⟩
  · have hm : m = xs.length := by omega
    subst hm
    refine Ar.outT (k := 1000) (.inl rfl) rfl (by repeat (first | exact Hp.tl_self _ _ | refine Hp.tl_cons rfl ?_)) ⟨rfl, s, rfl, .inl hinv⟩
theorem c157 (G : Imm) (a : Option Addr) (c : Nat) (xs : List Int) (b : Nat) (hx : Arr G a xs) (hl : xs.length ≤ 1048576) (hb : G b = some (.cells [.slice a xs.length c].toArray 23)) :
    Does Try.prog 157 [.slice none 0 0, .func (.func 122) #[] #[.pointer (some ⟨b, 0, none⟩)]] G [] (fun v G' Ho => ∃ (o : Option Addr) (d : Nat) (j : List Value), v = .slice o xs.length d ∧ OwnA o d xs j ∧ Ho = [(0, o.map (·.block), Row 3 xs j)] ∧ G' = G) := by
  refine Does.enterM Try.func157 rfl Try.ntmps157 rfl (fun w => ?_)
  refine Wc.seq ?_
  refine Wc.region rfl ?_
  refine Wl.box 0 rfl rfl rfl (fun b1 => ?_)
  refine Wl.q rfl (Qy.assign rfl) ?_
  refine Wl.done ?_
  refine Ar.next ?_
  refine Wc.seq ?_
  refine Wc.seq ?_
  refine Wc.region rfl ?_
  refine Wl.q rfl (Qy.move rfl) ?_
  refine Wl.done ?_
  refine Ar.next ?_
  refine Wc.block ?_
  refine Wc.nilRow 1 (Row 3 ([] : List Int) []) ?_
  refine Wc.rangeFunc (ι := List Int × (Option Addr × Nat × List Value)) 900 901 (fun (ys, (o, d, j)) => [(0, some b1, .cells #[.slice o ys.length d] 23), (1, o.map (·.block), Row 3 ys j)]) (fun k (ys, (o, d, j)) => ys = xs.take k ∧ OwnA o d ys j) (fun c (ys, (o, d, j)) => False) (([], (none, 0, []))) rfl T.fn122 (fun _ => rfl) rfl (c122 _ a c xs b hx (by omega) hb) (⟨rfl, OwnA.nil⟩) (Hp.got ⟨rfl, rfl, trivial⟩) ⟨rfl, fun _ => rfl⟩ (fun k x ⟨ys, (o, d, j)⟩ l dd q w0 hx hi => ?_) (fun ⟨ys, (o, d, j)⟩ dd hi => ?_) (fun ⟨ys, (o, d, j)⟩ dd c hi => ?_)
  · obtain ⟨hy, ho⟩ := hi
    have hkl : k < xs.length := (List.getElem?_eq_some_iff.1 hx).1
    have hyl : ys.length = k := by rw [hy, List.length_take]; omega
    refine Wc.region rfl ?_
    refine Wl.q rfl (Qy.assign rfl) ?_
    refine Wl.done ?_
    refine Ar.begin 900 rfl ?_
    refine Wc.block ?_
    refine Wc.region rfl ?_
    refine Wl.q rfl (Qy.load 0 T.one23 rfl rfl rfl) ?_
    refine Wl.q rfl (Qy.move rfl) ?_
    refine Wl.lit (α := Int) 902 [(x)] rfl T.sl23 T.el3 rfl rfl rfl rfl rfl (fun b2 => ?_)
    refine Wl.append (α := Int) 1 rfl T.sl23 T.el3 rfl rfl rfl (by first | assumption | exact OwnA.nil | exact OwnA.made (by simp)) (Src.row 902 rfl) (by first | omega | (simp only [List.length_append, List.length_cons, List.length_nil, maxLen]; omega)) (by first | omega | (simp only [List.length_append, List.length_cons, List.length_nil, maxLen]; omega)) (fun a1 c1 junk1 ho1 => ?_)
    refine Wl.store 0 T.one23 rfl rfl rfl rfl rfl ?_
    refine Wl.done ?_
    refine Ar.outNormal ?_
    refine Ar.roundEnd none (.inl ⟨rfl, rfl⟩) 900 rfl ⟨rfl, ((ys ++ [x], (a1, c1, junk1)), none), rfl, .inl ⟨rfl, rfl, ?_⟩⟩ (Hp.got ⟨rfl, rfl, rfl, rfl, trivial⟩)
    refine ⟨?_, ho1⟩
    rw [List.take_add_one, hx, hy]; rfl
  · obtain ⟨hy, ho⟩ := hi
    rw [List.take_length] at hy
    subst hy
    refine Ar.outNormal ?_
    refine Ar.next ?_
    refine Wc.seq ?_
    refine Wc.region rfl ?_
    refine Wl.q rfl (Qy.load 0 T.one23 rfl rfl rfl) ?_
    refine Wl.q rfl (Qy.assign rfl) ?_
    refine Wl.done ?_
    refine Ar.next ?_
    refine Wc.ret ?_
    refine Ar.collect (.inr rfl) 901 rfl ?_
    refine Ar.outOf (.inr rfl) ?_
    refine Ar.base (Ar.pick [1] (by decide) (Ar.out1 (.inr rfl) rfl (.tmp rfl) (Hp.sub_self 0 _) ?_))
    exact ⟨_, _, _, rfl, ho, rfl, rfl⟩
  · exact hi.elim
theorem c121 (G : Imm) (a : Option Addr) (c : Nat) (xs : List Int) (b : Nat) (hx : Arr G a xs) (hl : xs.length ≤ 1048576) (hb : G b = some (.cells [.slice a xs.length c].toArray 23)) :
    Does Try.prog 121 [.func (.func 122) #[] #[.pointer (some ⟨b, 0, none⟩)]] G [] (fun v G' Ho => ∃ (o : Option Addr) (d : Nat) (j : List Value), v = .slice o xs.length d ∧ OwnA o d xs j ∧ Ho = [(0, o.map (·.block), Row 3 xs j)] ∧ G' = G) := by
  refine Does.enter Try.func121 rfl Try.ntmps121 rfl (fun w => ?_)
  refine Wc.seq ?_
  refine Wc.region rfl ?_
  refine Wl.q rfl (Qy.assign rfl) ?_
  refine Wl.done ?_
  refine Ar.next ?_
  refine Wc.seq ?_
  refine Wc.region rfl ?_
  refine Wl.q rfl (Qy.move rfl) ?_
  refine Wl.call 0 rfl T.fn157 rfl (c157 _ a c xs b hx hl hb) (tags_of trivial) (fun v1 G1 Ho1 hle1 hp => ?_)
  obtain ⟨o1, d1, j1, rfl, ho1, rfl, rfl⟩ := hp
  refine Wl.q rfl (Qy.assign rfl) ?_
  refine Wl.done ?_
  refine Ar.next ?_
  refine Wc.ret ?_
  refine Ar.out1 (.inr rfl) (Ho := Hp.only _ [0]) rfl (.tmp rfl) (Hp.sub_only _ _) ?_
  exact ⟨_, _, _, rfl, ho1, rfl, rfl⟩
/-- slices.Sorted of slices.Values -/
def sortL (xs : List Int) : List Int := xs.mergeSort fun x y => decide (x ≤ y)
theorem sortL_len (xs : List Int) : (sortL xs).length = xs.length := List.length_mergeSort xs
theorem c80 (G : Imm) (a : Option Addr) (c : Nat) (xs : List Int) (b : Nat) (hx : Arr G a xs) (hl : xs.length ≤ 1048576) (hb : G b = some (.cells [.slice a xs.length c].toArray 23)) :
    Does Try.prog 80 [.func (.func 122) #[] #[.pointer (some ⟨b, 0, none⟩)]] G [] (fun v G' Ho => ∃ (o : Option Addr) (d : Nat), v = .slice o (sortL xs).length d ∧ Arr G' o (sortL xs) ∧ (sortL xs).length ≤ d ∧ Ho = []) := by
  refine Does.enter Try.func80 rfl Try.ntmps80 rfl (fun w => ?_)
  refine Wc.seq ?_
  refine Wc.region rfl ?_
  refine Wl.q rfl (Qy.assign rfl) ?_
  refine Wl.done ?_
  refine Ar.next ?_
  refine Wc.seq ?_
  refine Wc.region rfl ?_
  refine Wl.q rfl (Qy.move rfl) ?_
  refine Wl.call 0 rfl T.fn121 rfl (c121 _ a c xs b hx hl hb) (tags_of trivial) (fun v1 G1 Ho1 hle1 hp => ?_)
  obtain ⟨o1, d1, j1, rfl, ho1, rfl, rfl⟩ := hp
  refine Wl.q rfl (Qy.assign rfl) ?_
  refine Wl.done ?_
  refine Ar.next ?_
  refine Wc.seq ?_
  refine Wc.region rfl ?_
  refine Wl.q rfl (Qy.move rfl) ?_
  rcases ho1 with ⟨rfl, rfl, rfl, rfl⟩ | ⟨bb, rfl, h2, h3, h4⟩
  · refine Wl.call0 rfl T.fn69 rfl (c69N _ _) ?_
    refine Wl.done ?_
    refine Ar.next ?_
    refine Wc.seq ?_
    refine Wc.region rfl ?_
    refine Wl.q rfl (Qy.move rfl) ?_
    refine Wl.q rfl (Qy.assign rfl) ?_
    refine Wl.done ?_
    refine Ar.next ?_
    refine Wc.ret ?_
    refine Ar.out1 (.inr rfl) (Ho := []) rfl (.tmp rfl) trivial ?_
    exact ⟨none, 0, by rw [sortL_len], by rw [List.eq_nil_of_length_eq_zero (sortL_len [])]; exact Arr.nil _, Nat.le_of_eq (sortL_len []), rfl⟩
  · refine Wl.call 0 rfl T.fn69 rfl (c69 _ bb d1 xs j1 (by omega)) (tags_of ⟨rfl, trivial⟩) (fun v2 G2 Ho2 hle2 hp => ?_)
    obtain ⟨rfl, rfl, rfl⟩ := hp
    refine Wl.done ?_
    refine Ar.next ?_
    refine Wc.seq ?_
    refine Wc.region rfl ?_
    refine Wl.q rfl (Qy.move rfl) ?_
    refine Wl.q rfl (Qy.assign rfl) ?_
    refine Wl.done ?_
    refine Ar.next ?_
    refine Wc.ret ?_
    have hoS : OwnA (some ⟨bb, 0, none⟩) d1 (sortL xs) j1 := .inr ⟨bb, rfl, by rw [sortL_len]; exact h2, by rw [sortL_len]; exact h3, h4⟩
    refine Ar.freezeRow 0 rfl hoS (fun G8 hle8 hA8 => ?_)
    refine Ar.out1 (.inr rfl) (Ho := []) rfl (.tmp rfl) trivial ?_
    exact ⟨_, _, by rw [sortL_len], hA8, by rw [sortL_len]; exact h3, rfl⟩
theorem idx_nodup (n : Nat) : (idx n).Pairwise (· < ·) := by
  unfold idx
  rw [List.pairwise_map]
  exact List.Pairwise.imp (fun h => by omega) List.pairwise_lt_range
theorem idx_mem (n : Nat) (x : Int) : x ∈ idx n ↔ 0 ≤ x ∧ x < n := by
  unfold idx
  rw [List.mem_map]
  constructor
  · rintro ⟨k, hk, rfl⟩
    have := List.mem_range.1 hk
    omega
  · intro h
    exact ⟨x.toNat, List.mem_range.2 (by omega), by omega⟩
/-- sorted, they are the numbers themselves: an order -/
theorem sort_order (o : List Int) (n : Nat) : sortL o = idx n ↔ OrderP o n := by
  have hnd : (idx n).Nodup := (idx_nodup n).imp (fun h => by omega)
  have hp : (sortL o).Perm o := List.mergeSort_perm o _
  constructor
  · intro h
    rw [h] at hp
    refine ⟨by rw [← hp.length_eq, idx_len], fun x hx => (idx_mem n x).1 (hp.mem_iff.2 hx), hp.nodup_iff.1 hnd⟩
  · rintro ⟨h1, h2, h3⟩
    have hm : ∀ x, x ∈ o ↔ x ∈ idx n := fun x => by
      refine ⟨fun hx => (idx_mem n x).2 (h2 x hx), fun hx => Classical.byContradiction fun hno => ?_⟩
      have := List.Nodup.length_le_of_subset (List.nodup_cons.2 ⟨hno, h3⟩) (l₂ := idx n) (fun y hy => by
        rcases List.mem_cons.1 hy with rfl | hy
        · exact hx
        · exact (idx_mem n y).2 (h2 y hy))
      rw [List.length_cons, idx_len] at this; omega
    have hperm : (sortL o).Perm (idx n) := hp.trans ((List.perm_ext_iff_of_nodup h3 hnd).2 hm)
    exact List.Perm.eq_of_pairwise (le := fun a b : Int => a ≤ b) (fun a b _ _ h1 h2 => by omega) (sorted_le o) ((idx_nodup n).imp (fun h => by omega)) hperm
/-- slices.Equal of []int -/
theorem c56 (G : Imm) (a b : Option Addr) (c d : Nat) (xs ys : List Int) (hx : Arr G a xs) (hy : Arr G b ys) (hl : xs.length ≤ 1048576) :
    Does Try.prog 56 [.slice a xs.length c, .slice b ys.length d] G [] (fun v G' Ho => v = .bool (decide (xs = ys)) ∧ G' = G ∧ Ho = []) := by
  refine Does.enter Try.func56 rfl Try.ntmps56 rfl (fun w => ?_)
  refine Wc.seq ?_
  refine Wc.region rfl ?_
  refine Wl.q rfl (Qy.assign rfl) ?_
  refine Wl.done ?_
  refine Ar.next ?_
  refine Wc.seq ?_
  refine Wc.seq ?_
  refine Wc.region rfl ?_
  refine Wl.q rfl (Qy.move rfl) ?_
  refine Wl.q rfl (Qy.len T.sl23 rfl) ?_
  refine Wl.q rfl (Qy.move rfl) ?_
  refine Wl.q rfl (Qy.len T.sl23 rfl) ?_
  refine Wl.q rfl (Qy.neq rfl rfl) ?_
  refine Wl.done ?_
  refine Ar.next ?_
  refine Wc.cond rfl (fun hc1 => ?_) (fun hc1 => ?_)
  refine Wc.seq ?_
  refine Wc.region rfl ?_
  refine Wl.q rfl (Qy.assign rfl) ?_
  refine Wl.done ?_
  refine Ar.next ?_
  refine Wc.ret ?_
  refine Ar.passRet ?_
  refine Ar.out1 (.inr rfl) (Ho := Hp.only _ []) rfl (.tmp rfl) (Hp.sub_only _ _) ?_
  rotate_left
  refine Wc.skip ?_
  refine Ar.next ?_
  refine Wc.seq ?_
  refine Wc.seq ?_
  refine Wc.region rfl ?_
  refine Wl.q rfl (Qy.move rfl) ?_
  refine Wl.q rfl (Qy.len T.sl23 rfl) ?_
  refine Wl.q rfl (Qy.move rfl) ?_
  refine Wl.done ?_
  refine Ar.next ?_
  refine Wc.block ?_
  rotate_left
  · refine ⟨?_, rfl, rfl⟩
    congr 1
    refine (decide_eq_false fun h => hc1 ?_).symm
    rw [h]
  · have hle : xs.length = ys.length := Classical.byContradiction fun h => hc1 (by omega)
    refine Wc.loop (ι := Nat) (fun k => ([(13, .int .i64 (k : Int)), (12, Go.Value.int Go.IntKind.i64 (↑(List.length xs) : Int)), (0, Go.Value.slice a (List.length xs) c), (1, Go.Value.slice b (List.length ys) d)], [])) (fun k => k ≤ xs.length ∧ (∀ i, i < k → xs[i]?.getD default = ys[i]?.getD default)) (fun k => xs.length - k) (0) (⟨Nat.zero_le _, fun i h => absurd h (by omega)⟩) ⟨rfl, rfl, rfl, rfl, trivial⟩ trivial (fun k => fun (hk : k ≤ xs.length ∧ (∀ i, i < k → xs[i]?.getD default = ys[i]?.getD default)) => ?_)
    obtain ⟨hk1, hk2⟩ := hk
    rcases Nat.lt_or_ge k xs.length with hkl | hkl
    · refine Wc.seq ?_
      refine Wc.region rfl ?_
      refine Wl.q rfl (Qy.lss rfl rfl) ?_
      refine Wl.done ?_
      refine Ar.next ?_
      refine Wc.seq ?_
      refine Wc.condP rfl (by first | assumption | omega) ?_
      refine Wc.skip ?_
      refine Ar.next ?_
      refine Wc.seq ?_
      refine Wc.block ?_
      refine Wc.seq ?_
      refine Wc.region rfl ?_
      refine Wl.q rfl (Qy.move rfl) ?_
      refine Wl.q rfl (Qy.assign rfl) ?_
      refine Wl.done ?_
      refine Ar.next ?_
      refine Wc.seq ?_
      refine Wc.draw [] [] T.mixed rfl ?_
      refine Gm.q 0 [] (by kernel_rfl) rfl rfl (Qy.move rfl) ?_
      refine Gm.q 1 [] (by kernel_rfl) rfl rfl (Qy.move rfl) ?_
      refine Gm.q 2 [] (by kernel_rfl) rfl rfl (Qy.at (α := Int) T.sl23 rfl rfl (by assumption) (by omega)) ?_
      refine Gm.q 3 [] (by kernel_rfl) rfl rfl (Qy.loadG T.one3 rfl (Arr.cell (by assumption) (by omega) 0 rfl rfl)) ?_
      refine Gm.q 4 [] (by kernel_rfl) rfl rfl (Qy.move rfl) ?_
      refine Gm.q 5 [] (by kernel_rfl) rfl rfl (Qy.move rfl) ?_
      refine Gm.q 6 [] (by kernel_rfl) rfl rfl (Qy.at (α := Int) T.sl23 rfl rfl (by assumption) (by omega)) ?_
      refine Gm.q 7 [] (by kernel_rfl) rfl rfl (Qy.loadG T.one3 rfl (Arr.cell (by assumption) (by omega) 0 rfl rfl)) ?_
      refine Gm.q 8 [] (by kernel_rfl) rfl rfl (Qy.neq rfl rfl) ?_
      refine Gm.doneA (by kernel_rfl) trivial (by first | exact Imm.le_refl _ | repeat (first | assumption | refine Imm.le_trans ?_ (by assumption))) ?_
      refine Ar.next ?_
      refine Wc.cond rfl (fun hc2 => ?_) (fun hc2 => ?_)
      refine Wc.seq ?_
      refine Wc.region rfl ?_
      refine Wl.q rfl (Qy.assign rfl) ?_
      refine Wl.done ?_
      refine Ar.next ?_
      refine Wc.ret ?_
      refine Ar.outRet ?_
      refine Ar.passRet ?_
      refine Ar.passRet ?_
      refine Ar.outRet ?_
      refine Ar.passRet ?_
      refine Ar.out1 (.inr rfl) (Ho := Hp.only _ []) rfl (.tmp rfl) (Hp.sub_only _ _) ?_
      rotate_left
      refine Wc.skip ?_
      refine Ar.outNormal ?_
      refine Ar.next ?_
      refine Wc.region rfl ?_
      refine Wl.q rfl (Qy.add rfl rfl (by omega)) ?_
      refine Wl.q rfl (Qy.move rfl) ?_
      refine Wl.done ?_
      rotate_left
      · refine ⟨?_, rfl, rfl⟩
        congr 1
        refine (decide_eq_false fun h => hc2 ?_).symm
        rw [h]
      · refine Ar.re 13 rfl (show _ = Value.int .i64 ((k + 1 : Nat) : Int) from rfl) ?_
        refine Ar.again (k + 1) ?_ ?_ rfl ⟨rfl, rfl, rfl, rfl, trivial⟩ trivial
        · refine ⟨hkl, fun i hi => ?_⟩
          rcases Nat.lt_or_ge i k with h | h
          · exact hk2 i h
          · have e : i = k := by omega
            subst e
            exact Classical.byContradiction fun h => hc2 h
        · show xs.length - (k + 1) < xs.length - k
          omega
    · refine Wc.seq ?_
      refine Wc.region rfl ?_
      refine Wl.q rfl (Qy.lss rfl rfl) ?_
      refine Wl.done ?_
      refine Ar.next ?_
      refine Wc.seq ?_
      refine Wc.condN rfl (by first | assumption | omega) ?_
      refine Wc.exit ?_
      refine Ar.passExit ?_
      refine Ar.passExit ?_
      refine Ar.here ?_
      refine Ar.next ?_
      refine Wc.seq ?_
      refine Wc.region rfl ?_
      refine Wl.q rfl (Qy.assign rfl) ?_
      refine Wl.done ?_
      refine Ar.next ?_
      refine Wc.ret ?_
      refine Ar.out1 (.inr rfl) (Ho := Hp.only _ []) rfl (.tmp rfl) (Hp.sub_only _ _) ?_
      refine ⟨?_, rfl, rfl⟩
      congr 1
      refine (decide_eq_true ?_).symm
      apply List.ext_getElem hle
      intro i h1 h2
      have := hk2 i (by omega)
      rw [List.getElem?_eq_getElem h1, List.getElem?_eq_getElem h2] at this
      exact this
theorem c32N (G : Imm) (a : Option Addr) (c : Nat) (l : List R2) (oa : Option Addr) (oc : Nat) (o : List Int) (ha : Arr G a l) (hac : l.length ≤ c) (hl : l.length ≤ 1048576) (hR : ¬ RightL l) :
    Does Try.prog 32 [.slice a l.length c, .slice oa o.length oc] G [] (fun v G' Ho => v = .tuple #[.agg #[.int .i64 0, .int .i64 0, .slice none 0 0, .slice none 0 0], .int .i64 2] ∧ Ho = []) := by
  refine Does.enter Try.func32 rfl Try.ntmps32 rfl (fun w => ?_)
  refine Wc.seq ?_
  refine Wc.region rfl ?_
  refine Wl.alloc 0 rfl T.zero25 (fun b1 => ?_)
  refine Wl.q rfl (Qy.assign rfl) ?_
  refine Wl.done ?_
  refine Ar.next ?_
  refine Wc.seq ?_
  refine Wc.seq ?_
  refine Wc.region rfl ?_
  refine Wl.q rfl (Qy.move rfl) ?_
  refine Wl.call0 rfl T.fn28 rfl (c28N _ _ _ l (by assumption) (by omega) hac hR) ?_
  refine Wl.q rfl (Qy.not rfl) ?_
  refine Wl.q rfl (Qy.move rfl) ?_
  refine Wl.pass rfl rfl rfl ?_
  refine Wl.pass rfl rfl rfl ?_
  refine Wl.pass rfl rfl rfl ?_
  refine Wl.pass rfl rfl rfl ?_
  refine Wl.pass rfl rfl rfl ?_
  refine Wl.pass rfl rfl rfl ?_
  refine Wl.pass rfl rfl rfl ?_
  refine Wl.pass rfl rfl rfl ?_
  refine Wl.q rfl (Qy.pick rfl rfl) ?_
  refine Wl.done ?_
  refine Ar.next ?_
  refine Wc.condT rfl ?_
  refine Wc.seq ?_
  refine Wc.region rfl ?_
  refine Wl.q rfl (Qy.build (cs := [_, _, _, _]) T.st25 rfl rfl rfl) ?_
  refine Wl.storeAll 0 T.size25 rfl rfl rfl rfl rfl rfl ?_
  refine Wl.q rfl (Qy.assign rfl) ?_
  refine Wl.done ?_
  refine Ar.next ?_
  refine Wc.ret ?_
  refine Ar.passRet ?_
  refine Ar.out2 (.inr rfl) (Ho := []) rfl (.agg 0 rfl rfl T.agg25) (.tmp rfl) trivial ?_
  exact ⟨rfl, rfl⟩
theorem c32Y (G : Imm) (a : Option Addr) (c : Nat) (l : List R2) (oa : Option Addr) (oc : Nat) (o : List Int) (ha : Arr G a l) (hoa : Arr G oa o) (hac : l.length ≤ c) (hocc : o.length ≤ oc) (hR : RightL l) (hO : OrderP o l.length) :
    Does Try.prog 32 [.slice a l.length c, .slice oa o.length oc] G [] (fun v G' Ho => ∃ (bc bo : Option Addr) (dc do_ : Nat) (j1 j2 : List Value), v = .tuple #[.agg #[.int .i64 (madeP l o).ins, .int .i64 (madeP l o).regs, .slice bc (madeP l o).code.length dc, .slice bo (madeP l o).outs.length do_], .int .i64 0] ∧ OwnA bc dc (madeP l o).code j1 ∧ OwnA bo do_ (madeP l o).outs j2 ∧
      Ho = [(0, bc.map (·.block), Row 72 (madeP l o).code j1), (1, bo.map (·.block), Row 3 (madeP l o).outs j2)]) := by
  have hl15 := hR.2.1
  have hol : o.length ≤ 1048576 := by rw [hO.1]; omega
  refine Does.enter Try.func32 rfl Try.ntmps32 rfl (fun w => ?_)
  refine Wc.seq ?_
  refine Wc.region rfl ?_
  refine Wl.alloc 0 rfl T.zero25 (fun b1 => ?_)
  refine Wl.q rfl (Qy.assign rfl) ?_
  refine Wl.done ?_
  refine Ar.next ?_
  refine Wc.seq ?_
  refine Wc.seq ?_
  refine Wc.region rfl ?_
  refine Wl.q rfl (Qy.move rfl) ?_
  refine Wl.call0 rfl T.fn28 rfl (c28Y _ _ _ l (by assumption) (by omega) hac hR) ?_
  refine Wl.q rfl (Qy.not rfl) ?_
  refine Wl.q rfl (Qy.move rfl) ?_
  refine Wl.want rfl rfl ?_
  refine Wl.q rfl (Qy.move rfl) ?_
  refine Wl.want rfl rfl ?_
  refine Wl.call 1 rfl T.fn81 rfl (c81 _ _ _ _) (tags_of trivial) (fun v1 G1 Ho1 hle1 hp => ?_)
  obtain ⟨vb1, rfl, rfl, hvb1⟩ := hp
  replace ha := ha.up hle1
  replace hoa := hoa.up hle1
  refine Wl.want rfl rfl ?_
  refine Wl.call 1 rfl T.fn80 rfl (c80 _ oa oc o vb1 hoa hol hvb1) (tags_of trivial) (fun v2 G2 Ho2 hle2 hp => ?_)
  obtain ⟨so2, sd2, rfl, hs2, hsd2, rfl⟩ := hp
  replace ha := ha.up hle2
  replace hoa := hoa.up hle2
  refine Wl.want rfl rfl ?_
  refine Wl.q rfl (Qy.move rfl) ?_
  refine Wl.want rfl rfl ?_
  refine Wl.q rfl (Qy.len T.sl47 rfl) ?_
  refine Wl.want rfl rfl ?_
  refine Wl.call 1 rfl T.fn82 rfl (c82 _ l.length (by omega)) (tags_of trivial) (fun v3 G3 Ho3 hle3 hp => ?_)
  obtain ⟨na3, nc3, rfl, hna3, hnc3, rfl⟩ := hp
  replace hs2 := hs2.up hle3
  replace ha := ha.up hle3
  replace hoa := hoa.up hle3
  refine Wl.want rfl rfl ?_
  refine Wl.call0 rfl T.fn56 rfl (c56 _ so2 na3 _ _ (sortL o) (idx l.length) hs2 hna3 (by rw [sortL_len]; exact hol)) ?_
  refine Wl.want rfl rfl ?_
  refine Wl.q rfl (Qy.notD rfl) ?_
  refine Wl.q rfl (Qy.pick rfl rfl) ?_
  refine Wl.done ?_
  refine Ar.next ?_
  refine Wc.cond rfl (fun hc1 => ?_) (fun hc1 => ?_)
  refine Wc.seq ?_
  refine Wc.region rfl ?_
  refine Wl.q rfl (Qy.build (cs := [_, _, _, _]) T.st25 rfl rfl rfl) ?_
  refine Wl.storeAll 0 T.size25 rfl rfl rfl rfl rfl rfl ?_
  refine Wl.q rfl (Qy.assign rfl) ?_
  refine Wl.done ?_
  refine Ar.next ?_
  refine Wc.ret ?_
  refine Ar.passRet ?_
  rotate_left
  refine Wc.skip ?_
  refine Ar.next ?_
  refine Wc.seq ?_
  refine Wc.region rfl ?_
  refine Wl.q rfl (Qy.move rfl) ?_
  refine Wl.q rfl (Qy.move rfl) ?_
  rotate_left
  skip
  have hso := sort_order o l.length
  have hne : sortL o = idx l.length := hso.2 hO
  skip
  · exact absurd hne hc1
  refine Wl.call 1 rfl T.fn83 rfl (c83 _ a c l oa oc o ha hoa hac hocc hR hO) (tags_of trivial) (fun v4 G4 Ho4 hle4 hp => ?_)
  obtain ⟨bc4, bo4, dc4, dd4, j4, z4, rfl, ho4, hp4, rfl⟩ := hp
  refine Wl.storeAll 0 T.size25 rfl rfl rfl rfl rfl rfl ?_
  refine Wl.q rfl (Qy.assign rfl) ?_
  refine Wl.done ?_
  refine Ar.next ?_
  refine Wc.ret ?_
  refine Ar.pick [1, 2, 0] (by decide) (Ar.out2 (.inr rfl) (Ho := Hp.only _ [0, 1]) rfl (.agg 2 rfl rfl T.agg25) (.tmp rfl) (Hp.sub_only _ _) ?_)
  exact ⟨_, _, _, _, _, _, rfl, ho4, hp4, rfl⟩
theorem idx_order (n : Nat) : OrderP (idx n) n := ⟨idx_len n, fun x hx => (idx_mem n x).1 hx, (idx_nodup n).imp (fun h => by omega)⟩
theorem c37N (G : Imm) (a : Option Addr) (c : Nat) (l : List R2) (ha : Arr G a l) (hac : l.length ≤ c) (hl : l.length ≤ 1048576) (hR : ¬ RightL l) :
    Does Try.prog 37 [.slice a l.length c] G [] (fun v G' Ho => v = .tuple #[.agg #[.int .i64 0, .int .i64 0, .slice none 0 0, .slice none 0 0], .int .i64 2] ∧ Ho = []) := by
  refine Does.enter Try.func37 rfl Try.ntmps37 rfl (fun w => ?_)
  refine Wc.seq ?_
  refine Wc.region rfl ?_
  refine Wl.alloc 0 rfl T.zero25 (fun b1 => ?_)
  refine Wl.q rfl (Qy.assign rfl) ?_
  refine Wl.done ?_
  refine Ar.next ?_
  refine Wc.seq ?_
  refine Wc.region rfl ?_
  refine Wl.q rfl (Qy.move rfl) ?_
  refine Wl.q rfl (Qy.move rfl) ?_
  refine Wl.q rfl (Qy.len T.sl47 rfl) ?_
  refine Wl.call 1 rfl T.fn82 rfl (c82 _ l.length (by omega)) (tags_of trivial) (fun v1 G1 Ho1 hle1 hp => ?_)
  obtain ⟨na1, nc1, rfl, hna1, hnc1, rfl⟩ := hp
  replace ha := ha.up hle1
  refine Wl.call 1 rfl T.fn32 rfl (c32N _ a c l na1 nc1 (idx l.length) ha hac hl hR) (tags_of trivial) (fun v2 G2 Ho2 hle2 hp => ?_)
  obtain ⟨rfl, rfl⟩ := hp
  replace hna1 := hna1.up hle2
  replace ha := ha.up hle2
  refine Wl.q rfl (Qy.extract rfl rfl) ?_
  refine Wl.q rfl (Qy.extract rfl rfl) ?_
  refine Wl.storeAll 0 T.size25 rfl rfl rfl rfl rfl rfl ?_
  refine Wl.q rfl (Qy.assign rfl) ?_
  refine Wl.done ?_
  refine Ar.next ?_
  refine Wc.ret ?_
  refine Ar.out2 (.inr rfl) (Ho := []) rfl (.agg 0 rfl rfl T.agg25) (.tmp rfl) trivial ?_
  exact ⟨rfl, rfl⟩
theorem c37Y (G : Imm) (a : Option Addr) (c : Nat) (l : List R2) (ha : Arr G a l) (hac : l.length ≤ c) (hR : RightL l) :
    Does Try.prog 37 [.slice a l.length c] G [] (fun v G' Ho => ∃ (bc bo : Option Addr) (dc do_ : Nat) (j1 j2 : List Value), v = .tuple #[.agg #[.int .i64 (madeP l (idx l.length)).ins, .int .i64 (madeP l (idx l.length)).regs, .slice bc (madeP l (idx l.length)).code.length dc, .slice bo (madeP l (idx l.length)).outs.length do_], .int .i64 0] ∧ OwnA bc dc (madeP l (idx l.length)).code j1 ∧ OwnA bo do_ (madeP l (idx l.length)).outs j2 ∧
      Ho = [(0, bc.map (·.block), Row 72 (madeP l (idx l.length)).code j1), (1, bo.map (·.block), Row 3 (madeP l (idx l.length)).outs j2)]) := by
  have hl15 := hR.2.1
  refine Does.enter Try.func37 rfl Try.ntmps37 rfl (fun w => ?_)
  refine Wc.seq ?_
  refine Wc.region rfl ?_
  refine Wl.alloc 0 rfl T.zero25 (fun b1 => ?_)
  refine Wl.q rfl (Qy.assign rfl) ?_
  refine Wl.done ?_
  refine Ar.next ?_
  refine Wc.seq ?_
  refine Wc.region rfl ?_
  refine Wl.q rfl (Qy.move rfl) ?_
  refine Wl.q rfl (Qy.move rfl) ?_
  refine Wl.q rfl (Qy.len T.sl47 rfl) ?_
  refine Wl.call 1 rfl T.fn82 rfl (c82 _ l.length (by omega)) (tags_of trivial) (fun v1 G1 Ho1 hle1 hp => ?_)
  obtain ⟨na1, nc1, rfl, hna1, hnc1, rfl⟩ := hp
  replace ha := ha.up hle1
  refine Wl.call 1 rfl T.fn32 rfl (c32Y _ a c l na1 nc1 (idx l.length) ha hna1 hac hnc1 hR (idx_order l.length)) (tags_of trivial) (fun v2 G2 Ho2 hle2 hp => ?_)
  obtain ⟨bc2, bo2, dc2, dd2, j2, z2, rfl, ho2, hp2, rfl⟩ := hp
  replace hna1 := hna1.up hle2
  replace ha := ha.up hle2
  refine Wl.q rfl (Qy.extract rfl rfl) ?_
  refine Wl.q rfl (Qy.extract rfl rfl) ?_
  refine Wl.storeAll 0 T.size25 rfl rfl rfl rfl rfl rfl ?_
  refine Wl.q rfl (Qy.assign rfl) ?_
  refine Wl.done ?_
  refine Ar.next ?_
  refine Wc.ret ?_
  refine Ar.pick [1, 2, 0] (by decide) (Ar.out2 (.inr rfl) (Ho := Hp.only _ [0, 1]) rfl (.agg 2 rfl rfl T.agg25) (.tmp rfl) (Hp.sub_only _ _) ?_)
  exact ⟨_, _, _, _, _, _, rfl, ho2, hp2, rfl⟩
end Go.Proofs.Ytbppmiimeccclaa
set_option maxRecDepth 100000
set_option linter.unusedVariables false
namespace Go.Proofs.Ytbppmiimeccclaa
open Go Go.Sl
set_option maxHeartbeats 4000000
/-- one instruction on numbers -/
def doZ (i : Sl.Instr) (zs : List Int) : Option Int :=
  let a := zs[i.a.toNat]?.getD 0
  let b := zs[i.b.toNat]?.getD 0
  if i.op = 2 then some (-a)
  else if i.op = 3 then some (a + b)
  else if i.op = 4 then some (a - b)
  else if i.op = 5 ∨ i.op = 7 then some (a * cst i)
  else if i.op = 6 ∨ i.op = 8 then (if a % cst i = 0 then some (a / cst i) else none)
  else some a
attribute [local irreducible] valB pb cmpZ lstWp p2 cst
end Go.Proofs.Ytbppmiimeccclaa
set_option maxRecDepth 100000
set_option linter.unusedVariables false
namespace Go.Proofs.Ytbppmiimeccclaa
open Go Go.Sl
set_option maxHeartbeats 4000000
/-- the registers' numbers after k instructions -/
def stepsZ (p : PV) (zs : List Int) : Nat → Option (List Int)
  | 0 => some zs
  | k + 1 => (stepsZ p zs k).bind fun rs => (doZ (p.code[((k : Nat) : Int).toNat]?.getD default) rs).map fun x => rs.set (p.code[((k : Nat) : Int).toNat]?.getD default).to.toNat x
theorem Below.mono {m k : Nat} {zs : List Int} (h : Below m zs) (hk : m ≤ k) : Below k zs := fun z hz => Int.lt_of_lt_of_le (h z hz) (pb_le hk)
attribute [local irreducible] valB pb cmpZ lstWp p2 cst doZ
end Go.Proofs.Ytbppmiimeccclaa
set_option maxRecDepth 100000
set_option linter.unusedVariables false
namespace Go.Proofs.Ytbppmiimeccclaa
open Go Go.Sl
set_option maxHeartbeats 4000000
theorem c40R (G : Imm) (p : PV) (ac ao : Option Addr) (cc co : Nat) (hc : Arr G ac p.code) (ho : Arr G ao p.outs) (h1 : p.code.length ≤ 1099511627776) (h2 : p.outs.length ≤ 1099511627776) (hR : rightP p = true) :
    Does Try.prog 40 [.agg #[.int .i64 p.ins, .int .i64 p.regs, .slice ac p.code.length cc, .slice ao p.outs.length co]] G [] (fun v G' Ho => v = .tuple #[.int .i64 (checkP p).1, .int .i64 0] ∧ G' = G ∧ Ho = []) := by
  have hf : (checkP p).2 = false := by unfold rightP at hR; simpa using hR
  have h := c40 G p ac ao cc co hc ho h1 h2
  rw [hf] at h
  exact h
/-- the registers at first -/
def regs0Z (p : PV) (zs : List Int) : List Int := zs ++ List.replicate (p.regs.toNat - zs.length) 0
def outsZ (p : PV) (rs : List Int) : List Int := p.outs.map fun r => rs[r.toNat]?.getD 0
/-- the run on numbers -/
def ansZ (p : PV) (zs : List Int) : Option (List Int) := (stepsZ p (regs0Z p zs) p.code.length).map (outsZ p)
attribute [local irreducible] valB pb cmpZ lstWp p2 cst doZ checkP
end Go.Proofs.Ytbppmiimeccclaa
set_option linter.unusedVariables false
namespace Go.Proofs.Ytbppmiimeccclaa
open Go Go.Sl
/-- code run over numbers -/
def goZ : List Sl.Instr → List Int → Option (List Int)
  | [], rs => some rs
  | i :: l, rs => (doZ i rs).bind fun x => goZ l (rs.set i.to.toNat x)
theorem goZ_snoc (l : List Sl.Instr) (i : Sl.Instr) (rs : List Int) : goZ (l ++ [i]) rs = (goZ l rs).bind fun r => (doZ i r).map fun x => r.set i.to.toNat x := by
  induction l generalizing rs with
  | nil =>
    show (doZ i rs).bind (fun x => some (rs.set i.to.toNat x)) = (doZ i rs).map _
    cases doZ i rs <;> rfl
  | cons j l ih =>
    show (doZ j rs).bind (fun x => goZ (l ++ [i]) (rs.set j.to.toNat x)) = ((doZ j rs).bind fun x => goZ l (rs.set j.to.toNat x)).bind _
    cases doZ j rs with
    | none => rfl
    | some x => exact ih _
theorem stepsZ_goZ (p : PV) (zs : List Int) : ∀ k, k ≤ p.code.length → stepsZ p zs k = goZ (p.code.take k) zs
  | 0, _ => by rw [List.take_zero]; rfl
  | k + 1, hk => by
    have htk : p.code.take (k + 1) = p.code.take k ++ [p.code[((k : Nat) : Int).toNat]?.getD default] := by
      rw [List.take_add_one, Int.toNat_natCast, List.getElem?_eq_getElem (by omega)]; rfl
    rw [htk, goZ_snoc, ← stepsZ_goZ p zs k (by omega)]
    rfl
def col (j : Nat) (rs : List (List Int)) : List Int := rs.map fun r => r[j]?.getD 0
def Flat (N : Nat) (rs : List (List Int)) : Prop := ∀ r ∈ rs, r.length = N
theorem col_len (j : Nat) (rs : List (List Int)) : (col j rs).length = rs.length := by unfold col; rw [List.length_map]
theorem col_at {j k : Nat} {rs : List (List Int)} : (col j rs)[k]?.getD 0 = (rs[k]?.getD [])[j]?.getD 0 := by
  unfold col
  rw [List.getElem?_map]
  cases rs[k]? <;> rfl
theorem col_set (j k : Nat) (rs : List (List Int)) (x : List Int) : col j (rs.set k x) = (col j rs).set k (x[j]?.getD 0) := by
  unfold col
  rw [List.map_set]
theorem flat_at {N k : Nat} {rs : List (List Int)} (h : Flat N rs) (hk : k < rs.length) : (rs[k]?.getD []).length = N := by
  rw [List.getElem?_eq_getElem hk]; exact h _ (List.getElem_mem hk)
theorem getc_map {l : List Int} {f : Int → Int} {j : Nat} (h : j < l.length) : (l.map f)[j]?.getD 0 = f (l[j]?.getD 0) := by
  rw [List.getElem?_map, List.getElem?_eq_getElem h]; rfl
theorem getc_zip {l m : List Int} {f : Int → Int → Int} {j : Nat} (h : j < l.length) (h2 : j < m.length) : (List.zipWith f l m)[j]?.getD 0 = f (l[j]?.getD 0) (m[j]?.getD 0) := by
  rw [List.getElem?_zipWith, List.getElem?_eq_getElem h, List.getElem?_eq_getElem h2]; rfl
theorem doI_col {i : Sl.Instr} {rs : List (List Int)} {N : Nat} (he : Flat N rs) (ha : i.a.toNat < rs.length) (hb : i.op = 3 ∨ i.op = 4 → i.b.toNat < rs.length) :
    (∀ x, doI i rs = some x → x.length = N ∧ ∀ j, j < N → doZ i (col j rs) = some (x[j]?.getD 0)) ∧ (doI i rs = none → ∃ j, j < N ∧ doZ i (col j rs) = none) := by
  have la := flat_at he ha
  unfold doI doZ
  simp only [col_at]
  by_cases h2 : i.op = 2
  · simp only [if_pos h2]
    refine ⟨fun x h => ?_, fun h => by cases h⟩
    cases h
    refine ⟨by rw [List.length_map]; exact la, fun j hj => ?_⟩
    rw [getc_map (by omega), Int.neg_mul, Int.one_mul]
  simp only [if_neg h2]
  by_cases h3 : i.op = 3
  · have lb := flat_at he (hb (.inl h3))
    simp only [if_pos h3]
    refine ⟨fun x h => ?_, fun h => by cases h⟩
    cases h
    refine ⟨by rw [List.length_zipWith]; omega, fun j hj => ?_⟩
    rw [getc_zip (by omega) (by omega), Int.one_mul]
  simp only [if_neg h3]
  by_cases h4 : i.op = 4
  · have lb := flat_at he (hb (.inr h4))
    simp only [if_pos h4]
    refine ⟨fun x h => ?_, fun h => by cases h⟩
    cases h
    refine ⟨by rw [List.length_zipWith]; omega, fun j hj => ?_⟩
    rw [getc_zip (by omega) (by omega), Int.neg_mul, Int.one_mul]; rfl
  simp only [if_neg h4]
  by_cases h5 : i.op = 5 ∨ i.op = 7
  · simp only [if_pos h5]
    refine ⟨fun x h => ?_, fun h => by cases h⟩
    cases h
    refine ⟨by rw [List.length_map]; exact la, fun j hj => ?_⟩
    rw [getc_map (by omega), Int.mul_comm]
  simp only [if_neg h5]
  by_cases h6 : i.op = 6 ∨ i.op = 8
  · simp only [if_pos h6]
    by_cases hd : AllDiv (cst i) (rs[i.a.toNat]?.getD [])
    · rw [if_pos hd]
      refine ⟨fun x h => ?_, fun h => by cases h⟩
      cases h
      refine ⟨by rw [List.length_map]; exact la, fun j hj => ?_⟩
      rw [if_pos (hd j (by omega)), getc_map (by omega)]
    · rw [if_neg hd]
      refine ⟨fun x h => (by cases h), fun _ => ?_⟩
      unfold AllDiv at hd
      rw [Classical.not_forall] at hd
      obtain ⟨j, hd⟩ := hd
      rw [Classical.not_imp] at hd
      exact ⟨j, by omega, if_neg hd.2⟩
  simp only [if_neg h6]
  refine ⟨fun x h => ?_, fun h => by cases h⟩
  cases h
  exact ⟨la, fun j hj => rfl⟩
theorem flat_set {N k : Nat} {rs : List (List Int)} {x : List Int} (h : Flat N rs) (hx : x.length = N) : Flat N (rs.set k x) := fun r hr => by
  rcases List.mem_or_eq_of_mem_set hr with h1 | h1
  · exact h r h1
  · rw [h1]; exact hx
/-- what code asks stands in the registers -/
def inRegs (n : Nat) (i : Sl.Instr) : Prop := i.a.toNat < n ∧ (i.op = 3 ∨ i.op = 4 → i.b.toNat < n)
theorem runL_col {N : Nat} : ∀ (l : List Sl.Instr) (rs : List (List Int)), Flat N rs → (∀ i ∈ l, inRegs rs.length i) →
    (∀ r', runL l rs = some r' → Flat N r' ∧ r'.length = rs.length ∧ ∀ j, j < N → goZ l (col j rs) = some (col j r')) ∧ (runL l rs = none → ∃ j, j < N ∧ goZ l (col j rs) = none)
  | [], rs, he, _ => ⟨fun r' h => by cases h; exact ⟨he, rfl, fun j _ => rfl⟩, fun h => by cases h⟩
  | i :: l, rs, he, hi => by
    obtain ⟨h1, h2⟩ := doI_col he (hi i (by simp)).1 (hi i (by simp)).2
    unfold runL goZ
    cases hd : doI i rs with
    | none =>
      refine ⟨fun r' h => (by cases h), fun _ => ?_⟩
      obtain ⟨j, hj, hz⟩ := h2 hd
      exact ⟨j, hj, by rw [hz]; rfl⟩
    | some x =>
      obtain ⟨hx, hc⟩ := h1 x hd
      obtain ⟨g1, g2⟩ := runL_col l (rs.set i.to.toNat x) (flat_set he hx) (fun q hq => by rw [List.length_set]; exact hi q (by simp [hq]))
      refine ⟨fun r' h => ?_, fun h => ?_⟩
      · obtain ⟨k1, k2, k3⟩ := g1 r' h
        refine ⟨k1, by rw [k2, List.length_set], fun j hj => ?_⟩
        rw [hc j hj]
        show goZ l ((col j rs).set i.to.toNat (x[j]?.getD 0)) = _
        rw [← col_set]; exact k3 j hj
      · obtain ⟨j, hj, hz⟩ := g2 h
        refine ⟨j, hj, ?_⟩
        rw [hc j hj]
        show goZ l ((col j rs).set i.to.toNat (x[j]?.getD 0)) = _
        rw [← col_set]; exact hz
theorem may_in {i : Sl.Instr} {regs : Int} {n : Nat} (h : mayOk i regs = true) (hn : (n : Int) = regs) : inRegs n i := by
  obtain ⟨m1, m2, m3, m4, m5⟩ := may_facts h
  exact ⟨by omega, fun h34 => by have := m4 h34; omega⟩
theorem regs_flat {p : PV} {gs : List (List Int)} {N : Nat} (hN : Flat N gs) (h1 : 1 ≤ gs.length) : Flat N (regs0 p gs) := fun r hr => by
  unfold regs0 at hr
  obtain ⟨k, _, rfl⟩ := List.mem_map.1 hr
  split
  · rename_i hk; exact flat_at hN hk
  · rw [List.length_replicate]; exact flat_at hN h1
theorem regs_col {p : PV} {gs : List (List Int)} (hz : gs.length ≤ p.regs.toNat) (j : Nat) : col j (regs0 p gs) = regs0Z p (col j gs) := by
  apply List.ext_getElem?
  intro k
  have hl : (regs0Z p (col j gs)).length = p.regs.toNat := by unfold regs0Z; rw [List.length_append, List.length_replicate, col_len]; omega
  have hl2 : (col j (regs0 p gs)).length = p.regs.toNat := by rw [col_len, regs0_len]
  rcases Nat.lt_or_ge k p.regs.toNat with hk | hk
  · have e : ∀ (l : List Int), k < l.length → l[k]? = some (l[k]?.getD 0) := fun l h => by rw [List.getElem?_eq_getElem h]; rfl
    rw [e _ (by omega), e (regs0Z p (col j gs)) (by omega)]
    congr 1
    rw [col_at, regs0_at hk]
    unfold regs0Z
    split
    · rename_i h
      rw [List.getElem?_append_left (by rw [col_len]; exact h), col_at]
    · rename_i h
      rw [List.getElem?_append_right (by rw [col_len]; omega), col_len]
      have e0 : ∀ (n m : Nat), (List.replicate n (0 : Int))[m]?.getD 0 = 0 := fun n m => by
        rw [List.getElem?_replicate]; split <;> rfl
      rw [e0, e0]
  · rw [List.getElem?_eq_none (by omega), List.getElem?_eq_none (by omega)]
/-- column by column: what a program answers over a grid -/
theorem follow_of_cols {p : PV} {gs os : List (List Int)} {N : Nat} (hR : rightP p = true) (hg : (gs.length : Int) = p.ins) (hN : Flat N gs) (ho : os.length = p.outs.length) (hf : Flat N os)
    (h : ∀ j, j < N → ansZ p (col j gs) = some (col j os)) : followP p gs = some os := by
  obtain ⟨f1, f2, f3, f4, f5, f6, f7, f8⟩ := right_facts hR
  have hfp := regs_flat (p := p) hN (by omega)
  unfold followP
  rw [runTo_runL p gs _ (Nat.le_refl _), List.take_length]
  have hq := runL_col p.code (regs0 p gs) hfp (fun i hi => may_in (f8 i hi) (by rw [regs0_len]; omega))
  have h9 : ∀ j, j < N → (goZ p.code (col j (regs0 p gs))).map (outsZ p) = some (col j os) := fun j hj => by
    have h1 := h j hj
    unfold ansZ at h1
    rw [stepsZ_goZ p _ _ (Nat.le_refl _), List.take_length, ← regs_col (by omega)] at h1
    exact h1
  cases hr : runL p.code (regs0 p gs) with
  | none =>
    obtain ⟨j, hj, hz⟩ := hq.2 hr
    have h1 := h9 j hj
    rw [hz] at h1
    cases h1
  | some s =>
    obtain ⟨q1, q2, q3⟩ := hq.1 s hr
    show some (outsOf p s) = some os
    congr 1
    unfold outsOf
    apply List.ext_getElem
    · rw [List.length_map, ho]
    · intro k g1 g2
      rw [List.length_map] at g1
      rw [List.getElem_map]
      have hrk := f7 p.outs[k] (List.getElem_mem g1)
      have ls := flat_at q1 (k := p.outs[k].toNat) (by rw [q2, regs0_len]; omega)
      have lo := hf _ (List.getElem_mem g2)
      apply List.ext_getElem
      · omega
      · intro j j1 j2
        have h1 := h9 j (by omega)
        rw [q3 j (by omega)] at h1
        have h2 : outsZ p (col j s) = col j os := Option.some.inj h1
        have h3 := congrArg (fun l : List Int => l[k]?.getD 0) h2
        simp only [col_at] at h3
        unfold outsZ at h3
        rw [List.getElem?_map, List.getElem?_eq_getElem g1, List.getElem?_eq_getElem g2] at h3
        simp only [Option.map_some, Option.getD_some, col_at] at h3
        rw [List.getElem?_eq_getElem j1, List.getElem?_eq_getElem j2] at h3
        exact h3
def Ag (R : Int) (σ : Int → Int) (rs : List Int) : Prop := ∀ r, 0 ≤ r → r < R → σ r = rs[r.toNat]?.getD 0
theorem doF_doZ {i : Sl.Instr} {R : Int} {σ : Int → Int} {rs : List Int} (hm : mayOk i R = true) (h : Ag R σ rs) : doF i σ = doZ i rs := by
  obtain ⟨m1, m2, m3, m4, m5⟩ := may_facts hm
  unfold doF doZ
  simp only [h i.a m3.1 m3.2]
  by_cases h34 : i.op = 3 ∨ i.op = 4
  · have := m4 h34
    rw [h i.b this.1 this.2]
  · have h3 : ¬ i.op = 3 := fun e => h34 (.inl e)
    have h4 : ¬ i.op = 4 := fun e => h34 (.inr e)
    simp only [h3, h4, if_false]
theorem ag_set {R : Int} {σ : Int → Int} {rs : List Int} {t x : Int} (h : Ag R σ rs) (hl : (rs.length : Int) = R) (ht : 0 ≤ t ∧ t < R) : Ag R (upd σ t x) (rs.set t.toNat x) := fun r h0 h1 => by
  rw [List.getElem?_set]
  by_cases hr : r = t
  · subst hr
    rw [upd_at, if_pos rfl, if_pos (by omega)]; rfl
  · rw [upd_ne _ _ hr, if_neg (by omega)]; exact h r h0 h1
theorem goZ_runF {R : Int} : ∀ (l : List Sl.Instr) (σ σ' : Int → Int) (rs : List Int), (∀ i ∈ l, mayOk i R = true) → (rs.length : Int) = R → Ag R σ rs → runF l σ = some σ' → ∃ rs', goZ l rs = some rs' ∧ (rs'.length : Int) = R ∧ Ag R σ' rs'
  | [], σ, σ', rs, _, hl, h, he => by cases he; exact ⟨rs, rfl, hl, h⟩
  | i :: l, σ, σ', rs, hm, hl, h, he => by
    have hmi := hm i List.mem_cons_self
    obtain ⟨m1, m2, m3⟩ := may_facts hmi
    obtain ⟨x, hx, he2⟩ := Option.bind_eq_some_iff.1 (show (doF i σ).bind (fun x => runF l (upd σ i.to x)) = some σ' from he)
    obtain ⟨rs', g1, g2, g3⟩ := goZ_runF l (upd σ i.to x) σ' (rs.set i.to.toNat x) (fun j hj => hm j (List.mem_cons_of_mem _ hj)) (by rw [List.length_set]; exact hl) (ag_set h hl m2) he2
    refine ⟨rs', ?_, g2, g3⟩
    show (doZ i rs).bind (fun x => goZ l (rs.set i.to.toNat x)) = some rs'
    rw [← doF_doZ hmi h, hx]
    exact g1
theorem normAll_run (m : Nat) (v : Nat → Int) : ∀ (l : List R2) (k : Nat) (σ : Int → Int), (∀ p ∈ l, Int.gcd p.a p.b ≠ 0) → (∀ i, i < l.length → σ ((k + i : Nat) : Int) = (Int.gcd (l[i]?.getD default).a (l[i]?.getD default).b : Int) ^ m * v (k + i)) →
    ∃ σ', runF (normAll m l k) σ = some σ' ∧ (∀ i, i < l.length → σ' ((k + i : Nat) : Int) = v (k + i)) ∧ ∀ r : Int, r < k → σ' r = σ r
  | [], k, σ, _, _ => ⟨σ, rfl, fun i h => by simp at h, fun _ _ => rfl⟩
  | p :: l, k, σ, hg, h => by
    have h0 := h 0 (by simp)
    obtain ⟨σ', a1, a2, a3⟩ := normAll_run m v l (k + 1) (upd σ (k : Int) (v k)) (fun q hq => hg q (List.mem_cons_of_mem _ hq)) (fun i hi => by
      have := h (i + 1) (by rw [List.length_cons]; omega)
      rw [upd_ne _ _ (by omega), show k + 1 + i = k + (i + 1) by omega]
      exact this)
    refine ⟨σ', runF_seq (over_many (k : Int) (Int.gcd p.a p.b : Int) (by have := hg p List.mem_cons_self; omega) m σ (v k) h0) a1, fun i hi => ?_, fun r hr => ?_⟩
    · cases i with
      | zero =>
        show σ' ((k + 0 : Nat) : Int) = v (k + 0)
        rw [Nat.add_zero, a3 _ (by omega), upd_at]
      | succ i =>
        rw [List.length_cons] at hi
        have := a2 i (by omega)
        rw [show k + 1 + i = k + (i + 1) by omega] at this
        exact this
    · rw [a3 r (by omega), upd_ne _ _ (by omega)]
/-- run on a form's values at the points, the program answers its coefficients -/
theorem made_ans {l : List R2} {o : List Int} {f : List Int} (hR : RightL l) (ho : OrderP o l.length) (hf : f.length = l.length) : ansZ (madeP l o) (l.map fun p => ev f p.a p.b) = some f := by
  have hg := code_good hR ho
  have hw := wh_right hR ho.2.1
  have hl := hR.1
  have hok : ∀ i, i < l.length → okP (l[i]?.getD default) := hR.2.2.1
  have hokm : ∀ p ∈ l, okP p := fun p hp => by
    obtain ⟨i, hi, rfl⟩ := List.mem_iff_getElem.1 hp
    have := hok i hi
    rw [List.getElem?_eq_getElem hi] at this
    exact this
  generalize hrs : regs0Z (madeP l o) (l.map fun p => ev f p.a p.b) = rs
  have hzl : (l.map fun p => ev f p.a p.b).length = l.length := List.length_map _
  have hregs : (madeP l o).regs = 3 * l.length + 1 := rfl
  have hrl : (rs.length : Int) = 3 * l.length + 1 := by
    rw [← hrs]; unfold regs0Z
    rw [List.length_append, List.length_replicate, hzl, hregs]; omega
  have hr0 : ∀ i, i < l.length → rs[i]?.getD 0 = ev f (l[i]?.getD default).a (l[i]?.getD default).b := fun i hi => by
    rw [← hrs]; unfold regs0Z
    rw [List.getElem?_append_left (by rw [hzl]; exact hi), List.getElem?_map, List.getElem?_eq_getElem hi]; rfl
  obtain ⟨c, f', hcf⟩ : ∃ c f', f = c :: f' := by
    cases f with
    | nil => rw [List.length_nil] at hf; omega
    | cons c f' => exact ⟨c, f', rfl⟩
  have hfl : f'.length = l.length - 1 := by rw [hcf, List.length_cons] at hf; omega
  obtain ⟨σ1, a1, a2, a3⟩ := normAll_run (l.length - 1) (fun i => ev f (ptW (l.map wholeP) (i : Int)).a (ptW (l.map wholeP) (i : Int)).b) l 0 (fun r => rs[r.toNat]?.getD 0) (fun p hp => by have := gcd_near (hokm p hp); omega) (fun i hi => by
    simp only [Nat.zero_add]
    rw [Int.toNat_natCast, hr0 i hi, ptW_map l (by omega) (by omega), Int.toNat_natCast]
    obtain ⟨w1, w2, _⟩ := whole_facts (hok i hi)
    have hgp := gcd_near (hok i hi)
    generalize (l[i]?.getD default) = p at *
    have := ev_norm (g := (Int.gcd p.a p.b : Int)) (wholeP p).a (wholeP p).b c f' (by omega)
    rw [← w1, ← w2, hfl, ← hcf] at this
    exact this)
  have hv : ∀ k ∈ o, σ1 k = ev f (ptW (l.map wholeP) k).a (ptW (l.map wholeP) k).b := fun k hk => by
    have h1 := ho.2.1 k hk
    have := a2 k.toNat (by omega)
    simp only [Nat.zero_add] at this
    rw [show ((k.toNat : Nat) : Int) = k by omega] at this
    exact this
  have hol := ho.1
  obtain ⟨σ2, b1, b2, b3⟩ := smith_run (n := l.length) (wh := l.map wholeP) o f σ1 ho.2.2 (by intro e; rw [e, List.length_nil] at hol; omega) ho.2.1 (by omega) (fun k hk => ⟨hw.cop k hk, hw.bez k hk⟩) hw.det (by omega) hv
  obtain ⟨rs', c1, c2, c3⟩ := goZ_runF (codeP l o) (fun r => rs[r.toNat]?.getD 0) σ2 rs hg.fit hrl (fun r _ _ => rfl) (runF_seq a1 b1)
  unfold ansZ
  rw [stepsZ_goZ _ _ _ (Nat.le_refl _), List.take_length, hrs]
  show (goZ (codeP l o) rs).map (outsZ (madeP l o)) = some f
  rw [c1]
  show some (outsZ (madeP l o) rs') = some f
  congr 1
  unfold outsZ madeP
  simp only
  apply List.ext_getElem
  · rw [List.length_map, List.length_map, List.length_range, hf]
  · intro j g1 g2
    rw [List.getElem_map, List.getElem_map, List.getElem_range, ← c3 _ (by omega) (by omega), b2 j g2]
    unfold co
    rw [List.getElem?_eq_getElem g2]; rfl
theorem unitR_ev {n j : Nat} (h : j < n) (a b : Int) : ev (unitR n j) a b = a ^ j * b ^ (n - 1 - j) := ev_unit a b n j h
theorem interp_made {l : List R2} {o : List Int} (hR : RightL l) (ho : OrderP o l.length) : InterpP (madeP l o) l := by
  have hpo : (madeP l o).outs.length = l.length := by show ((List.range l.length).map _).length = _; rw [List.length_map, List.length_range]
  refine ⟨made_right hR ho, rfl, hpo, ?_⟩
  have hul : ∀ j, (unitR l.length j).length = l.length := fun j => by unfold unitR; rw [List.length_set, List.length_replicate]
  refine follow_of_cols (N := l.length) (made_right hR ho) (by rw [gridR_lenN]; rfl) (fun r hr => ?_) (by rw [List.length_map, List.length_range, hpo]) (fun r hr => ?_) (fun j hj => ?_)
  · unfold gridR at hr
    obtain ⟨p, hp, rfl⟩ := List.mem_map.1 hr
    unfold powR; rw [List.length_map, List.length_range]
  · obtain ⟨i, hi, rfl⟩ := List.mem_map.1 hr
    exact hul i
  · have e1 : col j (gridR l) = l.map fun p => ev (unitR l.length j) p.a p.b := by
      unfold col gridR
      rw [List.map_map]
      apply List.map_congr_left
      intro p hp
      show (powR p.a p.b l.length)[j]?.getD 0 = _
      rw [unitR_ev hj]
      unfold powR
      rw [List.getElem?_map, List.getElem?_range hj]; rfl
    have e2 : col j ((List.range l.length).map (unitR l.length)) = unitR l.length j := by
      apply List.ext_getElem
      · rw [col_len, List.length_map, List.length_range, hul]
      · intro i g1 g2
        rw [col_len, List.length_map, List.length_range] at g1
        have e3 : ∀ (a b : Nat), b < l.length → (unitR l.length a)[b]?.getD 0 = if a = b then 1 else 0 := fun a b hb => by
          unfold unitR
          rw [List.getElem?_set, List.getElem?_replicate]
          by_cases hab : a = b
          · rw [if_pos hab, if_pos hab, if_pos (by rw [List.length_replicate]; omega)]; rfl
          · rw [if_neg hab, if_neg hab, if_pos hb]; rfl
        have e4 := e3 i j hj
        have e5 := e3 j i g1
        rw [List.getElem?_eq_getElem g2] at e5
        have e6 : (col j ((List.range l.length).map (unitR l.length)))[i]?.getD 0 = (unitR l.length i)[j]?.getD 0 := by
          rw [col_at, List.getElem?_map, List.getElem?_range g1]; rfl
        rw [List.getElem?_eq_getElem (by rw [col_len, List.length_map, List.length_range]; exact g1)] at e6
        simp only [Option.getD_some] at e5 e6
        rw [e6, e4, e5]
        by_cases hij : i = j
        · rw [if_pos hij, if_pos hij.symm]
        · rw [if_neg hij, if_neg (fun h => hij h.symm)]
    rw [e1, e2]
    exact made_ans hR ho (hul j)
end Go.Proofs.Ytbppmiimeccclaa
set_option maxRecDepth 100000
set_option linter.unusedVariables false
namespace Go.Proofs.Ytbppmiimeccclaa
open Go Go.Sl
set_option maxHeartbeats 4000000
attribute [local irreducible] RightL RightR gridR
theorem right_live : RightL [⟨0, 1⟩] := by
  unfold RightL
  refine ⟨by simp, by simp, fun i hi => ?_, ?_⟩
  · have : i = 0 := by simp at hi; omega
    subst this
    show okP ⟨0, 1⟩
    unfold okP near
    simp
  · rintro ⟨j, hj, i, hi, _⟩
    simp at hj; omega
theorem c28L (G : Imm) (a : Option Addr) (c : Nat) (ha : Arr G a [(⟨0, 1⟩ : R2)]) (hc : 1 ≤ c) : Does Try.prog 28 [.slice a [(⟨0, 1⟩ : R2)].length c] G [] (fun v G' Ho => v = .bool true ∧ G' = G ∧ Ho = []) :=
  c28Y G a c _ ha (by simp) (by simpa using hc) right_live
theorem c24 (G : Imm) : Does Try.prog 24 [] G [] (fun v G' Ho => v = .bool true ∧ G' = G ∧ Ho = []) := by
  refine Does.enter Try.func24 rfl Try.ntmps24 rfl (fun w => ?_)
  refine Wc.seq ?_
  refine Wc.region rfl ?_
  refine Wl.q rfl (Qy.assign rfl) ?_
  refine Wl.done ?_
  refine Ar.next ?_
  refine Wc.seq ?_
  refine Wc.region rfl ?_
  refine Wl.q rfl (Qy.build (cs := [_, _]) T.st75 rfl rfl rfl) ?_
  refine Wl.lit (α := R2) 0 [⟨0, 1⟩] rfl T.sl47 T.el75 rfl rfl rfl rfl rfl (fun b1 => ?_)
  refine Wl.callB 1 rfl T.fn28 rfl (fun Gx hGx hgx => (c28L _ _ _ (by first | exact Arr.up (by assumption) hGx | exact Arr.nil _ | exact Arr.own hgx 0 rfl (by first | assumption | exact OwnA.made (by simp [maxLen]))) (by omega))) (fun v1 Gx1 G1 Ho1 hlx1 hp => ?_)
  obtain ⟨rfl, rfl, rfl⟩ := hp
  refine Wl.q rfl (Qy.assign rfl) ?_
  refine Wl.done ?_
  refine Ar.next ?_
  refine Wc.ret ?_
  refine Ar.out1 (.inr rfl) (Ho := []) rfl (.tmp rfl) trivial ?_
  exact ⟨rfl, rfl, rfl⟩
theorem c25Y (G : Imm) (a : Option Addr) (c : Nat) (l : List R2) (ha : Arr G a l) (h1 : l.length ≤ 1048576) (hc : l.length ≤ c) (hR : RightL l) : Does Try.prog 25 [.slice a l.length c] G [] (fun v G' Ho => v = .bool true ∧ G' = G ∧ Ho = []) :=
  (c25 G a c l ha h1 hc).mono fun v G' Ho _ ⟨b, e1, e2, e3, e4⟩ => ⟨by rw [e1, e2.2 ((right_iff l).1 hR)], e3, e4⟩
end Go.Proofs.Ytbppmiimeccclaa
set_option maxRecDepth 100000
set_option linter.unusedVariables false
namespace Go.Proofs.Ytbppmiimeccclaa
open Go Go.Sl
set_option maxHeartbeats 4000000
/-- the greatest set of points: as they are laid, with infinity, within reach -/
def nm1 (i : Nat) : List R2 := (List.range i).map fun j : Nat => ⟨16 + ((j : Int) - 7).tmod 2, (j : Int) - 7⟩
theorem nm1_len (i : Nat) : (nm1 i).length = i := by unfold nm1; rw [List.length_map, List.length_range]
theorem nm1_succ (i : Nat) : nm1 (i + 1) = nm1 i ++ [⟨16 + ((i : Int) - 7).tmod 2, (i : Int) - 7⟩] := by unfold nm1; rw [List.range_succ, List.map_append]; rfl
def nmA : List R2 := (nm1 15).set 7 ⟨1, 0⟩
def fixP (p : R2) : R2 := if 16 < p.a then ⟨15, p.b⟩ else p
def nmB (k : Nat) : List R2 := (nmA.take k).map fixP ++ nmA.drop k
def nmF : List R2 := nmA.map fixP
theorem nmA_len : nmA.length = 15 := by decide
theorem nmF_len : nmF.length = 15 := by decide
theorem nmB_len (k : Nat) (h : k ≤ 15) : (nmB k).length = 15 := by
  unfold nmB; rw [List.length_append, List.length_map, List.length_take, List.length_drop, nmA_len]; omega
theorem nmB_get {k : Nat} (h : k < 15) : (nmB k)[k]?.getD default = nmA[k]?.getD default := by
  unfold nmB
  rw [List.getElem?_append_right (by rw [List.length_map, List.length_take]; omega), List.length_map, List.length_take, nmA_len, List.getElem?_drop, show k + (k - min k 15) = k by omega]
theorem nmB_succ {k : Nat} (h : k < 15) : nmB (k + 1) = (nmB k).set k (fixP (nmA[k]?.getD default)) := by
  have hk : k < nmA.length := by rw [nmA_len]; exact h
  unfold nmB
  rw [List.set_append_right _ _ (by rw [List.length_map, List.length_take]; omega), List.length_map, List.length_take, nmA_len, show k - min k 15 = 0 by omega, List.drop_eq_getElem_cons hk, List.set_cons_zero, List.take_add_one, List.map_append, List.append_assoc, List.getElem?_eq_getElem hk]
  rfl
theorem nm_ok : ((List.range 15).all fun i => decide (near (nmF[i]?.getD default).a (nmF[i]?.getD default).b) && !(decide ((nmF[i]?.getD default).a = 0) && decide ((nmF[i]?.getD default).b = 0))) = true := by decide +kernel
theorem nm_det : ((List.range 15).all fun j => (List.range j).all fun i => decide ((nmF[i]?.getD default).a * (nmF[j]?.getD default).b - (nmF[j]?.getD default).a * (nmF[i]?.getD default).b ≠ 0)) = true := by decide +kernel
theorem nm_right : RightL nmF := by
  have h1 : ∀ i, i < 15 → okP (nmF[i]?.getD default) := fun i hi => by
    have := List.all_eq_true.mp nm_ok i (List.mem_range.mpr hi)
    simp only [Bool.and_eq_true, decide_eq_true_eq, Bool.not_eq_true', Bool.and_eq_false_iff, decide_eq_false_iff_not] at this
    exact ⟨this.1, fun h => this.2.elim (fun g => g h.1) (fun g => g h.2)⟩
  refine ⟨by rw [nmF_len]; decide, by rw [nmF_len]; exact Nat.le_refl _, fun i hi => h1 i (by rw [nmF_len] at hi; exact hi), ?_⟩
  rintro ⟨j, hj, i, hij, ha⟩
  rw [nmF_len] at hj
  have h2 := List.all_eq_true.mp (List.all_eq_true.mp nm_det j (List.mem_range.mpr hj)) i (List.mem_range.mpr hij)
  rw [decide_eq_true_eq] at h2
  have h3 := (same_iff _ _ _ _).1 ha.2.2
  unfold oneR at h3
  rw [if_neg (fun h => h.elim (h1 i (by omega)).2 (h1 j hj).2)] at h3
  exact h2 h3
theorem nm_wrong : ¬ RightL (nmF ++ [⟨0, 1⟩]) := fun h => by
  have := h.2.1
  rw [List.length_append, nmF_len] at this
  exact absurd this (by decide)
theorem arr_left {α : Type} [Cells α] {G : Imm} {a : Option Addr} {xs ys : List α} (h : Arr G a (xs ++ ys)) : Arr G a xs := by
  refine ⟨flat_length _, ?_⟩
  rcases h.2 with h0 | ⟨b, o, rfl, hr⟩
  · left; rw [List.length_append] at h0; omega
  · refine .inr ⟨b, o, rfl, fun i v hi => hr i v ?_⟩
    rw [flat_append, List.getElem?_append_left (List.getElem?_eq_some_iff.1 hi).1]; exact hi
theorem c8 (G : Imm) : Does Try.prog 8 [] G [] (fun v G' Ho => v = .bool true ∧ Ho = []) := by
  have hR := nm_right
  have hO := idx_order nmF.length
  have hI := interp_made hR hO
  have hri := made_right hR hO
  have hcl : (madeP nmF (idx nmF.length)).code.length ≤ 16384 := (right_facts hri).2.2.2.1
  have hoo : (madeP nmF (idx nmF.length)).outs.length ≤ 128 := (right_facts hri).2.2.2.2.2.1
  have h37 := fun G' a c (h : Arr G' a nmF) hac => c37Y G' a c nmF h hac hR
  generalize madeP nmF (idx nmF.length) = q at *
  refine Does.enter Try.func8 rfl Try.ntmps8 rfl (fun w => ?_)
  refine Wc.nilRow 9 (Row 75 ([] : List R2) []) ?_
  refine Wc.seq ?_
  refine Wc.region rfl ?_
  refine Wl.q rfl (Qy.assign rfl) ?_
  refine Wl.done ?_
  refine Ar.next ?_
  refine Wc.seq ?_
  refine Wc.seq ?_
  refine Wc.region rfl ?_
  refine Wl.call0 rfl T.fn24 rfl (c24 _) ?_
  refine Wl.q rfl (Qy.not rfl) ?_
  refine Wl.done ?_
  refine Ar.next ?_
  refine Wc.condF rfl ?_
  refine Wc.skip ?_
  refine Ar.next ?_
  refine Wc.seq ?_
  refine Wc.region rfl ?_
  refine Wl.q rfl (Qy.assign rfl) ?_
  refine Wl.done ?_
  refine Ar.next ?_
  refine Wc.seq ?_
  refine Wc.seq ?_
  refine Wc.region rfl ?_
  refine Wl.q rfl (Qy.assign rfl) ?_
  refine Wl.done ?_
  refine Ar.next ?_
  refine Wc.block ?_
  refine Wc.re 2 rfl (show _ = Value.int .i64 (((0 : Nat) : Int) - 7) from rfl) ?_
  refine Wc.loop (ι := Nat × (Option Addr × Nat × List Value)) (fun (i, (o, d, j)) => ([(2, .int .i64 ((i : Int) - 7)), (1, .slice o (nm1 i).length d), (0, Go.Value.bool Bool.false)], [(9, o.map (·.block), Row 75 (nm1 i) j)])) (fun (i, (o, d, j)) => i ≤ 15 ∧ OwnA o d (nm1 i) j) (fun (i, (o, d, j)) => 15 - i) ((0, (none, 0, []))) (⟨Nat.zero_le _, OwnA.nil⟩) ⟨rfl, rfl, rfl, trivial⟩ ⟨rfl, trivial⟩ (fun ⟨i, (o, d, j)⟩ => fun (hk : i ≤ 15 ∧ OwnA o d (nm1 i) j) => ?_)
  obtain ⟨hi1, hi2⟩ := hk
  have hnl := nm1_len i
  rcases Nat.lt_or_ge i 15 with hil | hil
  · have hm1 := Int.tmod_lt_of_pos ((i : Int) - 7) (show (0 : Int) < 2 by decide)
    have hm2 : -2 < ((i : Int) - 7).tmod 2 := Int.lt_tmod_of_pos ((i : Int) - 7) (show (0 : Int) < 2 by decide)
    refine Wc.seq ?_
    refine Wc.seq ?_
    refine Wc.region rfl ?_
    refine Wl.q rfl (Qy.move rfl) ?_
    refine Wl.q rfl (Qy.leq rfl rfl) ?_
    refine Wl.done ?_
    refine Ar.next ?_
    refine Wc.condP rfl (by first | assumption | omega) ?_
    refine Wc.skip ?_
    refine Ar.next ?_
    refine Wc.seq ?_
    refine Wc.block ?_
    refine Wc.region rfl ?_
    refine Wl.q rfl (Qy.move rfl) ?_
    refine Wl.q rfl (Qy.move rfl) ?_
    refine Wl.q rfl (Qy.rem rfl rfl (by omega)) ?_
    refine Wl.q rfl (Qy.add rfl rfl (by omega)) ?_
    refine Wl.q rfl (Qy.move rfl) ?_
    refine Wl.q rfl (Qy.build (cs := [_, _]) T.st75 rfl rfl rfl) ?_
    refine Wl.lit (α := R2) 10 [⟨16 + Int.tmod ((↑i : Int) - 7) 2, (↑i : Int) - 7⟩] rfl T.sl47 T.el75 rfl rfl rfl rfl rfl (fun b1 => ?_)
    refine Wl.append (α := R2) 9 rfl T.sl47 T.el75 rfl rfl rfl (by first | assumption | exact OwnA.nil | exact OwnA.made (by simp)) (Src.row 10 rfl) (by first | omega | (simp only [List.length_append, List.length_cons, List.length_nil, maxLen]; omega)) (by first | omega | (simp only [List.length_append, List.length_cons, List.length_nil, maxLen]; omega)) (fun a1 c1 junk1 ho1 => ?_)
    refine Wl.q rfl (Qy.assign rfl) ?_
    refine Wl.done ?_
    refine Ar.outNormal ?_
    refine Ar.next ?_
    refine Wc.region rfl ?_
    refine Wl.q rfl (Qy.move rfl) ?_
    refine Wl.q rfl (Qy.add rfl rfl (by omega)) ?_
    refine Wl.q rfl (Qy.assign rfl) ?_
    refine Wl.done ?_
    refine Ar.re 2 rfl (show _ = Value.int .i64 (((i + 1 : Nat) : Int) - 7) by congr 1; omega) ?_
    refine Ar.re 1 rfl (show _ = Value.slice a1 (nm1 (i + 1)).length c1 by rw [nm1_succ]) ?_
    refine Ar.reH 9 (Row 75 (nm1 (i + 1)) junk1) rfl (by rw [nm1_succ]) ?_
    refine Ar.again ((i + 1, (a1, c1, junk1))) ?_ ?_ rfl ⟨rfl, rfl, rfl, trivial⟩ ⟨rfl, trivial⟩
    · exact ⟨hil, by rw [nm1_succ]; exact ho1⟩
    · show 15 - (i + 1) < 15 - i
      omega
  · have hil : i = 15 := by omega
    subst hil
    rcases hi2 with ⟨_, h3, _, _⟩ | ⟨bb, rfl, h2, h3, h4⟩
    · have := nm1_len 15; rw [h3] at this; cases this
    have hi2 : OwnA (some ⟨bb, 0, none⟩) d (nm1 15) j := .inr ⟨bb, rfl, h2, h3, h4⟩
    have hown : ∀ xs : List R2, xs.length = 15 → OwnA (some ⟨bb, 0, none⟩) d xs j := fun xs hx => .inr ⟨bb, rfl, by rw [hx]; rw [hnl] at h2; exact h2, by rw [hx]; rw [hnl] at h3; exact h3, h4⟩
    have hd15 : 15 ≤ d := by rw [hnl] at h3; exact h3
    refine Wc.seq ?_
    refine Wc.seq ?_
    refine Wc.region rfl ?_
    refine Wl.q rfl (Qy.move rfl) ?_
    refine Wl.q rfl (Qy.leq rfl rfl) ?_
    refine Wl.done ?_
    refine Ar.next ?_
    refine Wc.condN rfl (by first | assumption | omega) ?_
    refine Wc.exit ?_
    refine Ar.passExit ?_
    refine Ar.passExit ?_
    refine Ar.here ?_
    refine Ar.next ?_
    refine Wc.seq ?_
    refine Wc.region rfl ?_
    refine Wl.q rfl (Qy.move rfl) ?_
    refine Wl.q rfl (Qy.build (cs := [_, _]) T.st75 rfl rfl rfl) ?_
    refine Wl.q rfl (Qy.indexAddrO (α := R2) T.sl47 rfl rfl (by assumption) (by omega)) ?_
    refine Wl.setO (z := ⟨_, _⟩) 9 T.size75 rfl rfl rfl (by assumption) (by omega) rfl (fun ho1 => ?_)
    refine Wl.done ?_
    refine Ar.next ?_
    refine Wc.seq ?_
    refine Wc.seq ?_
    refine Wc.region rfl ?_
    refine Wl.q rfl (Qy.assign rfl) ?_
    refine Wl.done ?_
    refine Ar.next ?_
    refine Wc.block ?_
    have hB0 : (nm1 15).set (Int.toNat 7) ⟨1, 0⟩ = nmB 0 := rfl
    refine Wc.re 1 rfl (show _ = Value.slice (some ⟨bb, 0, none⟩) (nmB 0).length d by rw [hnl, nmB_len 0 (by omega)]) ?_
    refine Wc.reH 9 (Row 75 (nmB 0) j) rfl (by rw [hB0]) ?_
    clear hB0
    refine Wc.loop (ι := Nat) (fun k => ([(3, .int .i64 (k : Int)), (1, .slice (some ⟨bb, 0, none⟩) (nmB k).length d), (0, Go.Value.bool Bool.false)], [(9, some bb, Row 75 (nmB k) j)])) (fun k => k ≤ 15) (fun k => 15 - k) (0) (Nat.zero_le _) ⟨rfl, rfl, rfl, trivial⟩ ⟨rfl, trivial⟩ (fun k => fun (hk : k ≤ 15) => ?_)
    have hbl := nmB_len k hk
    have hoB := hown _ hbl
    rcases Nat.lt_or_ge k 15 with hkl | hkl
    · have hbg : (nmB k)[((k : Nat) : Int).toNat]?.getD default = nmA[k]?.getD default := by rw [Int.toNat_natCast]; exact nmB_get hkl
      refine Wc.seq ?_
      refine Wc.seq ?_
      refine Wc.region rfl ?_
      refine Wl.q rfl (Qy.move rfl) ?_
      refine Wl.q rfl (Qy.move rfl) ?_
      refine Wl.q rfl (Qy.len T.sl47 rfl) ?_
      refine Wl.q rfl (Qy.lss rfl rfl) ?_
      refine Wl.done ?_
      refine Ar.next ?_
      refine Wc.condP rfl (by first | assumption | omega) ?_
      refine Wc.skip ?_
      refine Ar.next ?_
      refine Wc.seq ?_
      refine Wc.block ?_
      refine Wc.seq ?_
      refine Wc.region rfl ?_
      refine Wl.q rfl (Qy.move rfl) ?_
      refine Wl.q rfl (Qy.move rfl) ?_
      refine Wl.q rfl (Qy.indexAddrO (α := R2) T.sl47 rfl rfl (by assumption) (by omega)) ?_
      refine Wl.q rfl (Qy.fieldAddr T.fa75_0 rfl) ?_
      refine Wl.q rfl (Qy.loadO 9 0 T.one3 rfl rfl (by assumption) (by omega) rfl rfl) ?_
      refine Wl.q rfl (Qy.gtr rfl rfl) ?_
      refine Wl.done ?_
      refine Ar.next ?_
      refine Wc.cond rfl (fun hc1 => ?_) (fun hc1 => ?_)
      refine Wc.region rfl ?_
      refine Wl.q rfl (Qy.move rfl) ?_
      refine Wl.q rfl (Qy.move rfl) ?_
      refine Wl.q rfl (Qy.indexAddrO (α := R2) T.sl47 rfl rfl (by assumption) (by omega)) ?_
      refine Wl.q rfl (Qy.fieldAddr T.fa75_0 rfl) ?_
      rotate_left
      refine Wc.skip ?_
      refine Ar.outNormal ?_
      refine Ar.next ?_
      refine Wc.region rfl ?_
      refine Wl.q rfl (Qy.move rfl) ?_
      refine Wl.q rfl (Qy.add rfl rfl (by omega)) ?_
      refine Wl.q rfl (Qy.assign rfl) ?_
      refine Wl.done ?_
      rotate_left
      · refine Wl.setP (α := R2) ⟨15, ((nmB k)[((k : Nat) : Int).toNat]?.getD default).b⟩ 9 0 T.size3 rfl rfl rfl rfl (by omega) (by decide) rfl ?_
        have hbs : (nmB k).set ((k : Nat) : Int).toNat ⟨15, ((nmB k)[((k : Nat) : Int).toNat]?.getD default).b⟩ = nmB (k + 1) := by
          rw [nmB_succ hkl, Int.toNat_natCast] at *
          rw [hbg] at hc1 ⊢
          unfold fixP; rw [if_pos hc1]
        refine Wl.done ?_
        refine Ar.outNormal ?_
        refine Ar.next ?_
        refine Wc.region rfl ?_
        refine Wl.q rfl (Qy.move rfl) ?_
        refine Wl.q rfl (Qy.add rfl rfl (by omega)) ?_
        refine Wl.q rfl (Qy.assign rfl) ?_
        refine Wl.done ?_
        refine Ar.re 3 rfl (show _ = Value.int .i64 ((k + 1 : Nat) : Int) from rfl) ?_
        refine Ar.re 1 rfl (show _ = Value.slice (some ⟨bb, 0, none⟩) (nmB (k + 1)).length d by rw [hbl, nmB_len (k + 1) (by omega)]) ?_
        refine Ar.reH 9 (Row 75 (nmB (k + 1)) j) rfl (by rw [hbs]) ?_
        refine Ar.again (k + 1) ?_ ?_ rfl ⟨rfl, rfl, rfl, trivial⟩ ⟨rfl, trivial⟩
        · exact hkl
        · show 15 - (k + 1) < 15 - k
          omega
      · have hbs : nmB k = nmB (k + 1) := by
          rw [nmB_succ hkl]
          rw [hbg] at hc1
          unfold fixP; rw [if_neg hc1]
          apply List.ext_getElem?
          intro i
          rw [List.getElem?_set]
          split
          · rename_i hi
            subst hi
            rw [if_pos (by omega), ← nmB_get hkl, List.getElem?_eq_getElem (by omega)]; rfl
          · rfl
        refine Ar.re 3 rfl (show _ = Value.int .i64 ((k + 1 : Nat) : Int) from rfl) ?_
        refine Ar.re 1 rfl (show _ = Value.slice (some ⟨bb, 0, none⟩) (nmB (k + 1)).length d by rw [hbl, nmB_len (k + 1) (by omega)]) ?_
        refine Ar.reH 9 (Row 75 (nmB (k + 1)) j) rfl (by rw [← hbs]) ?_
        refine Ar.again (k + 1) ?_ ?_ rfl ⟨rfl, rfl, rfl, trivial⟩ ⟨rfl, trivial⟩
        · exact hkl
        · show 15 - (k + 1) < 15 - k
          omega
    · have hkl : k = 15 := by omega
      subst hkl
      have hF : nmB 15 = nmF := rfl
      rw [hF] at hoB
      have hl15 : nmF.length = 15 := nmF_len
      refine Wc.re 1 rfl (show _ = Value.slice (some ⟨bb, 0, none⟩) nmF.length d by rw [hF]) ?_
      refine Wc.reH 9 (Row 75 nmF j) rfl (by rw [hF]) ?_
      clear hF hbl
      have hnw := nm_wrong
      generalize nmF = nf at *
      refine Wc.seq ?_
      refine Wc.seq ?_
      refine Wc.region rfl ?_
      refine Wl.q rfl (Qy.move rfl) ?_
      refine Wl.q rfl (Qy.move rfl) ?_
      refine Wl.q rfl (Qy.len T.sl47 rfl) ?_
      refine Wl.q rfl (Qy.lss rfl rfl) ?_
      refine Wl.done ?_
      refine Ar.next ?_
      refine Wc.condN rfl (by first | assumption | omega) ?_
      refine Wc.exit ?_
      refine Ar.passExit ?_
      refine Ar.passExit ?_
      refine Ar.here ?_
      refine Ar.next ?_
      refine Wc.seq ?_
      refine Wc.region rfl ?_
      refine Wl.q rfl (Qy.move rfl) ?_
      refine Wl.callB 20 rfl T.fn37 rfl (fun Gx hGx hgx => h37 Gx (some ⟨bb, 0, none⟩) d (Arr.own hgx 9 rfl hoB) (by omega)) (fun v1 Gx1 G1 Ho1 hlx1 hp => ?_)
      obtain ⟨bc, bo, dc, dd, j1, j2, rfl, ho1, ho2, rfl⟩ := hp
      refine Wl.q rfl (Qy.move rfl) ?_
      refine Wl.q rfl (Qy.extract rfl rfl) ?_
      refine Wl.q rfl (Qy.extract rfl rfl) ?_
      refine Wl.alloc 22 rfl T.zero25 (fun b1 => ?_)
      refine Wl.storeAll 22 T.size25 rfl rfl rfl rfl rfl rfl ?_
      refine Wl.q rfl (Qy.assign rfl) ?_
      refine Wl.done ?_
      refine Ar.next ?_
      refine Wc.seq ?_
      refine Wc.region rfl ?_
      refine Wl.q rfl (Qy.loadAll 22 T.agg25 rfl rfl rfl) ?_
      refine Wl.q rfl (Qy.move rfl) ?_
      refine Wl.callB 30 rfl T.fn35 rfl (fun Gx hGx hgx => c35 Gx q bc bo (some ⟨bb, 0, none⟩) dc dd d nf (Arr.own hgx 20 rfl ho1) (Arr.own hgx 21 rfl ho2) (Arr.own hgx 9 rfl hoB) hcl (by omega) (by omega) hR.1 hR.2.1 hR.2.2.1) (fun v2 Gx2 G2 Ho2 hlx2 hp => ?_)
      obtain ⟨rfl, rfl⟩ := hp
      refine Wl.q rfl (Qy.assign rfl) ?_
      refine Wl.done ?_
      refine Ar.next ?_
      refine Wc.seq ?_
      refine Wc.region rfl ?_
      refine Wl.q rfl (Qy.loadAll 22 T.agg25 rfl rfl rfl) ?_
      refine Wl.callB 30 rfl T.fn40 rfl (fun Gx hGx hgx => c40R Gx q bc bo dc dd (Arr.own hgx 20 rfl ho1) (Arr.own hgx 21 rfl ho2) (by omega) (by omega) hri) (fun v3 Gx3 G3 Ho3 hlx3 hp => ?_)
      obtain ⟨rfl, rfl, rfl⟩ := hp
      generalize hrow : Row 75 nf j = rr
      refine Wl.q rfl (Qy.move rfl) ?_
      refine Wl.q rfl (Qy.extract rfl rfl) ?_
      refine Wl.q rfl (Qy.extract rfl rfl) ?_
      refine Wl.q rfl (Qy.assign rfl) ?_
      refine Wl.q rfl (Qy.assign rfl) ?_
      refine Wl.done ?_
      refine Ar.next ?_
      refine Wc.seq ?_
      refine Wc.region rfl ?_
      refine Wl.q rfl (Qy.move rfl) ?_
      refine Wl.q rfl (Qy.build (cs := [_, _]) T.st75 rfl rfl rfl) ?_
      refine Wl.lit (α := R2) 23 [⟨0, 1⟩] rfl T.sl47 T.el75 rfl rfl rfl rfl rfl (fun b2 => ?_)
      subst hrow
      refine Wl.appendK (α := R2) (xs := nf) (ys := [⟨0, 1⟩]) 9 60 rfl T.sl47 T.el75 rfl rfl rfl hoB (Src.row 23 rfl) (by rw [hl15]; decide) (by rw [hl15]; decide) (fun c' junk' ho' => ?_) (fun a' c' junk' ho' => ?_)
      · have hll : (nf ++ [(⟨0, 1⟩ : R2)]).length ≤ 1048576 := by rw [List.length_append, hl15]; simp
        have hsame : ∀ Gx, Arr Gx (some ⟨bb, 0, none⟩) (nf ++ [(⟨0, 1⟩ : R2)]) → Arr Gx (some ⟨bb, 0, none⟩) nf := fun Gx h => arr_left h
        generalize nf ++ [(⟨0, 1⟩ : R2)] = nx at *
        have hle5 := ho'.le
        refine Wl.callB 30 rfl T.fn37 rfl (fun Gx hGx hgx => c37N Gx (some ⟨bb, 0, none⟩) c' nx (Arr.own hgx 9 rfl ho') hle5 hll hnw) (fun v4 Gx4 G4 Ho4 hlx4 hp => ?_)
        obtain ⟨rfl, rfl⟩ := hp
        refine Wl.q rfl (Qy.move rfl) ?_
        refine Wl.q rfl (Qy.extract rfl rfl) ?_
        refine Wl.q rfl (Qy.extract rfl rfl) ?_
        refine Wl.alloc 24 rfl T.zero25 (fun b3 => ?_)
        refine Wl.storeAll 24 T.size25 rfl rfl rfl rfl rfl rfl ?_
        refine Wl.q rfl (Qy.assign rfl) ?_
        refine Wl.done ?_
        refine Ar.next ?_
        refine Wc.seq ?_
        refine Wc.region rfl ?_
        refine Wl.q rfl (Qy.move rfl) ?_
        refine Wl.callB 25 rfl T.fn25 rfl (fun Gx hGx hgx => (c25Y Gx (some ⟨bb, 0, none⟩) d nf (hsame _ (Arr.own hgx 9 rfl ho')) (by omega) (by omega) hR)) (fun v5 Gx5 G5 Ho5 hlx5 hp => ?_)
        obtain ⟨rfl, rfl, rfl⟩ := hp
        refine Wl.q rfl (Qy.move rfl) ?_
        refine Wl.want rfl rfl ?_
        refine Wl.q rfl (Qy.move rfl) ?_
        refine Wl.want rfl rfl ?_
        refine Wl.q rfl (Qy.eql rfl rfl) ?_
        refine Wl.q rfl (Qy.pick rfl rfl) ?_
        refine Wl.q rfl (Qy.move rfl) ?_
        refine Wl.yes 71 rfl (by first | assumption | omega) ?_
        refine Wl.want rfl rfl ?_
        refine Wl.q rfl (Qy.move rfl) ?_
        refine Wl.q rfl (Qy.pick rfl rfl) ?_
        refine Wl.q rfl (Qy.move rfl) ?_
        refine Wl.yes 74 rfl (by first | assumption | omega) ?_
        refine Wl.want rfl rfl ?_
        refine Wl.q rfl (Qy.move rfl) ?_
        refine Wl.want rfl rfl ?_
        refine Wl.q rfl (Qy.eql rfl rfl) ?_
        refine Wl.q rfl (Qy.pick rfl rfl) ?_
        refine Wl.q rfl (Qy.move rfl) ?_
        refine Wl.yes 78 rfl (by first | assumption | omega) ?_
        refine Wl.want rfl rfl ?_
        refine Wl.q rfl (Qy.loadAll 24 T.agg25 rfl rfl rfl) ?_
        refine Wl.want rfl rfl ?_
        refine Wl.call0 rfl T.fn34 rfl (c34 _ ⟨0, 0, [], []⟩ none none 0 0) ?_
        refine Wl.q rfl (Qy.pick rfl rfl) ?_
        refine Wl.q rfl (Qy.move rfl) ?_
        apply Wl.joinAnd 3 82 85 rfl
        intro hg1
        refine Wl.want rfl rfl ?_
        refine Wl.q rfl (Qy.move rfl) ?_
        refine Wl.want rfl rfl ?_
        refine Wl.q rfl (Qy.eql rfl rfl) ?_
        refine Wl.q rfl (Qy.pick rfl rfl) ?_
        exact Wl.back 3 0 rfl rfl rfl rfl rfl
        intro hg1
        refine Wl.pass rfl rfl rfl ?_
        refine Wl.pass rfl rfl rfl ?_
        refine Wl.q rfl (Qy.pick rfl rfl) ?_
        exact Wl.back 3 0 rfl rfl rfl rfl rfl
        refine Wl.q rfl (Qy.move rfl) ?_
        apply Wl.joinAnd 4 86 90 rfl
        intro hg1
        refine Wl.want rfl rfl ?_
        refine Wl.call 25 rfl T.fn41 rfl (c41W _ 2 (by omega)) (tags_of trivial) (fun v1 G1 Ho1 hle1 hp => ?_)
        obtain ⟨ub1, rfl, rfl, huo1, rfl⟩ := hp
        refine Wl.want rfl rfl ?_
        refine Wl.q rfl (Qy.len T.sl57 rfl) ?_
        refine Wl.want rfl rfl ?_
        refine Wl.q rfl (Qy.eql rfl rfl) ?_
        refine Wl.q rfl (Qy.pick rfl rfl) ?_
        exact Wl.back 4 1 rfl rfl rfl rfl rfl
        intro hg1
        refine Wl.pass rfl rfl rfl ?_
        refine Wl.pass rfl rfl rfl ?_
        refine Wl.pass rfl rfl rfl ?_
        refine Wl.q rfl (Qy.pick rfl rfl) ?_
        exact Wl.back 4 0 rfl rfl rfl rfl rfl
        refine Wl.q rfl (Qy.assign rfl) ?_
        refine Wl.done ?_
        refine Ar.next ?_
        refine Wc.ret ?_
        refine Ar.out1 (.inr rfl) (Ho := Hp.only _ []) rfl (.tmp rfl) (Hp.sub_only _ _) ?_
        exact ⟨rfl, rfl⟩
      · have hll : (nf ++ [(⟨0, 1⟩ : R2)]).length ≤ 1048576 := by rw [List.length_append, hl15]; simp
        generalize nf ++ [(⟨0, 1⟩ : R2)] = nx at *
        have hle5 := ho'.le
        refine Wl.callB 30 rfl T.fn37 rfl (fun Gx hGx hgx => c37N Gx a' c' nx (Arr.own hgx 60 rfl ho') hle5 hll hnw) (fun v4 Gx4 G4 Ho4 hlx4 hp => ?_)
        obtain ⟨rfl, rfl⟩ := hp
        refine Wl.q rfl (Qy.move rfl) ?_
        refine Wl.q rfl (Qy.extract rfl rfl) ?_
        refine Wl.q rfl (Qy.extract rfl rfl) ?_
        refine Wl.alloc 61 rfl T.zero25 (fun b3 => ?_)
        refine Wl.storeAll 61 T.size25 rfl rfl rfl rfl rfl rfl ?_
        refine Wl.q rfl (Qy.assign rfl) ?_
        refine Wl.done ?_
        refine Ar.next ?_
        refine Wc.seq ?_
        refine Wc.region rfl ?_
        refine Wl.q rfl (Qy.move rfl) ?_
        refine Wl.callB 62 rfl T.fn25 rfl (fun Gx hGx hgx => (c25Y Gx (some ⟨bb, 0, none⟩) d nf (Arr.own hgx 9 rfl hoB) (by omega) (by omega) hR)) (fun v5 Gx5 G5 Ho5 hlx5 hp => ?_)
        obtain ⟨rfl, rfl, rfl⟩ := hp
        refine Wl.q rfl (Qy.move rfl) ?_
        refine Wl.want rfl rfl ?_
        refine Wl.q rfl (Qy.move rfl) ?_
        refine Wl.want rfl rfl ?_
        refine Wl.q rfl (Qy.eql rfl rfl) ?_
        refine Wl.q rfl (Qy.pick rfl rfl) ?_
        refine Wl.q rfl (Qy.move rfl) ?_
        refine Wl.yes 71 rfl (by first | assumption | omega) ?_
        refine Wl.want rfl rfl ?_
        refine Wl.q rfl (Qy.move rfl) ?_
        refine Wl.q rfl (Qy.pick rfl rfl) ?_
        refine Wl.q rfl (Qy.move rfl) ?_
        refine Wl.yes 74 rfl (by first | assumption | omega) ?_
        refine Wl.want rfl rfl ?_
        refine Wl.q rfl (Qy.move rfl) ?_
        refine Wl.want rfl rfl ?_
        refine Wl.q rfl (Qy.eql rfl rfl) ?_
        refine Wl.q rfl (Qy.pick rfl rfl) ?_
        refine Wl.q rfl (Qy.move rfl) ?_
        refine Wl.yes 78 rfl (by first | assumption | omega) ?_
        refine Wl.want rfl rfl ?_
        refine Wl.q rfl (Qy.loadAll 61 T.agg25 rfl rfl rfl) ?_
        refine Wl.want rfl rfl ?_
        refine Wl.call0 rfl T.fn34 rfl (c34 _ ⟨0, 0, [], []⟩ none none 0 0) ?_
        refine Wl.q rfl (Qy.pick rfl rfl) ?_
        refine Wl.q rfl (Qy.move rfl) ?_
        apply Wl.joinAnd 3 82 85 rfl
        intro hg1
        refine Wl.want rfl rfl ?_
        refine Wl.q rfl (Qy.move rfl) ?_
        refine Wl.want rfl rfl ?_
        refine Wl.q rfl (Qy.eql rfl rfl) ?_
        refine Wl.q rfl (Qy.pick rfl rfl) ?_
        exact Wl.back 3 0 rfl rfl rfl rfl rfl
        intro hg1
        refine Wl.pass rfl rfl rfl ?_
        refine Wl.pass rfl rfl rfl ?_
        refine Wl.q rfl (Qy.pick rfl rfl) ?_
        exact Wl.back 3 0 rfl rfl rfl rfl rfl
        refine Wl.q rfl (Qy.move rfl) ?_
        apply Wl.joinAnd 4 86 90 rfl
        intro hg1
        refine Wl.want rfl rfl ?_
        refine Wl.call 62 rfl T.fn41 rfl (c41W _ 2 (by omega)) (tags_of trivial) (fun v1 G1 Ho1 hle1 hp => ?_)
        obtain ⟨ub1, rfl, rfl, huo1, rfl⟩ := hp
        refine Wl.want rfl rfl ?_
        refine Wl.q rfl (Qy.len T.sl57 rfl) ?_
        refine Wl.want rfl rfl ?_
        refine Wl.q rfl (Qy.eql rfl rfl) ?_
        refine Wl.q rfl (Qy.pick rfl rfl) ?_
        exact Wl.back 4 1 rfl rfl rfl rfl rfl
        intro hg1
        refine Wl.pass rfl rfl rfl ?_
        refine Wl.pass rfl rfl rfl ?_
        refine Wl.pass rfl rfl rfl ?_
        refine Wl.q rfl (Qy.pick rfl rfl) ?_
        exact Wl.back 4 0 rfl rfl rfl rfl rfl
        refine Wl.q rfl (Qy.assign rfl) ?_
        refine Wl.done ?_
        refine Ar.next ?_
        refine Wc.ret ?_
        refine Ar.out1 (.inr rfl) (Ho := Hp.only _ []) rfl (.tmp rfl) (Hp.sub_only _ _) ?_
        exact ⟨rfl, rfl⟩
end Go.Proofs.Ytbppmiimeccclaa
