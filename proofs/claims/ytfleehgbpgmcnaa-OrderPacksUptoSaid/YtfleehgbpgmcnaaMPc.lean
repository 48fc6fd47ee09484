/- Parts of the proof (part 3): what the rows' text needs of the texts that lead to it. -/
import Derived.Test.YtfleehgbpgmcnaaMPb
namespace Go.Proofs.Ytfleehgbpgmcnaa
open Go Go.Sl
set_option maxRecDepth 100000
set_option maxHeartbeats 2000000
/-- the document's state -/
def StH (held : List Int) (ks : List R6) (next : Int) (bs : Nat) (a : Option Addr) (c : Nat) (junk : List Value) (b : Option Addr) (d : Nat) (j : List Value) : Hp :=
  [(0, some bs, .cells #[.slice a held.length c, .slice b ks.length d, .int .i64 next] 61), (1, a.map (·.block), Row 3 held junk), (2, b.map (·.block), Row 99 ks j)]
def keyR (k : R6) : K4 := ⟨k.a, k.b, k.c, k.d⟩
/-- .. and what the pass's table would hold -/
def tabOf (held : List Int) (ks : List R6) (next : Int) : Tab := ⟨held, ks.map fun k => (keyR k, k.f), ks.map fun k => (keyR k, k.e), next⟩
theorem c25 (G : Imm) (p : PV) (ac ao : Option Addr) (cc co : Nat) (hr : 0 ≤ p.ins ∧ p.ins ≤ p.regs ∧ p.regs ≤ 128) :
    Does Try.prog 25 [.agg #[.int .i64 p.ins, .int .i64 p.regs, .slice ac p.code.length cc, .slice ao p.outs.length co]] G [] (fun v G' Ho => ∃ bs a c junk, v = .pointer (some ⟨bs, 0, none⟩) ∧
      OwnA a c (start p) junk ∧ Ho = StH (start p) [] (p.ins + 1) bs a c junk none 0 [] ∧ G' = G) := by
  have hsl : (start p).length = p.regs.toNat := by simp [start]
  refine Does.enter Try.func25 rfl Try.ntmps25 rfl (fun w => ?_)
  refine Wc.nilRow 0 (Row 3 ([] : List Int) []) (Wc.nilRow 1 (Row 99 ([] : List R6) []) ?_)
  refine Wc.seq ?_
  refine Wc.region rfl ?_
  refine Wl.box 2 rfl rfl rfl (fun b1 => ?_)
  refine Wl.q rfl (Qy.assign rfl) ?_
  refine Wl.done ?_
  refine Ar.next ?_
  refine Wc.seq ?_
  refine Wc.region rfl ?_
  refine Wl.q rfl (Qy.fieldAddr T.fa25_0 rfl) ?_
  refine Wl.q rfl (Qy.load 2 T.one3 rfl rfl rfl) ?_
  refine Wl.q rfl (Qy.add rfl rfl (by omega)) ?_
  refine Wl.q rfl (Qy.build (cs := [_, _, _]) T.st61 rfl rfl rfl) ?_
  refine Wl.box 3 rfl rfl rfl (fun b2 => ?_)
  refine Wl.q rfl (Qy.assign rfl) ?_
  refine Wl.done ?_
  refine Ar.next ?_
  refine Wc.seq ?_
  refine Wc.seq ?_
  refine Wc.region rfl ?_
  refine Wl.q rfl (Qy.assign rfl) ?_
  refine Wl.done ?_
  refine Ar.next ?_
  refine Wc.block ?_
  refine Wc.loop (ι := Nat × List Int × Option Addr × Nat × List Value) (fun (k, xs, a, c, junk) => ([(4, .int .i64 (k : Int)), (3, Go.Value.pointer (Option.some (Go.Addr.mk b2 0 Option.none))), (2, Go.Value.pointer Option.none), (1, Go.Value.pointer (Option.some (Go.Addr.mk b1 0 Option.none)))], [(0, a.map (·.block), Row 3 xs junk), (3, some b2, .cells #[.slice a xs.length c, .slice none 0 0, .int .i64 (p.ins + 1)] 61), (2, Option.some b1, Go.Obj.cells #[Go.Value.int Go.IntKind.i64 (Go.Proofs.Ytfleehgbpgmcnaa.PV.ins p), Go.Value.int Go.IntKind.i64 (Go.Proofs.Ytfleehgbpgmcnaa.PV.regs p), Go.Value.slice ac (List.length (Go.Proofs.Ytfleehgbpgmcnaa.PV.code p)) cc, Go.Value.slice ao (List.length (Go.Proofs.Ytfleehgbpgmcnaa.PV.outs p)) co] 25), (1, Option.none, Go.Sl.Row (α := Go.Sl.R6) 99 ([]) ([]))])) (fun (k, xs, a, c, junk) => k ≤ p.regs.toNat ∧ xs = (start p).take k ∧ OwnA a c xs junk) (fun (k, xs, a, c, junk) => p.regs.toNat - k) ((0, [], none, 0, [])) (⟨Nat.zero_le _, rfl, OwnA.nil⟩) ⟨rfl, rfl, rfl, rfl, trivial⟩ ⟨rfl, rfl, rfl, rfl, trivial⟩ (fun ⟨k, xs, a, c, junk⟩ => fun (hk : k ≤ p.regs.toNat ∧ xs = (start p).take k ∧ OwnA a c xs junk) => ?_)
  obtain ⟨hk1, hxs, ho⟩ := hk
  have hlen : xs.length = k := by rw [hxs, List.length_take]; omega
  have hst : k < p.regs.toNat → (start p).take (k + 1) = (start p).take k ++ [if p.ins < ((k : Nat) : Int) then p.ins else ((k : Nat) : Int)] := fun hkl => by
    rw [List.take_add_one]
    simp [start, hkl]
  refine Wc.seq ?_
  refine Wc.seq ?_
  refine Wc.region rfl ?_
  refine Wl.q rfl (Qy.move rfl) ?_
  refine Wl.q rfl (Qy.fieldAddr T.fa25_1 rfl) ?_
  refine Wl.q rfl (Qy.load 2 T.one3 rfl rfl rfl) ?_
  refine Wl.q rfl (Qy.lss rfl rfl) ?_
  refine Wl.done ?_
  refine Ar.next ?_
  refine Wc.cond rfl (fun hc1 => ?_) (fun hc1 => ?_)
  refine Wc.skip ?_
  refine Ar.next ?_
  refine Wc.seq ?_
  refine Wc.block ?_
  refine Wc.seq ?_
  refine Wc.region rfl ?_
  refine Wl.q rfl (Qy.move rfl) ?_
  refine Wl.q rfl (Qy.fieldAddr T.fa25_0 rfl) ?_
  refine Wl.q rfl (Qy.load 2 T.one3 rfl rfl rfl) ?_
  refine Wl.q rfl (Qy.lss rfl rfl) ?_
  refine Wl.done ?_
  refine Ar.next ?_
  refine Wc.cond rfl (fun hc2 => ?_) (fun hc2 => ?_)
  refine Wc.region rfl ?_
  refine Wl.q rfl (Qy.move rfl) ?_
  refine Wl.q rfl (Qy.move rfl) ?_
  refine Wl.q rfl (Qy.nilCheck rfl) ?_
  refine Wl.q rfl (Qy.fieldAddr T.fa61_0 rfl) ?_
  refine Wl.q rfl (Qy.load 3 T.one23 rfl rfl rfl) ?_
  refine Wl.q rfl (Qy.move rfl) ?_
  refine Wl.lit (α := Int) 4 [((↑k : Int))] rfl T.sl23 T.el3 rfl rfl rfl rfl rfl (fun b3 => ?_)
  refine Wl.append (α := Int) 0 rfl T.sl23 T.el3 rfl rfl rfl (by first | assumption | exact OwnA.nil | exact OwnA.made (by simp)) (Src.row 4 rfl) (by first | omega | (simp only [List.length_append, List.length_cons, List.length_nil, maxLen]; omega)) (by first | omega | (simp only [List.length_append, List.length_cons, List.length_nil, maxLen]; omega)) (fun a1 c1 junk1 ho1 => ?_)
  refine Wl.q rfl (Qy.nilCheck rfl) ?_
  refine Wl.q rfl (Qy.fieldAddr T.fa61_0 rfl) ?_
  refine Wl.store 3 T.one23 rfl rfl rfl rfl rfl ?_
  refine Wl.done ?_
  refine Ar.outNormal ?_
  refine Ar.next ?_
  refine Wc.region rfl ?_
  refine Wl.q rfl (Qy.move rfl) ?_
  refine Wl.q rfl (Qy.add rfl rfl (by omega)) ?_
  refine Wl.q rfl (Qy.assign rfl) ?_
  refine Wl.done ?_
  rotate_left
  refine Wc.draw [1, 2, 3, 0] [(3, 11), (0, 8), (1, 8)] T.mixed rfl ?_
  refine Gm.q 0 [] (by kernel_rfl) rfl rfl (Qy.move rfl) ?_
  refine Gm.q 1 [] (by kernel_rfl) rfl rfl (Qy.move rfl) ?_
  refine Gm.q 2 [] (by kernel_rfl) rfl rfl (Qy.nilCheck rfl) ?_
  refine Gm.q 3 [] (by kernel_rfl) rfl rfl (Qy.fieldAddr T.fa61_0 rfl) ?_
  refine Gm.q 4 [3] (by kernel_rfl) rfl rfl (Qy.load 3 T.one23 rfl rfl rfl) ?_
  refine Gm.q 5 [] (by kernel_rfl) rfl rfl (Qy.fieldAddr T.fa25_0 rfl) ?_
  refine Gm.q 6 [2] (by kernel_rfl) rfl rfl (Qy.load 2 T.one3 rfl rfl rfl) ?_
  refine Gm.one 7 ⟨rfl, rfl, rfl, rfl, trivial⟩ (by first | exact Imm.le_refl _ | assumption) (by kernel_rfl) rfl ?_
  refine Wl.lit (α := Int) 4 [(Go.Proofs.Ytfleehgbpgmcnaa.PV.ins p)] rfl T.sl23 T.el3 rfl rfl rfl rfl rfl (fun b3 => ?_)
  refine Wl.on0 ?_
  refine Gm.one 8 ⟨rfl, rfl, rfl, rfl, trivial⟩ (by first | exact Imm.le_refl _ | assumption) (by kernel_rfl) rfl ?_
  refine Wl.append (α := Int) 0 rfl T.sl23 T.el3 rfl rfl rfl (by first | assumption | exact OwnA.nil | exact OwnA.made (by simp)) (Src.row 4 rfl) (by first | omega | (simp only [List.length_append, List.length_cons, List.length_nil, maxLen]; omega)) (by first | omega | (simp only [List.length_append, List.length_cons, List.length_nil, maxLen]; omega)) (fun a1 c1 junk1 ho1 => ?_)
  refine Wl.on0 ?_
  refine Gm.q 9 [] (by kernel_rfl) rfl rfl (Qy.nilCheck rfl) ?_
  refine Gm.q 10 [] (by kernel_rfl) rfl rfl (Qy.fieldAddr T.fa61_0 rfl) ?_
  refine Gm.one 11 ⟨rfl, rfl, trivial⟩ (by first | exact Imm.le_refl _ | assumption) (by kernel_rfl) rfl ?_
  refine Wl.store 3 T.one23 rfl rfl rfl rfl rfl ?_
  refine Wl.on0 ?_
  refine Gm.doneA (by kernel_rfl) ⟨rfl, trivial⟩ (by first | exact Imm.le_refl _ | assumption) ?_
  refine Ar.outNormal ?_
  refine Ar.next ?_
  refine Wc.region rfl ?_
  refine Wl.q rfl (Qy.move rfl) ?_
  refine Wl.q rfl (Qy.add rfl rfl (by omega)) ?_
  refine Wl.q rfl (Qy.assign rfl) ?_
  refine Wl.done ?_
  rotate_left
  refine Wc.exit ?_
  refine Ar.passExit ?_
  refine Ar.passExit ?_
  refine Ar.here ?_
  refine Ar.next ?_
  refine Wc.seq ?_
  refine Wc.region rfl ?_
  refine Wl.q rfl (Qy.move rfl) ?_
  refine Wl.q rfl (Qy.assign rfl) ?_
  refine Wl.done ?_
  refine Ar.next ?_
  refine Wc.ret ?_
  refine Ar.pick [3, 0, 1] (by decide) (Ar.out1 (.inr rfl) rfl (.tmp rfl) (Hp.sub_self 0 _) ?_)
  rotate_left
  · refine Ar.again ((k + 1, _, a1, c1, junk1)) ?_ ?_ rfl ⟨rfl, rfl, rfl, rfl, trivial⟩ ⟨rfl, rfl, rfl, rfl, trivial⟩
    · refine ⟨by omega, ?_, ho1⟩
      rw [hst (by omega), hxs, if_neg (by omega)]
    · show p.regs.toNat - (k + 1) < p.regs.toNat - k
      omega
  · refine Ar.again ((k + 1, _, a1, c1, junk1)) ?_ ?_ rfl ⟨rfl, rfl, rfl, rfl, trivial⟩ ⟨rfl, rfl, rfl, rfl, trivial⟩
    · refine ⟨by omega, ?_, ho1⟩
      rw [hst (by omega), hxs]
      congr 2
      split <;> omega
    · show p.regs.toNat - (k + 1) < p.regs.toNat - k
      omega
  · have hk : k = p.regs.toNat := by omega
    have htk : xs = start p := by rw [hxs]; exact List.take_of_length_le (by omega)
    rw [htk] at ho ⊢
    exact ⟨b2, a, c, junk, rfl, ho, rfl, rfl⟩
theorem c59 (G : Imm) (held : List Int) (ks : List R6) (next : Int) (bs : Nat) (a : Option Addr) (c : Nat) (junk : List Value) (b : Option Addr) (d : Nat) (j : List Value) (v : Int) (ho : OwnA a c held junk) (hl : held.length ≤ 128) :
    Does Try.prog 59 [.pointer (some ⟨bs, 0, none⟩), .int .i64 v] G (StH held ks next bs a c junk b d j) (fun r G' Ho => r = .int .i64 (holder held v) ∧ G' = G ∧ Ho = StH held ks next bs a c junk b d j) := by
  refine Does.enter Try.func59 rfl Try.ntmps59 rfl (fun w => ?_)
  refine Wc.seq ?_
  refine Wc.region rfl ?_
  refine Wl.q rfl (Qy.assign rfl) ?_
  refine Wl.done ?_
  refine Ar.next ?_
  refine Wc.seq ?_
  refine Wc.seq ?_
  refine Wc.region rfl ?_
  refine Wl.q rfl (Qy.assign rfl) ?_
  refine Wl.done ?_
  refine Ar.next ?_
  refine Wc.block ?_
  refine Wc.loop (ι := Nat) (fun k => ([(5, .int .i64 (k : Int)), (0, Go.Value.pointer (Option.some (Go.Addr.mk bs 0 Option.none))), (1, Go.Value.int Go.IntKind.i64 v)], [(0, Option.some bs, Go.Obj.cells #[Go.Value.slice a (List.length held) c, Go.Value.slice b (List.length ks) d, Go.Value.int Go.IntKind.i64 next] 61), (1, Option.map (fun x => Go.Addr.block x) a, Go.Sl.Row (α := Int) 3 (held) (junk)), (2, Option.map (fun x => Go.Addr.block x) b, Go.Sl.Row (α := Go.Sl.R6) 99 (ks) (j))])) (fun k => k ≤ held.length ∧ (held.take k).all (fun x => !decide (x = v)) = true) (fun k => held.length - k) (0) (⟨Nat.zero_le _, rfl⟩) ⟨rfl, rfl, rfl, trivial⟩ ⟨rfl, rfl, rfl, trivial⟩ (fun k => fun (hk : k ≤ held.length ∧ (held.take k).all (fun x => !decide (x = v)) = true) => ?_)
  obtain ⟨hk1, hk2⟩ := hk
  refine Wc.seq ?_
  refine Wc.seq ?_
  refine Wc.region rfl ?_
  refine Wl.q rfl (Qy.move rfl) ?_
  refine Wl.q rfl (Qy.move rfl) ?_
  refine Wl.q rfl (Qy.nilCheck rfl) ?_
  refine Wl.q rfl (Qy.fieldAddr T.fa61_0 rfl) ?_
  refine Wl.q rfl (Qy.load 0 T.one23 rfl rfl rfl) ?_
  refine Wl.q rfl (Qy.len T.sl23 rfl) ?_
  refine Wl.q rfl (Qy.lss rfl rfl) ?_
  refine Wl.done ?_
  refine Ar.next ?_
  refine Wc.cond rfl (fun hc1 => ?_) (fun hc1 => ?_)
  refine Wc.skip ?_
  refine Ar.next ?_
  refine Wc.seq ?_
  refine Wc.block ?_
  refine Wc.seq ?_
  refine Wc.region rfl ?_
  refine Wl.q rfl (Qy.move rfl) ?_
  refine Wl.q rfl (Qy.nilCheck rfl) ?_
  refine Wl.q rfl (Qy.fieldAddr T.fa61_0 rfl) ?_
  refine Wl.q rfl (Qy.load 0 T.one23 rfl rfl rfl) ?_
  refine Wl.q rfl (Qy.move rfl) ?_
  refine Wl.q rfl (Qy.indexAddrO (α := Int) T.sl23 rfl rfl (by assumption) (by omega)) ?_
  refine Wl.q rfl (Qy.loadO 1 0 T.one3 rfl rfl (by assumption) (by omega) rfl rfl) ?_
  refine Wl.q rfl (Qy.move rfl) ?_
  refine Wl.q rfl (Qy.eql rfl rfl) ?_
  refine Wl.done ?_
  refine Ar.next ?_
  refine Wc.cond rfl (fun hc2 => ?_) (fun hc2 => ?_)
  refine Wc.seq ?_
  refine Wc.region rfl ?_
  refine Wl.q rfl (Qy.move rfl) ?_
  refine Wl.q rfl (Qy.assign rfl) ?_
  refine Wl.done ?_
  refine Ar.next ?_
  refine Wc.ret ?_
  refine Ar.outRet ?_
  refine Ar.passRet ?_
  refine Ar.passRet ?_
  refine Ar.outRet ?_
  refine Ar.passRet ?_
  refine Ar.out1 (.inr rfl) (Ho := Hp.only _ [0, 1, 2]) rfl (.tmp rfl) (Hp.sub_only _ _) ?_
  rotate_left
  refine Wc.skip ?_
  refine Ar.outNormal ?_
  refine Ar.next ?_
  refine Wc.region rfl ?_
  refine Wl.q rfl (Qy.move rfl) ?_
  refine Wl.q rfl (Qy.add rfl rfl (by omega)) ?_
  refine Wl.q rfl (Qy.assign rfl) ?_
  refine Wl.done ?_
  rotate_left
  refine Wc.exit ?_
  refine Ar.passExit ?_
  refine Ar.passExit ?_
  refine Ar.here ?_
  refine Ar.next ?_
  refine Wc.seq ?_
  refine Wc.region rfl ?_
  refine Wl.q rfl (Qy.assign rfl) ?_
  refine Wl.done ?_
  refine Ar.next ?_
  refine Wc.ret ?_
  refine Ar.out1 (.inr rfl) (Ho := Hp.only _ [0, 1, 2]) rfl (.tmp rfl) (Hp.sub_only _ _) ?_
  rotate_left
  · refine ⟨?_, rfl, rfl⟩
    have := find_bad (p := fun x => !decide (x = v)) (l := held) (k := k) (by omega) hk2 (by simpa using hc2)
    simp only [Bool.not_not] at this
    simp [holder, this]
  · refine Ar.again (k + 1) ?_ ?_ rfl ⟨rfl, rfl, rfl, trivial⟩ ⟨rfl, rfl, rfl, trivial⟩
    · refine ⟨by omega, ?_⟩
      rw [all_step _ (by omega), hk2]
      simpa using hc2
    · omega
  · refine ⟨?_, rfl, rfl⟩
    have hk : k = held.length := by omega
    subst hk
    rw [List.take_length] at hk2
    have := find_none hk2
    simp only [Bool.not_not] at this
    simp [holder, this]
theorem keyR_iff {r : R6} {x : K4} : keyR r = x ↔ (((r.a = x.op ∧ r.b = x.a) ∧ r.c = x.b) ∧ r.d = x.c) := by
  cases x; simp [keyR, and_assoc]
theorem mget_at {g : R6 → Int} {x : K4} : ∀ {ks : List R6} {k : Nat}, k < ks.length → (ks.take k).all (fun r => !decide (keyR r = x)) = true → keyR (ks[((k : Nat) : Int).toNat]?.getD default) = x →
    mget (ks.map fun r => (keyR r, g r)) x = some (g (ks[((k : Nat) : Int).toNat]?.getD default))
  | [], k, h, _, _ => by simp at h
  | r :: ks, 0, _, _, h2 => by
    have h2 : keyR r = x := by simpa using h2
    simp [mget, h2]
  | r :: ks, k + 1, h, h1, h2 => by
    simp only [List.take_succ_cons, List.all_cons, Bool.and_eq_true, Bool.not_eq_true', decide_eq_false_iff_not] at h1
    have ih := mget_at (g := g) (x := x) (ks := ks) (k := k) (by simpa using h) (by simpa using h1.2) (by simpa [Int.toNat_natCast] using h2)
    rw [Int.toNat_natCast] at ih ⊢
    rw [List.getElem?_cons_succ, ← ih]
    simp [mget, h1.1]
theorem mget_not {g : R6 → Int} {x : K4} {ks : List R6} (h : ks.all (fun r => !decide (keyR r = x)) = true) : mget (ks.map fun r => (keyR r, g r)) x = none := by
  rw [mget_none, List.findIdx?_eq_none_iff]
  intro y hy
  simp only [List.map_map, List.mem_map] at hy
  obtain ⟨r, hr, rfl⟩ := hy
  simpa using List.all_eq_true.1 h r hr
theorem c26 (G : Imm) (held : List Int) (ks : List R6) (next : Int) (bs : Nat) (a : Option Addr) (c : Nat) (junk : List Value) (b : Option Addr) (d : Nat) (j : List Value) (n : Int) (i : Sl.Instr) (ho : OwnA a c held junk) (hks : OwnA b d ks j)
    (hl : held.length ≤ 128) (hkl : ks.length ≤ 1000000) (hm : mayOk i held.length = true) (hn : 0 ≤ next ∧ next ≤ 1000000) :
    Does Try.prog 26 [.pointer (some ⟨bs, 0, none⟩), .int .i64 n, .agg (Cells.enc i).toArray] G (StH held ks next bs a c junk b d j)
      (fun r G' Ho => ∃ ks' b' d' j', r = .tuple #[.int .i64 (reckonP (tabOf held ks next) n i).1.1, .int .i64 (reckonP (tabOf held ks next) n i).1.2] ∧ tabOf held ks' (reckonP (tabOf held ks next) n i).2.next = (reckonP (tabOf held ks next) n i).2 ∧
        OwnA b' d' ks' j' ∧ ks'.length ≤ ks.length + 1 ∧ G' = G ∧ Ho = StH held ks' (reckonP (tabOf held ks next) n i).2.next bs a c junk b' d' j') := by
  rw [mayOk_iff] at hm
  obtain ⟨⟨hop1, hop2, hto1, hto2, ha1, ha2⟩, hb⟩ := hm
  have hb : i.op = 3 ∨ i.op = 4 → 0 ≤ i.b ∧ i.b < held.length := fun h => by rw [if_pos h] at hb; omega
  refine Does.enter Try.func26 rfl Try.ntmps26 rfl (fun w => ?_)
  refine Wc.seq ?_
  refine Wc.region rfl ?_
  refine Wl.box 3 rfl rfl rfl (fun b1 => ?_)
  refine Wl.q rfl (Qy.assign rfl) ?_
  refine Wl.q rfl (Qy.assign rfl) ?_
  refine Wl.done ?_
  refine Ar.next ?_
  refine Wc.seq ?_
  refine Wc.seq ?_
  refine Wc.region rfl ?_
  refine Wl.q rfl (Qy.fieldAddr T.fa34_0 rfl) ?_
  refine Wl.q rfl (Qy.load 3 T.one3 rfl rfl rfl) ?_
  refine Wl.q rfl (Qy.eql rfl rfl) ?_
  refine Wl.done ?_
  refine Ar.next ?_
  refine Wc.cond rfl (fun hc1 => ?_) (fun hc1 => ?_)
  refine Wc.seq ?_
  refine Wc.draw [2, 1, 0, 3] [] T.mixed rfl ?_
  refine Gm.q 0 [] (by kernel_rfl) rfl rfl (Qy.move rfl) ?_
  refine Gm.q 1 [] (by kernel_rfl) rfl rfl (Qy.nilCheck rfl) ?_
  refine Gm.q 2 [] (by kernel_rfl) rfl rfl (Qy.fieldAddr T.fa61_0 rfl) ?_
  refine Gm.q 3 [0] (by kernel_rfl) rfl rfl (Qy.load 0 T.one23 rfl rfl rfl) ?_
  refine Gm.q 4 [] (by kernel_rfl) rfl rfl (Qy.fieldAddr T.fa34_2 rfl) ?_
  refine Gm.q 5 [3] (by kernel_rfl) rfl rfl (Qy.load 3 T.one3 rfl rfl rfl) ?_
  refine Gm.q 6 [] (by kernel_rfl) rfl rfl (Qy.indexAddrO (α := Int) T.sl23 rfl rfl (by assumption) (by omega)) ?_
  refine Gm.q 7 [1, 0] (by kernel_rfl) rfl rfl (Qy.loadO 1 0 T.one3 rfl rfl (by assumption) (by omega) rfl rfl) ?_
  refine Gm.q 8 [] (by kernel_rfl) rfl rfl (Qy.assign rfl) ?_
  refine Gm.q 9 [] (by kernel_rfl) rfl rfl (Qy.assign rfl) ?_
  refine Gm.doneA (by kernel_rfl) ⟨rfl, rfl, rfl, rfl, trivial⟩ (by first | exact Imm.le_refl _ | assumption) ?_
  refine Ar.next ?_
  refine Wc.ret ?_
  refine Ar.passRet ?_
  refine Ar.out2 (.inr rfl) (Ho := Hp.only _ [0, 1, 2]) rfl (.tmp rfl) (.tmp rfl) (Hp.sub_only _ _) ?_
  rotate_left
  refine Wc.skip ?_
  refine Ar.next ?_
  refine Wc.seq ?_
  refine Wc.draw [2, 1, 0, 3] [(3, 19), (0, 19), (1, 19), (2, 19)] T.mixed rfl ?_
  refine Gm.q 0 [] (by kernel_rfl) rfl rfl (Qy.fieldAddr T.fa34_0 rfl) ?_
  refine Gm.q 1 [3] (by kernel_rfl) rfl rfl (Qy.load 3 T.one3 rfl rfl rfl) ?_
  refine Gm.q 2 [] (by kernel_rfl) rfl rfl (Qy.move rfl) ?_
  refine Gm.q 3 [] (by kernel_rfl) rfl rfl (Qy.nilCheck rfl) ?_
  refine Gm.q 4 [] (by kernel_rfl) rfl rfl (Qy.fieldAddr T.fa61_0 rfl) ?_
  refine Gm.q 5 [0] (by kernel_rfl) rfl rfl (Qy.load 0 T.one23 rfl rfl rfl) ?_
  refine Gm.q 6 [] (by kernel_rfl) rfl rfl (Qy.fieldAddr T.fa34_2 rfl) ?_
  refine Gm.q 7 [3] (by kernel_rfl) rfl rfl (Qy.load 3 T.one3 rfl rfl rfl) ?_
  refine Gm.q 8 [] (by kernel_rfl) rfl rfl (Qy.indexAddrO (α := Int) T.sl23 rfl rfl (by assumption) (by omega)) ?_
  refine Gm.q 9 [1, 0] (by kernel_rfl) rfl rfl (Qy.loadO 1 0 T.one3 rfl rfl (by assumption) (by omega) rfl rfl) ?_
  refine Gm.q 10 [] (by kernel_rfl) rfl rfl (Qy.fieldAddr T.fa34_4 rfl) ?_
  refine Gm.q 11 [3] (by kernel_rfl) rfl rfl (Qy.load 3 T.one3 rfl rfl rfl) ?_
  refine Gm.q 12 [] (by kernel_rfl) rfl rfl (Qy.move rfl) ?_
  refine Gm.q 13 [] (by kernel_rfl) rfl rfl (Qy.move rfl) ?_
  refine Gm.q 14 [] (by kernel_rfl) rfl rfl (Qy.nilCheck rfl) ?_
  refine Gm.q 15 [] (by kernel_rfl) rfl rfl (Qy.fieldAddr T.fa61_2 rfl) ?_
  refine Gm.q 16 [0] (by kernel_rfl) rfl rfl (Qy.load 0 T.one3 rfl rfl rfl) ?_
  refine Gm.q 17 [] (by kernel_rfl) rfl rfl (Qy.build (cs := [_, _, _, _, _, _]) T.st99 rfl rfl rfl) ?_
  refine Gm.one 18 ⟨rfl, rfl, rfl, rfl, trivial⟩ (by first | exact Imm.le_refl _ | assumption) (by kernel_rfl) rfl ?_
  refine Wl.alloc 4 rfl T.zero99 (fun b2 => ?_)
  refine Wl.on0 ?_
  refine Gm.one 19 ⟨rfl, rfl, rfl, rfl, trivial⟩ (by first | exact Imm.le_refl _ | assumption) (by kernel_rfl) rfl ?_
  refine Wl.storeAll 4 T.size99 rfl rfl rfl rfl rfl rfl ?_
  refine Wl.on0 ?_
  refine Gm.doneA (by kernel_rfl) trivial (by first | exact Imm.le_refl _ | assumption) ?_
  refine Ar.next ?_
  rotate_left
  · have h : reckonP (tabOf held ks next) n i = ((held[i.a.toNat]?.getD default, -1), tabOf held ks next) := if_pos hc1
    rw [h]
    exact ⟨ks, b, d, j, rfl, rfl, hks, Nat.le_succ _, rfl, rfl⟩
  · refine Wc.meet (ι := Int) (fun v => ([(8, Go.Value.pointer (Option.some (Go.Addr.mk b2 0 Option.none))), (7, Go.Value.int Go.IntKind.i64 0), (6, Go.Value.int Go.IntKind.i64 0), (5, Go.Value.pointer (Option.some (Go.Addr.mk b1 0 Option.none))), (0, Go.Value.pointer (Option.some (Go.Addr.mk bs 0 Option.none))), (1, Go.Value.int Go.IntKind.i64 n)], [(4, some b2, .cells #[.int .i64 i.op, .int .i64 (held[i.a.toNat]?.getD default), .int .i64 v, .int .i64 i.c, .int .i64 n, .int .i64 next] 99), (3, Option.some b1, Go.Obj.cells (List.toArray (Go.Sl.Cells.enc i)) 34), (0, Option.some bs, Go.Obj.cells #[Go.Value.slice a (List.length held) c, Go.Value.slice b (List.length ks) d, Go.Value.int Go.IntKind.i64 next] 61), (1, Option.map (fun x => Go.Addr.block x) a, Go.Sl.Row (α := Int) 3 (held) (junk)), (2, Option.map (fun x => Go.Addr.block x) b, Go.Sl.Row (α := Go.Sl.R6) 99 (ks) (j))])) (fun v => v = if i.op = 3 ∨ i.op = 4 then held[i.b.toNat]?.getD default else -1) ?_ (fun v => fun (hk : v = if i.op = 3 ∨ i.op = 4 then held[i.b.toNat]?.getD default else -1) => ?_)
    · refine Wc.seq ?_
      refine Wc.region rfl ?_
      refine Wl.q rfl (Qy.fieldAddr T.fa34_0 rfl) ?_
      refine Wl.q rfl (Qy.load 3 T.one3 rfl rfl rfl) ?_
      refine Wl.q rfl (Qy.eql rfl rfl) ?_
      refine Wl.q rfl (Qy.move rfl) ?_
      apply Wl.joinOr 4 43 47 rfl
      intro hg1
      refine Wl.want rfl rfl ?_
      refine Wl.q rfl (Qy.fieldAddr T.fa34_0 rfl) ?_
      refine Wl.want rfl rfl ?_
      refine Wl.q rfl (Qy.load 3 T.one3 rfl rfl rfl) ?_
      refine Wl.want rfl rfl ?_
      refine Wl.q rfl (Qy.eql rfl rfl) ?_
      refine Wl.q rfl (Qy.pick rfl rfl) ?_
      exact Wl.back 4 0 rfl rfl rfl rfl rfl
      intro hg1
      refine Wl.pass rfl rfl rfl ?_
      refine Wl.pass rfl rfl rfl ?_
      refine Wl.pass rfl rfl rfl ?_
      refine Wl.q rfl (Qy.pick rfl rfl) ?_
      exact Wl.back 4 0 rfl rfl rfl rfl rfl
      refine Wl.done ?_
      refine Ar.next ?_
      refine Wc.cond rfl (fun hc2 => ?_) (fun hc2 => ?_)
      refine Wc.draw [2, 1, 0, 3, 4] [(4, 9)] T.mixed rfl ?_
      refine Gm.q 0 [] (by kernel_rfl) rfl rfl (Qy.move rfl) ?_
      refine Gm.q 1 [] (by kernel_rfl) rfl rfl (Qy.nilCheck rfl) ?_
      refine Gm.q 2 [] (by kernel_rfl) rfl rfl (Qy.fieldAddr T.fa61_0 rfl) ?_
      refine Gm.q 3 [0] (by kernel_rfl) rfl rfl (Qy.load 0 T.one23 rfl rfl rfl) ?_
      refine Gm.q 4 [] (by kernel_rfl) rfl rfl (Qy.fieldAddr T.fa34_3 rfl) ?_
      refine Gm.q 5 [3] (by kernel_rfl) rfl rfl (Qy.load 3 T.one3 rfl rfl rfl) ?_
      refine Gm.q 6 [] (by kernel_rfl) rfl rfl (Qy.indexAddrO (α := Int) T.sl23 rfl rfl (by assumption) (by omega)) ?_
      refine Gm.q 7 [1, 0] (by kernel_rfl) rfl rfl (Qy.loadO 1 0 T.one3 rfl rfl (by assumption) (by omega) rfl rfl) ?_
      refine Gm.q 8 [] (by kernel_rfl) rfl rfl (Qy.fieldAddr T.fa99_2 rfl) ?_
      refine Gm.one 9 ⟨rfl, rfl, rfl, rfl, rfl, trivial⟩ (by first | exact Imm.le_refl _ | assumption) (by kernel_rfl) rfl ?_
      refine Wl.store 4 T.one3 rfl rfl rfl rfl rfl ?_
      refine Wl.on0 ?_
      refine Gm.doneA (by kernel_rfl) ⟨rfl, rfl, rfl, rfl, trivial⟩ (by first | exact Imm.le_refl _ | assumption) ?_
      rotate_left
      refine Wc.skip ?_
      rotate_left
      · refine Ar.meet (held[i.b.toNat]?.getD default) ?_ rfl ⟨rfl, rfl, rfl, rfl, rfl, rfl, trivial⟩ ⟨rfl, rfl, rfl, rfl, rfl, trivial⟩
        rw [if_pos hc2]
      · refine Ar.meet (-1) ?_ rfl ⟨rfl, rfl, rfl, rfl, rfl, rfl, trivial⟩ ⟨rfl, rfl, rfl, rfl, rfl, trivial⟩
        rw [if_neg hc2]
    · refine Wc.meet (ι := K4) (fun x => ([(8, Go.Value.pointer (Option.some (Go.Addr.mk b2 0 Option.none))), (7, Go.Value.int Go.IntKind.i64 0), (6, Go.Value.int Go.IntKind.i64 0), (0, Go.Value.pointer (Option.some (Go.Addr.mk bs 0 Option.none))), (1, Go.Value.int Go.IntKind.i64 n)], [(4, some b2, .cells #[.int .i64 x.op, .int .i64 x.a, .int .i64 x.b, .int .i64 x.c, .int .i64 n, .int .i64 next] 99), (3, Option.some b1, Go.Obj.cells (List.toArray (Go.Sl.Cells.enc i)) 34), (0, Option.some bs, Go.Obj.cells #[Go.Value.slice a (List.length held) c, Go.Value.slice b (List.length ks) d, Go.Value.int Go.IntKind.i64 next] 61), (1, Option.map (fun x => Go.Addr.block x) a, Go.Sl.Row (α := Int) 3 (held) (junk)), (2, Option.map (fun x => Go.Addr.block x) b, Go.Sl.Row (α := Go.Sl.R6) 99 (ks) (j))])) (fun x => x = keyOf held i) ?_ (fun x => fun (hk : x = keyOf held i) => ?_)
      · refine Wc.seq ?_
        refine Wc.region rfl ?_
        refine Wl.q rfl (Qy.fieldAddr T.fa34_0 rfl) ?_
        refine Wl.q rfl (Qy.load 3 T.one3 rfl rfl rfl) ?_
        refine Wl.q rfl (Qy.eql rfl rfl) ?_
        refine Wl.q rfl (Qy.move rfl) ?_
        apply Wl.joinAnd 6 60 66 rfl
        intro hg1
        refine Wl.want rfl rfl ?_
        refine Wl.q rfl (Qy.fieldAddr T.fa99_1 rfl) ?_
        refine Wl.want rfl rfl ?_
        refine Wl.q rfl (Qy.load 4 T.one3 rfl rfl rfl) ?_
        refine Wl.want rfl rfl ?_
        refine Wl.q rfl (Qy.fieldAddr T.fa99_2 rfl) ?_
        refine Wl.want rfl rfl ?_
        refine Wl.q rfl (Qy.load 4 T.one3 rfl rfl rfl) ?_
        refine Wl.want rfl rfl ?_
        refine Wl.q rfl (Qy.gtr rfl rfl) ?_
        refine Wl.q rfl (Qy.pick rfl rfl) ?_
        exact Wl.back 6 0 rfl rfl rfl rfl rfl
        intro hg1
        refine Wl.pass rfl rfl rfl ?_
        refine Wl.pass rfl rfl rfl ?_
        refine Wl.pass rfl rfl rfl ?_
        refine Wl.pass rfl rfl rfl ?_
        refine Wl.pass rfl rfl rfl ?_
        refine Wl.q rfl (Qy.pick rfl rfl) ?_
        exact Wl.back 6 0 rfl rfl rfl rfl rfl
        refine Wl.done ?_
        refine Ar.next ?_
        refine Wc.cond rfl (fun hc2 => ?_) (fun hc2 => ?_)
        refine Wc.region rfl ?_
        refine Wl.q rfl (Qy.fieldAddr T.fa99_2 rfl) ?_
        refine Wl.q rfl (Qy.load 4 T.one3 rfl rfl rfl) ?_
        refine Wl.q rfl (Qy.fieldAddr T.fa99_1 rfl) ?_
        refine Wl.q rfl (Qy.load 4 T.one3 rfl rfl rfl) ?_
        refine Wl.q rfl (Qy.fieldAddr T.fa99_1 rfl) ?_
        refine Wl.store 4 T.one3 rfl rfl rfl rfl rfl ?_
        refine Wl.q rfl (Qy.fieldAddr T.fa99_2 rfl) ?_
        refine Wl.store 4 T.one3 rfl rfl rfl rfl rfl ?_
        refine Wl.done ?_
        rotate_left
        refine Wc.skip ?_
        rotate_left
        · refine Ar.meet (⟨i.op, v, held[i.a.toNat]?.getD default, i.c⟩) ?_ rfl ⟨rfl, rfl, rfl, rfl, rfl, trivial⟩ ⟨rfl, rfl, rfl, rfl, rfl, trivial⟩
          have hv : v = held[i.b.toNat]?.getD default := by rw [hk, if_pos (by omega)]
          unfold keyOf
          rw [if_pos (by omega), ← hv, if_pos hc2]
        · refine Ar.meet (⟨i.op, held[i.a.toNat]?.getD default, v, i.c⟩) ?_ rfl ⟨rfl, rfl, rfl, rfl, rfl, trivial⟩ ⟨rfl, rfl, rfl, rfl, rfl, trivial⟩
          unfold keyOf
          by_cases h3 : i.op = 3 ∨ i.op = 4
          · rw [if_pos h3] at hk ⊢
            rw [← hk, if_neg hc2]
          · rw [if_neg h3] at hk ⊢
            rw [hk]
      · have hx := hk
        clear hk
        have hkn : ∀ y : List R6, mget (y.map fun k => (keyR k, k.f)) x = none → mget (y.map fun k => (keyR k, k.e)) x = none := fun y h => by
          rw [mget_none] at h ⊢
          simpa using h
        refine Wc.seq ?_
        refine Wc.seq ?_
        refine Wc.region rfl ?_
        refine Wl.q rfl (Qy.assign rfl) ?_
        refine Wl.done ?_
        refine Ar.next ?_
        refine Wc.block ?_
        refine Wc.loop (ι := Nat) (fun k => ([(9, .int .i64 (k : Int)), (8, Go.Value.pointer (Option.some (Go.Addr.mk b2 0 Option.none))), (0, Go.Value.pointer (Option.some (Go.Addr.mk bs 0 Option.none))), (1, Go.Value.int Go.IntKind.i64 n)], [(4, Option.some b2, Go.Obj.cells #[Go.Value.int Go.IntKind.i64 (Go.Sl.K4.op x), Go.Value.int Go.IntKind.i64 (Go.Sl.K4.a x), Go.Value.int Go.IntKind.i64 (Go.Sl.K4.b x), Go.Value.int Go.IntKind.i64 (Go.Sl.K4.c x), Go.Value.int Go.IntKind.i64 n, Go.Value.int Go.IntKind.i64 next] 99), (3, Option.some b1, Go.Obj.cells (List.toArray (Go.Sl.Cells.enc i)) 34), (0, Option.some bs, Go.Obj.cells #[Go.Value.slice a (List.length held) c, Go.Value.slice b (List.length ks) d, Go.Value.int Go.IntKind.i64 next] 61), (1, Option.map (fun x => Go.Addr.block x) a, Go.Sl.Row (α := Int) 3 (held) (junk)), (2, Option.map (fun x => Go.Addr.block x) b, Go.Sl.Row (α := Go.Sl.R6) 99 (ks) (j))])) (fun k => k ≤ ks.length ∧ (ks.take k).all (fun r => !decide (keyR r = x)) = true) (fun k => ks.length - k) (0) (⟨Nat.zero_le _, rfl⟩) ⟨rfl, rfl, rfl, rfl, trivial⟩ ⟨rfl, rfl, rfl, rfl, rfl, trivial⟩ (fun k => fun (hk : k ≤ ks.length ∧ (ks.take k).all (fun r => !decide (keyR r = x)) = true) => ?_)
        obtain ⟨hk1, hk2⟩ := hk
        refine Wc.seq ?_
        refine Wc.seq ?_
        refine Wc.region rfl ?_
        refine Wl.q rfl (Qy.move rfl) ?_
        refine Wl.q rfl (Qy.move rfl) ?_
        refine Wl.q rfl (Qy.nilCheck rfl) ?_
        refine Wl.q rfl (Qy.fieldAddr T.fa61_1 rfl) ?_
        refine Wl.q rfl (Qy.load 0 T.one59 rfl rfl rfl) ?_
        refine Wl.q rfl (Qy.len T.sl59 rfl) ?_
        refine Wl.q rfl (Qy.lss rfl rfl) ?_
        refine Wl.done ?_
        refine Ar.next ?_
        refine Wc.cond rfl (fun hc2 => ?_) (fun hc2 => ?_)
        refine Wc.skip ?_
        refine Ar.next ?_
        refine Wc.seq ?_
        refine Wc.block ?_
        refine Wc.seq ?_
        refine Wc.region rfl ?_
        refine Wl.q rfl (Qy.move rfl) ?_
        refine Wl.q rfl (Qy.nilCheck rfl) ?_
        refine Wl.q rfl (Qy.fieldAddr T.fa61_1 rfl) ?_
        refine Wl.q rfl (Qy.load 0 T.one59 rfl rfl rfl) ?_
        refine Wl.q rfl (Qy.move rfl) ?_
        refine Wl.q rfl (Qy.indexAddrO (α := R6) T.sl59 rfl rfl (by assumption) (by omega)) ?_
        refine Wl.q rfl (Qy.loadsO 2 T.agg99 rfl rfl (by assumption) (by omega)) ?_
        refine Wl.alloc 5 rfl T.zero99 (fun b3 => ?_)
        refine Wl.storeAll 5 T.size99 rfl rfl rfl rfl rfl rfl ?_
        refine Wl.done ?_
        refine Ar.next ?_
        refine Wc.seq ?_
        refine Wc.region rfl ?_
        refine Wl.q rfl (Qy.fieldAddr T.fa99_0 rfl) ?_
        refine Wl.q rfl (Qy.load 5 T.one3 rfl rfl rfl) ?_
        refine Wl.q rfl (Qy.fieldAddr T.fa99_0 rfl) ?_
        refine Wl.q rfl (Qy.load 4 T.one3 rfl rfl rfl) ?_
        refine Wl.q rfl (Qy.eql rfl rfl) ?_
        refine Wl.q rfl (Qy.move rfl) ?_
        apply Wl.joinAnd 6 94 100 rfl
        intro hg1
        refine Wl.want rfl rfl ?_
        refine Wl.q rfl (Qy.fieldAddr T.fa99_1 rfl) ?_
        refine Wl.want rfl rfl ?_
        refine Wl.q rfl (Qy.load 5 T.one3 rfl rfl rfl) ?_
        refine Wl.want rfl rfl ?_
        refine Wl.q rfl (Qy.fieldAddr T.fa99_1 rfl) ?_
        refine Wl.want rfl rfl ?_
        refine Wl.q rfl (Qy.load 4 T.one3 rfl rfl rfl) ?_
        refine Wl.want rfl rfl ?_
        refine Wl.q rfl (Qy.eql rfl rfl) ?_
        refine Wl.q rfl (Qy.pick rfl rfl) ?_
        exact Wl.back 6 0 rfl rfl rfl rfl rfl
        intro hg1
        refine Wl.pass rfl rfl rfl ?_
        refine Wl.pass rfl rfl rfl ?_
        refine Wl.pass rfl rfl rfl ?_
        refine Wl.pass rfl rfl rfl ?_
        refine Wl.pass rfl rfl rfl ?_
        refine Wl.q rfl (Qy.pick rfl rfl) ?_
        exact Wl.back 6 0 rfl rfl rfl rfl rfl
        refine Wl.q rfl (Qy.move rfl) ?_
        apply Wl.joinAnd 6 101 107 rfl
        intro hg1
        refine Wl.want rfl rfl ?_
        refine Wl.q rfl (Qy.fieldAddr T.fa99_2 rfl) ?_
        refine Wl.want rfl rfl ?_
        refine Wl.q rfl (Qy.load 5 T.one3 rfl rfl rfl) ?_
        refine Wl.want rfl rfl ?_
        refine Wl.q rfl (Qy.fieldAddr T.fa99_2 rfl) ?_
        refine Wl.want rfl rfl ?_
        refine Wl.q rfl (Qy.load 4 T.one3 rfl rfl rfl) ?_
        refine Wl.want rfl rfl ?_
        refine Wl.q rfl (Qy.eql rfl rfl) ?_
        refine Wl.q rfl (Qy.pick rfl rfl) ?_
        exact Wl.back 6 0 rfl rfl rfl rfl rfl
        intro hg1
        refine Wl.pass rfl rfl rfl ?_
        refine Wl.pass rfl rfl rfl ?_
        refine Wl.pass rfl rfl rfl ?_
        refine Wl.pass rfl rfl rfl ?_
        refine Wl.pass rfl rfl rfl ?_
        refine Wl.q rfl (Qy.pick rfl rfl) ?_
        exact Wl.back 6 0 rfl rfl rfl rfl rfl
        refine Wl.q rfl (Qy.move rfl) ?_
        apply Wl.joinAnd 6 108 114 rfl
        intro hg1
        refine Wl.want rfl rfl ?_
        refine Wl.q rfl (Qy.fieldAddr T.fa99_3 rfl) ?_
        refine Wl.want rfl rfl ?_
        refine Wl.q rfl (Qy.load 5 T.one3 rfl rfl rfl) ?_
        refine Wl.want rfl rfl ?_
        refine Wl.q rfl (Qy.fieldAddr T.fa99_3 rfl) ?_
        refine Wl.want rfl rfl ?_
        refine Wl.q rfl (Qy.load 4 T.one3 rfl rfl rfl) ?_
        refine Wl.want rfl rfl ?_
        refine Wl.q rfl (Qy.eql rfl rfl) ?_
        refine Wl.q rfl (Qy.pick rfl rfl) ?_
        exact Wl.back 6 0 rfl rfl rfl rfl rfl
        intro hg1
        refine Wl.pass rfl rfl rfl ?_
        refine Wl.pass rfl rfl rfl ?_
        refine Wl.pass rfl rfl rfl ?_
        refine Wl.pass rfl rfl rfl ?_
        refine Wl.pass rfl rfl rfl ?_
        refine Wl.q rfl (Qy.pick rfl rfl) ?_
        exact Wl.back 6 0 rfl rfl rfl rfl rfl
        refine Wl.done ?_
        refine Ar.next ?_
        refine Wc.cond rfl (fun hc3 => ?_) (fun hc3 => ?_)
        refine Wc.seq ?_
        refine Wc.draw [2, 1, 0, 3, 4, 5] [] T.mixed rfl ?_
        refine Gm.q 0 [] (by kernel_rfl) rfl rfl (Qy.fieldAddr T.fa99_5 rfl) ?_
        refine Gm.q 1 [5] (by kernel_rfl) rfl rfl (Qy.load 5 T.one3 rfl rfl rfl) ?_
        refine Gm.q 2 [] (by kernel_rfl) rfl rfl (Qy.fieldAddr T.fa99_4 rfl) ?_
        refine Gm.q 3 [5] (by kernel_rfl) rfl rfl (Qy.load 5 T.one3 rfl rfl rfl) ?_
        refine Gm.q 4 [] (by kernel_rfl) rfl rfl (Qy.assign rfl) ?_
        refine Gm.q 5 [] (by kernel_rfl) rfl rfl (Qy.assign rfl) ?_
        refine Gm.doneA (by kernel_rfl) ⟨rfl, rfl, rfl, rfl, rfl, rfl, trivial⟩ (by first | exact Imm.le_refl _ | assumption) ?_
        refine Ar.next ?_
        refine Wc.ret ?_
        refine Ar.outRet ?_
        refine Ar.passRet ?_
        refine Ar.passRet ?_
        refine Ar.outRet ?_
        refine Ar.passRet ?_
        refine Ar.out2 (.inr rfl) (Ho := Hp.only _ [0, 1, 2]) rfl (.tmp rfl) (.tmp rfl) (Hp.sub_only _ _) ?_
        rotate_left
        refine Wc.skip ?_
        refine Ar.outNormal ?_
        refine Ar.next ?_
        refine Wc.region rfl ?_
        refine Wl.q rfl (Qy.move rfl) ?_
        refine Wl.q rfl (Qy.add rfl rfl (by omega)) ?_
        refine Wl.q rfl (Qy.assign rfl) ?_
        refine Wl.done ?_
        rotate_left
        refine Wc.exit ?_
        refine Ar.passExit ?_
        refine Ar.passExit ?_
        refine Ar.here ?_
        refine Ar.next ?_
        refine Wc.seq ?_
        refine Wc.draw [2, 1, 0, 3, 4] [(0, 10), (1, 7), (2, 7)] T.mixed rfl ?_
        refine Gm.q 0 [] (by kernel_rfl) rfl rfl (Qy.move rfl) ?_
        refine Gm.q 1 [] (by kernel_rfl) rfl rfl (Qy.move rfl) ?_
        refine Gm.q 2 [] (by kernel_rfl) rfl rfl (Qy.nilCheck rfl) ?_
        refine Gm.q 3 [] (by kernel_rfl) rfl rfl (Qy.fieldAddr T.fa61_1 rfl) ?_
        refine Gm.q 4 [0] (by kernel_rfl) rfl rfl (Qy.load 0 T.one59 rfl rfl rfl) ?_
        refine Gm.q 5 [4] (by kernel_rfl) rfl rfl (Qy.loadAll 4 T.agg99 rfl rfl rfl) ?_
        refine Gm.one 6 ⟨rfl, rfl, rfl, rfl, rfl, trivial⟩ (by first | exact Imm.le_refl _ | assumption) (by kernel_rfl) rfl ?_
        refine Wl.lit (α := R6) 5 [⟨Go.Sl.K4.op x, Go.Sl.K4.a x, Go.Sl.K4.b x, Go.Sl.K4.c x, n, next⟩] rfl T.sl59 T.el99 rfl rfl rfl rfl rfl (fun b3 => ?_)
        refine Wl.on0 ?_
        refine Gm.one 7 ⟨rfl, rfl, rfl, rfl, rfl, trivial⟩ (by first | exact Imm.le_refl _ | assumption) (by kernel_rfl) rfl ?_
        refine Wl.append (α := R6) 2 rfl T.sl59 T.el99 rfl rfl rfl (by first | assumption | exact OwnA.nil | exact OwnA.made (by simp)) (Src.row 5 rfl) (by first | omega | (simp only [List.length_append, List.length_cons, List.length_nil, maxLen]; omega)) (by first | omega | (simp only [List.length_append, List.length_cons, List.length_nil, maxLen]; omega)) (fun a1 c1 junk1 ho1 => ?_)
        refine Wl.on0 ?_
        refine Gm.q 8 [] (by kernel_rfl) rfl rfl (Qy.nilCheck rfl) ?_
        refine Gm.q 9 [] (by kernel_rfl) rfl rfl (Qy.fieldAddr T.fa61_1 rfl) ?_
        refine Gm.one 10 ⟨rfl, rfl, rfl, trivial⟩ (by first | exact Imm.le_refl _ | assumption) (by kernel_rfl) rfl ?_
        refine Wl.store 0 T.one59 rfl rfl rfl rfl rfl ?_
        refine Wl.on0 ?_
        refine Gm.doneA (by kernel_rfl) ⟨rfl, rfl, trivial⟩ (by first | exact Imm.le_refl _ | assumption) ?_
        refine Ar.next ?_
        refine Wc.seq ?_
        refine Wc.region rfl ?_
        refine Wl.q rfl (Qy.move rfl) ?_
        refine Wl.q rfl (Qy.nilCheck rfl) ?_
        refine Wl.q rfl (Qy.fieldAddr T.fa61_2 rfl) ?_
        refine Wl.q rfl (Qy.load 0 T.one3 rfl rfl rfl) ?_
        refine Wl.q rfl (Qy.add rfl rfl (by omega)) ?_
        refine Wl.q rfl (Qy.nilCheck rfl) ?_
        refine Wl.q rfl (Qy.fieldAddr T.fa61_2 rfl) ?_
        refine Wl.store 0 T.one3 rfl rfl rfl rfl rfl ?_
        refine Wl.done ?_
        refine Ar.next ?_
        refine Wc.seq ?_
        refine Wc.region rfl ?_
        refine Wl.q rfl (Qy.fieldAddr T.fa99_5 rfl) ?_
        refine Wl.q rfl (Qy.load 4 T.one3 rfl rfl rfl) ?_
        refine Wl.q rfl (Qy.move rfl) ?_
        refine Wl.q rfl (Qy.assign rfl) ?_
        refine Wl.q rfl (Qy.assign rfl) ?_
        refine Wl.done ?_
        refine Ar.next ?_
        refine Wc.ret ?_
        refine Ar.out2 (.inr rfl) (Ho := Hp.only _ [0, 1, 2]) rfl (.tmp rfl) (.tmp rfl) (Hp.sub_only _ _) ?_
        rotate_left
        · have hm1 := mget_at (g := fun r => r.f) (k := k) (by omega) hk2 (keyR_iff.2 hc3)
          have hm2 := mget_at (g := fun r => r.e) (k := k) (by omega) hk2 (keyR_iff.2 hc3)
          have h : reckonP (tabOf held ks next) n i = (((ks[((k : Nat) : Int).toNat]?.getD default).f, (ks[((k : Nat) : Int).toNat]?.getD default).e), tabOf held ks next) := by
            unfold reckonP tabOf
            simp only
            rw [if_neg hc1, ← hx, hm1, hm2]
            rfl
          rw [h]
          exact ⟨ks, b, d, j, rfl, rfl, hks, Nat.le_succ _, rfl, rfl⟩
        · refine Ar.again (k + 1) ?_ ?_ rfl ⟨rfl, rfl, rfl, rfl, trivial⟩ ⟨rfl, rfl, rfl, rfl, rfl, trivial⟩
          · refine ⟨by omega, ?_⟩
            rw [all_step _ (by omega), hk2]
            simp only [Bool.true_and, Bool.not_eq_true', decide_eq_false_iff_not, keyR_iff]
            exact hc3
          · omega
        · have hkk : k = ks.length := by omega
          subst hkk
          rw [List.take_length] at hk2
          have hm1 := mget_not (g := fun r => r.f) hk2
          have h : reckonP (tabOf held ks next) n i = ((next, n), tabOf held (ks ++ [⟨x.op, x.a, x.b, x.c, n, next⟩]) (next + 1)) := by
            unfold reckonP tabOf
            simp only
            rw [if_neg hc1, ← hx, hm1]
            simp [keyR]
          rw [h]
          exact ⟨ks ++ [⟨x.op, x.a, x.b, x.c, n, next⟩], a1, c1, junk1, rfl, rfl, ho1, by simp, rfl, rfl⟩
end Go.Proofs.Ytfleehgbpgmcnaa
namespace Go.Proofs.Ytfleehgbpgmcnaa
open Go Go.Sl
set_option maxRecDepth 100000
set_option maxHeartbeats 2000000
section
variable {held : List Int} {ks : List R6} {nx n : Int} {out : List Sl.Instr} {i : Sl.Instr}
theorem passStep_same' (h : held[i.to.toNat]?.getD default = (reckonP (tabOf held ks nx) n i).1.1) : passStep (tabOf held ks nx, out) n i = ((reckonP (tabOf held ks nx) n i).2, out) :=
  passStep_same (by rw [reckon_held]; exact h)
theorem passStep_move' (h : ¬ held[i.to.toNat]?.getD default = (reckonP (tabOf held ks nx) n i).1.1) (h2 : 0 ≤ holder held (reckonP (tabOf held ks nx) n i).1.1) :
    passStep (tabOf held ks nx, out) n i = ({ (reckonP (tabOf held ks nx) n i).2 with held := held.set i.to.toNat (reckonP (tabOf held ks nx) n i).1.1 }, out ++ [⟨1, i.to, holder held (reckonP (tabOf held ks nx) n i).1.1, 0, 0⟩]) := by
  have := passStep_move (t := tabOf held ks nx) (out := out) (n := n) (i := i) (by rw [reckon_held]; exact h) (by rw [reckon_held]; exact h2)
  rw [reckon_held] at this
  exact this
theorem passStep_keep' (h : ¬ held[i.to.toNat]?.getD default = (reckonP (tabOf held ks nx) n i).1.1) (h2 : ¬ 0 ≤ holder held (reckonP (tabOf held ks nx) n i).1.1) :
    passStep (tabOf held ks nx, out) n i = ({ (reckonP (tabOf held ks nx) n i).2 with held := held.set i.to.toNat (reckonP (tabOf held ks nx) n i).1.1 }, out ++ [askedP held i]) := by
  have := passStep_keep (t := tabOf held ks nx) (out := out) (n := n) (i := i) (by rw [reckon_held]; exact h) (by rw [reckon_held]; exact h2)
  rw [reckon_held] at this
  exact this
end
theorem c17 (G : Imm) (p : PV) (ac ao : Option Addr) (cc co : Nat) (hc : Arr G ac p.code) (ho : Arr G ao p.outs) (hR : rightP p = true) :
    Does Try.prog 17 [.agg #[.int .i64 p.ins, .int .i64 p.regs, .slice ac p.code.length cc, .slice ao p.outs.length co]] G [] (fun v G' Ho =>
      ∃ bc bo dc do_ j1 j2, v = .agg #[.int .i64 p.ins, .int .i64 p.regs, .slice bc (passP p).code.length dc, .slice bo (passP p).outs.length do_] ∧
        OwnA bc dc (passP p).code j1 ∧ OwnA bo do_ (passP p).outs j2 ∧ Ho = [(0, bc.map (·.block), Row 34 (passP p).code j1), (1, bo.map (·.block), Row 3 (passP p).outs j2)] ∧ G' = G) := by
  obtain ⟨r1, r2, r3, r4, r5, r6, r7, r8⟩ := right_facts hR
  refine Does.enter Try.func17 rfl Try.ntmps17 rfl (fun w => ?_)
  refine Wc.nilRow 0 (Row 34 ([] : List Sl.Instr) []) (Wc.nilRow 1 (Row 3 ([] : List Int) []) ?_)
  refine Wc.seq ?_
  refine Wc.region rfl ?_
  refine Wl.box 2 rfl rfl rfl (fun b1 => ?_)
  refine Wl.alloc 3 rfl T.zero25 (fun b2 => ?_)
  refine Wl.done ?_
  refine Ar.next ?_
  refine Wc.seq ?_
  refine Wc.region rfl ?_
  refine Wl.q rfl (Qy.loadAll 2 T.agg25 rfl rfl rfl) ?_
  refine Wl.call 4 rfl T.fn25 rfl (c25 _ _ _ _ _ _ (by omega)) (tags_of trivial) (fun v1 G1 Ho1 hle1 hp => ?_)
  obtain ⟨bs1, ta1, tc1, tj1, rfl, hto1, rfl, rfl⟩ := hp
  refine Wl.q rfl (Qy.assign rfl) ?_
  refine Wl.done ?_
  refine Ar.next ?_
  refine Wc.seq ?_
  refine Wc.region rfl ?_
  refine Wl.q rfl (Qy.fieldAddr T.fa25_0 rfl) ?_
  refine Wl.q rfl (Qy.load 2 T.one3 rfl rfl rfl) ?_
  refine Wl.q rfl (Qy.fieldAddr T.fa25_1 rfl) ?_
  refine Wl.q rfl (Qy.load 2 T.one3 rfl rfl rfl) ?_
  refine Wl.q rfl (Qy.build (cs := [_, _, _, _]) T.st25 rfl rfl rfl) ?_
  refine Wl.alloc 7 rfl T.zero25 (fun b3 => ?_)
  refine Wl.storeAll 7 T.size25 rfl rfl rfl rfl rfl rfl ?_
  refine Wl.done ?_
  refine Ar.next ?_
  refine Wc.seq ?_
  refine Wc.seq ?_
  refine Wc.region rfl ?_
  refine Wl.q rfl (Qy.assign rfl) ?_
  refine Wl.done ?_
  refine Ar.next ?_
  refine Wc.block ?_
  refine Wc.loop (ι := Nat × (List Int × List R6 × Int) × List Sl.Instr × (Option Addr × Nat × List Value) × (Option Addr × Nat × List Value) × (Option Addr × Nat × List Value)) (fun (k, (held, ks, nx), out, (a, c, junk), (b, d, j), (a', c', junk')) => ([(5, .int .i64 (k : Int)), (4, Go.Value.pointer (Option.some (Go.Addr.mk b3 0 Option.none))), (3, Go.Value.pointer (Option.some (Go.Addr.mk bs1 0 Option.none))), (2, Go.Value.pointer (Option.some (Go.Addr.mk b2 0 Option.none))), (1, Go.Value.pointer (Option.some (Go.Addr.mk b1 0 Option.none)))], [(4, some bs1, .cells #[.slice a held.length c, .slice b ks.length d, .int .i64 nx] 61), (5, a.map (·.block), Row 3 held junk), (6, b.map (·.block), Row 99 ks j), (7, some b3, .cells #[.int .i64 p.ins, .int .i64 p.regs, .slice a' out.length c', .slice none 0 0] 25), (0, a'.map (·.block), Row 34 out junk'), (3, Option.some b2, Go.Obj.cells #[Go.Value.int Go.IntKind.i64 0, Go.Value.int Go.IntKind.i64 0, Go.Value.slice Option.none 0 0, Go.Value.slice Option.none 0 0] 25), (2, Option.some b1, Go.Obj.cells #[Go.Value.int Go.IntKind.i64 (Go.Proofs.Ytfleehgbpgmcnaa.PV.ins p), Go.Value.int Go.IntKind.i64 (Go.Proofs.Ytfleehgbpgmcnaa.PV.regs p), Go.Value.slice ac (List.length (Go.Proofs.Ytfleehgbpgmcnaa.PV.code p)) cc, Go.Value.slice ao (List.length (Go.Proofs.Ytfleehgbpgmcnaa.PV.outs p)) co] 25), (1, Option.none, Go.Sl.Row (α := Int) 3 ([]) ([]))])) (fun (k, (held, ks, nx), out, (a, c, junk), (b, d, j), (a', c', junk')) => k ≤ p.code.length ∧ (tabOf held ks nx, out) = passTo p k ∧ OwnA a c held junk ∧ OwnA b d ks j ∧ OwnA a' c' out junk' ∧ (held.length : Int) = p.regs ∧ out.length ≤ k ∧ ks.length ≤ k ∧ 0 ≤ nx ∧ nx ≤ p.ins + 1 + k) (fun (k, (held, ks, nx), out, (a, c, junk), (b, d, j), (a', c', junk')) => p.code.length - k) ((0, (start p, [], p.ins + 1), [], (ta1, tc1, tj1), (none, 0, []), (none, 0, []))) (⟨Nat.zero_le _, rfl, hto1, OwnA.nil, OwnA.nil, by simp [start]; omega, Nat.zero_le _, Nat.zero_le _, by show 0 ≤ p.ins + 1; omega, by show p.ins + 1 ≤ p.ins + 1 + 0; omega⟩) ⟨rfl, rfl, rfl, rfl, rfl, trivial⟩ ⟨rfl, rfl, rfl, rfl, rfl, rfl, rfl, rfl, trivial⟩ (fun ⟨k, (held, ks, nx), out, (a, c, junk), (b, d, j), (a', c', junk')⟩ => fun (hk : k ≤ p.code.length ∧ (tabOf held ks nx, out) = passTo p k ∧ OwnA a c held junk ∧ OwnA b d ks j ∧ OwnA a' c' out junk' ∧ (held.length : Int) = p.regs ∧ out.length ≤ k ∧ ks.length ≤ k ∧ 0 ≤ nx ∧ nx ≤ p.ins + 1 + k) => ?_)
  obtain ⟨hk1, hpass, hoa, hob, hoa', hlen, hout, hksl, hn0, hn1⟩ := hk
  rcases Nat.lt_or_ge k p.code.length with hlt | hge
  · have hm : mayOk (p.code[((k : Nat) : Int).toNat]?.getD default) held.length = true := by
      rw [hlen]; refine r8 _ ?_
      rw [Int.toNat_natCast, List.getElem?_eq_getElem hlt]; simp
    have hm' := hm
    rw [mayOk_iff] at hm'
    obtain ⟨⟨hop1, hop2, hi1, hi2, ha1, ha2⟩, hbb⟩ := hm'
    have hb1 : (p.code[((k : Nat) : Int).toNat]?.getD default).op = 3 ∨ (p.code[((k : Nat) : Int).toNat]?.getD default).op = 4 → 0 ≤ (p.code[((k : Nat) : Int).toNat]?.getD default).b ∧ (p.code[((k : Nat) : Int).toNat]?.getD default).b < held.length := fun h => by rw [if_pos h] at hbb; omega
    have hb2 : ¬ ((p.code[((k : Nat) : Int).toNat]?.getD default).op = 3 ∨ (p.code[((k : Nat) : Int).toNat]?.getD default).op = 4) → (p.code[((k : Nat) : Int).toNat]?.getD default).b = 0 := fun h => by rw [if_neg h] at hbb; omega
    clear hbb
    refine Wc.seq ?_
    refine Wc.seq ?_
    refine Wc.region rfl ?_
    refine Wl.q rfl (Qy.move rfl) ?_
    refine Wl.q rfl (Qy.fieldAddr T.fa25_2 rfl) ?_
    refine Wl.q rfl (Qy.load 2 T.one22 rfl rfl rfl) ?_
    refine Wl.q rfl (Qy.len T.sl22 rfl) ?_
    refine Wl.q rfl (Qy.lss rfl rfl) ?_
    refine Wl.done ?_
    refine Ar.next ?_
    refine Wc.condP rfl (by first | assumption | omega) ?_
    refine Wc.skip ?_
    refine Ar.next ?_
    refine Wc.seq ?_
    refine Wc.block ?_
    refine Wc.seq ?_
    refine Wc.region rfl ?_
    refine Wl.q rfl (Qy.fieldAddr T.fa25_2 rfl) ?_
    refine Wl.q rfl (Qy.load 2 T.one22 rfl rfl rfl) ?_
    refine Wl.q rfl (Qy.move rfl) ?_
    refine Wl.q rfl (Qy.at (α := Instr) T.sl22 rfl rfl (by assumption) (by omega)) ?_
    refine Wl.q rfl (Qy.loadsG T.agg34 rfl (Arr.elem (by assumption) (by omega)) rfl) ?_
    refine Wl.alloc 8 rfl T.zero34 (fun b4 => ?_)
    refine Wl.storeAll 8 T.size34 rfl rfl rfl rfl rfl rfl ?_
    refine Wl.done ?_
    refine Ar.next ?_
    refine Wc.seq ?_
    refine Wc.region rfl ?_
    refine Wl.q rfl (Qy.move rfl) ?_
    refine Wl.q rfl (Qy.move rfl) ?_
    refine Wl.q rfl (Qy.loadAll 8 T.agg34 rfl rfl rfl) ?_
    refine Wl.call 4 rfl T.fn26 rfl (c26 _ _ _ _ _ _ _ _ _ _ _ _ _ (by assumption) (by assumption) (by omega) (by omega) (by assumption) (by omega)) (tags_of ⟨rfl, rfl, rfl, trivial⟩) (fun v2 G2 Ho2 hle2 hp => ?_)
    obtain ⟨ks2, kb2, kd2, kj2, rfl, htab2, hko2, hkl2, rfl, rfl⟩ := hp
    refine Wl.q rfl (Qy.move rfl) ?_
    refine Wl.q rfl (Qy.extract rfl rfl) ?_
    refine Wl.q rfl (Qy.extract rfl rfl) ?_
    refine Wl.q rfl (Qy.assign rfl) ?_
    refine Wl.q rfl (Qy.assign rfl) ?_
    refine Wl.done ?_
    refine Ar.next ?_
    refine Wc.seq ?_
    refine Wc.draw [1, 2, 3, 0, 7, 8, 6, 5, 4] [] T.mixed rfl ?_
    refine Gm.q 0 [] (by kernel_rfl) rfl rfl (Qy.move rfl) ?_
    refine Gm.q 1 [] (by kernel_rfl) rfl rfl (Qy.move rfl) ?_
    refine Gm.q 2 [] (by kernel_rfl) rfl rfl (Qy.nilCheck rfl) ?_
    refine Gm.q 3 [] (by kernel_rfl) rfl rfl (Qy.fieldAddr T.fa61_0 rfl) ?_
    refine Gm.q 4 [4] (by kernel_rfl) rfl rfl (Qy.load 4 T.one23 rfl rfl rfl) ?_
    refine Gm.q 5 [] (by kernel_rfl) rfl rfl (Qy.fieldAddr T.fa34_2 rfl) ?_
    refine Gm.q 6 [8] (by kernel_rfl) rfl rfl (Qy.load 8 T.one3 rfl rfl rfl) ?_
    refine Gm.q 7 [] (by kernel_rfl) rfl rfl (Qy.indexAddrO (α := Int) T.sl23 rfl rfl (by assumption) (by omega)) ?_
    refine Gm.q 8 [0, 5] (by kernel_rfl) rfl rfl (Qy.loadO 5 0 T.one3 rfl rfl (by assumption) (by omega) rfl rfl) ?_
    refine Gm.one 9 ⟨rfl, rfl, rfl, rfl, rfl, rfl, rfl, rfl, rfl, trivial⟩ (by first | exact Imm.le_refl _ | assumption) (by kernel_rfl) rfl ?_
    refine Wl.call1 4 rfl T.fn59 rfl (c59 _ _ _ _ _ _ _ _ _ _ _ _ (by assumption) (by omega)) (tags_of ⟨rfl, rfl, rfl, trivial⟩) ?_
    refine Wl.on0 ?_
    refine Gm.q 10 [] (by kernel_rfl) rfl rfl (Qy.assign rfl) ?_
    refine Gm.doneA (by kernel_rfl) ⟨rfl, rfl, rfl, rfl, rfl, rfl, rfl, rfl, rfl, trivial⟩ (by first | exact Imm.le_refl _ | assumption) ?_
    refine Ar.next ?_
    refine Wc.seq ?_
    refine Wc.region rfl ?_
    refine Wl.q rfl (Qy.assign rfl) ?_
    refine Wl.done ?_
    refine Ar.next ?_
    refine Wc.meet (ι := Int) (fun v => ([(10, .int .i64 v), (9, Go.Value.int Go.IntKind.i64 (Go.Proofs.Ytfleehgbpgmcnaa.holder held (Option.getD held[Int.toNat (Go.Sl.Instr.a (Option.getD (Go.Proofs.Ytfleehgbpgmcnaa.PV.code p)[Int.toNat (↑k : Int)]? Inhabited.default))]? Inhabited.default))), (7, Go.Value.int Go.IntKind.i64 (Prod.fst (Prod.fst (Go.Proofs.Ytfleehgbpgmcnaa.reckonP (Go.Proofs.Ytfleehgbpgmcnaa.tabOf held ks nx) (↑k : Int) (Option.getD (Go.Proofs.Ytfleehgbpgmcnaa.PV.code p)[Int.toNat (↑k : Int)]? Inhabited.default))))), (6, Go.Value.pointer (Option.some (Go.Addr.mk b4 0 Option.none))), (5, Go.Value.int Go.IntKind.i64 (↑k : Int)), (4, Go.Value.pointer (Option.some (Go.Addr.mk b3 0 Option.none))), (3, Go.Value.pointer (Option.some (Go.Addr.mk bs1 0 Option.none))), (2, Go.Value.pointer (Option.some (Go.Addr.mk b2 0 Option.none))), (1, Go.Value.pointer (Option.some (Go.Addr.mk b1 0 Option.none)))], [(4, Option.some bs1, Go.Obj.cells #[Go.Value.slice a (List.length held) c, Go.Value.slice kb2 (List.length ks2) kd2, Go.Value.int Go.IntKind.i64 (Go.Proofs.Ytfleehgbpgmcnaa.Tab.next (Prod.snd (Go.Proofs.Ytfleehgbpgmcnaa.reckonP (Go.Proofs.Ytfleehgbpgmcnaa.tabOf held ks nx) (↑k : Int) (Option.getD (Go.Proofs.Ytfleehgbpgmcnaa.PV.code p)[Int.toNat (↑k : Int)]? Inhabited.default))))] 61), (5, Option.map (fun x => Go.Addr.block x) a, Go.Sl.Row (α := Int) 3 (held) (junk)), (6, Option.map (fun x => Go.Addr.block x) kb2, Go.Sl.Row (α := Go.Sl.R6) 99 (ks2) (kj2)), (8, Option.some b4, Go.Obj.cells (List.toArray (Go.Sl.Cells.enc (Option.getD (Go.Proofs.Ytfleehgbpgmcnaa.PV.code p)[Int.toNat (↑k : Int)]? Inhabited.default))) 34), (7, Option.some b3, Go.Obj.cells #[Go.Value.int Go.IntKind.i64 (Go.Proofs.Ytfleehgbpgmcnaa.PV.ins p), Go.Value.int Go.IntKind.i64 (Go.Proofs.Ytfleehgbpgmcnaa.PV.regs p), Go.Value.slice a' (List.length out) c', Go.Value.slice Option.none 0 0] 25), (0, Option.map (fun x => Go.Addr.block x) a', Go.Sl.Row (α := Go.Sl.Instr) 34 (out) (junk')), (3, Option.some b2, Go.Obj.cells #[Go.Value.int Go.IntKind.i64 0, Go.Value.int Go.IntKind.i64 0, Go.Value.slice Option.none 0 0, Go.Value.slice Option.none 0 0] 25), (2, Option.some b1, Go.Obj.cells #[Go.Value.int Go.IntKind.i64 (Go.Proofs.Ytfleehgbpgmcnaa.PV.ins p), Go.Value.int Go.IntKind.i64 (Go.Proofs.Ytfleehgbpgmcnaa.PV.regs p), Go.Value.slice ac (List.length (Go.Proofs.Ytfleehgbpgmcnaa.PV.code p)) cc, Go.Value.slice ao (List.length (Go.Proofs.Ytfleehgbpgmcnaa.PV.outs p)) co] 25), (1, Option.none, Go.Sl.Row (α := Int) 3 ([]) ([]))])) (fun v => v = (askedP held (p.code[((k : Nat) : Int).toNat]?.getD default)).b) ?_ (fun v => fun (hk : v = (askedP held (p.code[((k : Nat) : Int).toNat]?.getD default)).b) => ?_)
    · refine Wc.seq ?_
      refine Wc.region rfl ?_
      refine Wl.q rfl (Qy.fieldAddr T.fa34_0 rfl) ?_
      refine Wl.q rfl (Qy.load 8 T.one3 rfl rfl rfl) ?_
      refine Wl.q rfl (Qy.eql rfl rfl) ?_
      refine Wl.q rfl (Qy.move rfl) ?_
      apply Wl.joinOr 4 52 56 rfl
      intro hg1
      refine Wl.want rfl rfl ?_
      refine Wl.q rfl (Qy.fieldAddr T.fa34_0 rfl) ?_
      refine Wl.want rfl rfl ?_
      refine Wl.q rfl (Qy.load 8 T.one3 rfl rfl rfl) ?_
      refine Wl.want rfl rfl ?_
      refine Wl.q rfl (Qy.eql rfl rfl) ?_
      refine Wl.q rfl (Qy.pick rfl rfl) ?_
      exact Wl.back 4 0 rfl rfl rfl rfl rfl
      intro hg1
      refine Wl.pass rfl rfl rfl ?_
      refine Wl.pass rfl rfl rfl ?_
      refine Wl.pass rfl rfl rfl ?_
      refine Wl.q rfl (Qy.pick rfl rfl) ?_
      exact Wl.back 4 0 rfl rfl rfl rfl rfl
      refine Wl.done ?_
      refine Ar.next ?_
      refine Wc.cond rfl (fun hc1 => ?_) (fun hc1 => ?_)
      refine Wc.draw [1, 2, 3, 0, 7, 8, 6, 5, 4] [] T.mixed rfl ?_
      refine Gm.q 0 [] (by kernel_rfl) rfl rfl (Qy.move rfl) ?_
      refine Gm.q 1 [] (by kernel_rfl) rfl rfl (Qy.move rfl) ?_
      refine Gm.q 2 [] (by kernel_rfl) rfl rfl (Qy.nilCheck rfl) ?_
      refine Gm.q 3 [] (by kernel_rfl) rfl rfl (Qy.fieldAddr T.fa61_0 rfl) ?_
      refine Gm.q 4 [4] (by kernel_rfl) rfl rfl (Qy.load 4 T.one23 rfl rfl rfl) ?_
      refine Gm.q 5 [] (by kernel_rfl) rfl rfl (Qy.fieldAddr T.fa34_3 rfl) ?_
      refine Gm.q 6 [8] (by kernel_rfl) rfl rfl (Qy.load 8 T.one3 rfl rfl rfl) ?_
      refine Gm.q 7 [] (by kernel_rfl) rfl rfl (Qy.indexAddrO (α := Int) T.sl23 rfl rfl (by assumption) (by omega)) ?_
      refine Gm.q 8 [0, 5] (by kernel_rfl) rfl rfl (Qy.loadO 5 0 T.one3 rfl rfl (by assumption) (by omega) rfl rfl) ?_
      refine Gm.one 9 ⟨rfl, rfl, rfl, rfl, rfl, rfl, rfl, rfl, rfl, trivial⟩ (by first | exact Imm.le_refl _ | assumption) (by kernel_rfl) rfl ?_
      refine Wl.call1 4 rfl T.fn59 rfl (c59 _ _ _ _ _ _ _ _ _ _ _ _ (by assumption) (by omega)) (tags_of ⟨rfl, rfl, rfl, trivial⟩) ?_
      refine Wl.on0 ?_
      refine Gm.q 10 [] (by kernel_rfl) rfl rfl (Qy.assign rfl) ?_
      refine Gm.doneA (by kernel_rfl) ⟨rfl, rfl, rfl, rfl, rfl, rfl, rfl, rfl, rfl, trivial⟩ (by first | exact Imm.le_refl _ | assumption) ?_
      rotate_left
      refine Wc.skip ?_
      rotate_left
      · refine Ar.meet (holder held (held[(p.code[((k : Nat) : Int).toNat]?.getD default).b.toNat]?.getD default)) ?_ rfl ⟨rfl, rfl, rfl, rfl, rfl, rfl, rfl, rfl, rfl, trivial⟩ ⟨rfl, rfl, rfl, rfl, rfl, rfl, rfl, rfl, rfl, trivial⟩
        exact (if_pos hc1).symm
      · refine Ar.meet (0) ?_ rfl ⟨rfl, rfl, rfl, rfl, rfl, rfl, rfl, rfl, rfl, trivial⟩ ⟨rfl, rfl, rfl, rfl, rfl, rfl, rfl, rfl, rfl, trivial⟩
        exact ((if_neg hc1).trans (hb2 hc1)).symm
    · refine Wc.seq ?_
      refine Wc.region rfl ?_
      refine Wl.q rfl (Qy.move rfl) ?_
      refine Wl.q rfl (Qy.move rfl) ?_
      refine Wl.call1 4 rfl T.fn59 rfl (c59 _ _ _ _ _ _ _ _ _ _ _ _ (by assumption) (by omega)) (tags_of ⟨rfl, rfl, rfl, trivial⟩) ?_
      refine Wl.q rfl (Qy.assign rfl) ?_
      refine Wl.done ?_
      refine Ar.next ?_
      refine Wc.seq ?_
      refine Wc.seq ?_
      refine Wc.draw [1, 2, 3, 0, 7, 8, 6, 5, 4] [] T.mixed rfl ?_
      refine Gm.q 0 [] (by kernel_rfl) rfl rfl (Qy.move rfl) ?_
      refine Gm.q 1 [] (by kernel_rfl) rfl rfl (Qy.nilCheck rfl) ?_
      refine Gm.q 2 [] (by kernel_rfl) rfl rfl (Qy.fieldAddr T.fa61_0 rfl) ?_
      refine Gm.q 3 [4] (by kernel_rfl) rfl rfl (Qy.load 4 T.one23 rfl rfl rfl) ?_
      refine Gm.q 4 [] (by kernel_rfl) rfl rfl (Qy.fieldAddr T.fa34_1 rfl) ?_
      refine Gm.q 5 [8] (by kernel_rfl) rfl rfl (Qy.load 8 T.one3 rfl rfl rfl) ?_
      refine Gm.q 6 [] (by kernel_rfl) rfl rfl (Qy.indexAddrO (α := Int) T.sl23 rfl rfl (by assumption) (by omega)) ?_
      refine Gm.q 7 [0, 5] (by kernel_rfl) rfl rfl (Qy.loadO 5 0 T.one3 rfl rfl (by assumption) (by omega) rfl rfl) ?_
      refine Gm.q 8 [] (by kernel_rfl) rfl rfl (Qy.move rfl) ?_
      refine Gm.q 9 [] (by kernel_rfl) rfl rfl (Qy.eql rfl rfl) ?_
      refine Gm.doneA (by kernel_rfl) ⟨rfl, rfl, rfl, rfl, rfl, rfl, rfl, rfl, rfl, trivial⟩ (by first | exact Imm.le_refl _ | assumption) ?_
      refine Ar.next ?_
      refine Wc.cond rfl (fun hc1 => ?_) (fun hc1 => ?_)
      refine Wc.exit ?_
      refine Ar.passExit ?_
      refine Ar.here ?_
      refine Ar.next ?_
      refine Wc.region rfl ?_
      refine Wl.q rfl (Qy.move rfl) ?_
      refine Wl.q rfl (Qy.add rfl rfl (by omega)) ?_
      refine Wl.q rfl (Qy.assign rfl) ?_
      refine Wl.done ?_
      rotate_left
      refine Wc.skip ?_
      refine Ar.next ?_
      refine Wc.seq ?_
      refine Wc.seq ?_
      refine Wc.region rfl ?_
      refine Wl.q rfl (Qy.move rfl) ?_
      refine Wl.q rfl (Qy.geq rfl rfl) ?_
      refine Wl.done ?_
      refine Ar.next ?_
      refine Wc.cond rfl (fun hc2 => ?_) (fun hc2 => ?_)
      refine Wc.region rfl ?_
      refine Wl.q rfl (Qy.fieldAddr T.fa25_2 rfl) ?_
      refine Wl.q rfl (Qy.load 7 T.one22 rfl rfl rfl) ?_
      refine Wl.q rfl (Qy.fieldAddr T.fa34_1 rfl) ?_
      refine Wl.q rfl (Qy.load 8 T.one3 rfl rfl rfl) ?_
      refine Wl.q rfl (Qy.move rfl) ?_
      refine Wl.q rfl (Qy.build (cs := [_, _, _, _, _]) T.st34 rfl rfl rfl) ?_
      refine Wl.lit (α := Instr) 9 [⟨1, Go.Sl.Instr.to (Option.getD (Go.Proofs.Ytfleehgbpgmcnaa.PV.code p)[Int.toNat (↑k : Int)]? Inhabited.default), Go.Proofs.Ytfleehgbpgmcnaa.holder held (Prod.fst (Prod.fst (Go.Proofs.Ytfleehgbpgmcnaa.reckonP (Go.Proofs.Ytfleehgbpgmcnaa.tabOf held ks nx) (↑k : Int) (Option.getD (Go.Proofs.Ytfleehgbpgmcnaa.PV.code p)[Int.toNat (↑k : Int)]? Inhabited.default)))), 0, 0⟩] rfl T.sl22 T.el34 rfl rfl rfl rfl rfl (fun b5 => ?_)
      refine Wl.append (α := Instr) 0 rfl T.sl22 T.el34 rfl rfl rfl (by first | assumption | exact OwnA.nil | exact OwnA.made (by simp)) (Src.row 9 rfl) (by first | omega | (simp only [List.length_append, List.length_cons, List.length_nil, maxLen]; omega)) (by first | omega | (simp only [List.length_append, List.length_cons, List.length_nil, maxLen]; omega)) (fun a1 c1 junk1 ho1 => ?_)
      refine Wl.q rfl (Qy.fieldAddr T.fa25_2 rfl) ?_
      refine Wl.store 7 T.one22 rfl rfl rfl rfl rfl ?_
      refine Wl.done ?_
      refine Ar.next ?_
      refine Wc.draw [1, 2, 3, 8, 6, 5, 4, 9, 0, 7] [(7, 8), (0, 8), (9, 8), (4, 8), (5, 8), (6, 8), (8, 8), (3, 8), (2, 8), (1, 8)] T.mixed rfl ?_
      refine Gm.q 0 [] (by kernel_rfl) rfl rfl (Qy.move rfl) ?_
      refine Gm.q 1 [] (by kernel_rfl) rfl rfl (Qy.nilCheck rfl) ?_
      refine Gm.q 2 [] (by kernel_rfl) rfl rfl (Qy.fieldAddr T.fa61_0 rfl) ?_
      refine Gm.q 3 [4] (by kernel_rfl) rfl rfl (Qy.load 4 T.one23 rfl rfl rfl) ?_
      refine Gm.q 4 [] (by kernel_rfl) rfl rfl (Qy.fieldAddr T.fa34_1 rfl) ?_
      refine Gm.q 5 [8] (by kernel_rfl) rfl rfl (Qy.load 8 T.one3 rfl rfl rfl) ?_
      refine Gm.q 6 [] (by kernel_rfl) rfl rfl (Qy.move rfl) ?_
      refine Gm.q 7 [] (by kernel_rfl) rfl rfl (Qy.indexAddrO (α := Int) T.sl23 rfl rfl (by assumption) (by omega)) ?_
      refine Gm.one 8 ⟨rfl, rfl, rfl, rfl, rfl, rfl, rfl, rfl, rfl, rfl, trivial⟩ (by first | exact Imm.le_refl _ | assumption) (by kernel_rfl) rfl ?_
      refine Wl.setO (z := _) 5 T.size3 rfl rfl rfl (by assumption) (by omega) rfl (fun ho2 => ?_)
      refine Wl.on0 ?_
      refine Gm.doneA (by kernel_rfl) trivial (by first | exact Imm.le_refl _ | assumption) ?_
      refine Ar.outNormal ?_
      refine Ar.next ?_
      refine Wc.region rfl ?_
      refine Wl.q rfl (Qy.move rfl) ?_
      refine Wl.q rfl (Qy.add rfl rfl (by omega)) ?_
      refine Wl.q rfl (Qy.assign rfl) ?_
      refine Wl.done ?_
      rotate_left
      refine Wc.region rfl ?_
      refine Wl.q rfl (Qy.fieldAddr T.fa25_2 rfl) ?_
      refine Wl.q rfl (Qy.load 7 T.one22 rfl rfl rfl) ?_
      refine Wl.q rfl (Qy.fieldAddr T.fa34_0 rfl) ?_
      refine Wl.q rfl (Qy.load 8 T.one3 rfl rfl rfl) ?_
      refine Wl.q rfl (Qy.fieldAddr T.fa34_1 rfl) ?_
      refine Wl.q rfl (Qy.load 8 T.one3 rfl rfl rfl) ?_
      refine Wl.q rfl (Qy.move rfl) ?_
      refine Wl.q rfl (Qy.move rfl) ?_
      refine Wl.q rfl (Qy.fieldAddr T.fa34_4 rfl) ?_
      refine Wl.q rfl (Qy.load 8 T.one3 rfl rfl rfl) ?_
      refine Wl.q rfl (Qy.build (cs := [_, _, _, _, _]) T.st34 rfl rfl rfl) ?_
      refine Wl.lit (α := Instr) 9 [⟨Go.Sl.Instr.op (Option.getD (Go.Proofs.Ytfleehgbpgmcnaa.PV.code p)[Int.toNat (↑k : Int)]? Inhabited.default), Go.Sl.Instr.to (Option.getD (Go.Proofs.Ytfleehgbpgmcnaa.PV.code p)[Int.toNat (↑k : Int)]? Inhabited.default), Go.Proofs.Ytfleehgbpgmcnaa.holder held (Option.getD held[Int.toNat (Go.Sl.Instr.a (Option.getD (Go.Proofs.Ytfleehgbpgmcnaa.PV.code p)[Int.toNat (↑k : Int)]? Inhabited.default))]? Inhabited.default), v, Go.Sl.Instr.c (Option.getD (Go.Proofs.Ytfleehgbpgmcnaa.PV.code p)[Int.toNat (↑k : Int)]? Inhabited.default)⟩] rfl T.sl22 T.el34 rfl rfl rfl rfl rfl (fun b5 => ?_)
      refine Wl.append (α := Instr) 0 rfl T.sl22 T.el34 rfl rfl rfl (by first | assumption | exact OwnA.nil | exact OwnA.made (by simp)) (Src.row 9 rfl) (by first | omega | (simp only [List.length_append, List.length_cons, List.length_nil, maxLen]; omega)) (by first | omega | (simp only [List.length_append, List.length_cons, List.length_nil, maxLen]; omega)) (fun a1 c1 junk1 ho1 => ?_)
      refine Wl.q rfl (Qy.fieldAddr T.fa25_2 rfl) ?_
      refine Wl.store 7 T.one22 rfl rfl rfl rfl rfl ?_
      refine Wl.done ?_
      refine Ar.next ?_
      refine Wc.draw [1, 2, 3, 8, 6, 5, 4, 9, 0, 7] [(7, 8), (0, 8), (9, 8), (4, 8), (5, 8), (6, 8), (8, 8), (3, 8), (2, 8), (1, 8)] T.mixed rfl ?_
      refine Gm.q 0 [] (by kernel_rfl) rfl rfl (Qy.move rfl) ?_
      refine Gm.q 1 [] (by kernel_rfl) rfl rfl (Qy.nilCheck rfl) ?_
      refine Gm.q 2 [] (by kernel_rfl) rfl rfl (Qy.fieldAddr T.fa61_0 rfl) ?_
      refine Gm.q 3 [4] (by kernel_rfl) rfl rfl (Qy.load 4 T.one23 rfl rfl rfl) ?_
      refine Gm.q 4 [] (by kernel_rfl) rfl rfl (Qy.fieldAddr T.fa34_1 rfl) ?_
      refine Gm.q 5 [8] (by kernel_rfl) rfl rfl (Qy.load 8 T.one3 rfl rfl rfl) ?_
      refine Gm.q 6 [] (by kernel_rfl) rfl rfl (Qy.move rfl) ?_
      refine Gm.q 7 [] (by kernel_rfl) rfl rfl (Qy.indexAddrO (α := Int) T.sl23 rfl rfl (by assumption) (by omega)) ?_
      refine Gm.one 8 ⟨rfl, rfl, rfl, rfl, rfl, rfl, rfl, rfl, rfl, rfl, trivial⟩ (by first | exact Imm.le_refl _ | assumption) (by kernel_rfl) rfl ?_
      refine Wl.setO (z := _) 5 T.size3 rfl rfl rfl (by assumption) (by omega) rfl (fun ho2 => ?_)
      refine Wl.on0 ?_
      refine Gm.doneA (by kernel_rfl) trivial (by first | exact Imm.le_refl _ | assumption) ?_
      refine Ar.outNormal ?_
      refine Ar.next ?_
      refine Wc.region rfl ?_
      refine Wl.q rfl (Qy.move rfl) ?_
      refine Wl.q rfl (Qy.add rfl rfl (by omega)) ?_
      refine Wl.q rfl (Qy.assign rfl) ?_
      refine Wl.done ?_
      rotate_left
      · generalize hI : p.code[((k : Nat) : Int).toNat]?.getD default = I at *
        refine Ar.again ((k + 1, (held, ks2, (reckonP (tabOf held ks nx) k I).2.next), out, (a, c, junk), (kb2, kd2, kj2), (a', c', junk'))) ?_ ?_ rfl ⟨rfl, rfl, rfl, rfl, rfl, trivial⟩ ⟨rfl, rfl, rfl, rfl, rfl, rfl, rfl, rfl, trivial⟩
        · refine ⟨by omega, ?_, hoa, hko2, hoa', hlen, by omega, by omega, (reckon_next hn0 k I).1, ?_⟩
          · show _ = passStep (passTo p k) k (p.code[((k : Nat) : Int).toNat]?.getD default)
            rw [← hpass, hI, passStep_same' hc1, ← htab2]
            rfl
          · have h1 : (reckonP (tabOf held ks nx) k I).2.next ≤ nx + 1 := (reckon_next (t := tabOf held ks nx) hn0 k I).2
            show (reckonP (tabOf held ks nx) k I).2.next ≤ _
            omega
        · show p.code.length - (k + 1) < p.code.length - k
          omega
      · generalize hI : p.code[((k : Nat) : Int).toNat]?.getD default = I at *
        refine Ar.reH 4 (.cells #[.slice a (held.set I.to.toNat (reckonP (tabOf held ks nx) k I).1.1).length c, .slice kb2 ks2.length kd2, .int .i64 (reckonP (tabOf held ks nx) k I).2.next] 61) rfl (by rw [List.length_set]) ?_
        refine Ar.again ((k + 1, (held.set I.to.toNat (reckonP (tabOf held ks nx) k I).1.1, ks2, (reckonP (tabOf held ks nx) k I).2.next), _, (a, c, junk), (kb2, kd2, kj2), (a1, c1, junk1))) ?_ ?_ rfl ⟨rfl, rfl, rfl, rfl, rfl, trivial⟩ ⟨rfl, rfl, rfl, rfl, rfl, rfl, rfl, rfl, trivial⟩
        · refine ⟨by omega, ?_, ho2, hko2, ho1, ?_, ?_, by omega, (reckon_next hn0 k I).1, ?_⟩
          · show _ = passStep (passTo p k) k (p.code[((k : Nat) : Int).toNat]?.getD default)
            rw [← hpass, hI, passStep_move' hc1 hc2, ← htab2]
            rfl
          · show ((held.set _ _).length : Int) = _
            rw [List.length_set]; exact hlen
          · rw [List.length_append]; simp only [List.length_cons, List.length_nil]; omega
          · have h1 : (reckonP (tabOf held ks nx) k I).2.next ≤ nx + 1 := (reckon_next (t := tabOf held ks nx) hn0 k I).2
            show (reckonP (tabOf held ks nx) k I).2.next ≤ _
            omega
        · show p.code.length - (k + 1) < p.code.length - k
          omega
      · generalize hI : p.code[((k : Nat) : Int).toNat]?.getD default = I at *
        refine Ar.reH 4 (.cells #[.slice a (held.set I.to.toNat (reckonP (tabOf held ks nx) k I).1.1).length c, .slice kb2 ks2.length kd2, .int .i64 (reckonP (tabOf held ks nx) k I).2.next] 61) rfl (by rw [List.length_set]) ?_
        refine Ar.again ((k + 1, (held.set I.to.toNat (reckonP (tabOf held ks nx) k I).1.1, ks2, (reckonP (tabOf held ks nx) k I).2.next), _, (a, c, junk), (kb2, kd2, kj2), (a1, c1, junk1))) ?_ ?_ rfl ⟨rfl, rfl, rfl, rfl, rfl, trivial⟩ ⟨rfl, rfl, rfl, rfl, rfl, rfl, rfl, rfl, trivial⟩
        · refine ⟨by omega, ?_, ho2, hko2, ho1, ?_, ?_, by omega, (reckon_next hn0 k I).1, ?_⟩
          · show _ = passStep (passTo p k) k (p.code[((k : Nat) : Int).toNat]?.getD default)
            rw [← hpass, hI, passStep_keep' hc1 hc2, ← htab2]
            rw [hk]; rfl
          · show ((held.set _ _).length : Int) = _
            rw [List.length_set]; exact hlen
          · rw [List.length_append]; simp only [List.length_cons, List.length_nil]; omega
          · have h1 : (reckonP (tabOf held ks nx) k I).2.next ≤ nx + 1 := (reckon_next (t := tabOf held ks nx) hn0 k I).2
            show (reckonP (tabOf held ks nx) k I).2.next ≤ _
            omega
        · show p.code.length - (k + 1) < p.code.length - k
          omega
  · have hk : k = p.code.length := by omega
    subst hk
    refine Wc.seq ?_
    refine Wc.seq ?_
    refine Wc.region rfl ?_
    refine Wl.q rfl (Qy.move rfl) ?_
    refine Wl.q rfl (Qy.fieldAddr T.fa25_2 rfl) ?_
    refine Wl.q rfl (Qy.load 2 T.one22 rfl rfl rfl) ?_
    refine Wl.q rfl (Qy.len T.sl22 rfl) ?_
    refine Wl.q rfl (Qy.lss rfl rfl) ?_
    refine Wl.done ?_
    refine Ar.next ?_
    refine Wc.condN rfl (by first | assumption | omega) ?_
    refine Wc.exit ?_
    refine Ar.passExit ?_
    refine Ar.passExit ?_
    refine Ar.here ?_
    refine Ar.next ?_
    refine Wc.seq ?_
    refine Wc.seq ?_
    refine Wc.region rfl ?_
    refine Wl.q rfl (Qy.assign rfl) ?_
    refine Wl.done ?_
    refine Ar.next ?_
    refine Wc.block ?_
    refine Wc.loop (ι := Nat × List Int × Option Addr × Nat × List Value) (fun (k, os, b', d', j') => ([(12, .int .i64 (k : Int)), (4, Go.Value.pointer (Option.some (Go.Addr.mk b3 0 Option.none))), (3, Go.Value.pointer (Option.some (Go.Addr.mk bs1 0 Option.none))), (2, Go.Value.pointer (Option.some (Go.Addr.mk b2 0 Option.none))), (1, Go.Value.pointer (Option.some (Go.Addr.mk b1 0 Option.none)))], [(7, some b3, .cells #[.int .i64 p.ins, .int .i64 p.regs, .slice a' out.length c', .slice b' os.length d'] 25), (1, b'.map (·.block), Row 3 os j'), (4, Option.some bs1, Go.Obj.cells #[Go.Value.slice a (List.length held) c, Go.Value.slice b (List.length ks) d, Go.Value.int Go.IntKind.i64 nx] 61), (5, Option.map (fun x => Go.Addr.block x) a, Go.Sl.Row (α := Int) 3 (held) (junk)), (6, Option.map (fun x => Go.Addr.block x) b, Go.Sl.Row (α := Go.Sl.R6) 99 (ks) (j)), (0, Option.map (fun x => Go.Addr.block x) a', Go.Sl.Row (α := Go.Sl.Instr) 34 (out) (junk')), (3, Option.some b2, Go.Obj.cells #[Go.Value.int Go.IntKind.i64 0, Go.Value.int Go.IntKind.i64 0, Go.Value.slice Option.none 0 0, Go.Value.slice Option.none 0 0] 25), (2, Option.some b1, Go.Obj.cells #[Go.Value.int Go.IntKind.i64 (Go.Proofs.Ytfleehgbpgmcnaa.PV.ins p), Go.Value.int Go.IntKind.i64 (Go.Proofs.Ytfleehgbpgmcnaa.PV.regs p), Go.Value.slice ac (List.length (Go.Proofs.Ytfleehgbpgmcnaa.PV.code p)) cc, Go.Value.slice ao (List.length (Go.Proofs.Ytfleehgbpgmcnaa.PV.outs p)) co] 25)])) (fun (k, os, b', d', j') => k ≤ p.outs.length ∧ os = (passOuts p held).take k ∧ OwnA b' d' os j') (fun (k, os, b', d', j') => p.outs.length - k) ((0, [], none, 0, [])) (⟨Nat.zero_le _, rfl, OwnA.nil⟩) ⟨rfl, rfl, rfl, rfl, rfl, trivial⟩ ⟨rfl, rfl, rfl, rfl, rfl, rfl, rfl, rfl, trivial⟩ (fun ⟨k, os, b', d', j'⟩ => fun (hk : k ≤ p.outs.length ∧ os = (passOuts p held).take k ∧ OwnA b' d' os j') => ?_)
    obtain ⟨hk2, hos, hob'⟩ := hk
    have hosl : os.length ≤ 128 := by rw [hos, List.length_take]; omega
    rcases Nat.lt_or_ge k p.outs.length with hlt | hge
    · have hr : 0 ≤ p.outs[((k : Nat) : Int).toNat]?.getD default ∧ p.outs[((k : Nat) : Int).toNat]?.getD default < held.length := by
        rw [hlen]; refine r7 _ ?_
        rw [Int.toNat_natCast, List.getElem?_eq_getElem hlt]; simp
      refine Wc.seq ?_
      refine Wc.seq ?_
      refine Wc.region rfl ?_
      refine Wl.q rfl (Qy.move rfl) ?_
      refine Wl.q rfl (Qy.fieldAddr T.fa25_3 rfl) ?_
      refine Wl.q rfl (Qy.load 2 T.one23 rfl rfl rfl) ?_
      refine Wl.q rfl (Qy.len T.sl23 rfl) ?_
      refine Wl.q rfl (Qy.lss rfl rfl) ?_
      refine Wl.done ?_
      refine Ar.next ?_
      refine Wc.condP rfl (by first | assumption | omega) ?_
      refine Wc.skip ?_
      refine Ar.next ?_
      refine Wc.seq ?_
      refine Wc.block ?_
      refine Wc.draw [2, 3, 0, 6, 5, 4, 1, 7] [(7, 18), (1, 16), (5, 16), (6, 16), (0, 16)] T.mixed rfl ?_
      refine Gm.q 0 [] (by kernel_rfl) rfl rfl (Qy.fieldAddr T.fa25_3 rfl) ?_
      refine Gm.q 1 [7] (by kernel_rfl) rfl rfl (Qy.load 7 T.one23 rfl rfl rfl) ?_
      refine Gm.q 2 [] (by kernel_rfl) rfl rfl (Qy.move rfl) ?_
      refine Gm.q 3 [] (by kernel_rfl) rfl rfl (Qy.move rfl) ?_
      refine Gm.q 4 [] (by kernel_rfl) rfl rfl (Qy.nilCheck rfl) ?_
      refine Gm.q 5 [] (by kernel_rfl) rfl rfl (Qy.fieldAddr T.fa61_0 rfl) ?_
      refine Gm.q 6 [4] (by kernel_rfl) rfl rfl (Qy.load 4 T.one23 rfl rfl rfl) ?_
      refine Gm.q 7 [] (by kernel_rfl) rfl rfl (Qy.fieldAddr T.fa25_3 rfl) ?_
      refine Gm.q 8 [2] (by kernel_rfl) rfl rfl (Qy.load 2 T.one23 rfl rfl rfl) ?_
      refine Gm.q 9 [] (by kernel_rfl) rfl rfl (Qy.move rfl) ?_
      refine Gm.q 10 [] (by kernel_rfl) rfl rfl (Qy.at (α := Int) T.sl23 rfl rfl (by assumption) (by omega)) ?_
      refine Gm.q 11 [] (by kernel_rfl) rfl rfl (Qy.loadG T.one3 rfl (Arr.cell (by assumption) (by omega) 0 rfl rfl)) ?_
      refine Gm.q 12 [] (by kernel_rfl) rfl rfl (Qy.indexAddrO (α := Int) T.sl23 rfl rfl (by assumption) (by omega)) ?_
      refine Gm.one 13 ⟨rfl, rfl, rfl, rfl, rfl, rfl, rfl, rfl, trivial⟩ (by first | exact Imm.le_refl _ | assumption) (by kernel_rfl) rfl ?_
      refine Wl.q rfl (Qy.loadO 5 0 T.one3 rfl rfl (by assumption) (by omega) rfl rfl) ?_
      refine Wl.on0 ?_
      refine Gm.one 14 ⟨rfl, rfl, rfl, rfl, rfl, rfl, rfl, rfl, trivial⟩ (by first | exact Imm.le_refl _ | assumption) (by kernel_rfl) rfl ?_
      refine Wl.call1 4 rfl T.fn59 rfl (c59 _ _ _ _ _ _ _ _ _ _ _ _ (by assumption) (by omega)) (tags_of ⟨rfl, rfl, rfl, trivial⟩) ?_
      refine Wl.on0 ?_
      refine Gm.one 15 ⟨rfl, rfl, rfl, rfl, rfl, rfl, rfl, rfl, trivial⟩ (by first | exact Imm.le_refl _ | assumption) (by kernel_rfl) rfl ?_
      refine Wl.lit (α := Int) 8 [(Go.Proofs.Ytfleehgbpgmcnaa.holder held (Option.getD held[Int.toNat (Option.getD (Go.Proofs.Ytfleehgbpgmcnaa.PV.outs p)[Int.toNat (↑k : Int)]? Inhabited.default)]? Inhabited.default))] rfl T.sl23 T.el3 rfl rfl rfl rfl rfl (fun b4 => ?_)
      refine Wl.on0 ?_
      refine Gm.one 16 ⟨rfl, rfl, rfl, rfl, rfl, rfl, rfl, rfl, trivial⟩ (by first | exact Imm.le_refl _ | assumption) (by kernel_rfl) rfl ?_
      refine Wl.append (α := Int) 1 rfl T.sl23 T.el3 rfl rfl rfl (by first | assumption | exact OwnA.nil | exact OwnA.made (by simp)) (Src.row 8 rfl) (by first | omega | (simp only [List.length_append, List.length_cons, List.length_nil, maxLen]; omega)) (by first | omega | (simp only [List.length_append, List.length_cons, List.length_nil, maxLen]; omega)) (fun a1 c1 junk1 ho1 => ?_)
      refine Wl.on0 ?_
      refine Gm.q 17 [] (by kernel_rfl) rfl rfl (Qy.fieldAddr T.fa25_3 rfl) ?_
      refine Gm.one 18 ⟨rfl, rfl, rfl, rfl, trivial⟩ (by first | exact Imm.le_refl _ | assumption) (by kernel_rfl) rfl ?_
      refine Wl.store 7 T.one23 rfl rfl rfl rfl rfl ?_
      refine Wl.on0 ?_
      refine Gm.doneA (by kernel_rfl) ⟨rfl, rfl, rfl, trivial⟩ (by first | exact Imm.le_refl _ | assumption) ?_
      refine Ar.outNormal ?_
      refine Ar.next ?_
      refine Wc.region rfl ?_
      refine Wl.q rfl (Qy.move rfl) ?_
      refine Wl.q rfl (Qy.add rfl rfl (by omega)) ?_
      refine Wl.q rfl (Qy.assign rfl) ?_
      refine Wl.done ?_
      refine Ar.again ((k + 1, _, a1, c1, junk1)) ?_ ?_ rfl ⟨rfl, rfl, rfl, rfl, rfl, trivial⟩ ⟨rfl, rfl, rfl, rfl, rfl, rfl, rfl, rfl, trivial⟩
      · refine ⟨by omega, ?_, ho1⟩
        have hst : (passOuts p held).take (k + 1) = (passOuts p held).take k ++ [holder held (held[(p.outs[((k : Nat) : Int).toNat]?.getD default).toNat]?.getD default)] := by
          rw [List.take_add_one]
          simp [passOuts, hlt]
        rw [hst, hos]
      · show p.outs.length - (k + 1) < p.outs.length - k
        omega
    · refine Wc.seq ?_
      refine Wc.seq ?_
      refine Wc.region rfl ?_
      refine Wl.q rfl (Qy.move rfl) ?_
      refine Wl.q rfl (Qy.fieldAddr T.fa25_3 rfl) ?_
      refine Wl.q rfl (Qy.load 2 T.one23 rfl rfl rfl) ?_
      refine Wl.q rfl (Qy.len T.sl23 rfl) ?_
      refine Wl.q rfl (Qy.lss rfl rfl) ?_
      refine Wl.done ?_
      refine Ar.next ?_
      refine Wc.condN rfl (by first | assumption | omega) ?_
      refine Wc.exit ?_
      refine Ar.passExit ?_
      refine Ar.passExit ?_
      refine Ar.here ?_
      refine Ar.next ?_
      refine Wc.seq ?_
      refine Wc.region rfl ?_
      refine Wl.q rfl (Qy.loadAll 7 T.agg25 rfl rfl rfl) ?_
      refine Wl.storeAll 3 T.size25 rfl rfl rfl rfl rfl rfl ?_
      refine Wl.done ?_
      refine Ar.next ?_
      refine Wc.ret ?_
      refine Ar.out1 (.inr rfl) (Ho := Hp.only _ [0, 1]) rfl (.agg 3 rfl rfl T.agg25) (Hp.sub_only _ _) ?_
      have ht : held = (passTo p p.code.length).1.held := congrArg (fun s => s.1.held) hpass
      have hou : out = (passP p).code := congrArg Prod.snd hpass
      have hos' : os = (passP p).outs := by
        rw [hos, List.take_of_length_le (by simp [passOuts]; omega), ht]; rfl
      rw [hou] at hoa' ⊢
      rw [hos'] at hob' ⊢
      exact ⟨a', b', c', d', junk', j', rfl, hoa', hob', rfl, rfl⟩
end Go.Proofs.Ytfleehgbpgmcnaa
namespace Go.Proofs.Ytfleehgbpgmcnaa
open Go Go.Sl
set_option maxRecDepth 100000
set_option maxHeartbeats 2000000
def passE (p : PV) : PV := if rightP p then passP p else ⟨0, 0, [], []⟩
def passErr (p : PV) : Int := if rightP p then 0 else 80
theorem c14B (G : Imm) (p : PV) (ac ao : Option Addr) (cc co : Nat) (hc : Arr G ac p.code) (ho : Arr G ao p.outs) (h1 : p.code.length ≤ 1099511627776) (h2 : p.outs.length ≤ 1099511627776) :
    Does Try.prog 14 [.agg #[.int .i64 p.ins, .int .i64 p.regs, .slice ac p.code.length cc, .slice ao p.outs.length co]] G [] (fun v G' Ho =>
      ∃ q e bc bo dc do_ j1 j2, v = .tuple #[.agg #[.int .i64 q.ins, .int .i64 q.regs, .slice bc q.code.length dc, .slice bo q.outs.length do_], .int .i64 e] ∧ (q = passE p ∧ e = passErr p) ∧
        OwnA bc dc q.code j1 ∧ OwnA bo do_ q.outs j2 ∧ Ho = [(0, bc.map (·.block), Row 34 q.code j1), (1, bo.map (·.block), Row 3 q.outs j2)] ∧ G' = G) := by
  by_cases hR : rightP p = true
  · refine (c14R G p ac ao cc co hc ho h1 h2 hR).mono fun v G' Ho _ ⟨bc, bo, dc, do_, j1, j2, q1, q2, q3, q4, q5⟩ => ?_
    exact ⟨passP p, 0, bc, bo, dc, do_, j1, j2, q1, ⟨(if_pos hR).symm, (if_pos hR).symm⟩, q2, q3, q4, q5⟩
  · intro w hw
    refine (c14W G p ac ao cc co hc ho h1 h2 hR w hw).mono fun x w' ⟨v, G', Ho, g1, g2, g3, g4, g5, g6, q1, q2, q3⟩ => ?_
    subst q2
    refine ⟨v, G', [(0, none, Row 34 ([] : List Sl.Instr) []), (1, none, Row 3 ([] : List Int) [])], g1, ?_, g3, g4, g5, ?_, ⟨0, 0, [], []⟩, 80, none, none, 0, 0, [], [], q1, ⟨(if_neg hR).symm, (if_neg hR).symm⟩, OwnA.nil, OwnA.nil, rfl, q3⟩
    · have hn : ∀ t b o, Hp.get [(0, none, Row 34 ([] : List Sl.Instr) []), (1, none, Row 3 ([] : List Int) [])] t = some (some b, o) → False := fun t b o hx => by
        rw [Hp.get_cons, Hp.get_cons] at hx; split at hx; · cases hx
        split at hx; · cases hx
        · simp [Hp.get] at hx
      exact ⟨fun t b o hx => (hn t b o hx).elim, fun t t' b o o' hx => (hn t b o hx).elim, g2.imm, fun t b o hx => (hn t b o hx).elim⟩
    · intro t b o hx
      rw [Hp.get_cons, Hp.get_cons] at hx; split at hx; · cases hx
      split at hx; · cases hx
      · simp [Hp.get] at hx
theorem c12 (G : Imm) (p : PV) (ac ao : Option Addr) (cc co : Nat) (h1 : p.code.length ≤ 1099511627776) (h2 : p.outs.length ≤ 1099511627776) :
    Does Try.prog 12 [.agg #[.int .i64 p.ins, .int .i64 p.regs, .slice ac p.code.length cc, .slice ao p.outs.length co]] G [] (fun v G' Ho => v = .bool (decide (150 < (p.code.length : Int) ∨ 150 < (p.outs.length : Int))) ∧ G' = G ∧ Ho = []) := by
  refine Does.enter Try.func12 rfl Try.ntmps12 rfl (fun w => ?_)
  refine Wc.seq ?_
  refine Wc.region rfl ?_
  refine Wl.box 0 rfl rfl rfl (fun b1 => ?_)
  refine Wl.q rfl (Qy.assign rfl) ?_
  refine Wl.done ?_
  refine Ar.next ?_
  refine Wc.seq ?_
  refine Wc.region rfl ?_
  refine Wl.q rfl (Qy.fieldAddr T.fa25_2 rfl) ?_
  refine Wl.q rfl (Qy.load 0 T.one22 rfl rfl rfl) ?_
  refine Wl.q rfl (Qy.len T.sl22 rfl) ?_
  refine Wl.q rfl (Qy.gtr rfl rfl) ?_
  refine Wl.q rfl (Qy.move rfl) ?_
  apply Wl.joinOr 5 7 12 rfl
  intro hg1
  refine Wl.want rfl rfl ?_
  refine Wl.q rfl (Qy.fieldAddr T.fa25_3 rfl) ?_
  refine Wl.want rfl rfl ?_
  refine Wl.q rfl (Qy.load 0 T.one23 rfl rfl rfl) ?_
  refine Wl.want rfl rfl ?_
  refine Wl.q rfl (Qy.len T.sl23 rfl) ?_
  refine Wl.want rfl rfl ?_
  refine Wl.q rfl (Qy.gtr rfl rfl) ?_
  refine Wl.q rfl (Qy.pick rfl rfl) ?_
  exact Wl.back 5 0 rfl rfl rfl rfl rfl
  intro hg1
  refine Wl.pass rfl rfl rfl ?_
  refine Wl.pass rfl rfl rfl ?_
  refine Wl.pass rfl rfl rfl ?_
  refine Wl.pass rfl rfl rfl ?_
  refine Wl.q rfl (Qy.pick rfl rfl) ?_
  exact Wl.back 5 0 rfl rfl rfl rfl rfl
  refine Wl.q rfl (Qy.assign rfl) ?_
  refine Wl.done ?_
  refine Ar.next ?_
  refine Wc.ret ?_
  refine Ar.out1 (.inr rfl) (Ho := Hp.only _ []) rfl (.tmp rfl) (Hp.sub_only _ _) ?_
  exact ⟨rfl, rfl, rfl⟩
theorem c16 (G : Imm) (p : PV) (ac ao : Option Addr) (cc co : Nat) :
    Does Try.prog 16 [.agg #[.int .i64 p.ins, .int .i64 p.regs, .slice ac p.code.length cc, .slice ao p.outs.length co]] G [] (fun v G' Ho => v = .bool (decide (p = ⟨0, 0, [], []⟩)) ∧ G' = G ∧ Ho = []) := by
  refine Does.enter Try.func16 rfl Try.ntmps16 rfl (fun w => ?_)
  refine Wc.seq ?_
  refine Wc.region rfl ?_
  refine Wl.box 0 rfl rfl rfl (fun b1 => ?_)
  refine Wl.q rfl (Qy.assign rfl) ?_
  refine Wl.done ?_
  refine Ar.next ?_
  refine Wc.seq ?_
  refine Wc.region rfl ?_
  refine Wl.q rfl (Qy.fieldAddr T.fa25_0 rfl) ?_
  refine Wl.q rfl (Qy.load 0 T.one3 rfl rfl rfl) ?_
  refine Wl.q rfl (Qy.eql rfl rfl) ?_
  refine Wl.q rfl (Qy.move rfl) ?_
  apply Wl.joinAnd 4 6 10 rfl
  intro hg1
  refine Wl.want rfl rfl ?_
  refine Wl.q rfl (Qy.fieldAddr T.fa25_1 rfl) ?_
  refine Wl.want rfl rfl ?_
  refine Wl.q rfl (Qy.load 0 T.one3 rfl rfl rfl) ?_
  refine Wl.want rfl rfl ?_
  refine Wl.q rfl (Qy.eql rfl rfl) ?_
  refine Wl.q rfl (Qy.pick rfl rfl) ?_
  exact Wl.back 4 0 rfl rfl rfl rfl rfl
  intro hg1
  refine Wl.pass rfl rfl rfl ?_
  refine Wl.pass rfl rfl rfl ?_
  refine Wl.pass rfl rfl rfl ?_
  refine Wl.q rfl (Qy.pick rfl rfl) ?_
  exact Wl.back 4 0 rfl rfl rfl rfl rfl
  refine Wl.q rfl (Qy.move rfl) ?_
  apply Wl.joinAnd 5 11 16 rfl
  intro hg1
  refine Wl.want rfl rfl ?_
  refine Wl.q rfl (Qy.fieldAddr T.fa25_2 rfl) ?_
  refine Wl.want rfl rfl ?_
  refine Wl.q rfl (Qy.load 0 T.one22 rfl rfl rfl) ?_
  refine Wl.want rfl rfl ?_
  refine Wl.q rfl (Qy.len T.sl22 rfl) ?_
  refine Wl.want rfl rfl ?_
  refine Wl.q rfl (Qy.eql rfl rfl) ?_
  refine Wl.q rfl (Qy.pick rfl rfl) ?_
  exact Wl.back 5 0 rfl rfl rfl rfl rfl
  intro hg1
  refine Wl.pass rfl rfl rfl ?_
  refine Wl.pass rfl rfl rfl ?_
  refine Wl.pass rfl rfl rfl ?_
  refine Wl.pass rfl rfl rfl ?_
  refine Wl.q rfl (Qy.pick rfl rfl) ?_
  exact Wl.back 5 0 rfl rfl rfl rfl rfl
  refine Wl.q rfl (Qy.move rfl) ?_
  apply Wl.joinAnd 5 17 22 rfl
  intro hg1
  refine Wl.want rfl rfl ?_
  refine Wl.q rfl (Qy.fieldAddr T.fa25_3 rfl) ?_
  refine Wl.want rfl rfl ?_
  refine Wl.q rfl (Qy.load 0 T.one23 rfl rfl rfl) ?_
  refine Wl.want rfl rfl ?_
  refine Wl.q rfl (Qy.len T.sl23 rfl) ?_
  refine Wl.want rfl rfl ?_
  refine Wl.q rfl (Qy.eql rfl rfl) ?_
  refine Wl.q rfl (Qy.pick rfl rfl) ?_
  exact Wl.back 5 0 rfl rfl rfl rfl rfl
  intro hg1
  refine Wl.pass rfl rfl rfl ?_
  refine Wl.pass rfl rfl rfl ?_
  refine Wl.pass rfl rfl rfl ?_
  refine Wl.pass rfl rfl rfl ?_
  refine Wl.q rfl (Qy.pick rfl rfl) ?_
  exact Wl.back 5 0 rfl rfl rfl rfl rfl
  refine Wl.q rfl (Qy.assign rfl) ?_
  refine Wl.done ?_
  refine Ar.next ?_
  refine Wc.ret ?_
  refine Ar.out1 (.inr rfl) (Ho := Hp.only _ []) rfl (.tmp rfl) (Hp.sub_only _ _) ?_
  refine ⟨?_, rfl, rfl⟩
  cases p
  simp [and_assoc]
def Yes : Prop := True
instance : Decidable Yes := .isTrue trivial
theorem yes : Yes := trivial
def exP : PV := ⟨1, 2, [⟨1, 1, 0, 0, 0⟩], [1]⟩
theorem exP_right : rightP exP = true := by decide
theorem exP_pass : passP exP = ⟨1, 2, [⟨1, 1, 0, 0, 0⟩], [0]⟩ := by rfl
theorem c11 (G : Imm) : Does Try.prog 11 [] G [] (fun v G' Ho => v = .bool (decide Yes) ∧ G' = G ∧ Ho = []) := by
  refine Does.enter Try.func11 rfl Try.ntmps11 rfl (fun w => ?_)
  refine Wc.seq ?_
  refine Wc.region rfl ?_
  refine Wl.q rfl (Qy.assign rfl) ?_
  refine Wl.done ?_
  refine Ar.next ?_
  refine Wc.seq ?_
  refine Wc.region rfl ?_
  refine Wl.q rfl (Qy.build (cs := [_, _, _, _, _]) T.st34 rfl rfl rfl) ?_
  refine Wl.lit (α := Instr) 0 [⟨1, 1, 0, 0, 0⟩] rfl T.sl22 T.el34 rfl rfl rfl rfl rfl (fun b1 => ?_)
  refine Wl.lit (α := Int) 1 [(1)] rfl T.sl23 T.el3 rfl rfl rfl rfl rfl (fun b2 => ?_)
  refine Wl.q rfl (Qy.build (cs := [_, _, _, _]) T.st25 rfl rfl rfl) ?_
  refine Wl.callB 2 rfl T.fn14 rfl (fun Gx hGx hgx => c14B Gx exP _ _ _ _ (Arr.own hgx 0 rfl (OwnA.made (by simp [maxLen, exP]))) (Arr.own hgx 1 rfl (OwnA.made (by simp [maxLen, exP]))) (by decide) (by decide)) (fun v1 Gx1 G1 Ho1 hlx1 hp => ?_)
  obtain ⟨q, e, qc, qo, qcc, qoc, qj, qk, rfl, ⟨hq, he⟩, hqc, hqo, rfl, rfl⟩ := hp
  have hq : q = ⟨1, 2, [⟨1, 1, 0, 0, 0⟩], [0]⟩ := by rw [hq]; unfold passE; rw [if_pos exP_right, exP_pass]
  have he : e = 0 := by rw [he]; unfold passErr; rw [if_pos exP_right]
  subst he
  have l1 : (q.code.length : Int) = 1 := by rw [hq]; rfl
  have l2 : (q.outs.length : Int) = 1 := by rw [hq]; rfl
  refine Wl.q rfl (Qy.move rfl) ?_
  refine Wl.q rfl (Qy.extract rfl rfl) ?_
  refine Wl.q rfl (Qy.extract rfl rfl) ?_
  refine Wl.alloc 4 rfl T.zero25 (fun b3 => ?_)
  refine Wl.storeAll 4 T.size25 rfl rfl rfl rfl rfl rfl ?_
  refine Wl.q rfl (Qy.assign rfl) ?_
  refine Wl.done ?_
  refine Ar.next ?_
  refine Wc.seq ?_
  refine Wc.region rfl ?_
  refine Wl.q rfl (Qy.move rfl) ?_
  refine Wl.q rfl (Qy.eql rfl rfl) ?_
  refine Wl.q rfl (Qy.move rfl) ?_
  refine Wl.yes 13 rfl (by first | assumption | omega) ?_
  refine Wl.want rfl rfl ?_
  refine Wl.q rfl (Qy.fieldAddr T.fa25_2 rfl) ?_
  refine Wl.want rfl rfl ?_
  refine Wl.q rfl (Qy.load 4 T.one22 rfl rfl rfl) ?_
  refine Wl.want rfl rfl ?_
  refine Wl.q rfl (Qy.len T.sl22 rfl) ?_
  refine Wl.want rfl rfl ?_
  refine Wl.q rfl (Qy.eql rfl rfl) ?_
  refine Wl.q rfl (Qy.pick rfl rfl) ?_
  refine Wl.q rfl (Qy.move rfl) ?_
  refine Wl.yes 19 rfl (by first | assumption | omega) ?_
  refine Wl.want rfl rfl ?_
  refine Wl.q rfl (Qy.fieldAddr T.fa25_3 rfl) ?_
  refine Wl.want rfl rfl ?_
  refine Wl.q rfl (Qy.load 4 T.one23 rfl rfl rfl) ?_
  refine Wl.want rfl rfl ?_
  refine Wl.q rfl (Qy.len T.sl23 rfl) ?_
  refine Wl.want rfl rfl ?_
  refine Wl.q rfl (Qy.eql rfl rfl) ?_
  refine Wl.q rfl (Qy.pick rfl rfl) ?_
  refine Wl.q rfl (Qy.move rfl) ?_
  refine Wl.yes 25 rfl (by first | assumption | omega) ?_
  refine Wl.want rfl rfl ?_
  refine Wl.q rfl (Qy.fieldAddr T.fa25_3 rfl) ?_
  refine Wl.want rfl rfl ?_
  refine Wl.q rfl (Qy.load 4 T.one23 rfl rfl rfl) ?_
  refine Wl.want rfl rfl ?_
  refine Wl.q rfl (Qy.indexAddrO (α := Int) T.sl23 rfl rfl (by assumption) (by omega)) ?_
  refine Wl.want rfl rfl ?_
  refine Wl.q rfl (Qy.loadO (m := 0) 3 0 T.one3 rfl rfl (by assumption) (by omega) rfl rfl) ?_
  refine Wl.want rfl rfl ?_
  refine Wl.q rfl (Qy.eql rfl rfl) ?_
  refine Wl.q rfl (Qy.pick rfl rfl) ?_
  refine Wl.q rfl (Qy.assign rfl) ?_
  refine Wl.done ?_
  refine Ar.next ?_
  refine Wc.ret ?_
  refine Ar.out1 (.inr rfl) (Ho := Hp.only _ []) rfl (.tmp rfl) (Hp.sub_only _ _) ?_
  refine ⟨?_, rfl, rfl⟩
  have l3 : q.outs[((0 : Int)).toNat]?.getD default = 0 := by rw [hq]; rfl
  rw [l3]
  simp [l1, l2, yes]
end Go.Proofs.Ytfleehgbpgmcnaa
namespace Go.Proofs.Ytfleehgbpgmcnaa
open Go Go.Sl
set_option linter.unusedVariables false
theorem holder_some {l : List Int} {v : Int} (h : 0 ≤ holder l v) : holder l v < l.length ∧ l[(holder l v).toNat]?.getD default = v := by
  unfold holder at h ⊢
  cases hk : l.findIdx? (fun x => decide (x = v)) with
  | none => rw [hk] at h; simp at h
  | some k =>
    rw [List.findIdx?_eq_some_iff_getElem] at hk
    obtain ⟨h1, h2, _⟩ := hk
    simp only [decide_eq_true_eq] at h2
    refine ⟨by show (k : Int) < _; omega, ?_⟩
    show l[((k : Nat) : Int).toNat]?.getD default = v
    rw [Int.toNat_natCast, List.getElem?_eq_getElem h1]; exact h2
theorem holder_none {l : List Int} {v : Int} (h : ¬ 0 ≤ holder l v) : holder l v = -1 := by
  unfold holder at h ⊢
  cases hk : l.findIdx? (fun x => decide (x = v)) with
  | none => rfl
  | some k => rw [hk] at h; exact absurd (Int.natCast_nonneg k) h
theorem holder_mem {l : List Int} {v : Int} (h : v ∈ l) : 0 ≤ holder l v := by
  unfold holder
  cases hk : l.findIdx? (fun x => decide (x = v)) with
  | none => rw [List.findIdx?_eq_none_iff] at hk; have := hk v h; simp at this
  | some k => exact Int.natCast_nonneg k
theorem holder_lt {l : List Int} {v n : Int} (hl : ∀ x ∈ l, x < n) (h : n ≤ v) : holder l v = -1 := by
  refine holder_none fun hh => ?_
  obtain ⟨h1, h2⟩ := holder_some hh
  have hm : v ∈ l := by
    have hlt : (holder l v).toNat < l.length := by omega
    rw [List.getElem?_eq_getElem hlt, Option.getD_some] at h2
    rw [← h2]; exact List.getElem_mem hlt
  have := hl v hm; omega
theorem get_mem {l : List Int} {r : Int} (h : 0 ≤ r ∧ r < l.length) : l[r.toNat]?.getD default ∈ l := by
  have hlt : r.toNat < l.length := by omega
  rw [List.getElem?_eq_getElem hlt]; exact List.getElem_mem hlt
/-- asked by its first holder, a register holds what it held -/
theorem holder_get {l : List Int} {r : Int} (h : 0 ≤ r ∧ r < l.length) : 0 ≤ holder l (l[r.toNat]?.getD default) ∧ holder l (l[r.toNat]?.getD default) < l.length ∧
    l[(holder l (l[r.toNat]?.getD default)).toNat]?.getD default = l[r.toNat]?.getD default := by
  have h0 := holder_mem (get_mem h)
  exact ⟨h0, holder_some h0⟩
def Alike (t u : Tab) : Prop := t.held = u.held ∧ t.known = u.known ∧ t.next = u.next
/-- what a table's values keep to -/
structure Sound (t : Tab) (regs : Int) : Prop where
  len : (t.held.length : Int) = regs
  held : ∀ x ∈ t.held, x < t.next
  known : ∀ k v, mget t.known k = some v → v < t.next
theorem asked_key {l : List Int} {i : Sl.Instr} (h : mayOk i l.length = true) : keyOf l (askedP l i) = keyOf l i ∧ askedP l (askedP l i) = askedP l i ∧ mayOk (askedP l i) l.length = true := by
  have h' := h
  rw [mayOk_iff] at h
  obtain ⟨⟨h1, h2, h3, h4, h5, h6⟩, hb⟩ := h
  obtain ⟨a1, a2, a3⟩ := holder_get (l := l) (r := i.a) ⟨h5, h6⟩
  by_cases ht : i.op = 3 ∨ i.op = 4
  · rw [if_pos ht] at hb
    obtain ⟨b1, b2, b3⟩ := holder_get (l := l) (r := i.b) ⟨hb.1, hb.2.1⟩
    have e : askedP l i = ⟨i.op, i.to, holder l (l[i.a.toNat]?.getD default), holder l (l[i.b.toNat]?.getD default), i.c⟩ := by unfold askedP; rw [if_pos ht]
    refine ⟨?_, ?_, ?_⟩
    · rw [e]; unfold keyOf; simp only [a3, b3]
    · rw [e]; unfold askedP; simp only [a3, b3, if_pos ht]
    · rw [e, mayOk_iff, if_pos ht]; exact ⟨⟨h1, h2, h3, h4, a1, a2⟩, b1, b2, hb.2.2⟩
  · rw [if_neg ht] at hb
    have e : askedP l i = ⟨i.op, i.to, holder l (l[i.a.toNat]?.getD default), i.b, i.c⟩ := by unfold askedP; rw [if_neg ht]
    refine ⟨?_, ?_, ?_⟩
    · rw [e]; unfold keyOf; simp only [a3, if_neg ht]
    · rw [e]; unfold askedP; simp only [a3, if_neg ht]
    · rw [e, mayOk_iff, if_neg ht]; exact ⟨⟨h1, h2, h3, h4, a1, a2⟩, hb⟩
/-- the pass over a list, behind n instructions -/
def passL : Tab × List Sl.Instr → Nat → List Sl.Instr → Tab × List Sl.Instr
  | s, _, [] => s
  | s, n, i :: l => passL (passStep s n i) (n + 1) l
theorem passL_append (s : Tab × List Sl.Instr) (n : Nat) (l m : List Sl.Instr) : passL s n (l ++ m) = passL (passL s n l) (n + l.length) m := by
  induction l generalizing s n with
  | nil => rfl
  | cons i l ih => show passL (passStep s n i) (n + 1) (l ++ m) = _; rw [ih, List.length_cons, show n + 1 + l.length = n + (l.length + 1) by omega]; rfl
theorem passTo_eq (p : PV) : ∀ k, k ≤ p.code.length → passTo p k = passL (⟨start p, [], [], p.ins + 1⟩, []) 0 (p.code.take k)
  | 0, _ => rfl
  | k + 1, h => by
    have hk : k < p.code.length := by omega
    show passStep (passTo p k) k (p.code[((k : Nat) : Int).toNat]?.getD default) = _
    rw [passTo_eq p k (by omega), List.take_add_one, Int.toNat_natCast, List.getElem?_eq_getElem hk, passL_append, List.length_take, Nat.min_eq_left (by omega), Nat.zero_add]
    rfl
theorem reckon_alike {t u : Tab} (h : Alike t u) (n m : Int) {i j : Sl.Instr} (ho : i.op = j.op) (ha : t.held[i.a.toNat]?.getD default = t.held[j.a.toNat]?.getD default) (hk : keyOf t.held i = keyOf t.held j) :
    (reckonP u m j).1.1 = (reckonP t n i).1.1 ∧ Alike (reckonP t n i).2 (reckonP u m j).2 := by
  obtain ⟨h1, h2, h3⟩ := h
  unfold reckonP
  rw [← h1, ← h2, ← h3, ← hk, ← ho, ← ha]
  split
  · exact ⟨rfl, h1, h2, h3⟩
  · split
    · exact ⟨rfl, rfl, rfl, rfl⟩
    · exact ⟨rfl, h1, h2, h3⟩
theorem reckon_sound {t : Tab} {regs : Int} (h : Sound t regs) (n : Int) (i : Sl.Instr) (ha : 0 ≤ i.a ∧ i.a < regs) : Sound (reckonP t n i).2 regs ∧ (reckonP t n i).1.1 < (reckonP t n i).2.next := by
  unfold reckonP
  split
  · exact ⟨h, h.held _ (get_mem (by rw [h.len]; exact ha))⟩
  · split
    · rename_i hk
      refine ⟨⟨h.len, fun x hx => ?_, fun k v hv => ?_⟩, ?_⟩
      · have := h.held x hx; show x < t.next + 1; omega
      · show v < t.next + 1
        have hv' : mget (t.known ++ [(keyOf t.held i, t.next)]) k = some v := hv
        rw [← mput_none _ _ _ hk, mget_mput] at hv'
        split at hv'
        · cases hv'; omega
        · have := h.known k v hv'; omega
      · show t.next < t.next + 1; omega
    · rename_i v hk
      exact ⟨h, h.known _ _ hk⟩
/-- either nothing is turned but the table's keys .. -/
theorem reckon_keep (t : Tab) (n : Int) (i : Sl.Instr) : (reckonP t n i).2 = t ∨ (reckonP t n i).1.1 = t.next := by
  unfold reckonP
  split
  · exact .inl rfl
  · split
    · exact .inr rfl
    · exact .inl rfl
theorem set_len {l : List Int} {k : Nat} {v regs : Int} (h : (l.length : Int) = regs) : ((l.set k v).length : Int) = regs := by rw [List.length_set]; exact h
/-- one step, and what the second pass makes of what comes out -/
theorem step_again {t u : Tab} {regs : Int} {i : Sl.Instr} (n m : Int) (o o' : List Sl.Instr) (hs : Sound t regs) (hm : mayOk i regs = true) (ha : Alike t u) :
    Sound (passStep (t, o) n i).1 regs ∧
    (((passStep (t, o) n i).2 = o ∧ Alike (passStep (t, o) n i).1 u) ∨
      ∃ j, (passStep (t, o) n i).2 = o ++ [j] ∧ mayOk j regs = true ∧ (passStep (u, o') m j).2 = o' ++ [j] ∧ Alike (passStep (t, o) n i).1 (passStep (u, o') m j).1) := by
  have hm' := hm
  rw [mayOk_iff] at hm'
  obtain ⟨⟨m1, m2, m3, m4, m5, m6⟩, mb⟩ := hm'
  obtain ⟨s1, s2⟩ := reckon_sound hs n i ⟨m5, m6⟩
  have hh := reckon_held t n i
  have hto : (askedP (reckonP t n i).2.held i).to = i.to := rfl
  by_cases hsame : (reckonP t n i).2.held[(askedP (reckonP t n i).2.held i).to.toNat]?.getD default = (reckonP t n i).1.1
  · rw [passStep_same hsame]
    refine ⟨s1, .inl ⟨rfl, ?_⟩⟩
    rcases reckon_keep t n i with hk | hk
    · rw [show ((reckonP t n i).2, o).1 = t from hk]; exact ha
    · exfalso
      rw [hk, hh] at hsame
      replace hsame : t.held[i.to.toNat]?.getD default = t.next := hsame
      have := hs.held _ (get_mem (l := t.held) (r := i.to) (by rw [hs.len]; exact ⟨m3, m4⟩))
      rw [hsame] at this; omega
  · have hset : ∀ k : Nat, Sound { (reckonP t n i).2 with held := (reckonP t n i).2.held.set k (reckonP t n i).1.1 } regs := fun k =>
      ⟨set_len s1.len, fun x hx => by
        rcases List.mem_or_eq_of_mem_set hx with h | h
        · exact s1.held x h
        · rw [h]; exact s2, s1.known⟩
    have hl' : mayOk i t.held.length = true := by rw [hs.len]; exact hm
    by_cases hmv : 0 ≤ holder (reckonP t n i).2.held (reckonP t n i).1.1
    · rw [passStep_move hsame hmv]
      refine ⟨hset _, .inr ⟨_, rfl, ?_, ?_⟩⟩
      · have h1 := (holder_some hmv).1
        rw [mayOk_iff]
        refine ⟨⟨Int.le_refl 1, by show (1 : Int) ≤ 8; decide, m3, m4, hmv, ?_⟩, ?_⟩
        · rw [← s1.len]; exact h1
        · have n1 : ¬ ((1 : Int) = 3 ∨ (1 : Int) = 4) := by decide
          have n2 : ¬ ((1 : Int) = 5 ∨ (1 : Int) = 6) := by decide
          have n3 : ¬ ((1 : Int) = 7 ∨ (1 : Int) = 8) := by decide
          rw [if_neg n1]
          refine ⟨rfl, ?_⟩
          rw [if_neg n2, if_neg n3]
      · -- nothing new was reckoned
        have hk : (reckonP t n i).2 = t := by
          rcases reckon_keep t n i with hk | hk
          · exact hk
          · exfalso
            rw [hk, hh, holder_lt hs.held (Int.le_refl _)] at hmv
            exact absurd hmv (by decide)
        obtain ⟨ha1, ha2, ha3⟩ := ha
        rw [hk] at hmv hsame ⊢
        generalize hv : (reckonP t n i).1.1 = v at *
        replace hsame : ¬ t.held[i.to.toNat]?.getD default = v := hsame
        have hto2 : (askedP t.held i).to = i.to := rfl
        rw [hto2]
        have hrs := (holder_some hmv).2
        generalize hj : (⟨1, i.to, holder t.held v, 0, 0⟩ : Sl.Instr) = j
        have hj1 : j.op = 1 := by rw [← hj]
        have hj2 : j.to = i.to := by rw [← hj]
        have hj3 : j.a = holder t.held v := by rw [← hj]
        have r1 : reckonP u m j = ((v, -1), u) := by unfold reckonP; rw [if_pos hj1, ← ha1, hj3, hrs]
        have hj4 : (askedP (reckonP u m j).2.held j).to = i.to := hj2
        have d1 : ¬ (reckonP u m j).2.held[(askedP (reckonP u m j).2.held j).to.toNat]?.getD default = (reckonP u m j).1.1 := by rw [hj4, r1]; show ¬ u.held[_]?.getD default = v; rw [← ha1]; exact hsame
        have d2 : 0 ≤ holder (reckonP u m j).2.held (reckonP u m j).1.1 := by rw [r1]; show 0 ≤ holder u.held v; rw [← ha1]; exact hmv
        rw [passStep_move d1 d2, hj4, r1]
        refine ⟨?_, ?_, ha2, ha3⟩
        · show _ ++ [(⟨1, i.to, holder u.held v, 0, 0⟩ : Sl.Instr)] = _
          rw [← ha1, hj]
        · show t.held.set i.to.toNat v = u.held.set i.to.toNat v; rw [ha1]
    · rw [passStep_keep hsame hmv]
      rw [hh] at hsame hmv ⊢
      obtain ⟨k1, k2, k3⟩ := asked_key hl'
      rw [hs.len] at k3
      have hA : t.held[(askedP t.held i).a.toNat]?.getD default = t.held[i.a.toNat]?.getD default := (holder_get (l := t.held) (r := i.a) (by rw [hs.len]; exact ⟨m5, m6⟩)).2.2
      obtain ⟨e1, e2⟩ := reckon_alike ha n m (i := i) (j := askedP t.held i) rfl hA.symm k1.symm
      have hu := reckon_held u m (askedP t.held i)
      have d1 : ¬ (reckonP u m (askedP t.held i)).2.held[(askedP (reckonP u m (askedP t.held i)).2.held (askedP t.held i)).to.toNat]?.getD default = (reckonP u m (askedP t.held i)).1.1 := by
        rw [e1, hu, ← ha.1, k2]; exact hsame
      have d2 : ¬ 0 ≤ holder (reckonP u m (askedP t.held i)).2.held (reckonP u m (askedP t.held i)).1.1 := by rw [e1, hu, ← ha.1]; exact hmv
      refine ⟨by have := hset (askedP t.held i).to.toNat; rw [hh] at this; exact this, .inr ⟨_, rfl, k3, ?_⟩⟩
      rw [passStep_keep d1 d2]
      rw [e1, hu, ← ha.1, k2]
      exact ⟨rfl, rfl, e2.2.1, e2.2.2⟩
theorem pass_again {regs : Int} : ∀ (l : List Sl.Instr) (t u : Tab) (o o' : List Sl.Instr) (n m : Nat), Sound t regs → Alike t u → (∀ i ∈ l, mayOk i regs = true) →
    ∃ new, (passL (t, o) n l).2 = o ++ new ∧ new.length ≤ l.length ∧ (∀ i ∈ new, mayOk i regs = true) ∧ Sound (passL (t, o) n l).1 regs ∧ (passL (u, o') m new).2 = o' ++ new ∧ Alike (passL (t, o) n l).1 (passL (u, o') m new).1
  | [], t, u, o, o', n, m, hs, ha, _ => ⟨[], by simp [passL], Nat.le_refl _, by simp, hs, by simp [passL], ha⟩
  | i :: l, t, u, o, o', n, m, hs, ha, hm => by
    obtain ⟨s1, h⟩ := step_again (n : Int) (m : Int) o o' hs (hm i (by simp)) ha
    rcases h with ⟨h1, h2⟩ | ⟨j, h1, h2, h3, h4⟩
    · obtain ⟨new, q1, q2, q3, q4, q5, q6⟩ := pass_again l (passStep (t, o) n i).1 u o o' (n + 1) m s1 h2 (fun x hx => hm x (by simp [hx]))
      have e : passStep (t, o) n i = ((passStep (t, o) n i).1, o) := Prod.ext rfl h1
      refine ⟨new, ?_, by rw [List.length_cons]; omega, q3, ?_, q5, ?_⟩
      · show (passL (passStep (t, o) n i) (n + 1) l).2 = _; rw [e]; exact q1
      · show Sound (passL (passStep (t, o) n i) (n + 1) l).1 regs; rw [e]; exact q4
      · show Alike (passL (passStep (t, o) n i) (n + 1) l).1 _; rw [e]; exact q6
    · obtain ⟨new, q1, q2, q3, q4, q5, q6⟩ := pass_again l (passStep (t, o) n i).1 (passStep (u, o') m j).1 (o ++ [j]) (o' ++ [j]) (n + 1) (m + 1) s1 h4 (fun x hx => hm x (by simp [hx]))
      have e : passStep (t, o) n i = ((passStep (t, o) n i).1, o ++ [j]) := Prod.ext rfl h1
      have e' : passStep (u, o') m j = ((passStep (u, o') m j).1, o' ++ [j]) := Prod.ext rfl h3
      refine ⟨j :: new, ?_, by rw [List.length_cons, List.length_cons]; omega, ?_, ?_, ?_, ?_⟩
      · show (passL (passStep (t, o) n i) (n + 1) l).2 = _; rw [e, q1]; simp
      · intro x hx
        rcases List.mem_cons.1 hx with rfl | hx
        · exact h2
        · exact q3 x hx
      · show Sound (passL (passStep (t, o) n i) (n + 1) l).1 regs; rw [e]; exact q4
      · show (passL (passStep (u, o') m j) (m + 1) new).2 = _; rw [e', q5]; simp
      · show Alike (passL (passStep (t, o) n i) (n + 1) l).1 (passL (passStep (u, o') m j) (m + 1) new).1; rw [e, e']; exact q6
theorem start_sound {p : PV} (h : 1 ≤ p.ins ∧ p.ins ≤ p.regs) : Sound ⟨start p, [], [], p.ins + 1⟩ p.regs := by
  refine ⟨?_, fun x hx => ?_, fun k v hv => by simp [mget] at hv⟩
  · show ((start p).length : Int) = _; simp [start]; omega
  · simp only [start, List.mem_map, List.mem_range] at hx
    obtain ⟨r, _, rfl⟩ := hx
    show _ < p.ins + 1
    split <;> omega
theorem pass_facts {p : PV} (h : rightP p = true) : ((passP p).code.length ≤ p.code.length) ∧ (∀ i ∈ (passP p).code, mayOk i p.regs = true) ∧ Sound (passTo p p.code.length).1 p.regs ∧
    (passTo (passP p) (passP p).code.length).2 = (passP p).code ∧ (passTo (passP p) (passP p).code.length).1.held = (passTo p p.code.length).1.held := by
  obtain ⟨r1, r2, r3, r4, r5, r6, r7, r8⟩ := right_facts h
  have hs := start_sound (p := p) ⟨r1, r2⟩
  obtain ⟨new, q1, q2, q3, q4, q5, q6⟩ := pass_again p.code ⟨start p, [], [], p.ins + 1⟩ ⟨start p, [], [], p.ins + 1⟩ [] [] 0 0 hs ⟨rfl, rfl, rfl⟩ r8
  have e := passTo_eq p p.code.length (Nat.le_refl _)
  rw [List.take_length] at e
  have hc : (passP p).code = new := by show (passTo p p.code.length).2 = new; rw [e, q1]; rfl
  have e2 := passTo_eq (passP p) (passP p).code.length (Nat.le_refl _)
  rw [List.take_length] at e2
  have hst : start (passP p) = start p := rfl
  rw [hst] at e2
  have hin : (passP p).ins = p.ins := rfl
  rw [hin] at e2
  refine ⟨by rw [hc]; exact q2, by rw [hc]; exact q3, by rw [e]; exact q4, ?_, ?_⟩
  · rw [e2, hc, q5]; rfl
  · rw [e2, hc, e]; exact q6.1.symm
theorem pass_idem {p : PV} (h : rightP p = true) : rightP (passP p) = true ∧ passP (passP p) = passP p := by
  obtain ⟨r1, r2, r3, r4, r5, r6, r7, r8⟩ := right_facts h
  obtain ⟨f1, f2, f3, f4, f5⟩ := pass_facts h
  have hol : ∀ r ∈ p.outs, 0 ≤ r ∧ r < (passTo p p.code.length).1.held.length := fun r hr => by rw [f3.len]; exact r7 r hr
  have hmem : ∀ r ∈ (passP p).outs, 0 ≤ r ∧ r < p.regs := by
    intro r hr
    obtain ⟨x, hx, rfl⟩ := List.mem_map.1 hr
    have := holder_get (hol x hx)
    rw [f3.len] at this
    exact ⟨this.1, this.2.1⟩
  have hlen : (passP p).outs.length = p.outs.length := by simp [passP, passOuts]
  constructor
  · have h1 : headOk (passP p) = true := by
      unfold headOk
      rw [Bool.and_eq_true, decide_eq_true_eq, List.all_eq_true]
      refine ⟨⟨r1, r2, r3, by omega, by rw [hlen]; exact r5, by rw [hlen]; exact r6⟩, fun r hr => ?_⟩
      rw [decide_eq_true_eq]; exact hmem r hr
    have h2 : badAt (passP p) = none := by
      unfold badAt
      rw [List.findIdx?_eq_none_iff]
      intro i hi
      have := f2 i hi
      show (!mayOk i p.regs) = false
      rw [this]; rfl
    unfold rightP checkP
    rw [if_neg (by rw [h1]; decide), h2]; rfl
  · have ho : passOuts (passP p) (passTo (passP p) (passP p).code.length).1.held = (passP p).outs := by
      rw [f5]
      show (passOuts p _).map _ = passOuts p _
      unfold passOuts
      rw [List.map_map]
      refine List.map_congr_left fun r hr => ?_
      show holder _ (_[(holder _ _).toNat]?.getD default) = _
      rw [(holder_get (hol r hr)).2.2]
    show (⟨(passP p).ins, (passP p).regs, (passTo (passP p) (passP p).code.length).2, passOuts (passP p) (passTo (passP p) (passP p).code.length).1.held⟩ : PV) = passP p
    rw [f4, ho]
end Go.Proofs.Ytfleehgbpgmcnaa
set_option linter.unusedVariables false
namespace Go.Proofs.Ytfleehgbpgmcnaa
open Go Go.Sl
/-- code run over registers -/
def runL : List Sl.Instr → List (List Int) → Option (List (List Int))
  | [], rs => some rs
  | i :: l, rs => (doI i rs).bind fun x => runL l (rs.set i.to.toNat x)
end Go.Proofs.Ytfleehgbpgmcnaa
set_option linter.unusedVariables false
namespace Go.Proofs.Ytfleehgbpgmcnaa
open Go Go.Sl
theorem ints_get_set {l : List Int} {k : Nat} {x : Int} {r : Int} (hr : 0 ≤ r ∧ r < l.length) : (l.set k x)[r.toNat]?.getD default = if (k : Int) = r then x else l[r.toNat]?.getD default := by
  have h1 : r.toNat < l.length := by omega
  rw [List.getElem?_set]
  by_cases h : (k : Int) = r
  · rw [if_pos (by omega), if_pos (by omega), if_pos h]; rfl
  · rw [if_neg (by omega), if_neg h]
end Go.Proofs.Ytfleehgbpgmcnaa
namespace Go.Proofs.Ytfleehgbpgmcnaa
open Go Go.Sl
set_option maxRecDepth 100000
set_option maxHeartbeats 2000000
theorem c17E (G : Imm) (p : PV) (ac ao : Option Addr) (cc co : Nat) (hc : Arr G ac p.code) (ho : Arr G ao p.outs) (hR : rightP p = true) :
    Does Try.prog 17 [.agg #[.int .i64 p.ins, .int .i64 p.regs, .slice ac p.code.length cc, .slice ao p.outs.length co]] G [] (fun v G' Ho =>
      ∃ bc bo dc do_ j1 j2, v = .agg #[.int .i64 (passP p).ins, .int .i64 (passP p).regs, .slice bc (passP p).code.length dc, .slice bo (passP p).outs.length do_] ∧
        OwnA bc dc (passP p).code j1 ∧ OwnA bo do_ (passP p).outs j2 ∧ Ho = [(0, bc.map (·.block), Row 34 (passP p).code j1), (1, bo.map (·.block), Row 3 (passP p).outs j2)] ∧ G' = G) := c17 G p ac ao cc co hc ho hR
attribute [local irreducible] Yes passP passE passErr rightP passTo passOuts
theorem pass_len {p : PV} (h : rightP p = true) : (passP p).code.length ≤ 1099511627776 ∧ (passP p).outs.length ≤ 1099511627776 := by
  obtain ⟨h1, _⟩ := pass_idem h
  obtain ⟨_, _, _, r4, _, r6, _⟩ := right_facts h1
  omega
theorem c3 (G : Imm) (p : PV) (ac ao : Option Addr) (cc co : Nat) (hc : Arr G ac p.code) (ho : Arr G ao p.outs) (h1 : p.code.length ≤ 1099511627776) (h2 : p.outs.length ≤ 1099511627776) :
    Does Try.prog 3 [.agg #[.int .i64 p.ins, .int .i64 p.regs, .slice ac p.code.length cc, .slice ao p.outs.length co]] G [] (fun v G' Ho => v = .bool true ∧ G' = G ∧ Ho = []) := by
  by_cases hR : rightP p = true
  · obtain ⟨hi1, hi2⟩ := pass_idem hR
    refine Does.enter Try.func3 rfl Try.ntmps3 rfl (fun w => ?_)
    refine Wc.seq ?_
    refine Wc.region rfl ?_
    refine Wl.box 0 rfl rfl rfl (fun b1 => ?_)
    refine Wl.q rfl (Qy.assign rfl) ?_
    refine Wl.done ?_
    refine Ar.next ?_
    refine Wc.seq ?_
    refine Wc.seq ?_
    refine Wc.region rfl ?_
    refine Wl.callB 1 rfl T.fn11 rfl (fun Gx hGx hgx => (c11 _)) (fun v1 Gx1 G1 Ho1 hlx1 hp => ?_)
    obtain ⟨rfl, rfl, rfl⟩ := hp
    refine Wl.q rfl (Qy.notD rfl) ?_
    refine Wl.done ?_
    refine Ar.next ?_
    refine Wc.cond rfl (fun hc1 => ?_) (fun hc1 => ?_)
    refine Wc.seq ?_
    refine Wc.region rfl ?_
    refine Wl.q rfl (Qy.assign rfl) ?_
    refine Wl.done ?_
    refine Ar.next ?_
    refine Wc.ret ?_
    refine Ar.passRet ?_
    refine Ar.out1 (.inr rfl) (Ho := Hp.only _ []) rfl (.tmp rfl) (Hp.sub_only _ _) ?_
    rotate_left
    refine Wc.skip ?_
    refine Ar.next ?_
    refine Wc.seq ?_
    refine Wc.seq ?_
    refine Wc.region rfl ?_
    refine Wl.q rfl (Qy.loadAll 0 T.agg25 rfl rfl rfl) ?_
    refine Wl.call0 rfl T.fn12 rfl (c12 _ _ _ _ _ _ (by omega) (by omega)) ?_
    refine Wl.done ?_
    refine Ar.next ?_
    refine Wc.cond rfl (fun hc2 => ?_) (fun hc2 => ?_)
    refine Wc.seq ?_
    refine Wc.region rfl ?_
    refine Wl.q rfl (Qy.assign rfl) ?_
    refine Wl.done ?_
    refine Ar.next ?_
    refine Wc.ret ?_
    refine Ar.passRet ?_
    refine Ar.out1 (.inr rfl) (Ho := Hp.only _ []) rfl (.tmp rfl) (Hp.sub_only _ _) ?_
    rotate_left
    refine Wc.skip ?_
    refine Ar.next ?_
    refine Wc.seq ?_
    refine Wc.region rfl ?_
    refine Wl.q rfl (Qy.loadAll 0 T.agg25 rfl rfl rfl) ?_
    refine Wl.callB 1 rfl T.fn13 rfl (fun Gx hGx hgx => (c13 _ _ _ _ _ _ (by first | exact Arr.up (by assumption) hGx | exact Arr.nil _) (by first | exact Arr.up (by assumption) hGx | exact Arr.nil _) (by omega) (by omega))) (fun v2 Gx2 G2 Ho2 hlx2 hp => ?_)
    obtain ⟨oc2, oo2, occ2, ooc2, oj2, ok2, rfl, hoc2, hoo2, rfl, rfl⟩ := hp
    refine Wl.alloc 13 rfl T.zero25 (fun b2 => ?_)
    refine Wl.storeAll 13 T.size25 rfl rfl rfl rfl rfl rfl ?_
    refine Wl.done ?_
    refine Ar.next ?_
    refine Wc.seq ?_
    refine Wc.region rfl ?_
    refine Wl.q rfl (Qy.loadAll 0 T.agg25 rfl rfl rfl) ?_
    refine Wl.callB 14 rfl T.fn14 rfl (fun Gx hGx hgx => (c14B _ _ _ _ _ _ (by first | exact Arr.up (by assumption) hGx | exact Arr.nil _ | exact Arr.own hgx 11 rfl (by first | assumption | exact OwnA.made (by simp [maxLen])) | exact Arr.own hgx 12 rfl (by first | assumption | exact OwnA.made (by simp [maxLen]))) (by first | exact Arr.up (by assumption) hGx | exact Arr.nil _ | exact Arr.own hgx 11 rfl (by first | assumption | exact OwnA.made (by simp [maxLen])) | exact Arr.own hgx 12 rfl (by first | assumption | exact OwnA.made (by simp [maxLen]))) (by omega) (by omega))) (fun v3 Gx3 G3 Ho3 hlx3 hp => ?_)
    obtain ⟨q3, e3, qc3, qo3, qcc3, qoc3, qj3, qk3, rfl, hq3, hqc3, hqo3, rfl, rfl⟩ := hp
    refine Wl.q rfl (Qy.move rfl) ?_
    refine Wl.q rfl (Qy.extract rfl rfl) ?_
    refine Wl.q rfl (Qy.extract rfl rfl) ?_
    refine Wl.alloc 16 rfl T.zero25 (fun b3 => ?_)
    refine Wl.storeAll 16 T.size25 rfl rfl rfl rfl rfl rfl ?_
    refine Wl.q rfl (Qy.assign rfl) ?_
    refine Wl.done ?_
    refine Ar.next ?_
    refine Wc.seq ?_
    refine Wc.region rfl ?_
    refine Wl.q rfl (Qy.loadAll 0 T.agg25 rfl rfl rfl) ?_
    refine Wl.callB 17 rfl T.fn15 rfl (fun Gx hGx hgx => (c15 _ _ _ _ _ _ (by first | exact Arr.up (by assumption) hGx | exact Arr.nil _ | exact Arr.own hgx 14 rfl (by first | assumption | exact OwnA.made (by simp [maxLen])) | exact Arr.own hgx 15 rfl (by first | assumption | exact OwnA.made (by simp [maxLen])) | exact Arr.own hgx 11 rfl (by first | assumption | exact OwnA.made (by simp [maxLen])) | exact Arr.own hgx 12 rfl (by first | assumption | exact OwnA.made (by simp [maxLen]))) (by first | exact Arr.up (by assumption) hGx | exact Arr.nil _ | exact Arr.own hgx 14 rfl (by first | assumption | exact OwnA.made (by simp [maxLen])) | exact Arr.own hgx 15 rfl (by first | assumption | exact OwnA.made (by simp [maxLen])) | exact Arr.own hgx 11 rfl (by first | assumption | exact OwnA.made (by simp [maxLen])) | exact Arr.own hgx 12 rfl (by first | assumption | exact OwnA.made (by simp [maxLen]))) (by omega) (by omega))) (fun v4 Gx4 G4 Ho4 hlx4 hp => ?_)
    obtain ⟨rfl, rfl, rfl⟩ := hp
    refine Wl.q rfl (Qy.assign rfl) ?_
    refine Wl.done ?_
    refine Ar.next ?_
    refine Wc.seq ?_
    refine Wc.seq ?_
    refine Wc.region rfl ?_
    refine Wl.q rfl (Qy.move rfl) ?_
    refine Wl.q rfl (Qy.notD rfl) ?_
    refine Wl.done ?_
    refine Ar.next ?_
    refine Wc.cond rfl (fun hc3 => ?_) (fun hc3 => ?_)
    refine Wc.seq ?_
    refine Wc.region rfl ?_
    refine Wl.q rfl (Qy.loadAll 16 T.agg25 rfl rfl rfl) ?_
    refine Wl.call0 rfl T.fn16 rfl (c16 _ _ _ _ _ _) ?_
    refine Wl.q rfl (Qy.move rfl) ?_
    apply Wl.joinAnd 3 31 34 rfl
    intro hg1
    refine Wl.want rfl rfl ?_
    refine Wl.q rfl (Qy.move rfl) ?_
    refine Wl.want rfl rfl ?_
    refine Wl.q rfl (Qy.eql rfl rfl) ?_
    refine Wl.q rfl (Qy.pick rfl rfl) ?_
    exact Wl.back 3 0 rfl rfl rfl rfl rfl
    intro hg1
    refine Wl.pass rfl rfl rfl ?_
    refine Wl.pass rfl rfl rfl ?_
    refine Wl.q rfl (Qy.pick rfl rfl) ?_
    exact Wl.back 3 0 rfl rfl rfl rfl rfl
    refine Wl.q rfl (Qy.move rfl) ?_
    apply Wl.joinAnd 2 35 37 rfl
    intro hg1
    refine Wl.want rfl rfl ?_
    refine Wl.callB 17 rfl T.fn11 rfl (fun Gx hGx hgx => (c11 _)) (fun v5 Gx5 G5 Ho5 hlx5 hp => ?_)
    obtain ⟨rfl, rfl, rfl⟩ := hp
    refine Wl.q rfl (Qy.pick rfl rfl) ?_
    exact Wl.back 2 0 rfl rfl rfl rfl rfl
    intro hg1
    refine Wl.pass rfl rfl rfl ?_
    refine Wl.q rfl (Qy.pick rfl rfl) ?_
    exact Wl.back 2 0 rfl rfl rfl rfl rfl
    refine Wl.q rfl (Qy.assign rfl) ?_
    refine Wl.done ?_
    refine Ar.next ?_
    refine Wc.ret ?_
    refine Ar.passRet ?_
    refine Ar.out1 (.inr rfl) (Ho := Hp.only _ []) rfl (.tmp rfl) (Hp.sub_only _ _) ?_
    rotate_left
    refine Wc.skip ?_
    refine Ar.next ?_
    refine Wc.seq ?_
    refine Wc.region rfl ?_
    refine Wl.q rfl (Qy.loadAll 0 T.agg25 rfl rfl rfl) ?_
    rotate_left
    · exact absurd yes hc1
    · exact ⟨rfl, rfl, rfl⟩
    · exact absurd hR hc3
    obtain ⟨hq, he⟩ := hq3
    have hq : q3 = passP p := by rw [hq]; unfold passE; rw [if_pos hR]
    have he : e3 = 0 := by rw [he]; unfold passErr; rw [if_pos hR]
    subst hq he
    refine Wl.callB 17 rfl T.fn17 rfl (fun Gx hGx hgx => c17E Gx p ac ao cc co (hc.up hGx) (ho.up hGx) hR) (fun v9 Gx9 G9 Ho9 hlx9 hp => ?_)
    obtain ⟨rc, ro, rcc, roc, rj, rk, rfl, hrc, hro, rfl, rfl⟩ := hp
    refine Wl.alloc 19 rfl T.zero25 (fun b4 => ?_)
    refine Wl.storeAll 19 T.size25 rfl rfl rfl rfl rfl rfl ?_
    refine Wl.done ?_
    refine Ar.next ?_
    refine Wc.seq ?_
    refine Wc.seq ?_
    refine Wc.region rfl ?_
    refine Wl.q rfl (Qy.move rfl) ?_
    refine Wl.q rfl (Qy.neq rfl rfl) ?_
    refine Wl.q rfl (Qy.move rfl) ?_
    refine Wl.no 42 rfl (by first | assumption | omega) ?_
    refine Wl.want rfl rfl ?_
    refine Wl.q rfl (Qy.loadAll 16 T.agg25 rfl rfl rfl) ?_
    refine Wl.want rfl rfl ?_
    refine Wl.q rfl (Qy.loadAll 19 T.agg25 rfl rfl rfl) ?_
    refine Wl.want rfl rfl ?_
    refine Wl.callB 20 rfl T.fn18 rfl (fun Gx hGx hgx => c18 Gx (passP p) (passP p) qc3 qo3 rc ro qcc3 qoc3 rcc roc (Arr.own hgx 14 rfl hqc3) (Arr.own hgx 15 rfl hqo3) (Arr.own hgx 17 rfl hrc) (Arr.own hgx 18 rfl hro) (pass_len hR).1 (pass_len hR).2) (fun v10 Gx10 G10 Ho10 hlx10 hp => ?_)
    obtain ⟨rfl, rfl, rfl⟩ := hp
    refine Wl.want rfl rfl ?_
    refine Wl.q rfl (Qy.notD rfl) ?_
    refine Wl.q rfl (Qy.pick rfl rfl) ?_
    refine Wl.q rfl (Qy.move rfl) ?_
    apply Wl.joinOr 3 48 51 rfl
    intro hg1
    refine Wl.want rfl rfl ?_
    refine Wl.callB 20 rfl T.fn11 rfl (fun Gx hGx hgx => (c11 _)) (fun v5 Gx5 G5 Ho5 hlx5 hp => ?_)
    obtain ⟨rfl, rfl, rfl⟩ := hp
    refine Wl.want rfl rfl ?_
    refine Wl.q rfl (Qy.notD rfl) ?_
    refine Wl.q rfl (Qy.pick rfl rfl) ?_
    exact Wl.back 3 0 rfl rfl rfl rfl rfl
    intro hg1
    refine Wl.pass rfl rfl rfl ?_
    refine Wl.pass rfl rfl rfl ?_
    refine Wl.q rfl (Qy.pick rfl rfl) ?_
    exact Wl.back 3 0 rfl rfl rfl rfl rfl
    refine Wl.done ?_
    refine Ar.next ?_
    refine Wc.cond rfl (fun hc4 => ?_) (fun hc4 => ?_)
    refine Wc.seq ?_
    refine Wc.region rfl ?_
    refine Wl.q rfl (Qy.assign rfl) ?_
    refine Wl.done ?_
    refine Ar.next ?_
    refine Wc.ret ?_
    refine Ar.passRet ?_
    refine Ar.out1 (.inr rfl) (Ho := Hp.only _ []) rfl (.tmp rfl) (Hp.sub_only _ _) ?_
    rotate_left
    refine Wc.skip ?_
    refine Ar.next ?_
    refine Wc.seq ?_
    refine Wc.region rfl ?_
    refine Wl.q rfl (Qy.loadAll 16 T.agg25 rfl rfl rfl) ?_
    rotate_left
    · exfalso
      rcases hc4 with h | h
      · exact h rfl
      · exact h yes
    refine Wl.callB 20 rfl T.fn14 rfl (fun Gx hGx hgx => c14B Gx (passP p) qc3 qo3 qcc3 qoc3 (Arr.own hgx 14 rfl hqc3) (Arr.own hgx 15 rfl hqo3) (pass_len hR).1 (pass_len hR).2) (fun v12 Gx12 G12 Ho12 hlx12 hp => ?_)
    obtain ⟨q4, e4, nc, no, ncc, noc, nj, nk, rfl, ⟨hq, he⟩, hnc, hno, rfl, rfl⟩ := hp
    have hq : q4 = passP p := by rw [hq]; unfold passE; rw [if_pos hi1, hi2]
    have he : e4 = 0 := by rw [he]; unfold passErr; rw [if_pos hi1]
    subst hq he
    refine Wl.q rfl (Qy.move rfl) ?_
    refine Wl.q rfl (Qy.extract rfl rfl) ?_
    refine Wl.q rfl (Qy.extract rfl rfl) ?_
    refine Wl.alloc 22 rfl T.zero25 (fun b5 => ?_)
    refine Wl.storeAll 22 T.size25 rfl rfl rfl rfl rfl rfl ?_
    refine Wl.q rfl (Qy.assign rfl) ?_
    refine Wl.done ?_
    refine Ar.next ?_
    refine Wc.seq ?_
    refine Wc.seq ?_
    refine Wc.region rfl ?_
    refine Wl.q rfl (Qy.move rfl) ?_
    refine Wl.q rfl (Qy.neq rfl rfl) ?_
    refine Wl.q rfl (Qy.move rfl) ?_
    refine Wl.no 59 rfl (by first | assumption | omega) ?_
    refine Wl.want rfl rfl ?_
    refine Wl.q rfl (Qy.loadAll 22 T.agg25 rfl rfl rfl) ?_
    refine Wl.want rfl rfl ?_
    refine Wl.q rfl (Qy.loadAll 19 T.agg25 rfl rfl rfl) ?_
    refine Wl.want rfl rfl ?_
    refine Wl.callB 23 rfl T.fn18 rfl (fun Gx hGx hgx => c18 Gx (passP p) (passP p) nc no rc ro ncc noc rcc roc (Arr.own hgx 20 rfl hnc) (Arr.own hgx 21 rfl hno) (Arr.own hgx 17 rfl hrc) (Arr.own hgx 18 rfl hro) (pass_len hR).1 (pass_len hR).2) (fun v13 Gx13 G13 Ho13 hlx13 hp => ?_)
    obtain ⟨rfl, rfl, rfl⟩ := hp
    refine Wl.want rfl rfl ?_
    refine Wl.q rfl (Qy.notD rfl) ?_
    refine Wl.q rfl (Qy.pick rfl rfl) ?_
    refine Wl.done ?_
    refine Ar.next ?_
    refine Wc.cond rfl (fun hc5 => ?_) (fun hc5 => ?_)
    refine Wc.seq ?_
    refine Wc.region rfl ?_
    refine Wl.q rfl (Qy.assign rfl) ?_
    refine Wl.done ?_
    refine Ar.next ?_
    refine Wc.ret ?_
    refine Ar.passRet ?_
    refine Ar.out1 (.inr rfl) (Ho := Hp.only _ []) rfl (.tmp rfl) (Hp.sub_only _ _) ?_
    rotate_left
    refine Wc.skip ?_
    refine Ar.next ?_
    refine Wc.seq ?_
    refine Wc.draw [0, 12, 11, 13, 15, 14, 16, 18, 17, 19, 21, 20, 22] [] T.mixed rfl ?_
    refine Gm.q 0 [] (by kernel_rfl) rfl rfl (Qy.fieldAddr T.fa25_2 rfl) ?_
    refine Gm.q 1 [16] (by kernel_rfl) rfl rfl (Qy.load 16 T.one22 rfl rfl rfl) ?_
    refine Gm.q 2 [] (by kernel_rfl) rfl rfl (Qy.fieldAddr T.fa25_2 rfl) ?_
    refine Gm.q 3 [16] (by kernel_rfl) rfl rfl (Qy.load 16 T.one22 rfl rfl rfl) ?_
    refine Gm.q 4 [] (by kernel_rfl) rfl rfl (Qy.cap T.sl22 rfl) ?_
    refine Gm.q 5 [] (by kernel_rfl) rfl rfl (Qy.cutH T.sl22 rfl rfl (by omega)) ?_
    refine Gm.q 6 [] (by kernel_rfl) rfl rfl (Qy.fieldAddr T.fa25_3 rfl) ?_
    refine Gm.q 7 [16] (by kernel_rfl) rfl rfl (Qy.load 16 T.one23 rfl rfl rfl) ?_
    refine Gm.q 8 [] (by kernel_rfl) rfl rfl (Qy.fieldAddr T.fa25_3 rfl) ?_
    refine Gm.q 9 [16] (by kernel_rfl) rfl rfl (Qy.load 16 T.one23 rfl rfl rfl) ?_
    refine Gm.q 10 [] (by kernel_rfl) rfl rfl (Qy.cap T.sl23 rfl) ?_
    refine Gm.q 11 [] (by kernel_rfl) rfl rfl (Qy.cutH T.sl23 rfl rfl (by omega)) ?_
    refine Gm.q 12 [] (by kernel_rfl) rfl rfl (Qy.assign rfl) ?_
    refine Gm.q 13 [] (by kernel_rfl) rfl rfl (Qy.assign rfl) ?_
    refine Gm.doneA (by kernel_rfl) ⟨rfl, rfl, rfl, rfl, rfl, rfl, rfl, rfl, rfl, rfl, rfl, rfl, rfl, trivial⟩ (by first | exact Imm.le_refl _ | assumption) ?_
    refine Ar.next ?_
    refine Wc.seq ?_
    refine Wc.seq ?_
    refine Wc.region rfl ?_
    refine Wl.q rfl (Qy.assign rfl) ?_
    refine Wl.done ?_
    refine Ar.next ?_
    refine Wc.block ?_
    rotate_left
    · exact absurd rfl hc5
    have hcb := hqc3.blkOf
    have hcm : qcc3 ≤ 9223372036854775807 := by rcases hqc3 with ⟨_, _, _, h⟩ | ⟨_, _, _, _, h⟩ <;> first | omega | (simp only [maxLen] at h; omega)
    have hdm : qoc3 ≤ 9223372036854775807 := by rcases hqo3 with ⟨_, _, _, h⟩ | ⟨_, _, _, _, h⟩ <;> first | omega | (simp only [maxLen] at h; omega)
    have hdb := hqo3.blkOf
    have hqa : Value.slice (subA qc3 qcc3 0 5) (qcc3 : Int).toNat qcc3 = .slice qc3 qcc3 qcc3 := by rw [subA_zero_own hqc3]; rfl
    have hqb : Value.slice (subA qo3 qoc3 0 1) (qoc3 : Int).toNat qoc3 = .slice qo3 qoc3 qoc3 := by rw [subA_zero_own hqo3]; rfl
    generalize hcs : flat (passP p).code ++ qj3 = cs at *
    generalize hds : flat (passP p).outs ++ qk3 = ds at *
    refine Wc.reH 14 (.cells cs.toArray 34 (0, 0)) rfl (by rw [← hcs]; rfl) (Wc.reH 15 (.cells ds.toArray 3 (0, 0)) rfl (by rw [← hds]; rfl) ?_)
    refine Wc.re 10 rfl hqa (Wc.re 11 rfl hqb ?_)
    refine Wc.loop (ι := Nat × List Value) (fun (k, cs) => ([(12, .int .i64 (k : Int)), (11, Go.Value.slice qo3 qoc3 qoc3), (10, Go.Value.slice qc3 qcc3 qcc3), (3, Go.Value.pointer (Option.some (Go.Addr.mk b2 0 Option.none))), (2, Go.Value.bool Bool.false), (1, Go.Value.pointer (Option.some (Go.Addr.mk b1 0 Option.none)))], [(14, qc3.map (·.block), .cells cs.toArray 34 (0, 0)), (15, Option.map (fun x => Go.Addr.block x) qo3, Go.Obj.cells (List.toArray ds) 3), (22, Option.some b5, Go.Obj.cells #[Go.Value.int Go.IntKind.i64 (Go.Proofs.Ytfleehgbpgmcnaa.PV.ins (Go.Proofs.Ytfleehgbpgmcnaa.passP p)), Go.Value.int Go.IntKind.i64 (Go.Proofs.Ytfleehgbpgmcnaa.PV.regs (Go.Proofs.Ytfleehgbpgmcnaa.passP p)), Go.Value.slice nc (List.length (Go.Proofs.Ytfleehgbpgmcnaa.PV.code (Go.Proofs.Ytfleehgbpgmcnaa.passP p))) ncc, Go.Value.slice no (List.length (Go.Proofs.Ytfleehgbpgmcnaa.PV.outs (Go.Proofs.Ytfleehgbpgmcnaa.passP p))) noc] 25), (20, Option.map (fun x => Go.Addr.block x) nc, Go.Sl.Row (α := Go.Sl.Instr) 34 (Go.Proofs.Ytfleehgbpgmcnaa.PV.code (Go.Proofs.Ytfleehgbpgmcnaa.passP p)) (nj)), (21, Option.map (fun x => Go.Addr.block x) no, Go.Sl.Row (α := Int) 3 (Go.Proofs.Ytfleehgbpgmcnaa.PV.outs (Go.Proofs.Ytfleehgbpgmcnaa.passP p)) (nk)), (19, Option.some b4, Go.Obj.cells #[Go.Value.int Go.IntKind.i64 (Go.Proofs.Ytfleehgbpgmcnaa.PV.ins (Go.Proofs.Ytfleehgbpgmcnaa.passP p)), Go.Value.int Go.IntKind.i64 (Go.Proofs.Ytfleehgbpgmcnaa.PV.regs (Go.Proofs.Ytfleehgbpgmcnaa.passP p)), Go.Value.slice rc (List.length (Go.Proofs.Ytfleehgbpgmcnaa.PV.code (Go.Proofs.Ytfleehgbpgmcnaa.passP p))) rcc, Go.Value.slice ro (List.length (Go.Proofs.Ytfleehgbpgmcnaa.PV.outs (Go.Proofs.Ytfleehgbpgmcnaa.passP p))) roc] 25), (17, Option.map (fun x => Go.Addr.block x) rc, Go.Sl.Row (α := Go.Sl.Instr) 34 (Go.Proofs.Ytfleehgbpgmcnaa.PV.code (Go.Proofs.Ytfleehgbpgmcnaa.passP p)) (rj)), (18, Option.map (fun x => Go.Addr.block x) ro, Go.Sl.Row (α := Int) 3 (Go.Proofs.Ytfleehgbpgmcnaa.PV.outs (Go.Proofs.Ytfleehgbpgmcnaa.passP p)) (rk)), (16, Option.some b3, Go.Obj.cells #[Go.Value.int Go.IntKind.i64 (Go.Proofs.Ytfleehgbpgmcnaa.PV.ins (Go.Proofs.Ytfleehgbpgmcnaa.passP p)), Go.Value.int Go.IntKind.i64 (Go.Proofs.Ytfleehgbpgmcnaa.PV.regs (Go.Proofs.Ytfleehgbpgmcnaa.passP p)), Go.Value.slice qc3 (List.length (Go.Proofs.Ytfleehgbpgmcnaa.PV.code (Go.Proofs.Ytfleehgbpgmcnaa.passP p))) qcc3, Go.Value.slice qo3 (List.length (Go.Proofs.Ytfleehgbpgmcnaa.PV.outs (Go.Proofs.Ytfleehgbpgmcnaa.passP p))) qoc3] 25), (13, Option.some b2, Go.Obj.cells #[Go.Value.int Go.IntKind.i64 (Go.Proofs.Ytfleehgbpgmcnaa.PV.ins p), Go.Value.int Go.IntKind.i64 (Go.Proofs.Ytfleehgbpgmcnaa.PV.regs p), Go.Value.slice oc2 (List.length (Go.Proofs.Ytfleehgbpgmcnaa.PV.code p)) occ2, Go.Value.slice oo2 (List.length (Go.Proofs.Ytfleehgbpgmcnaa.PV.outs p)) ooc2] 25), (11, Option.map (fun x => Go.Addr.block x) oc2, Go.Sl.Row (α := Go.Sl.Instr) 34 (Go.Proofs.Ytfleehgbpgmcnaa.PV.code p) (oj2)), (12, Option.map (fun x => Go.Addr.block x) oo2, Go.Sl.Row (α := Int) 3 (Go.Proofs.Ytfleehgbpgmcnaa.PV.outs p) (ok2)), (0, Option.some b1, Go.Obj.cells #[Go.Value.int Go.IntKind.i64 (Go.Proofs.Ytfleehgbpgmcnaa.PV.ins p), Go.Value.int Go.IntKind.i64 (Go.Proofs.Ytfleehgbpgmcnaa.PV.regs p), Go.Value.slice ac (List.length (Go.Proofs.Ytfleehgbpgmcnaa.PV.code p)) cc, Go.Value.slice ao (List.length (Go.Proofs.Ytfleehgbpgmcnaa.PV.outs p)) co] 25)])) (fun (k, cs) => k ≤ qcc3 ∧ Blk qc3 qcc3 5 cs) (fun (k, cs) => qcc3 - k) ((0, cs)) (⟨Nat.zero_le _, hcb⟩) ⟨rfl, rfl, rfl, rfl, rfl, rfl, trivial⟩ ⟨rfl, rfl, rfl, rfl, rfl, rfl, rfl, rfl, rfl, rfl, rfl, rfl, rfl, trivial⟩ (fun ⟨k, cs⟩ => fun (hk : k ≤ qcc3 ∧ Blk qc3 qcc3 5 cs) => ?_)
    obtain ⟨hk1, hk2⟩ := hk
    refine Wc.seq ?_
    refine Wc.seq ?_
    refine Wc.region rfl ?_
    refine Wl.q rfl (Qy.move rfl) ?_
    refine Wl.q rfl (Qy.move rfl) ?_
    refine Wl.q rfl (Qy.len T.sl22 rfl) ?_
    refine Wl.q rfl (Qy.lss rfl rfl) ?_
    refine Wl.done ?_
    refine Ar.next ?_
    refine Wc.cond rfl (fun hc6 => ?_) (fun hc6 => ?_)
    refine Wc.skip ?_
    refine Ar.next ?_
    refine Wc.seq ?_
    refine Wc.block ?_
    refine Wc.region rfl ?_
    refine Wl.q rfl (Qy.move rfl) ?_
    refine Wl.q rfl (Qy.move rfl) ?_
    refine Wl.q rfl (Qy.build (cs := [_, _, _, _, _]) T.st34 rfl rfl rfl) ?_
    rotate_left
    refine Wc.exit ?_
    refine Ar.passExit ?_
    refine Ar.passExit ?_
    refine Ar.here ?_
    refine Ar.next ?_
    refine Wc.seq ?_
    refine Wc.seq ?_
    refine Wc.region rfl ?_
    refine Wl.q rfl (Qy.assign rfl) ?_
    refine Wl.done ?_
    refine Ar.next ?_
    refine Wc.block ?_
    rotate_left
    · refine Wl.q rfl (Qy.indexAddrK T.sl22 rfl rfl hk2 (by omega)) (Wl.storeK 14 T.size34 rfl rfl rfl rfl rfl rfl hk2 (by omega) (fun cs' hcs' => ?_))
      refine Wl.done ?_
      refine Ar.outNormal ?_
      refine Ar.next ?_
      refine Wc.region rfl ?_
      refine Wl.q rfl (Qy.move rfl) ?_
      refine Wl.q rfl (Qy.add rfl rfl (by omega)) ?_
      refine Wl.q rfl (Qy.assign rfl) ?_
      refine Wl.done ?_
      refine Ar.again ((k + 1, cs')) ?_ ?_ rfl ⟨rfl, rfl, rfl, rfl, rfl, rfl, trivial⟩ ⟨rfl, rfl, rfl, rfl, rfl, rfl, rfl, rfl, rfl, rfl, rfl, rfl, rfl, trivial⟩
      · exact ⟨by omega, hcs'⟩
      · show qcc3 - (k + 1) < qcc3 - k
        omega
    clear hc6 hk2 hk1
    refine Wc.loop (ι := Nat × List Value) (fun (k, ds) => ([(13, .int .i64 (k : Int)), (11, Go.Value.slice qo3 qoc3 qoc3), (3, Go.Value.pointer (Option.some (Go.Addr.mk b2 0 Option.none))), (2, Go.Value.bool Bool.false), (1, Go.Value.pointer (Option.some (Go.Addr.mk b1 0 Option.none)))], [(15, qo3.map (·.block), .cells ds.toArray 3 (0, 0)), (14, Option.map (fun x => Go.Addr.block x) qc3, Go.Obj.cells (List.toArray cs) 34), (22, Option.some b5, Go.Obj.cells #[Go.Value.int Go.IntKind.i64 (Go.Proofs.Ytfleehgbpgmcnaa.PV.ins (Go.Proofs.Ytfleehgbpgmcnaa.passP p)), Go.Value.int Go.IntKind.i64 (Go.Proofs.Ytfleehgbpgmcnaa.PV.regs (Go.Proofs.Ytfleehgbpgmcnaa.passP p)), Go.Value.slice nc (List.length (Go.Proofs.Ytfleehgbpgmcnaa.PV.code (Go.Proofs.Ytfleehgbpgmcnaa.passP p))) ncc, Go.Value.slice no (List.length (Go.Proofs.Ytfleehgbpgmcnaa.PV.outs (Go.Proofs.Ytfleehgbpgmcnaa.passP p))) noc] 25), (20, Option.map (fun x => Go.Addr.block x) nc, Go.Sl.Row (α := Go.Sl.Instr) 34 (Go.Proofs.Ytfleehgbpgmcnaa.PV.code (Go.Proofs.Ytfleehgbpgmcnaa.passP p)) (nj)), (21, Option.map (fun x => Go.Addr.block x) no, Go.Sl.Row (α := Int) 3 (Go.Proofs.Ytfleehgbpgmcnaa.PV.outs (Go.Proofs.Ytfleehgbpgmcnaa.passP p)) (nk)), (19, Option.some b4, Go.Obj.cells #[Go.Value.int Go.IntKind.i64 (Go.Proofs.Ytfleehgbpgmcnaa.PV.ins (Go.Proofs.Ytfleehgbpgmcnaa.passP p)), Go.Value.int Go.IntKind.i64 (Go.Proofs.Ytfleehgbpgmcnaa.PV.regs (Go.Proofs.Ytfleehgbpgmcnaa.passP p)), Go.Value.slice rc (List.length (Go.Proofs.Ytfleehgbpgmcnaa.PV.code (Go.Proofs.Ytfleehgbpgmcnaa.passP p))) rcc, Go.Value.slice ro (List.length (Go.Proofs.Ytfleehgbpgmcnaa.PV.outs (Go.Proofs.Ytfleehgbpgmcnaa.passP p))) roc] 25), (17, Option.map (fun x => Go.Addr.block x) rc, Go.Sl.Row (α := Go.Sl.Instr) 34 (Go.Proofs.Ytfleehgbpgmcnaa.PV.code (Go.Proofs.Ytfleehgbpgmcnaa.passP p)) (rj)), (18, Option.map (fun x => Go.Addr.block x) ro, Go.Sl.Row (α := Int) 3 (Go.Proofs.Ytfleehgbpgmcnaa.PV.outs (Go.Proofs.Ytfleehgbpgmcnaa.passP p)) (rk)), (16, Option.some b3, Go.Obj.cells #[Go.Value.int Go.IntKind.i64 (Go.Proofs.Ytfleehgbpgmcnaa.PV.ins (Go.Proofs.Ytfleehgbpgmcnaa.passP p)), Go.Value.int Go.IntKind.i64 (Go.Proofs.Ytfleehgbpgmcnaa.PV.regs (Go.Proofs.Ytfleehgbpgmcnaa.passP p)), Go.Value.slice qc3 (List.length (Go.Proofs.Ytfleehgbpgmcnaa.PV.code (Go.Proofs.Ytfleehgbpgmcnaa.passP p))) qcc3, Go.Value.slice qo3 (List.length (Go.Proofs.Ytfleehgbpgmcnaa.PV.outs (Go.Proofs.Ytfleehgbpgmcnaa.passP p))) qoc3] 25), (13, Option.some b2, Go.Obj.cells #[Go.Value.int Go.IntKind.i64 (Go.Proofs.Ytfleehgbpgmcnaa.PV.ins p), Go.Value.int Go.IntKind.i64 (Go.Proofs.Ytfleehgbpgmcnaa.PV.regs p), Go.Value.slice oc2 (List.length (Go.Proofs.Ytfleehgbpgmcnaa.PV.code p)) occ2, Go.Value.slice oo2 (List.length (Go.Proofs.Ytfleehgbpgmcnaa.PV.outs p)) ooc2] 25), (11, Option.map (fun x => Go.Addr.block x) oc2, Go.Sl.Row (α := Go.Sl.Instr) 34 (Go.Proofs.Ytfleehgbpgmcnaa.PV.code p) (oj2)), (12, Option.map (fun x => Go.Addr.block x) oo2, Go.Sl.Row (α := Int) 3 (Go.Proofs.Ytfleehgbpgmcnaa.PV.outs p) (ok2)), (0, Option.some b1, Go.Obj.cells #[Go.Value.int Go.IntKind.i64 (Go.Proofs.Ytfleehgbpgmcnaa.PV.ins p), Go.Value.int Go.IntKind.i64 (Go.Proofs.Ytfleehgbpgmcnaa.PV.regs p), Go.Value.slice ac (List.length (Go.Proofs.Ytfleehgbpgmcnaa.PV.code p)) cc, Go.Value.slice ao (List.length (Go.Proofs.Ytfleehgbpgmcnaa.PV.outs p)) co] 25)])) (fun (k, ds) => k ≤ qoc3 ∧ Blk qo3 qoc3 1 ds) (fun (k, ds) => qoc3 - k) ((0, ds)) (⟨Nat.zero_le _, hdb⟩) ⟨rfl, rfl, rfl, rfl, rfl, trivial⟩ ⟨rfl, rfl, rfl, rfl, rfl, rfl, rfl, rfl, rfl, rfl, rfl, rfl, rfl, trivial⟩ (fun ⟨k, ds⟩ => fun (hk : k ≤ qoc3 ∧ Blk qo3 qoc3 1 ds) => ?_)
    obtain ⟨hk1, hk2⟩ := hk
    refine Wc.seq ?_
    refine Wc.seq ?_
    refine Wc.region rfl ?_
    refine Wl.q rfl (Qy.move rfl) ?_
    refine Wl.q rfl (Qy.move rfl) ?_
    refine Wl.q rfl (Qy.len T.sl23 rfl) ?_
    refine Wl.q rfl (Qy.lss rfl rfl) ?_
    refine Wl.done ?_
    refine Ar.next ?_
    refine Wc.cond rfl (fun hc6 => ?_) (fun hc6 => ?_)
    refine Wc.skip ?_
    refine Ar.next ?_
    refine Wc.seq ?_
    refine Wc.block ?_
    refine Wc.region rfl ?_
    refine Wl.q rfl (Qy.move rfl) ?_
    refine Wl.q rfl (Qy.move rfl) ?_
    rotate_left
    refine Wc.exit ?_
    refine Ar.passExit ?_
    refine Ar.passExit ?_
    refine Ar.here ?_
    refine Ar.next ?_
    refine Wc.seq ?_
    refine Wc.region rfl ?_
    refine Wl.q rfl (Qy.loadAll 0 T.agg25 rfl rfl rfl) ?_
    refine Wl.q rfl (Qy.loadAll 13 T.agg25 rfl rfl rfl) ?_
    rotate_left
    · refine Wl.q rfl (Qy.indexAddrK T.sl23 rfl rfl hk2 (by omega)) (Wl.storeK (vs := [.int .i64 (-3)]) 15 T.size3 rfl rfl rfl rfl rfl rfl hk2 (by omega) (fun cs' hcs' => ?_))
      refine Wl.done ?_
      refine Ar.outNormal ?_
      refine Ar.next ?_
      refine Wc.region rfl ?_
      refine Wl.q rfl (Qy.move rfl) ?_
      refine Wl.q rfl (Qy.add rfl rfl (by omega)) ?_
      refine Wl.q rfl (Qy.assign rfl) ?_
      refine Wl.done ?_
      refine Ar.again ((k + 1, cs')) ?_ ?_ rfl ⟨rfl, rfl, rfl, rfl, rfl, trivial⟩ ⟨rfl, rfl, rfl, rfl, rfl, rfl, rfl, rfl, rfl, rfl, rfl, rfl, rfl, trivial⟩
      · exact ⟨by omega, hcs'⟩
      · show qoc3 - (k + 1) < qoc3 - k
        omega
    clear hc6 hk2 hk1
    refine Wl.callB 23 rfl T.fn18 rfl (fun Gx hGx hgx => c18 Gx p p ac ao oc2 oo2 cc co occ2 ooc2 (hc.up hGx) (ho.up hGx) (Arr.own hgx 11 rfl hoc2) (Arr.own hgx 12 rfl hoo2) (by omega) (by omega)) (fun v14 Gx14 G14 Ho14 hlx14 hp => ?_)
    obtain ⟨rfl, rfl, rfl⟩ := hp
    refine Wl.q rfl (Qy.assign rfl) ?_
    refine Wl.done ?_
    refine Ar.next ?_
    refine Wc.ret ?_
    refine Ar.out1 (.inr rfl) (Ho := Hp.only _ []) rfl (.tmp rfl) (Hp.sub_only _ _) ?_
    exact ⟨by simp, rfl, rfl⟩
  · refine Does.enter Try.func3 rfl Try.ntmps3 rfl (fun w => ?_)
    refine Wc.seq ?_
    refine Wc.region rfl ?_
    refine Wl.box 0 rfl rfl rfl (fun b1 => ?_)
    refine Wl.q rfl (Qy.assign rfl) ?_
    refine Wl.done ?_
    refine Ar.next ?_
    refine Wc.seq ?_
    refine Wc.seq ?_
    refine Wc.region rfl ?_
    refine Wl.callB 1 rfl T.fn11 rfl (fun Gx hGx hgx => (c11 _)) (fun v1 Gx1 G1 Ho1 hlx1 hp => ?_)
    obtain ⟨rfl, rfl, rfl⟩ := hp
    refine Wl.q rfl (Qy.notD rfl) ?_
    refine Wl.done ?_
    refine Ar.next ?_
    refine Wc.cond rfl (fun hc1 => ?_) (fun hc1 => ?_)
    refine Wc.seq ?_
    refine Wc.region rfl ?_
    refine Wl.q rfl (Qy.assign rfl) ?_
    refine Wl.done ?_
    refine Ar.next ?_
    refine Wc.ret ?_
    refine Ar.passRet ?_
    refine Ar.out1 (.inr rfl) (Ho := Hp.only _ []) rfl (.tmp rfl) (Hp.sub_only _ _) ?_
    rotate_left
    refine Wc.skip ?_
    refine Ar.next ?_
    refine Wc.seq ?_
    refine Wc.seq ?_
    refine Wc.region rfl ?_
    refine Wl.q rfl (Qy.loadAll 0 T.agg25 rfl rfl rfl) ?_
    refine Wl.call0 rfl T.fn12 rfl (c12 _ _ _ _ _ _ (by omega) (by omega)) ?_
    refine Wl.done ?_
    refine Ar.next ?_
    refine Wc.cond rfl (fun hc2 => ?_) (fun hc2 => ?_)
    refine Wc.seq ?_
    refine Wc.region rfl ?_
    refine Wl.q rfl (Qy.assign rfl) ?_
    refine Wl.done ?_
    refine Ar.next ?_
    refine Wc.ret ?_
    refine Ar.passRet ?_
    refine Ar.out1 (.inr rfl) (Ho := Hp.only _ []) rfl (.tmp rfl) (Hp.sub_only _ _) ?_
    rotate_left
    refine Wc.skip ?_
    refine Ar.next ?_
    refine Wc.seq ?_
    refine Wc.region rfl ?_
    refine Wl.q rfl (Qy.loadAll 0 T.agg25 rfl rfl rfl) ?_
    refine Wl.callB 1 rfl T.fn13 rfl (fun Gx hGx hgx => (c13 _ _ _ _ _ _ (by first | exact Arr.up (by assumption) hGx | exact Arr.nil _) (by first | exact Arr.up (by assumption) hGx | exact Arr.nil _) (by omega) (by omega))) (fun v2 Gx2 G2 Ho2 hlx2 hp => ?_)
    obtain ⟨oc2, oo2, occ2, ooc2, oj2, ok2, rfl, hoc2, hoo2, rfl, rfl⟩ := hp
    refine Wl.alloc 13 rfl T.zero25 (fun b2 => ?_)
    refine Wl.storeAll 13 T.size25 rfl rfl rfl rfl rfl rfl ?_
    refine Wl.done ?_
    refine Ar.next ?_
    refine Wc.seq ?_
    refine Wc.region rfl ?_
    refine Wl.q rfl (Qy.loadAll 0 T.agg25 rfl rfl rfl) ?_
    refine Wl.callB 14 rfl T.fn14 rfl (fun Gx hGx hgx => (c14B _ _ _ _ _ _ (by first | exact Arr.up (by assumption) hGx | exact Arr.nil _ | exact Arr.own hgx 11 rfl (by first | assumption | exact OwnA.made (by simp [maxLen])) | exact Arr.own hgx 12 rfl (by first | assumption | exact OwnA.made (by simp [maxLen]))) (by first | exact Arr.up (by assumption) hGx | exact Arr.nil _ | exact Arr.own hgx 11 rfl (by first | assumption | exact OwnA.made (by simp [maxLen])) | exact Arr.own hgx 12 rfl (by first | assumption | exact OwnA.made (by simp [maxLen]))) (by omega) (by omega))) (fun v3 Gx3 G3 Ho3 hlx3 hp => ?_)
    obtain ⟨q3, e3, qc3, qo3, qcc3, qoc3, qj3, qk3, rfl, hq3, hqc3, hqo3, rfl, rfl⟩ := hp
    refine Wl.q rfl (Qy.move rfl) ?_
    refine Wl.q rfl (Qy.extract rfl rfl) ?_
    refine Wl.q rfl (Qy.extract rfl rfl) ?_
    refine Wl.alloc 16 rfl T.zero25 (fun b3 => ?_)
    refine Wl.storeAll 16 T.size25 rfl rfl rfl rfl rfl rfl ?_
    refine Wl.q rfl (Qy.assign rfl) ?_
    refine Wl.done ?_
    refine Ar.next ?_
    refine Wc.seq ?_
    refine Wc.region rfl ?_
    refine Wl.q rfl (Qy.loadAll 0 T.agg25 rfl rfl rfl) ?_
    refine Wl.callB 17 rfl T.fn15 rfl (fun Gx hGx hgx => (c15 _ _ _ _ _ _ (by first | exact Arr.up (by assumption) hGx | exact Arr.nil _ | exact Arr.own hgx 14 rfl (by first | assumption | exact OwnA.made (by simp [maxLen])) | exact Arr.own hgx 15 rfl (by first | assumption | exact OwnA.made (by simp [maxLen])) | exact Arr.own hgx 11 rfl (by first | assumption | exact OwnA.made (by simp [maxLen])) | exact Arr.own hgx 12 rfl (by first | assumption | exact OwnA.made (by simp [maxLen]))) (by first | exact Arr.up (by assumption) hGx | exact Arr.nil _ | exact Arr.own hgx 14 rfl (by first | assumption | exact OwnA.made (by simp [maxLen])) | exact Arr.own hgx 15 rfl (by first | assumption | exact OwnA.made (by simp [maxLen])) | exact Arr.own hgx 11 rfl (by first | assumption | exact OwnA.made (by simp [maxLen])) | exact Arr.own hgx 12 rfl (by first | assumption | exact OwnA.made (by simp [maxLen]))) (by omega) (by omega))) (fun v4 Gx4 G4 Ho4 hlx4 hp => ?_)
    obtain ⟨rfl, rfl, rfl⟩ := hp
    refine Wl.q rfl (Qy.assign rfl) ?_
    refine Wl.done ?_
    refine Ar.next ?_
    refine Wc.seq ?_
    refine Wc.seq ?_
    refine Wc.region rfl ?_
    refine Wl.q rfl (Qy.move rfl) ?_
    refine Wl.q rfl (Qy.notD rfl) ?_
    refine Wl.done ?_
    refine Ar.next ?_
    refine Wc.condP rfl (by first | assumption | omega) ?_
    refine Wc.seq ?_
    refine Wc.region rfl ?_
    refine Wl.q rfl (Qy.loadAll 16 T.agg25 rfl rfl rfl) ?_
    refine Wl.call0 rfl T.fn16 rfl (c16 _ _ _ _ _ _) ?_
    refine Wl.q rfl (Qy.move rfl) ?_
    apply Wl.joinAnd 3 31 34 rfl
    intro hg1
    refine Wl.want rfl rfl ?_
    refine Wl.q rfl (Qy.move rfl) ?_
    refine Wl.want rfl rfl ?_
    refine Wl.q rfl (Qy.eql rfl rfl) ?_
    refine Wl.q rfl (Qy.pick rfl rfl) ?_
    exact Wl.back 3 0 rfl rfl rfl rfl rfl
    intro hg1
    refine Wl.pass rfl rfl rfl ?_
    refine Wl.pass rfl rfl rfl ?_
    refine Wl.q rfl (Qy.pick rfl rfl) ?_
    exact Wl.back 3 0 rfl rfl rfl rfl rfl
    refine Wl.q rfl (Qy.move rfl) ?_
    apply Wl.joinAnd 2 35 37 rfl
    intro hg1
    refine Wl.want rfl rfl ?_
    refine Wl.callB 17 rfl T.fn11 rfl (fun Gx hGx hgx => (c11 _)) (fun v5 Gx5 G5 Ho5 hlx5 hp => ?_)
    obtain ⟨rfl, rfl, rfl⟩ := hp
    refine Wl.q rfl (Qy.pick rfl rfl) ?_
    exact Wl.back 2 0 rfl rfl rfl rfl rfl
    intro hg1
    refine Wl.pass rfl rfl rfl ?_
    refine Wl.q rfl (Qy.pick rfl rfl) ?_
    exact Wl.back 2 0 rfl rfl rfl rfl rfl
    refine Wl.q rfl (Qy.assign rfl) ?_
    refine Wl.done ?_
    refine Ar.next ?_
    refine Wc.ret ?_
    refine Ar.passRet ?_
    refine Ar.out1 (.inr rfl) (Ho := Hp.only _ []) rfl (.tmp rfl) (Hp.sub_only _ _) ?_
    rotate_left
    · exact absurd yes hc1
    · exact ⟨rfl, rfl, rfl⟩
    · obtain ⟨hq, he⟩ := hq3
      have hq : q3 = ⟨0, 0, [], []⟩ := by rw [hq]; unfold passE; rw [if_neg hR]
      have he : e3 = 80 := by rw [he]; unfold passErr; rw [if_neg hR]
      refine ⟨?_, rfl, rfl⟩
      rw [hq, he]
      simp [yes]
end Go.Proofs.Ytfleehgbpgmcnaa
set_option maxRecDepth 100000
set_option linter.unusedVariables false
namespace Go.Proofs.Ytfleehgbpgmcnaa
open Go Go.Sl
set_option maxHeartbeats 4000000
/-- a row of int64 that came in -/
def IRow (G : Imm) (s : SV) (l : List Int) : Prop := l.length = s.n ∧ Arr G s.a l ∧ ∀ x ∈ l, -9223372036854775808 ≤ x ∧ x ≤ 9223372036854775807
theorem IRow.up {G G' : Imm} {s : SV} {l : List Int} (h : IRow G s l) (hl : G.le G') : IRow G' s l := ⟨h.1, h.2.1.up hl, h.2.2⟩
def IGrid (G : Imm) (gl : List SV) (ls : List (List Int)) : Prop := gl.length = ls.length ∧ ∀ i : Nat, i < gl.length → IRow G (gl[i]?.getD default) (ls[i]?.getD [])
theorem IGrid.up {G G' : Imm} {gl : List SV} {ls : List (List Int)} (h : IGrid G gl ls) (hl : G.le G') : IGrid G' gl ls := ⟨h.1, fun i hi => (h.2 i hi).up hl⟩
theorem IGrid.at {G : Imm} {gl : List SV} {ls : List (List Int)} (h : IGrid G gl ls) {m : Int} (hm : 0 ≤ m ∧ m < gl.length) : IRow G (gl[m.toNat]?.getD default) (ls[m.toNat]?.getD []) := h.2 _ (by omega)
attribute [local irreducible] valL pw p2 passP passTo rightP
end Go.Proofs.Ytfleehgbpgmcnaa
namespace Go.Proofs.Ytfleehgbpgmcnaa
open Go Go.Sl
set_option maxRecDepth 100000
set_option maxHeartbeats 2000000
theorem cell_one {G : Imm} {b : Nat} {cs : List Value} {T : TypeId} {fz : Nat × Nat} (h : G b = some (.cells cs.toArray T fz)) (k : Nat) {v : Value} (hv : cs[k]? = some v) : G.cell b k = some v := by
  simp only [Imm.cell, h]; simpa using hv
theorem row_all {G : Imm} {b : Nat} {cs : List Value} {T : TypeId} {fz : Nat × Nat} (h : G b = some (.cells cs.toArray T fz)) : G.row b 0 cs := by
  intro i v hi; simp only [Imm.cell, h, Nat.zero_add]; simpa using hi
theorem c93 (G : Imm) (a : Option Addr) (n c : Nat) : Does Try.prog 93 [.slice a n c] G [] (fun v G' Ho => ∃ b, v = .func (.func 100) #[] #[.pointer (some ⟨b, 0, none⟩)] ∧ Ho = [] ∧ G' b = some (.cells [.slice a n c].toArray 22)) := by
  refine Does.enter Try.func93 rfl Try.ntmps93 rfl (fun w => ?_)
  refine Wc.seq ?_
  refine Wc.region rfl ?_
  refine Wl.box 0 rfl rfl rfl (fun b1 => ?_)
  refine Wl.q rfl (Qy.assign rfl) ?_
  refine Wl.done ?_
  refine Ar.next ?_
  refine Wc.seq ?_
  refine Wc.region rfl ?_
  refine Wl.q rfl (Qy.makeFunc rfl rfl) ?_
  refine Wl.q rfl (Qy.assign rfl) ?_
  refine Wl.done ?_
  refine Ar.next ?_
  refine Wc.ret ?_
  refine Ar.freeze 0 rfl (fun G' hle hb => ?_)
  refine Ar.out1 (.inr rfl) (Ho := []) rfl (.tmp rfl) trivial ?_
  exact ⟨_, rfl, rfl, hb⟩
/-- a list's elements from behind, with their places -/
def backL (xs : List Sl.Instr) : List (Int × Sl.Instr) := (List.range xs.length).map fun j => (((xs.length - 1 - j : Nat) : Int), xs[xs.length - 1 - j]?.getD default)
def encB (x : Int × Sl.Instr) : List Value := [.int .i64 x.1, .agg (Cells.enc x.2).toArray]
theorem backL_len (xs : List Sl.Instr) : (backL xs).length = xs.length := by simp [backL]
theorem backL_get (xs : List Sl.Instr) {j : Nat} (h : j < xs.length) : (backL xs)[j]? = some (((xs.length - 1 - j : Nat) : Int), xs[xs.length - 1 - j]?.getD default) := by simp [backL, h]
theorem c100 (G : Imm) (a : Option Addr) (c : Nat) (xs : List Sl.Instr) (b : Nat) (hx : Arr G a xs) (hl : xs.length ≤ 1099511627776) (hb : G b = some (.cells [.slice a xs.length c].toArray 22)) :
    IterDoes Try.prog 100 [.pointer (some ⟨b, 0, none⟩)] G encB (backL xs) := by
  intro ι J inv stop ly i0 hi0 hY
  have hcell : G.cell b 0 = some (.slice a xs.length c) := cell_one hb 0 rfl
  refine Does.enter Try.func100 rfl Try.ntmps100 rfl (fun w => ?_)
  refine Wc.lift 1000 ?_
  refine Wc.seq ?_
  refine Wc.region rfl ?_
  refine Wl.q rfl (Qy.loadG T.one22 rfl (by assumption)) ?_
  refine Wl.q rfl (Qy.len T.sl22 rfl) ?_
  refine Wl.q rfl (Qy.sub rfl rfl (by omega)) ?_
  refine Wl.q rfl (Qy.assign rfl) ?_
  refine Wl.done ?_
  refine Ar.next ?_
  refine Wc.block ?_
  refine Wc.loopT (ι := Int × ι) 1000 (fun (m, s) => ([(3, .int .i64 m), (0, Go.Value.func (Go.Fn.yield ly) #[] #[]), (1, Go.Value.pointer (Option.some (Go.Addr.mk b 0 Option.none)))], [])) (fun (m, s) => J s) (fun (m, s) => -1 ≤ m ∧ m < (xs.length : Int) ∧ inv ((xs.length : Int) - 1 - m).toNat s) (fun (m, s) => (m + 1).toNat) (((xs.length : Int) - 1, i0)) (⟨by omega, by omega, by rw [show ((xs.length : Int) - 1 - ((xs.length : Int) - 1)).toNat = 0 by omega]; exact hi0⟩) ⟨rfl, rfl, rfl, trivial⟩ trivial (by repeat (first | exact Hp.tl_self _ _ | refine Hp.tl_cons rfl ?_)) (fun ⟨m, s⟩ => fun (hk : -1 ≤ m ∧ m < (xs.length : Int) ∧ inv ((xs.length : Int) - 1 - m).toNat s) => ?_)
  obtain ⟨hm1, hm2, hinv⟩ := hk
  refine Wc.seq ?_
  refine Wc.seq ?_
  refine Wc.region rfl ?_
  refine Wl.q rfl (Qy.move rfl) ?_
  refine Wl.q rfl (Qy.geq rfl rfl) ?_
  refine Wl.done ?_
  refine Ar.next ?_
  refine Wc.cond rfl (fun hc1 => ?_) (fun hc1 => ?_)
  refine Wc.skip ?_
  refine Ar.next ?_
  refine Wc.seq ?_
  refine Wc.block ?_
  refine Wc.seq ?_
  refine Wc.region rfl ?_
  refine Wl.q rfl (Qy.move rfl) ?_
  refine Wl.q rfl (Qy.move rfl) ?_
  refine Wl.q rfl (Qy.loadG T.one22 rfl (by assumption)) ?_
  refine Wl.q rfl (Qy.move rfl) ?_
  refine Wl.q rfl (Qy.at (α := Instr) T.sl22 rfl rfl (by assumption) (by omega)) ?_
  refine Wl.q rfl (Qy.loadsG T.agg34 rfl (Arr.elem (by assumption) (by omega)) rfl) ?_
  rotate_left
  refine Wc.exit ?_
  refine Ar.passExit ?_
  refine Ar.passExit ?_
  refine Ar.here ?_
  rotate_left
  · have hbx : (backL xs)[((xs.length : Int) - 1 - m).toNat]? = some (m, xs[m.toNat]?.getD default) := by
      rw [backL_get xs (by omega)]
      have e1 : xs.length - 1 - ((xs.length : Int) - 1 - m).toNat = m.toNat := by omega
      rw [e1]
      have e2 : ((m.toNat : Nat) : Int) = m := by omega
      rw [e2]
    refine Wl.yieldT (A := []) 1000 rfl rfl rfl trivial (by repeat (first | exact Hp.tl_self _ _ | refine Hp.tl_cons rfl ?_)) rfl (hY ((xs.length : Int) - 1 - m).toNat _ s hbx hinv) (fun vy Gy Hy hly hp => ?_)
    obtain ⟨rfl, s', rfl, hp⟩ := hp
    rcases hp with ⟨rfl, hinv'⟩ | ⟨rfl, hst⟩
    · refine Wl.q rfl (Qy.not rfl) ?_
      refine Wl.done ?_
      refine Ar.next ?_
      refine Wc.condF rfl ?_
      refine Wc.skip ?_
      refine Ar.outNormal ?_
      refine Ar.next ?_
      refine Wc.region rfl ?_
      refine Wl.q rfl (Qy.move rfl) ?_
      refine Wl.q rfl (Qy.sub rfl rfl (by omega)) ?_
      refine Wl.q rfl (Qy.assign rfl) ?_
      refine Wl.done ?_
      refine Ar.againT ((m - 1, s')) ?_ ?_ ⟨rfl, rfl, rfl, trivial⟩ trivial (by repeat (first | exact Hp.tl_self _ _ | refine Hp.tl_cons rfl ?_))
      · refine ⟨by omega, by omega, ?_⟩
        rw [show ((xs.length : Int) - 1 - (m - 1)).toNat = ((xs.length : Int) - 1 - m).toNat + 1 by omega]
        exact hinv'
      · show (m - 1 + 1).toNat < (m + 1).toNat
        omega
    · refine Wl.q rfl (Qy.not rfl) ?_
      refine Wl.done ?_
      refine Ar.next ?_
      refine Wc.condT rfl ?_
      refine Wc.ret ?_
      refine Ar.outRet ?_
      refine Ar.passRet ?_
      refine Ar.passRet ?_
      refine Ar.outRet ?_
      refine Ar.outT (k := 1000) (.inr rfl) rfl (by repeat (first | exact Hp.tl_self _ _ | refine Hp.tl_cons rfl ?_)) ⟨rfl, s', rfl, .inr hst⟩
  · have hm : m = -1 := by omega
    subst hm
    refine Ar.outT (k := 1000) (.inl rfl) rfl (by repeat (first | exact Hp.tl_self _ _ | refine Hp.tl_cons rfl ?_)) ⟨rfl, s, rfl, .inl ?_⟩
    rw [backL_len]
    rw [show ((xs.length : Int) - 1 - -1).toNat = xs.length by omega] at hinv
    exact hinv
/-- the iterator over a program's instructions from behind -/
theorem c69 (G : Imm) (p : PV) (ac ao : Option Addr) (cc co : Nat) :
    Does Try.prog 69 [.agg #[.int .i64 p.ins, .int .i64 p.regs, .slice ac p.code.length cc, .slice ao p.outs.length co]] G [] (fun v G' Ho =>
      ∃ b, v = .func (.func 92) #[] #[.pointer (some ⟨b, 0, none⟩)] ∧ Ho = [] ∧ G' b = some (.cells [.int .i64 p.ins, .int .i64 p.regs, .slice ac p.code.length cc, .slice ao p.outs.length co].toArray 25)) := by
  refine Does.enter Try.func69 rfl Try.ntmps69 rfl (fun w => ?_)
  refine Wc.seq ?_
  refine Wc.region rfl ?_
  refine Wl.box 0 rfl rfl rfl (fun b1 => ?_)
  refine Wl.q rfl (Qy.assign rfl) ?_
  refine Wl.done ?_
  refine Ar.next ?_
  refine Wc.seq ?_
  refine Wc.region rfl ?_
  refine Wl.q rfl (Qy.makeFunc rfl rfl) ?_
  refine Wl.q rfl (Qy.assign rfl) ?_
  refine Wl.done ?_
  refine Ar.next ?_
  refine Wc.ret ?_
  refine Ar.freeze 0 rfl (fun G' hle hb => ?_)
  refine Ar.out1 (.inr rfl) (Ho := []) rfl (.tmp rfl) trivial ?_
  exact ⟨_, rfl, rfl, hb⟩
theorem c92R (G : Imm) (p : PV) (ac ao : Option Addr) (cc co : Nat) (b : Nat) (hc : Arr G ac p.code) (ho : Arr G ao p.outs) (h1 : p.code.length ≤ 1099511627776) (h2 : p.outs.length ≤ 1099511627776)
    (hb : G b = some (.cells [.int .i64 p.ins, .int .i64 p.regs, .slice ac p.code.length cc, .slice ao p.outs.length co].toArray 25)) (hR : rightP p = true) :
    IterDoes Try.prog 92 [.pointer (some ⟨b, 0, none⟩)] G encB (backL p.code) := by
  intro ι J inv stop ly i0 hi0 hY
  have hrow := row_all hb
  have hcode := cell_one hb 2 rfl
  refine Does.enterM Try.func92 rfl Try.ntmps92 rfl (fun w => ?_)
  refine Wc.lift 1000 ?_
  refine Wc.seq ?_
  refine Wc.region rfl ?_
  refine Wl.box 0 rfl rfl rfl (fun b1 => ?_)
  refine Wl.done ?_
  refine Ar.next ?_
  refine Wc.seq ?_
  refine Wc.seq ?_
  refine Wc.region rfl ?_
  refine Wl.q rfl (Qy.loadsG T.agg25 rfl (by assumption) rfl) ?_
  refine Wl.call0 rfl T.fn76 rfl (c76 _ _ _ _ _ _ (by assumption) (by assumption) (by omega) (by omega)) ?_
  refine Wl.q rfl (Qy.notD rfl) ?_
  refine Wl.done ?_
  refine Ar.next ?_
  refine Wc.cond rfl (fun hc1 => ?_) (fun hc1 => ?_)
  refine Wc.ret ?_
  refine Ar.passRet ?_
  refine Ar.outOf (.inr rfl) ?_
  rotate_left
  refine Wc.skip ?_
  refine Ar.next ?_
  refine Wc.seq ?_
  refine Wc.region rfl ?_
  refine Wl.q rfl (Qy.fieldAddr T.fa25_2 rfl) ?_
  refine Wl.q rfl (Qy.loadG T.one22 rfl (by assumption)) ?_
  refine Wl.call 1 rfl T.fn93 rfl (c93 _ _ _ _) (tags_of trivial) (fun v1 G1 Ho1 hle1 hp => ?_)
  obtain ⟨bk1, rfl, rfl, hbk1⟩ := hp
  replace hc := hc.up hle1
  replace ho := ho.up hle1
  refine Wl.done ?_
  refine Ar.next ?_
  refine Wc.block ?_
  rotate_left
  · exact absurd hR hc1
  refine Wc.rangeFunc (ι := ι) 900 901 (fun s => [(0, Option.some b1, Go.Obj.cells #[Go.Value.func (Go.Fn.yield ly) #[] #[]] 136)] ++ Hp.shift 1000 (J s)) (fun k s => inv k s) (fun c s => c = Code.ret ∧ stop s) (i0) rfl T.fn100 (fun _ => rfl) rfl (c100 _ ac cc p.code bk1 hc h1 hbk1) (hi0) (Hp.got_app ⟨rfl, trivial⟩ (by repeat (first | exact Hp.tl_self _ _ | refine Hp.tl_cons rfl ?_))) ⟨rfl, fun _ => Hp.none_app rfl rfl⟩ (fun k x s l dd q w0 hx hi => ?_) (fun s dd hi => ?_) (fun s dd c hi => ?_)
  · refine Wc.seq ?_
    refine Wc.region rfl ?_
    refine Wl.q rfl (Qy.assign rfl) ?_
    refine Wl.done ?_
    refine Ar.next ?_
    refine Wc.region rfl ?_
    refine Wl.alloc 902 rfl T.zero34 (fun b2 => ?_)
    refine Wl.storeAll 902 T.size34 rfl rfl rfl rfl rfl rfl ?_
    refine Wl.done ?_
    refine Ar.begin 900 rfl ?_
    refine Wc.block ?_
    refine Wc.seq ?_
    refine Wc.region rfl ?_
    refine Wl.q rfl (Qy.load 0 T.one136 rfl rfl rfl) ?_
    refine Wl.q rfl (Qy.move rfl) ?_
    refine Wl.q rfl (Qy.loadAll 902 T.agg34 rfl rfl rfl) ?_
    refine Wl.yieldT (A := [(900, Option.some l, Go.Sl.lrec q Go.LoopState.busy Option.none), (902, Option.some b2, Go.Obj.cells (List.toArray (Go.Sl.Cells.enc (Prod.snd x))) 34), (901, Option.some dd, Go.Obj.deferred (Option.some [])), (0, Option.some b1, Go.Obj.cells #[Go.Value.func (Go.Fn.yield ly) #[] #[]] 136)]) 1000 rfl rfl rfl ⟨rfl, rfl, rfl, rfl, trivial⟩ (by repeat (first | exact Hp.tl_self _ _ | refine Hp.tl_cons rfl ?_)) rfl ((hY k x s hx hi).up hle1) (fun vy Gy Hy hly hp => ?_)
    obtain ⟨rfl, s', rfl, hp⟩ := hp
    rcases hp with ⟨rfl, hinv'⟩ | ⟨rfl, hst⟩
    · refine Wl.q rfl (Qy.not rfl) ?_
      refine Wl.done ?_
      refine Ar.next ?_
      refine Wc.condF rfl ?_
      refine Wc.skip ?_
      refine Ar.outNormal ?_
      refine Ar.roundEnd none (.inl ⟨rfl, rfl⟩) 900 rfl ⟨rfl, (s', none), rfl, .inl ⟨rfl, rfl, ?_⟩⟩ (Hp.got_cons rfl (Hp.got_cons rfl (Hp.got_app ⟨rfl, trivial⟩ (by repeat (first | exact Hp.tl_self _ _ | refine Hp.tl_cons rfl ?_)))))
      exact hinv'
    · refine Wl.q rfl (Qy.not rfl) ?_
      refine Wl.done ?_
      refine Ar.next ?_
      refine Wc.condT rfl ?_
      refine Wc.ret ?_
      refine Ar.outRet ?_
      refine Ar.roundEnd (some (.ret)) (.inr (.inl ⟨rfl, rfl⟩)) 900 rfl ⟨rfl, (s', some (.ret)), rfl, .inr ⟨rfl, _, rfl, ?_⟩⟩ (Hp.got_cons rfl (Hp.got_cons rfl (Hp.got_app ⟨rfl, trivial⟩ (by repeat (first | exact Hp.tl_self _ _ | refine Hp.tl_cons rfl ?_)))))
      exact ⟨rfl, hst⟩
  · refine Ar.outNormal ?_
    refine Ar.collect (.inl rfl) 901 rfl ?_
    refine Ar.outOf (.inr rfl) ?_
    refine Ar.base ?_
    refine Ar.outT (k := 1000) (.inr rfl) rfl (by repeat (first | exact Hp.tl_self _ _ | refine Hp.tl_cons rfl ?_)) ⟨rfl, s, rfl, .inl hi⟩
  · obtain ⟨rfl, hst⟩ := hi
    refine Wc.ret ?_
    refine Ar.outRet ?_
    refine Ar.collect (.inr rfl) 901 rfl ?_
    refine Ar.outOf (.inr rfl) ?_
    refine Ar.base ?_
    refine Ar.outT (k := 1000) (.inr rfl) rfl (by repeat (first | exact Hp.tl_self _ _ | refine Hp.tl_cons rfl ?_)) ⟨rfl, s, rfl, .inr hst⟩
end Go.Proofs.Ytfleehgbpgmcnaa
namespace Go.Proofs.Ytfleehgbpgmcnaa
open Go Go.Sl
set_option maxRecDepth 100000
set_option maxHeartbeats 2000000
/-- some registers are asked -/
def setAll (l : List Bool) (rs : List Int) : List Bool := rs.foldl (fun l r => l.set r.toNat true) l
theorem setAll_len (l : List Bool) (rs : List Int) : (setAll l rs).length = l.length := by
  unfold setAll
  induction rs generalizing l with
  | nil => rfl
  | cons r rs ih => simp only [List.foldl_cons]; rw [ih, List.length_set]
theorem setAll_step (l : List Bool) (rs : List Int) {k : Nat} (h : k < rs.length) : setAll l (rs.take (k + 1)) = (setAll l (rs.take k)).set (rs[((k : Nat) : Int).toNat]?.getD default).toNat true := by
  unfold setAll
  rw [List.take_add_one, List.foldl_append, Int.toNat_natCast, List.getElem?_eq_getElem h]
  rfl
/-- one instruction from behind: whether it is needed, what is asked ahead of it -/
def needStep (s : List Bool × List Bool) (k : Int) (i : Sl.Instr) : List Bool × List Bool :=
  if s.1[i.to.toNat]?.getD default = true then (setAll (s.1.set i.to.toNat false) (asks i), s.2.set k.toNat true) else s
def needTo (p : PV) : Nat → List Bool × List Bool
  | 0 => (setAll (List.replicate p.regs.toNat false) p.outs, List.replicate p.code.length false)
  | j + 1 => needStep (needTo p j) ((p.code.length - 1 - j : Nat) : Int) (p.code[p.code.length - 1 - j]?.getD default)
def neededP (p : PV) : List Bool := (needTo p p.code.length).2
theorem needTo_len (p : PV) (j : Nat) : (needTo p j).1.length = p.regs.toNat ∧ (needTo p j).2.length = p.code.length := by
  induction j with
  | zero => simp [needTo, setAll_len]
  | succ j ih =>
    simp only [needTo, needStep]
    split
    · simp [setAll_len, ih]
    · exact ih
theorem asks_in {i : Sl.Instr} {regs : Int} (h : mayOk i regs = true) : ∀ r ∈ asks i, 0 ≤ r ∧ r < regs := by
  unfold mayOk at h
  simp only [Bool.and_eq_true, List.all_eq_true, decide_eq_true_eq] at h
  exact h.2
end Go.Proofs.Ytfleehgbpgmcnaa
namespace Go.Proofs.Ytfleehgbpgmcnaa
open Go Go.Sl
set_option maxRecDepth 100000
set_option maxHeartbeats 2000000
def doesNothing (i : Sl.Instr) : Prop := i.op = 1 ∧ i.to = i.a
instance (i : Sl.Instr) : Decidable (doesNothing i) := inferInstanceAs (Decidable (_ ∧ _))
end Go.Proofs.Ytfleehgbpgmcnaa
namespace Go.Proofs.Ytfleehgbpgmcnaa
open Go Go.Sl
set_option maxRecDepth 100000
set_option maxHeartbeats 2000000
/-- right_facts, the other way -/
theorem right_of {q : PV} (h : 1 ≤ q.ins ∧ q.ins ≤ q.regs ∧ q.regs ≤ 128 ∧ q.code.length ≤ 16384 ∧ 1 ≤ q.outs.length ∧ q.outs.length ≤ 128) (ho : ∀ r ∈ q.outs, 0 ≤ r ∧ r < q.regs) (hc : ∀ i ∈ q.code, mayOk i q.regs = true) : rightP q = true := by
  have h1 : headOk q = true := by
    unfold headOk
    rw [Bool.and_eq_true, decide_eq_true_eq, List.all_eq_true]
    exact ⟨by omega, fun r hr => by rw [decide_eq_true_eq]; exact ho r hr⟩
  have h2 : badAt q = none := by
    unfold badAt
    rw [List.findIdx?_eq_none_iff]
    intro i hi
    rw [hc i hi]; rfl
  unfold rightP checkP
  rw [if_neg (by rw [h1]; decide), h2]; rfl
end Go.Proofs.Ytfleehgbpgmcnaa
namespace Go.Proofs.Ytfleehgbpgmcnaa
open Go Go.Sl
set_option linter.unusedVariables false
/-- the marks over a list of instructions, from behind -/
def nf (p : PV) : List Sl.Instr → List Bool × List Bool
  | [] => (setAll (List.replicate p.regs.toNat false) p.outs, [])
  | i :: l => if (nf p l).1[i.to.toNat]?.getD default = true then (setAll ((nf p l).1.set i.to.toNat false) (asks i), true :: (nf p l).2) else ((nf p l).1, false :: (nf p l).2)
theorem nf_len (p : PV) (l : List Sl.Instr) : (nf p l).1.length = p.regs.toNat ∧ (nf p l).2.length = l.length := by
  induction l with
  | nil => simp [nf, setAll_len]
  | cons i l ih =>
    simp only [nf]
    split
    · simp [setAll_len, ih]
    · simp [ih]
theorem needTo_nf (p : PV) : ∀ j, j ≤ p.code.length → needTo p j = ((nf p (p.code.drop (p.code.length - j))).1, List.replicate (p.code.length - j) false ++ (nf p (p.code.drop (p.code.length - j))).2)
  | 0, _ => by simp [needTo, nf]
  | j + 1, hj => by
    have ih := needTo_nf p j (by omega)
    obtain ⟨k, hk⟩ : ∃ k, k = p.code.length - (j + 1) := ⟨_, rfl⟩
    have hk1 : p.code.length - j = k + 1 := by omega
    have hk2 : p.code.length - 1 - j = k := by omega
    have hlt : k < p.code.length := by omega
    rw [hk1] at ih
    rw [← hk]
    have hd : p.code.drop k = p.code[k]?.getD default :: p.code.drop (k + 1) := by
      rw [List.getElem?_eq_getElem hlt, Option.getD_some]; exact List.drop_eq_getElem_cons hlt
    show needStep (needTo p j) ((p.code.length - 1 - j : Nat) : Int) (p.code[p.code.length - 1 - j]?.getD default) = _
    rw [hk2, ih, hd]
    generalize p.code[k]?.getD default = i
    generalize p.code.drop (k + 1) = l
    unfold needStep
    simp only [nf]
    rw [List.replicate_succ']
    split
    · simp only [Int.toNat_natCast]
      rw [List.append_assoc, List.set_append_right _ _ (by simp)]
      simp
    · simp
theorem needed_nf (p : PV) : neededP p = (nf p p.code).2 := by
  unfold neededP
  rw [needTo_nf p p.code.length (Nat.le_refl _)]
  simp
end Go.Proofs.Ytfleehgbpgmcnaa
namespace Go.Proofs.Ytfleehgbpgmcnaa
open Go Go.Sl
set_option maxRecDepth 100000
set_option maxHeartbeats 2000000
theorem c44 (G : Imm) (p : PV) (ac ao : Option Addr) (cc co : Nat) (hc : Arr G ac p.code) (ho : Arr G ao p.outs) (h1 : p.code.length ≤ 1099511627776) (h2 : p.outs.length ≤ 1099511627776) (hR : rightP p = true) :
    Does Try.prog 44 [.agg #[.int .i64 p.ins, .int .i64 p.regs, .slice ac p.code.length cc, .slice ao p.outs.length co]] G [] (fun v G' Ho => ∃ b c j, v = .tuple #[.slice b (neededP p).length c, .int .i64 0] ∧ OwnA b c (neededP p) j ∧ Ho = [(0, b.map (·.block), Row 4 (neededP p) j)] ∧ G' = G) := by
  obtain ⟨r1, r2, r3, r4, r5, r6, r7, r8⟩ := right_facts hR
  refine Does.enterM Try.func44 rfl Try.ntmps44 rfl (fun w => ?_)
  refine Wc.seq ?_
  refine Wc.region rfl ?_
  refine Wl.box 0 rfl rfl rfl (fun b1 => ?_)
  refine Wl.q rfl (Qy.assign rfl) ?_
  refine Wl.q rfl (Qy.assign rfl) ?_
  refine Wl.done ?_
  refine Ar.next ?_
  refine Wc.seq ?_
  refine Wc.seq ?_
  refine Wc.region rfl ?_
  refine Wl.q rfl (Qy.loadAll 0 T.agg25 rfl rfl rfl) ?_
  refine Wl.call0 rfl T.fn76 rfl (c76 _ _ _ _ _ _ (by assumption) (by assumption) (by omega) (by omega)) ?_
  refine Wl.q rfl (Qy.notD rfl) ?_
  refine Wl.done ?_
  refine Ar.next ?_
  refine Wc.cond rfl (fun hc1 => ?_) (fun hc1 => ?_)
  refine Wc.seq ?_
  refine Wc.region rfl ?_
  refine Wl.q rfl (Qy.assign rfl) ?_
  refine Wl.q rfl (Qy.assign rfl) ?_
  refine Wl.done ?_
  refine Ar.next ?_
  refine Wc.ret ?_
  refine Ar.passRet ?_
  refine Ar.outOf (.inr rfl) ?_
  rotate_left
  refine Wc.skip ?_
  refine Ar.next ?_
  refine Wc.seq ?_
  refine Wc.region rfl ?_
  refine Wl.q rfl (Qy.fieldAddr T.fa25_2 rfl) ?_
  refine Wl.q rfl (Qy.load 0 T.one22 rfl rfl rfl) ?_
  refine Wl.q rfl (Qy.len T.sl22 rfl) ?_
  refine Wl.make (α := Bool) 1 rfl T.sl64 T.el4 rfl rfl (by omega) (by omega) (fun b2 => ?_)
  refine Wl.alloc 2 rfl T.zero64 (fun b3 => ?_)
  refine Wl.store 2 T.one64 rfl rfl rfl rfl rfl ?_
  refine Wl.done ?_
  refine Ar.next ?_
  refine Wc.seq ?_
  refine Wc.region rfl ?_
  refine Wl.q rfl (Qy.fieldAddr T.fa25_1 rfl) ?_
  refine Wl.q rfl (Qy.load 0 T.one3 rfl rfl rfl) ?_
  refine Wl.make (α := Bool) 3 rfl T.sl64 T.el4 rfl rfl (by omega) (by omega) (fun b4 => ?_)
  refine Wl.alloc 4 rfl T.zero64 (fun b5 => ?_)
  refine Wl.store 4 T.one64 rfl rfl rfl rfl rfl ?_
  refine Wl.done ?_
  refine Ar.next ?_
  refine Wc.seq ?_
  refine Wc.seq ?_
  refine Wc.region rfl ?_
  refine Wl.q rfl (Qy.fieldAddr T.fa25_3 rfl) ?_
  refine Wl.q rfl (Qy.load 0 T.one23 rfl rfl rfl) ?_
  refine Wl.q rfl (Qy.len T.sl23 rfl) ?_
  refine Wl.q rfl (Qy.move rfl) ?_
  refine Wl.done ?_
  refine Ar.next ?_
  refine Wc.block ?_
  rotate_left
  · exact absurd hR hc1
  generalize hR0 : List.replicate p.regs.toNat (default : Bool) = R0 at *
  have hR0l : (R0.length : Int) = p.regs := by rw [← hR0, List.length_replicate]; omega
  generalize hS0 : List.replicate ((p.code.length : Int)).toNat (default : Bool) = S0 at *
  have hS0l : S0.length = p.code.length := by rw [← hS0, List.length_replicate]; omega
  refine Wc.loop (ι := Nat × List Bool) (fun (k, xs) => ([(25, .int .i64 (k : Int)), (24, Go.Value.int Go.IntKind.i64 (↑(List.length (Go.Proofs.Ytfleehgbpgmcnaa.PV.outs p)) : Int)), (23, Go.Value.slice ao (List.length (Go.Proofs.Ytfleehgbpgmcnaa.PV.outs p)) co), (5, Go.Value.pointer (Option.some (Go.Addr.mk b5 0 Option.none))), (4, Go.Value.pointer (Option.some (Go.Addr.mk b3 0 Option.none))), (3, Go.Value.int Go.IntKind.i64 0), (2, Go.Value.slice Option.none 0 0), (1, Go.Value.pointer (Option.some (Go.Addr.mk b1 0 Option.none)))], [(4, some b5, .cells #[.slice (some ⟨b4, 0, none⟩) xs.length R0.length] 64), (3, some b4, Row 4 xs []), (2, Option.some b3, Go.Obj.cells (List.toArray (List.set [Go.Value.slice Option.none 0 0] 0 (Go.Value.slice (Option.some (Go.Addr.mk b2 0 Option.none)) (List.length S0) (List.length S0)))) 64), (1, Option.some b2, Go.Sl.Row (α := Bool) 4 (S0) ([])), (0, Option.some b1, Go.Obj.cells #[Go.Value.int Go.IntKind.i64 (Go.Proofs.Ytfleehgbpgmcnaa.PV.ins p), Go.Value.int Go.IntKind.i64 (Go.Proofs.Ytfleehgbpgmcnaa.PV.regs p), Go.Value.slice ac (List.length (Go.Proofs.Ytfleehgbpgmcnaa.PV.code p)) cc, Go.Value.slice ao (List.length (Go.Proofs.Ytfleehgbpgmcnaa.PV.outs p)) co] 25)])) (fun (k, xs) => k ≤ p.outs.length ∧ xs = setAll R0 (p.outs.take k) ∧ OwnA (some ⟨b4, 0, none⟩) R0.length xs []) (fun (k, xs) => p.outs.length - k) ((0, R0)) (⟨Nat.zero_le _, rfl, OwnA.made (by simp only [maxLen]; omega)⟩) ⟨rfl, rfl, rfl, rfl, rfl, rfl, rfl, rfl, trivial⟩ ⟨rfl, rfl, rfl, rfl, rfl, trivial⟩ (fun ⟨k, xs⟩ => fun (hk : k ≤ p.outs.length ∧ xs = setAll R0 (p.outs.take k) ∧ OwnA (some ⟨b4, 0, none⟩) R0.length xs []) => ?_)
  obtain ⟨hk1, hxs, hox⟩ := hk
  have hxl : (xs.length : Int) = p.regs := by rw [hxs, setAll_len]; exact hR0l
  rcases Nat.lt_or_ge k p.outs.length with hlt | hge
  · have hr : 0 ≤ p.outs[((k : Nat) : Int).toNat]?.getD default ∧ p.outs[((k : Nat) : Int).toNat]?.getD default < xs.length := by
      rw [hxl]; refine r7 _ ?_
      rw [Int.toNat_natCast, List.getElem?_eq_getElem hlt]; simp
    refine Wc.seq ?_
    refine Wc.region rfl ?_
    refine Wl.q rfl (Qy.lss rfl rfl) ?_
    refine Wl.done ?_
    refine Ar.next ?_
    refine Wc.seq ?_
    refine Wc.condP rfl (by first | assumption | omega) ?_
    refine Wc.skip ?_
    refine Ar.next ?_
    refine Wc.seq ?_
    refine Wc.block ?_
    refine Wc.seq ?_
    refine Wc.region rfl ?_
    refine Wl.q rfl (Qy.at (α := Int) T.sl23 rfl rfl (by assumption) (by omega)) ?_
    refine Wl.q rfl (Qy.loadG T.one3 rfl (Arr.cell (by assumption) (by omega) 0 rfl rfl)) ?_
    refine Wl.q rfl (Qy.assign rfl) ?_
    refine Wl.done ?_
    refine Ar.next ?_
    refine Wc.region rfl ?_
    refine Wl.q rfl (Qy.load 4 T.one64 rfl rfl rfl) ?_
    refine Wl.q rfl (Qy.move rfl) ?_
    refine Wl.q rfl (Qy.indexAddrO (α := Bool) T.sl64 rfl rfl (by assumption) (by omega)) ?_
    refine Wl.setO (z := _) 3 T.size4 rfl rfl rfl (by assumption) (by omega) rfl (fun ho1 => ?_)
    refine Wl.done ?_
    refine Ar.outNormal ?_
    refine Ar.next ?_
    refine Wc.region rfl ?_
    refine Wl.q rfl (Qy.add rfl rfl (by omega)) ?_
    refine Wl.q rfl (Qy.move rfl) ?_
    refine Wl.done ?_
    refine Ar.reH 4 (.cells #[.slice (some ⟨b4, 0, none⟩) (xs.set (p.outs[((k : Nat) : Int).toNat]?.getD default).toNat true).length R0.length] 64) rfl (by rw [List.length_set]) ?_
    refine Ar.again ((k + 1, _)) ?_ ?_ rfl ⟨rfl, rfl, rfl, rfl, rfl, rfl, rfl, rfl, trivial⟩ ⟨rfl, rfl, rfl, rfl, rfl, trivial⟩
    · exact ⟨by omega, by rw [setAll_step _ _ hlt, hxs], ho1⟩
    · show p.outs.length - (k + 1) < p.outs.length - k
      omega
  · have hk : k = p.outs.length := by omega
    subst hk
    rw [List.take_length] at hxs
    clear hk1 hge
    refine Wc.seq ?_
    refine Wc.region rfl ?_
    refine Wl.q rfl (Qy.lss rfl rfl) ?_
    refine Wl.done ?_
    refine Ar.next ?_
    refine Wc.seq ?_
    refine Wc.condN rfl (by first | assumption | omega) ?_
    refine Wc.exit ?_
    refine Ar.passExit ?_
    refine Ar.passExit ?_
    refine Ar.here ?_
    refine Ar.next ?_
    refine Wc.seq ?_
    refine Wc.seq ?_
    refine Wc.region rfl ?_
    refine Wl.q rfl (Qy.loadAll 0 T.agg25 rfl rfl rfl) ?_
    refine Wl.call 5 rfl T.fn69 rfl (c69 _ _ _ _ _ _) (tags_of trivial) (fun v1 G1 Ho1 hle1 hp => ?_)
    obtain ⟨bb1, rfl, rfl, hbb1⟩ := hp
    replace hc := hc.up hle1
    replace ho := ho.up hle1
    refine Wl.done ?_
    refine Ar.next ?_
    refine Wc.block ?_
    refine Wc.rangeFunc (ι := List Bool × List Bool) 900 901 (fun (A, O) => [(2, some b3, .cells #[.slice (some ⟨b2, 0, none⟩) O.length S0.length] 64), (1, some b2, Row 4 O []), (4, some b5, .cells #[.slice (some ⟨b4, 0, none⟩) A.length R0.length] 64), (3, some b4, Row 4 A []), (0, Option.some b1, Go.Obj.cells #[Go.Value.int Go.IntKind.i64 (Go.Proofs.Ytfleehgbpgmcnaa.PV.ins p), Go.Value.int Go.IntKind.i64 (Go.Proofs.Ytfleehgbpgmcnaa.PV.regs p), Go.Value.slice ac (List.length (Go.Proofs.Ytfleehgbpgmcnaa.PV.code p)) cc, Go.Value.slice ao (List.length (Go.Proofs.Ytfleehgbpgmcnaa.PV.outs p)) co] 25)]) (fun k (A, O) => (A, O) = needTo p k ∧ OwnA (some ⟨b4, 0, none⟩) R0.length A [] ∧ OwnA (some ⟨b2, 0, none⟩) S0.length O []) (fun c (A, O) => False) ((xs, S0)) rfl T.fn92 (fun _ => rfl) rfl (c92R _ p _ _ _ _ _ hc ho (by omega) (by omega) hbb1 hR) (⟨by rw [hxs, ← hR0, ← hS0]; rfl, hox, OwnA.made (by simp only [maxLen]; omega)⟩) (Hp.got ⟨rfl, rfl, rfl, rfl, rfl, trivial⟩) ⟨rfl, fun _ => rfl⟩ (fun k x ⟨A, O⟩ l dd q w0 hx hi => ?_) (fun ⟨A, O⟩ dd hi => ?_) (fun ⟨A, O⟩ dd c hi => ?_)
    · obtain ⟨hn, hoA, hoO⟩ := hi
      have hkl : k < p.code.length := by have := (List.getElem?_eq_some_iff.1 hx).1; rw [backL_len] at this; exact this
      have hxe : x = (((p.code.length - 1 - k : Nat) : Int), p.code[p.code.length - 1 - k]?.getD default) := by rw [backL_get _ hkl] at hx; exact (Option.some.inj hx).symm
      have hx1 : x.1 = ((p.code.length - 1 - k : Nat) : Int) := by rw [hxe]
      have hx2 : x.2 = p.code[p.code.length - 1 - k]?.getD default := by rw [hxe]
      clear hxe
      have hm : mayOk x.2 p.regs = true := by
        rw [hx2]; refine r8 _ ?_
        rw [List.getElem?_eq_getElem (by omega), Option.getD_some]; exact List.getElem_mem _
      have hAl : (A.length : Int) = p.regs := by have := (needTo_len p k).1; rw [← hn] at this; show (A.length : Int) = _; rw [show A.length = p.regs.toNat from this]; omega
      have hOl : O.length = p.code.length := by have := (needTo_len p k).2; rw [← hn] at this; exact this
      have hto : 0 ≤ x.2.to ∧ x.2.to < A.length := by rw [hAl]; rw [mayOk_iff] at hm; exact ⟨hm.1.2.2.1, hm.1.2.2.2.1⟩
      have hx1b : 0 ≤ x.1 ∧ x.1 < O.length := by rw [hx1, hOl]; omega
      have hask : ∀ r ∈ asks x.2, 0 ≤ r ∧ r < A.length := by rw [hAl]; exact asks_in hm
      have hst : needTo p (k + 1) = needStep (A, O) x.1 x.2 := by rw [hx1, hx2, hn]; rfl
      have hasks : (asks x.2).length ≤ 2 := by unfold asks; split <;> (try split) <;> simp
      refine Wc.seq ?_
      refine Wc.region rfl ?_
      refine Wl.q rfl (Qy.assign rfl) ?_
      refine Wl.done ?_
      refine Ar.next ?_
      refine Wc.region rfl ?_
      refine Wl.alloc 902 rfl T.zero34 (fun b6 => ?_)
      refine Wl.storeAll 902 T.size34 rfl rfl rfl rfl rfl rfl ?_
      refine Wl.done ?_
      refine Ar.begin 900 rfl ?_
      refine Wc.block ?_
      refine Wc.seq ?_
      refine Wc.seq ?_
      refine Wc.region rfl ?_
      refine Wl.q rfl (Qy.load 4 T.one64 rfl rfl rfl) ?_
      refine Wl.q rfl (Qy.fieldAddr T.fa34_1 rfl) ?_
      refine Wl.q rfl (Qy.load 902 T.one3 rfl rfl rfl) ?_
      refine Wl.q rfl (Qy.indexAddrO (α := Bool) T.sl64 rfl rfl (by assumption) (by omega)) ?_
      refine Wl.q rfl (Qy.loadO 3 0 T.one4 rfl rfl (by assumption) (by omega) rfl rfl) ?_
      refine Wl.q rfl (Qy.not rfl) ?_
      refine Wl.done ?_
      refine Ar.next ?_
      refine Wc.ite rfl (fun hc2 => ?_) (fun hc2 => ?_)
      refine Wc.exit ?_
      refine Ar.passExit ?_
      refine Ar.here ?_
      rotate_left
      refine Wc.skip ?_
      refine Ar.next ?_
      refine Wc.seq ?_
      refine Wc.draw [0, 3, 4, 1, 2, 901, 902, 900] [(900, 8), (902, 8), (901, 8), (2, 8), (1, 8), (4, 8), (3, 8), (0, 8), (900, 6), (902, 6), (901, 6), (2, 6), (1, 6), (4, 6), (3, 6), (0, 6)] T.mixed rfl ?_
      refine Gm.q 0 [2] (by kernel_rfl) rfl rfl (Qy.load 2 T.one64 rfl rfl rfl) ?_
      refine Gm.q 1 [] (by kernel_rfl) rfl rfl (Qy.move rfl) ?_
      refine Gm.q 3 [] (by kernel_rfl) rfl rfl (Qy.fieldAddr T.fa34_1 rfl) ?_
      refine Gm.q 5 [] (by kernel_rfl) rfl rfl (Qy.indexAddrO (α := Bool) T.sl64 rfl rfl (by assumption) (by omega)) ?_
      refine Gm.three 2 4 6 ⟨rfl, rfl, rfl, rfl, rfl, rfl, rfl, rfl, trivial⟩ (by first | exact Imm.le_refl _ | assumption) (by kernel_rfl) rfl rfl rfl ?_ ?_ ?_
      refine Wl.q rfl (Qy.load 4 T.one64 rfl rfl rfl) ?_
      refine Wl.on0 ?_
      refine Gm.two 4 6 ⟨rfl, rfl, rfl, rfl, rfl, rfl, rfl, rfl, trivial⟩ (by first | exact Imm.le_refl _ | assumption) (by kernel_rfl) rfl rfl ?_ ?_
      refine Wl.q rfl (Qy.load 902 T.one3 rfl rfl rfl) ?_
      refine Wl.on0 ?_
      refine Gm.one 6 ⟨rfl, rfl, rfl, rfl, rfl, rfl, rfl, rfl, trivial⟩ (by first | exact Imm.le_refl _ | assumption) (by kernel_rfl) rfl ?_
      refine Wl.setO (z := _) 1 T.size4 rfl rfl rfl (by assumption) (by omega) rfl (fun ho1 => ?_)
      refine Wl.on0 ?_
      refine Gm.q 7 [] (by kernel_rfl) rfl rfl (Qy.indexAddrO (α := Bool) T.sl64 rfl rfl (by assumption) (by omega)) ?_
      refine Gm.one 8 trivial (by first | exact Imm.le_refl _ | assumption) (by kernel_rfl) rfl ?_
      refine Wl.setO (z := _) 3 T.size4 rfl rfl rfl (by assumption) (by omega) rfl (fun ho2 => ?_)
      refine Wl.on0 ?_
      refine Gm.doneA (by kernel_rfl) trivial (by first | exact Imm.le_refl _ | assumption) ?_
      refine Ar.next ?_
      refine Wc.seq ?_
      refine Wc.region rfl ?_
      refine Wl.q rfl (Qy.loadAll 902 T.agg34 rfl rfl rfl) ?_
      refine Wl.call 903 rfl T.fn70 rfl (c70 _ _) (tags_of trivial) (fun v2 G2 Ho2 hle2 hp => ?_)
      obtain ⟨ad2, cd2, junk2, rfl, hoa2, rfl, rfl⟩ := hp
      refine Wl.q rfl (Qy.len T.sl23 rfl) ?_
      refine Wl.q rfl (Qy.move rfl) ?_
      refine Wl.done ?_
      refine Ar.next ?_
      refine Wc.block ?_
      rotate_left
      refine Wl.setO (z := _) 1 T.size4 rfl rfl rfl (by assumption) (by omega) rfl (fun ho1 => ?_)
      refine Wl.on0 ?_
      refine Gm.one 4 trivial (by first | exact Imm.le_refl _ | assumption) (by kernel_rfl) rfl ?_
      refine Wl.q rfl (Qy.load 902 T.one3 rfl rfl rfl) ?_
      refine Wl.on0 ?_
      refine Gm.q 7 [] (by kernel_rfl) rfl rfl (Qy.indexAddrO (α := Bool) T.sl64 rfl rfl (by assumption) (by omega)) ?_
      refine Gm.one 8 trivial (by first | exact Imm.le_refl _ | assumption) (by kernel_rfl) rfl ?_
      refine Wl.setO (z := _) 3 T.size4 rfl rfl rfl (by assumption) (by omega) rfl (fun ho2 => ?_)
      refine Wl.on0 ?_
      refine Gm.doneA (by kernel_rfl) trivial (by first | exact Imm.le_refl _ | assumption) ?_
      refine Ar.next ?_
      refine Wc.seq ?_
      refine Wc.region rfl ?_
      refine Wl.q rfl (Qy.loadAll 902 T.agg34 rfl rfl rfl) ?_
      refine Wl.call 903 rfl T.fn70 rfl (c70 _ _) (tags_of trivial) (fun v2 G2 Ho2 hle2 hp => ?_)
      obtain ⟨ad2, cd2, junk2, rfl, hoa2, rfl, rfl⟩ := hp
      refine Wl.q rfl (Qy.len T.sl23 rfl) ?_
      refine Wl.q rfl (Qy.move rfl) ?_
      refine Wl.done ?_
      refine Ar.next ?_
      refine Wc.block ?_
      rotate_left
      refine Wl.q rfl (Qy.load 902 T.one3 rfl rfl rfl) ?_
      refine Wl.on0 ?_
      refine Gm.two 2 6 ⟨rfl, rfl, rfl, rfl, rfl, rfl, rfl, rfl, trivial⟩ (by first | exact Imm.le_refl _ | assumption) (by kernel_rfl) rfl rfl ?_ ?_
      refine Wl.q rfl (Qy.load 4 T.one64 rfl rfl rfl) ?_
      refine Wl.on0 ?_
      refine Gm.one 6 ⟨rfl, rfl, rfl, rfl, rfl, rfl, rfl, rfl, trivial⟩ (by first | exact Imm.le_refl _ | assumption) (by kernel_rfl) rfl ?_
      refine Wl.setO (z := _) 1 T.size4 rfl rfl rfl (by assumption) (by omega) rfl (fun ho1 => ?_)
      refine Wl.on0 ?_
      refine Gm.q 7 [] (by kernel_rfl) rfl rfl (Qy.indexAddrO (α := Bool) T.sl64 rfl rfl (by assumption) (by omega)) ?_
      refine Gm.one 8 trivial (by first | exact Imm.le_refl _ | assumption) (by kernel_rfl) rfl ?_
      refine Wl.setO (z := _) 3 T.size4 rfl rfl rfl (by assumption) (by omega) rfl (fun ho2 => ?_)
      refine Wl.on0 ?_
      refine Gm.doneA (by kernel_rfl) trivial (by first | exact Imm.le_refl _ | assumption) ?_
      refine Ar.next ?_
      refine Wc.seq ?_
      refine Wc.region rfl ?_
      refine Wl.q rfl (Qy.loadAll 902 T.agg34 rfl rfl rfl) ?_
      refine Wl.call 903 rfl T.fn70 rfl (c70 _ _) (tags_of trivial) (fun v2 G2 Ho2 hle2 hp => ?_)
      obtain ⟨ad2, cd2, junk2, rfl, hoa2, rfl, rfl⟩ := hp
      refine Wl.q rfl (Qy.len T.sl23 rfl) ?_
      refine Wl.q rfl (Qy.move rfl) ?_
      refine Wl.done ?_
      refine Ar.next ?_
      refine Wc.block ?_
      rotate_left
      refine Wl.setO (z := _) 1 T.size4 rfl rfl rfl (by assumption) (by omega) rfl (fun ho1 => ?_)
      refine Wl.on0 ?_
      refine Gm.one 2 trivial (by first | exact Imm.le_refl _ | assumption) (by kernel_rfl) rfl ?_
      refine Wl.q rfl (Qy.load 4 T.one64 rfl rfl rfl) ?_
      refine Wl.on0 ?_
      refine Gm.q 7 [] (by kernel_rfl) rfl rfl (Qy.indexAddrO (α := Bool) T.sl64 rfl rfl (by assumption) (by omega)) ?_
      refine Gm.one 8 trivial (by first | exact Imm.le_refl _ | assumption) (by kernel_rfl) rfl ?_
      refine Wl.setO (z := _) 3 T.size4 rfl rfl rfl (by assumption) (by omega) rfl (fun ho2 => ?_)
      refine Wl.on0 ?_
      refine Gm.doneA (by kernel_rfl) trivial (by first | exact Imm.le_refl _ | assumption) ?_
      refine Ar.next ?_
      refine Wc.seq ?_
      refine Wc.region rfl ?_
      refine Wl.q rfl (Qy.loadAll 902 T.agg34 rfl rfl rfl) ?_
      refine Wl.call 903 rfl T.fn70 rfl (c70 _ _) (tags_of trivial) (fun v2 G2 Ho2 hle2 hp => ?_)
      obtain ⟨ad2, cd2, junk2, rfl, hoa2, rfl, rfl⟩ := hp
      refine Wl.q rfl (Qy.len T.sl23 rfl) ?_
      refine Wl.q rfl (Qy.move rfl) ?_
      refine Wl.done ?_
      refine Ar.next ?_
      refine Wc.block ?_
      rotate_left
      refine Wl.setO (z := _) 1 T.size4 rfl rfl rfl (by assumption) (by omega) rfl (fun ho1 => ?_)
      refine Wl.on0 ?_
      refine Gm.two 2 4 trivial (by first | exact Imm.le_refl _ | assumption) (by kernel_rfl) rfl rfl ?_ ?_
      refine Wl.q rfl (Qy.load 4 T.one64 rfl rfl rfl) ?_
      refine Wl.on0 ?_
      refine Gm.one 4 trivial (by first | exact Imm.le_refl _ | assumption) (by kernel_rfl) rfl ?_
      refine Wl.q rfl (Qy.load 902 T.one3 rfl rfl rfl) ?_
      refine Wl.on0 ?_
      refine Gm.q 7 [] (by kernel_rfl) rfl rfl (Qy.indexAddrO (α := Bool) T.sl64 rfl rfl (by assumption) (by omega)) ?_
      refine Gm.one 8 trivial (by first | exact Imm.le_refl _ | assumption) (by kernel_rfl) rfl ?_
      refine Wl.setO (z := _) 3 T.size4 rfl rfl rfl (by assumption) (by omega) rfl (fun ho2 => ?_)
      refine Wl.on0 ?_
      refine Gm.doneA (by kernel_rfl) trivial (by first | exact Imm.le_refl _ | assumption) ?_
      refine Ar.next ?_
      refine Wc.seq ?_
      refine Wc.region rfl ?_
      refine Wl.q rfl (Qy.loadAll 902 T.agg34 rfl rfl rfl) ?_
      refine Wl.call 903 rfl T.fn70 rfl (c70 _ _) (tags_of trivial) (fun v2 G2 Ho2 hle2 hp => ?_)
      obtain ⟨ad2, cd2, junk2, rfl, hoa2, rfl, rfl⟩ := hp
      refine Wl.q rfl (Qy.len T.sl23 rfl) ?_
      refine Wl.q rfl (Qy.move rfl) ?_
      refine Wl.done ?_
      refine Ar.next ?_
      refine Wc.block ?_
      rotate_left
      refine Wl.q rfl (Qy.load 902 T.one3 rfl rfl rfl) ?_
      refine Wl.on0 ?_
      refine Gm.one 2 trivial (by first | exact Imm.le_refl _ | assumption) (by kernel_rfl) rfl ?_
      refine Wl.q rfl (Qy.load 4 T.one64 rfl rfl rfl) ?_
      refine Wl.on0 ?_
      refine Gm.q 7 [] (by kernel_rfl) rfl rfl (Qy.indexAddrO (α := Bool) T.sl64 rfl rfl (by assumption) (by omega)) ?_
      refine Gm.one 8 trivial (by first | exact Imm.le_refl _ | assumption) (by kernel_rfl) rfl ?_
      refine Wl.setO (z := _) 3 T.size4 rfl rfl rfl (by assumption) (by omega) rfl (fun ho2 => ?_)
      refine Wl.on0 ?_
      refine Gm.doneA (by kernel_rfl) trivial (by first | exact Imm.le_refl _ | assumption) ?_
      refine Ar.next ?_
      refine Wc.seq ?_
      refine Wc.region rfl ?_
      refine Wl.q rfl (Qy.loadAll 902 T.agg34 rfl rfl rfl) ?_
      refine Wl.call 903 rfl T.fn70 rfl (c70 _ _) (tags_of trivial) (fun v2 G2 Ho2 hle2 hp => ?_)
      obtain ⟨ad2, cd2, junk2, rfl, hoa2, rfl, rfl⟩ := hp
      refine Wl.q rfl (Qy.len T.sl23 rfl) ?_
      refine Wl.q rfl (Qy.move rfl) ?_
      refine Wl.done ?_
      refine Ar.next ?_
      refine Wc.block ?_
      rotate_left
      · refine Ar.roundEnd none (.inl ⟨rfl, rfl⟩) 900 rfl ⟨rfl, ((A, O), none), rfl, .inl ⟨rfl, rfl, ?_⟩⟩ (Hp.got ⟨rfl, rfl, rfl, rfl, rfl, rfl, rfl, trivial⟩)
        refine ⟨?_, hoA, hoO⟩
        rw [hst]; unfold needStep
        rw [if_neg (by simpa using hc2)]
      all_goals
        have hoO' : OwnA (some ⟨b2, 0, none⟩) S0.length (O.set x.1.toNat true) [] := by assumption
        have hoA' : OwnA (some ⟨b4, 0, none⟩) R0.length (A.set x.2.to.toNat false) [] := by assumption
        refine Wc.reH 4 (.cells #[.slice (some ⟨b4, 0, none⟩) (A.set x.2.to.toNat false).length R0.length] 64) rfl (by rw [List.length_set]) (Wc.reH 2 (.cells #[.slice (some ⟨b2, 0, none⟩) (O.set x.1.toNat true).length S0.length] 64) rfl (by rw [List.length_set]) ?_)
        refine Wc.loop (ι := Nat × List Bool) (fun (m, B) => ([(53, .int .i64 (m : Int)), (52, Go.Value.int Go.IntKind.i64 (↑(List.length (Go.Proofs.Ytfleehgbpgmcnaa.asks (Prod.snd x))) : Int)), (51, Go.Value.slice ad2 (List.length (Go.Proofs.Ytfleehgbpgmcnaa.asks (Prod.snd x))) cd2), (5, Go.Value.pointer (Option.some (Go.Addr.mk b5 0 Option.none)))], [(4, some b5, .cells #[.slice (some ⟨b4, 0, none⟩) B.length R0.length] 64), (3, some b4, Row 4 B []), (2, Option.some b3, Go.Obj.cells #[Go.Value.slice (Option.some (Go.Addr.mk b2 0 Option.none)) (List.length (List.set O (Int.toNat (Prod.fst x)) Bool.true)) (List.length S0)] 64), (904, Option.map (fun x => Go.Addr.block x) ad2, Go.Sl.Row (α := Int) 3 (Go.Proofs.Ytfleehgbpgmcnaa.asks (Prod.snd x)) (junk2)), (1, Option.map (fun x => Go.Addr.block x) (Option.some (Go.Addr.mk b2 0 Option.none)), Go.Sl.Row (α := Bool) 4 (List.set O (Int.toNat (Prod.fst x)) Bool.true) ([])), (900, Option.some l, Go.Sl.lrec q Go.LoopState.busy Option.none), (902, Option.some b6, Go.Obj.cells (List.toArray (Go.Sl.Cells.enc (Prod.snd x))) 34), (901, Option.some dd, Go.Obj.deferred (Option.some [])), (0, Option.some b1, Go.Obj.cells #[Go.Value.int Go.IntKind.i64 (Go.Proofs.Ytfleehgbpgmcnaa.PV.ins p), Go.Value.int Go.IntKind.i64 (Go.Proofs.Ytfleehgbpgmcnaa.PV.regs p), Go.Value.slice ac (List.length (Go.Proofs.Ytfleehgbpgmcnaa.PV.code p)) cc, Go.Value.slice ao (List.length (Go.Proofs.Ytfleehgbpgmcnaa.PV.outs p)) co] 25)])) (fun (m, B) => m ≤ (asks x.2).length ∧ B = setAll (A.set x.2.to.toNat false) ((asks x.2).take m) ∧ OwnA (some ⟨b4, 0, none⟩) R0.length B []) (fun (m, B) => (asks x.2).length - m) ((0, A.set x.2.to.toNat false)) (⟨Nat.zero_le _, rfl, hoA'⟩) ⟨rfl, rfl, rfl, rfl, trivial⟩ ⟨rfl, rfl, rfl, rfl, rfl, rfl, rfl, rfl, rfl, trivial⟩ (fun ⟨m, B⟩ => fun (hk : m ≤ (asks x.2).length ∧ B = setAll (A.set x.2.to.toNat false) ((asks x.2).take m) ∧ OwnA (some ⟨b4, 0, none⟩) R0.length B []) => ?_)
        obtain ⟨hm1, hB, hoB⟩ := hk
        have hBl : B.length = A.length := by rw [hB, setAll_len, List.length_set]
        rcases Nat.lt_or_ge m (asks x.2).length with hlt | hge
        · have hr : 0 ≤ (asks x.2)[((m : Nat) : Int).toNat]?.getD default ∧ (asks x.2)[((m : Nat) : Int).toNat]?.getD default < B.length := by
            rw [hBl]; refine hask _ ?_
            rw [Int.toNat_natCast, List.getElem?_eq_getElem hlt]; simp
          refine Wc.seq ?_
          refine Wc.region rfl ?_
          refine Wl.q rfl (Qy.lss rfl rfl) ?_
          refine Wl.done ?_
          refine Ar.next ?_
          refine Wc.seq ?_
          refine Wc.condP rfl (by first | assumption | omega) ?_
          refine Wc.skip ?_
          refine Ar.next ?_
          refine Wc.seq ?_
          refine Wc.block ?_
          refine Wc.seq ?_
          refine Wc.region rfl ?_
          refine Wl.q rfl (Qy.indexAddrO (α := Int) T.sl23 rfl rfl (by assumption) (by omega)) ?_
          refine Wl.q rfl (Qy.loadO 904 0 T.one3 rfl rfl (by assumption) (by omega) rfl rfl) ?_
          refine Wl.q rfl (Qy.assign rfl) ?_
          refine Wl.done ?_
          refine Ar.next ?_
          refine Wc.region rfl ?_
          refine Wl.q rfl (Qy.load 4 T.one64 rfl rfl rfl) ?_
          refine Wl.q rfl (Qy.move rfl) ?_
          refine Wl.q rfl (Qy.indexAddrO (α := Bool) T.sl64 rfl rfl (by assumption) (by omega)) ?_
          refine Wl.setO (z := _) 3 T.size4 rfl rfl rfl (by assumption) (by omega) rfl (fun ho3 => ?_)
          refine Wl.done ?_
          refine Ar.outNormal ?_
          refine Ar.next ?_
          refine Wc.region rfl ?_
          refine Wl.q rfl (Qy.add rfl rfl (by omega)) ?_
          refine Wl.q rfl (Qy.move rfl) ?_
          refine Wl.done ?_
          refine Ar.reH 4 (.cells #[.slice (some ⟨b4, 0, none⟩) (B.set ((asks x.2)[((m : Nat) : Int).toNat]?.getD default).toNat true).length R0.length] 64) rfl (by rw [List.length_set]) ?_
          refine Ar.again ((m + 1, _)) ?_ ?_ rfl ⟨rfl, rfl, rfl, rfl, trivial⟩ ⟨rfl, rfl, rfl, rfl, rfl, rfl, rfl, rfl, rfl, trivial⟩
          · exact ⟨by omega, by rw [setAll_step _ _ hlt, hB], by assumption⟩
          · show (asks x.2).length - (m + 1) < (asks x.2).length - m
            omega
        · have hm : m = (asks x.2).length := by omega
          subst hm
          rw [List.take_length] at hB
          refine Wc.seq ?_
          refine Wc.region rfl ?_
          refine Wl.q rfl (Qy.lss rfl rfl) ?_
          refine Wl.done ?_
          refine Ar.next ?_
          refine Wc.seq ?_
          refine Wc.condN rfl (by first | assumption | omega) ?_
          refine Wc.exit ?_
          refine Ar.passExit ?_
          refine Ar.passExit ?_
          refine Ar.here ?_
          refine Ar.outNormal ?_
          refine Ar.roundEnd none (.inl ⟨rfl, rfl⟩) 900 rfl ⟨rfl, ((B, O.set x.1.toNat true), none), rfl, .inl ⟨rfl, rfl, ?_⟩⟩ (Hp.got ⟨rfl, rfl, rfl, rfl, rfl, rfl, rfl, trivial⟩)
          refine ⟨?_, hoB, hoO'⟩
          rw [hst]; unfold needStep
          rw [if_pos (by simpa using hc2), hB]
    · obtain ⟨hn, hoA, hoO⟩ := hi
      rw [backL_len] at hn
      have hO : O = neededP p := congrArg Prod.snd hn
      subst hO
      refine Ar.outNormal ?_
      refine Ar.next ?_
      refine Wc.seq ?_
      refine Wc.region rfl ?_
      refine Wl.q rfl (Qy.load 2 T.one64 rfl rfl rfl) ?_
      refine Wl.q rfl (Qy.assign rfl) ?_
      refine Wl.q rfl (Qy.assign rfl) ?_
      refine Wl.done ?_
      refine Ar.next ?_
      refine Wc.ret ?_
      refine Ar.collect (.inr rfl) 901 rfl ?_
      refine Ar.outOf (.inr rfl) ?_
      refine Ar.base (Ar.pick [1] (by decide) (Ar.out2 (.inr rfl) rfl (.tmp rfl) (.tmp rfl) (Hp.sub_self 0 _) ?_))
      exact ⟨_, _, _, rfl, hoO, rfl, rfl⟩
    · exact hi.elim
end Go.Proofs.Ytfleehgbpgmcnaa
set_option linter.unusedVariables false
namespace Go.Proofs.Ytfleehgbpgmcnaa
open Go Go.Sl
/-- a program's values: what each instruction asks and sets, the answers' values, until when each is asked, what each register holds -/
structure Life where
  a : List Int
  b : List Int
  sets : List Int
  outs : List Int
  till : List Int
  held : List Int
def cAt (p : PV) (k : Nat) : Sl.Instr := p.code[((k : Nat) : Int).toNat]?.getD default
def nAt (p : PV) (k : Nat) : Bool := (neededP p)[((k : Nat) : Int).toNat]?.getD default
def vA (l : Life) (i : Sl.Instr) : Int := l.held[i.a.toNat]?.getD default
def vB (l : Life) (i : Sl.Instr) : Int := if 1 < (asks i).length then l.held[i.b.toNat]?.getD default else vA l i
def lifeStep (l : Life) (k : Nat) (i : Sl.Instr) : Life :=
  ⟨l.a.set k (vA l i), l.b.set k (vB l i), l.sets.set k l.till.length, l.outs, ((l.till.set (vA l i).toNat k).set (vB l i).toNat k) ++ [-1], l.held.set i.to.toNat l.till.length⟩
def life0 (p : PV) : Life :=
  ⟨List.replicate p.code.length 0, List.replicate p.code.length 0, List.replicate p.code.length 0, [], List.replicate (p.ins.toNat + 1) (-1), (List.range p.regs.toNat).map fun (r : Nat) => min (r : Int) p.ins⟩
def lifeTo (p : PV) : Nat → Life
  | 0 => life0 p
  | k + 1 => if nAt p k = true then lifeStep (lifeTo p k) k (cAt p k) else lifeTo p k
def outStep (p : PV) (l : Life) (r : Int) : Life :=
  { l with outs := l.outs ++ [l.held[r.toNat]?.getD default], till := l.till.set (l.held[r.toNat]?.getD default).toNat p.code.length }
def outTo (p : PV) : Nat → Life
  | 0 => lifeTo p p.code.length
  | j + 1 => outStep p (outTo p j) (p.outs[((j : Nat) : Int).toNat]?.getD default)
def lifeP (p : PV) : Life := outTo p p.outs.length
/-- in bounds -/
structure LifeOk (p : PV) (k : Nat) (l : Life) : Prop where
  al : l.a.length = p.code.length
  bl : l.b.length = p.code.length
  sl : l.sets.length = p.code.length
  hl : (l.held.length : Int) = p.regs
  t0 : p.ins + 1 ≤ l.till.length
  t1 : (l.till.length : Int) ≤ p.ins + 1 + k
  hb : ∀ v ∈ l.held, 0 ≤ v ∧ v < l.till.length
  ab : ∀ v ∈ l.a, 0 ≤ v ∧ v < l.till.length
  bb : ∀ v ∈ l.b, 0 ≤ v ∧ v < l.till.length
  sb : ∀ v ∈ l.sets, 0 ≤ v ∧ v < l.till.length
  ob : ∀ v ∈ l.outs, 0 ≤ v ∧ v < l.till.length
theorem vA_ok {p : PV} {k : Nat} {l : Life} {i : Sl.Instr} (h : LifeOk p k l) (hm : mayOk i p.regs = true) : 0 ≤ vA l i ∧ vA l i < l.till.length := by
  have h1 := (may_facts hm).2.2.1
  exact h.hb _ (get_mem (by rw [h.hl]; exact h1))
theorem two_op {i : Sl.Instr} (h : 1 < (asks i).length) : i.op = 3 ∨ i.op = 4 := by
  unfold asks at h
  split at h
  · assumption
  · split at h <;> simp at h
theorem two_iff (i : Sl.Instr) : 1 < (asks i).length ↔ i.op = 3 ∨ i.op = 4 := ⟨two_op, fun h => by unfold asks; rw [if_pos h]; simp⟩
theorem vB_ok {p : PV} {k : Nat} {l : Life} {i : Sl.Instr} (h : LifeOk p k l) (hm : mayOk i p.regs = true) : 0 ≤ vB l i ∧ vB l i < l.till.length := by
  unfold vB
  split
  · rename_i h2
    have h1 := (may_facts hm).2.2.2.1 (two_op h2)
    exact h.hb _ (get_mem (by rw [h.hl]; exact h1))
  · exact vA_ok h hm
theorem life0_ok {p : PV} (h : 1 ≤ p.ins ∧ p.ins ≤ p.regs) : LifeOk p 0 (life0 p) := by
  have ht : (life0 p).till.length = p.ins.toNat + 1 := List.length_replicate
  refine ⟨List.length_replicate, List.length_replicate, List.length_replicate, ?_, by rw [ht]; omega, by rw [ht]; omega, ?_, ?_, ?_, ?_, ?_⟩
  · show (((List.range p.regs.toNat).map _).length : Int) = p.regs
    rw [List.length_map, List.length_range]; omega
  · intro v hv
    obtain ⟨r, hr, rfl⟩ := List.mem_map.1 (show v ∈ (List.range p.regs.toNat).map _ from hv)
    rw [ht]; omega
  all_goals intro v hv
  · rw [List.eq_of_mem_replicate (show v ∈ List.replicate _ _ from hv), ht]; omega
  · rw [List.eq_of_mem_replicate (show v ∈ List.replicate _ _ from hv), ht]; omega
  · rw [List.eq_of_mem_replicate (show v ∈ List.replicate _ _ from hv), ht]; omega
  · cases hv
theorem step_till_len (l : Life) (k : Nat) (i : Sl.Instr) : (lifeStep l k i).till.length = l.till.length + 1 := by
  show (((l.till.set _ _).set _ _) ++ [-1]).length = _
  rw [List.length_append, List.length_set, List.length_set]; rfl
theorem lifeStep_ok {p : PV} {k : Nat} {l : Life} {i : Sl.Instr} (h : LifeOk p k l) (hm : mayOk i p.regs = true) : LifeOk p (k + 1) (lifeStep l k i) := by
  have ha := vA_ok h hm
  have hb := vB_ok h hm
  have ht := step_till_len l k i
  have h0 := h.t0
  have h1 := h.t1
  refine ⟨by show (l.a.set _ _).length = _; rw [List.length_set]; exact h.al, by show (l.b.set _ _).length = _; rw [List.length_set]; exact h.bl, by show (l.sets.set _ _).length = _; rw [List.length_set]; exact h.sl, by show ((l.held.set _ _).length : Int) = _; rw [List.length_set]; exact h.hl, by rw [ht]; omega, by rw [ht]; omega, ?_, ?_, ?_, ?_, ?_⟩
  all_goals intro v hv; rw [ht]
  · rcases List.mem_or_eq_of_mem_set (show v ∈ l.held.set _ _ from hv) with h2 | h2
    · have := h.hb v h2; omega
    · omega
  · rcases List.mem_or_eq_of_mem_set (show v ∈ l.a.set _ _ from hv) with h2 | h2
    · have := h.ab v h2; omega
    · omega
  · rcases List.mem_or_eq_of_mem_set (show v ∈ l.b.set _ _ from hv) with h2 | h2
    · have := h.bb v h2; omega
    · omega
  · rcases List.mem_or_eq_of_mem_set (show v ∈ l.sets.set _ _ from hv) with h2 | h2
    · have := h.sb v h2; omega
    · omega
  · have := h.ob v hv; omega
theorem LifeOk.next {p : PV} {k : Nat} {l : Life} (h : LifeOk p k l) : LifeOk p (k + 1) l := ⟨h.al, h.bl, h.sl, h.hl, h.t0, by have := h.t1; omega, h.hb, h.ab, h.bb, h.sb, h.ob⟩
theorem code_may {p : PV} (hR : rightP p = true) {k : Nat} (hk : k < p.code.length) : mayOk (cAt p k) p.regs = true := by
  refine (right_facts hR).2.2.2.2.2.2.2 _ ?_
  unfold cAt
  rw [Int.toNat_natCast, List.getElem?_eq_getElem hk]; exact List.getElem_mem hk
theorem lifeTo_ok {p : PV} (hR : rightP p = true) : ∀ k, k ≤ p.code.length → LifeOk p k (lifeTo p k)
  | 0, _ => life0_ok ⟨(right_facts hR).1, (right_facts hR).2.1⟩
  | k + 1, hk => by
    have ih := lifeTo_ok hR k (by omega)
    unfold lifeTo
    split
    · exact lifeStep_ok ih (code_may hR (by omega))
    · exact ih.next
theorem outStep_ok {p : PV} {k : Nat} {l : Life} {r : Int} (h : LifeOk p k l) (hr : 0 ≤ r ∧ r < p.regs) : LifeOk p k (outStep p l r) := by
  have ht : (outStep p l r).till.length = l.till.length := List.length_set
  have hv := h.hb _ (get_mem (r := r) (by rw [h.hl]; exact hr))
  refine ⟨h.al, h.bl, h.sl, h.hl, by rw [ht]; exact h.t0, by rw [ht]; exact h.t1, ?_, ?_, ?_, ?_, ?_⟩
  all_goals intro v hv2; rw [ht]
  · exact h.hb v hv2
  · exact h.ab v hv2
  · exact h.bb v hv2
  · exact h.sb v hv2
  · rcases List.mem_append.1 (show v ∈ l.outs ++ [_] from hv2) with h2 | h2
    · exact h.ob v h2
    · rw [List.mem_singleton.1 h2]; exact hv
theorem out_may {p : PV} (hR : rightP p = true) {j : Nat} (hj : j < p.outs.length) : 0 ≤ p.outs[((j : Nat) : Int).toNat]?.getD default ∧ p.outs[((j : Nat) : Int).toNat]?.getD default < p.regs := by
  refine (right_facts hR).2.2.2.2.2.2.1 _ ?_
  rw [Int.toNat_natCast, List.getElem?_eq_getElem hj]; exact List.getElem_mem hj
theorem outTo_ok {p : PV} (hR : rightP p = true) : ∀ j, j ≤ p.outs.length → LifeOk p p.code.length (outTo p j)
  | 0, _ => lifeTo_ok hR _ (Nat.le_refl _)
  | j + 1, hj => outStep_ok (outTo_ok hR j (by omega)) (out_may hR (by omega))
theorem lifeP_ok {p : PV} (hR : rightP p = true) : LifeOk p p.code.length (lifeP p) := outTo_ok hR _ (Nat.le_refl _)
theorem outTo_len (p : PV) : ∀ j, (outTo p j).outs.length = (lifeTo p p.code.length).outs.length + j
  | 0 => rfl
  | j + 1 => by show (_ ++ [_]).length = _; rw [List.length_append, outTo_len p j]; rfl
theorem lifeTo_outs (p : PV) : ∀ k, (lifeTo p k).outs = []
  | 0 => rfl
  | k + 1 => by
    unfold lifeTo
    split
    · exact lifeTo_outs p k
    · exact lifeTo_outs p k
theorem lifeP_outs (p : PV) : (lifeP p).outs.length = p.outs.length := by unfold lifeP; rw [outTo_len, lifeTo_outs]; exact Nat.zero_add _
/-- where values stand -/
structure Pl where
  at_ : List (Int × Int)
  free : List Bool
def stand (s : Pl) (v : Int) : Int := (mget s.at_ v).getD 0
def layP (s : Pl) (v u : Int) : Pl := ⟨mput s.at_ v s.free.length, s.free ++ [decide (u < 0)]⟩
/-- the least free register -/
def least (l : List Bool) : Nat := l.findIdx (fun b => b)
def giveP (s : Pl) (v : Int) : Pl := ⟨mput s.at_ v (least s.free), if least s.free < s.free.length then s.free.set (least s.free) false else s.free ++ [false]⟩
def freeAt (l : Life) (k : Nat) (s : Pl) (v : Int) : Pl := if l.till[v.toNat]?.getD default = k then ⟨s.at_, s.free.set (stand s v).toNat true⟩ else s
def layTo (l : Life) : Nat → Pl
  | 0 => ⟨[], []⟩
  | v + 1 => layP (layTo l v) v (l.till[((v : Nat) : Int).toNat]?.getD default)
def lay0 (p : PV) (l : Life) : Pl := if 0 ≤ l.till[p.ins.toNat]?.getD default then layP (layTo l p.ins.toNat) p.ins (l.till[p.ins.toNat]?.getD default) else layTo l p.ins.toNat
structure PkS where
  s : Pl
  regs : Int
  code : List Sl.Instr
def pkStep (l : Life) (x : PkS) (k : Nat) (i : Sl.Instr) : PkS :=
  let va := l.a[((k : Nat) : Int).toNat]?.getD default
  let vb := l.b[((k : Nat) : Int).toNat]?.getD default
  let s2 := freeAt l k (freeAt l k x.s va) vb
  ⟨giveP s2 (l.sets[((k : Nat) : Int).toNat]?.getD default), max x.regs ((least s2.free : Int) + 1), x.code ++ [⟨i.op, least s2.free, stand x.s va, if 1 < (asks i).length then stand x.s vb else i.b, i.c⟩]⟩
def pkTo (p : PV) : Nat → PkS
  | 0 => ⟨lay0 p (lifeP p), max p.ins (lay0 p (lifeP p)).free.length, []⟩
  | k + 1 => if nAt p k = true then pkStep (lifeP p) (pkTo p k) k (cAt p k) else pkTo p k
def orderP (p : PV) : PV := ⟨p.ins, (pkTo p p.code.length).regs, (pkTo p p.code.length).code, (lifeP p).outs.map (stand (pkTo p p.code.length).s)⟩
/-- in bounds -/
structure PlOk (s : Pl) : Prop where
  f0 : 0 < s.free.length
  ab : ∀ v, 0 ≤ stand s v ∧ stand s v < s.free.length
theorem stand_put (s : Pl) (v w r : Int) (f : List Bool) : stand ⟨mput s.at_ v r, f⟩ w = if w = v then r else stand s w := by
  unfold stand
  rw [mget_mput]
  split <;> rfl
theorem least_le (l : List Bool) : least l ≤ l.length := List.findIdx_le_length
theorem lay_ok' {s : Pl} (h : ∀ v, 0 ≤ stand s v ∧ stand s v ≤ s.free.length) (v u : Int) : PlOk (layP s v u) := by
  have hl : (layP s v u).free.length = s.free.length + 1 := by show (s.free ++ [_]).length = _; rw [List.length_append]; rfl
  refine ⟨by omega, fun w => ?_⟩
  have h1 : stand (layP s v u) w = if w = v then (s.free.length : Int) else stand s w := stand_put s v w _ _
  have h2 := h w
  rw [h1, hl]
  split <;> omega
theorem PlOk.le {s : Pl} (h : PlOk s) (v : Int) : 0 ≤ stand s v ∧ stand s v ≤ s.free.length := by have := h.ab v; omega
theorem layTo_ok (l : Life) : ∀ n, PlOk (layTo l (n + 1)) ∧ (layTo l (n + 1)).free.length = n + 1
  | 0 => ⟨lay_ok' (s := ⟨[], []⟩) (fun v => ⟨Int.le_refl _, Int.le_refl _⟩) _ _, rfl⟩
  | n + 1 => by
    obtain ⟨h1, h2⟩ := layTo_ok l n
    exact ⟨lay_ok' h1.le _ _, by show ((layTo l (n + 1)).free ++ [_]).length = _; rw [List.length_append, h2]; rfl⟩
theorem layTo_len (l : Life) : ∀ n, (layTo l n).free.length = n
  | 0 => rfl
  | n + 1 => (layTo_ok l n).2
theorem lay0_ok {p : PV} (h : 1 ≤ p.ins) (l : Life) : PlOk (lay0 p l) ∧ p.ins ≤ (lay0 p l).free.length ∧ ((lay0 p l).free.length : Int) ≤ p.ins + 1 := by
  obtain ⟨n, hn⟩ : ∃ n, p.ins.toNat = n + 1 := ⟨p.ins.toNat - 1, by omega⟩
  have h1 := (layTo_ok l n).1
  have h2 := layTo_len l p.ins.toNat
  unfold lay0
  split
  · refine ⟨lay_ok' (by rw [hn]; exact h1.le) _ _, ?_⟩
    show p.ins ≤ (((layTo l p.ins.toNat).free ++ [_]).length : Int) ∧ (((layTo l p.ins.toNat).free ++ [_]).length : Int) ≤ _
    rw [List.length_append, h2]
    constructor
    · show p.ins ≤ ((p.ins.toNat + 1 : Nat) : Int); omega
    · show ((p.ins.toNat + 1 : Nat) : Int) ≤ _; omega
  · rw [hn]; exact ⟨h1, by rw [layTo_len]; omega, by rw [layTo_len]; omega⟩
theorem freeAt_len (l : Life) (k : Nat) (s : Pl) (v : Int) : (freeAt l k s v).free.length = s.free.length := by
  unfold freeAt; split
  · exact List.length_set
  · rfl
theorem freeAt_at (l : Life) (k : Nat) (s : Pl) (v : Int) : (freeAt l k s v).at_ = s.at_ := by
  unfold freeAt; split <;> rfl
theorem freeAt_stand (l : Life) (k : Nat) (s : Pl) (v w : Int) : stand (freeAt l k s v) w = stand s w := by
  unfold stand; rw [freeAt_at]
theorem freeAt_ok {l : Life} {k : Nat} {s : Pl} {v : Int} (h : PlOk s) : PlOk (freeAt l k s v) := ⟨by rw [freeAt_len]; exact h.f0, fun w => by rw [freeAt_stand, freeAt_len]; exact h.ab w⟩
theorem give_len (s : Pl) (v : Int) : (giveP s v).free.length = if least s.free < s.free.length then s.free.length else s.free.length + 1 := by
  unfold giveP
  simp only
  split
  · exact List.length_set
  · rw [List.length_append]; rfl
theorem give_stand (s : Pl) (v w : Int) : stand (giveP s v) w = if w = v then (least s.free : Int) else stand s w := stand_put s v w _ _
theorem give_ok {s : Pl} (h : PlOk s) (v : Int) : PlOk (giveP s v) := by
  have h1 := least_le s.free
  have h0 := h.f0
  refine ⟨by rw [give_len]; split <;> omega, fun w => ?_⟩
  have h2 := h.ab w
  rw [give_stand, give_len]
  split <;> split <;> omega
theorem pkTo_ok {p : PV} (h : 1 ≤ p.ins) : ∀ k, PlOk (pkTo p k).s
  | 0 => (lay0_ok h _).1
  | k + 1 => by
    have ih := pkTo_ok h k
    unfold pkTo
    split
    · exact give_ok (freeAt_ok (freeAt_ok ih)) _
    · exact ih
theorem pkTo_len {p : PV} (h : 1 ≤ p.ins) : ∀ k, ((pkTo p k).s.free.length : Int) ≤ p.ins + 1 + k ∧ (pkTo p k).code.length ≤ k
  | 0 => ⟨by show ((lay0 p (lifeP p)).free.length : Int) ≤ _; have := (lay0_ok h (lifeP p)).2.2; omega, Nat.le_refl _⟩
  | k + 1 => by
    obtain ⟨h1, h2⟩ := pkTo_len h k
    unfold pkTo
    split
    · refine ⟨?_, by show ((pkTo p k).code ++ [_]).length ≤ _; rw [List.length_append]; show _ + 1 ≤ _; omega⟩
      show ((giveP _ _).free.length : Int) ≤ _
      rw [give_len, freeAt_len, freeAt_len]
      split <;> omega
    · omega
end Go.Proofs.Ytfleehgbpgmcnaa
namespace Go.Proofs.Ytfleehgbpgmcnaa
open Go Go.Sl
set_option linter.unusedVariables false
/-- is a register asked ahead of these instructions, each of which counts or not? -/
def asksFrom (outs : List Int) (r : Int) : List (Sl.Instr × Bool) → Bool
  | [] => decide (r ∈ outs)
  | (i, b) :: l => (b && decide (r ∈ asks i)) || (!decide (i.to = r) && asksFrom outs r l)
theorem setAll_get : ∀ (rs : List Int) (l : List Bool) (k : Nat), k < l.length → (∀ r ∈ rs, 0 ≤ r) → (setAll l rs)[k]?.getD default = (l[k]?.getD default || decide ((k : Int) ∈ rs))
  | [], l, k, hk, _ => by simp [setAll]
  | r :: rs, l, k, hk, hr => by
    have ih := setAll_get rs (l.set r.toNat true) k (by simpa using hk) (fun x hx => hr x (by simp [hx]))
    have e : setAll l (r :: rs) = setAll (l.set r.toNat true) rs := rfl
    rw [e, ih, List.getElem?_set]
    have h0 := hr r (by simp)
    by_cases h : r.toNat = k
    · have h1 : (k : Int) = r := by omega
      have h2 : (k : Int) ∈ r :: rs := by rw [h1]; simp
      rw [if_pos h, if_pos (by omega), decide_eq_true h2]
      simp
    · have h1 : (k : Int) ≠ r := by omega
      rw [if_neg h]
      simp [h1]
theorem asks_pos {i : Sl.Instr} {regs : Int} (h : mayOk i regs = true) : ∀ r ∈ asks i, 0 ≤ r := fun r hr => (asks_in h r hr).1
/-- one step from behind -/
theorem step_get {A : List Bool} {i : Sl.Instr} {regs : Int} (hA : (A.length : Int) = regs) (hm : mayOk i regs = true) {r : Int} (hr : 0 ≤ r ∧ r < regs) :
    (setAll (A.set i.to.toNat false) (asks i))[r.toNat]?.getD default = (decide (r ∈ asks i) || (!decide (i.to = r) && A[r.toNat]?.getD default)) := by
  have hto : 0 ≤ i.to ∧ i.to < regs := by rw [mayOk_iff] at hm; exact ⟨hm.1.2.2.1, hm.1.2.2.2.1⟩
  rw [setAll_get _ _ _ (by rw [List.length_set]; omega) (asks_pos hm), List.getElem?_set]
  have e1 : ((r.toNat : Nat) : Int) = r := by omega
  rw [e1]
  by_cases h : i.to = r
  · subst h
    rw [if_pos rfl, if_pos (by omega)]
    simp
  · rw [if_neg (by omega)]
    simp [h, Bool.or_comm]
theorem start_get {regs : Int} (h0 : 0 ≤ regs) {outs : List Int} (ho : ∀ r ∈ outs, 0 ≤ r ∧ r < regs) {r : Int} (hr : 0 ≤ r ∧ r < regs) : (setAll (List.replicate regs.toNat false) outs)[r.toNat]?.getD default = decide (r ∈ outs) := by
  rw [setAll_get _ _ _ (by simp; omega) (fun x hx => (ho x hx).1)]
  have e1 : ((r.toNat : Nat) : Int) = r := by omega
  rw [e1]
  have : (List.replicate regs.toNat false)[r.toNat]?.getD default = false := by
    rw [List.getElem?_replicate]; split <;> rfl
  rw [this, Bool.false_or]
theorem nf_get {p : PV} (h0 : 0 ≤ p.regs) (ho : ∀ r ∈ p.outs, 0 ≤ r ∧ r < p.regs) : ∀ (l : List Sl.Instr), (∀ i ∈ l, mayOk i p.regs = true) → ∀ r, 0 ≤ r ∧ r < p.regs → (nf p l).1[r.toNat]?.getD default = asksFrom p.outs r (l.zip (nf p l).2)
  | [], _, r, hr => by simpa [nf, asksFrom] using start_get h0 ho hr
  | i :: l, hl, r, hr => by
    have ih := nf_get h0 ho l (fun j hj => hl j (by simp [hj]))
    have hm := hl i (by simp)
    have hto : 0 ≤ i.to ∧ i.to < p.regs := by rw [mayOk_iff] at hm; exact ⟨hm.1.2.2.1, hm.1.2.2.2.1⟩
    have hlen : ((nf p l).1.length : Int) = p.regs := by rw [(nf_len p l).1]; omega
    by_cases h : (nf p l).1[i.to.toNat]?.getD default = true
    · have e : nf p (i :: l) = (setAll ((nf p l).1.set i.to.toNat false) (asks i), true :: (nf p l).2) := by simp only [nf]; rw [if_pos h]
      rw [e, step_get hlen hm hr, ih r hr]
      simp [asksFrom]
    · have e : nf p (i :: l) = ((nf p l).1, false :: (nf p l).2) := by simp only [nf]; rw [if_neg h]
      rw [e]
      show (nf p l).1[r.toNat]?.getD default = asksFrom p.outs r ((i, false) :: l.zip (nf p l).2)
      simp only [asksFrom, Bool.false_and, Bool.false_or]
      by_cases ht : i.to = r
      · subst ht
        simpa using h
      · rw [ih r hr]; simp [ht]
/-- the marks by what stands behind each -/
def rf (p : PV) : List Sl.Instr → List Bool
  | [] => []
  | i :: l => asksFrom p.outs i.to (l.zip (rf p l)) :: rf p l
theorem rf_len (p : PV) (l : List Sl.Instr) : (rf p l).length = l.length := by
  induction l with
  | nil => rfl
  | cons i l ih => simp [rf, ih]
theorem rf_nf {p : PV} (h0 : 0 ≤ p.regs) (ho : ∀ r ∈ p.outs, 0 ≤ r ∧ r < p.regs) : ∀ (l : List Sl.Instr), (∀ i ∈ l, mayOk i p.regs = true) → rf p l = (nf p l).2
  | [], _ => by simp [rf, nf]
  | i :: l, hl => by
    have ih := rf_nf h0 ho l (fun j hj => hl j (by simp [hj]))
    have hm := hl i (by simp)
    have hto : 0 ≤ i.to ∧ i.to < p.regs := by rw [mayOk_iff] at hm; exact ⟨hm.1.2.2.1, hm.1.2.2.2.1⟩
    have hg := nf_get h0 ho l (fun j hj => hl j (by simp [hj])) i.to hto
    simp only [rf]
    rw [ih, ← hg]
    by_cases h : (nf p l).1[i.to.toNat]?.getD default = true
    · have e : nf p (i :: l) = (setAll ((nf p l).1.set i.to.toNat false) (asks i), true :: (nf p l).2) := by simp only [nf]; rw [if_pos h]
      rw [e, h]
    · have e : nf p (i :: l) = ((nf p l).1, false :: (nf p l).2) := by simp only [nf]; rw [if_neg h]
      have h' : (nf p l).1[i.to.toNat]?.getD default = false := by simpa using h
      rw [e, h']
theorem needed_rf {p : PV} (h : rightP p = true) : neededP p = rf p p.code := by
  obtain ⟨r1, r2, r3, r4, r5, r6, r7, r8⟩ := right_facts h
  rw [needed_nf, rf_nf (by omega) r7 p.code r8]
theorem rf_drop (p : PV) : ∀ (l : List Sl.Instr) (m : Nat), (rf p l).drop m = rf p (l.drop m)
  | [], m => by simp [rf]
  | i :: l, 0 => by simp
  | i :: l, m + 1 => by
    show (_ :: rf p l).drop (m + 1) = rf p ((i :: l).drop (m + 1))
    rw [List.drop_succ_cons, List.drop_succ_cons]
    exact rf_drop p l m
/-- asked from an instruction on -/
def fromAt (p : PV) (r : Int) (j : Nat) : Bool := asksFrom p.outs r ((p.code.drop j).zip (rf p (p.code.drop j)))
theorem fromAt_end (p : PV) (r : Int) {j : Nat} (h : p.code.length ≤ j) : fromAt p r j = decide (r ∈ p.outs) := by
  unfold fromAt; rw [List.drop_eq_nil_of_le h]; rfl
theorem rf_at (p : PV) {j : Nat} (h : j < p.code.length) : rf p (p.code.drop j) = fromAt p (p.code[j]?.getD default).to (j + 1) :: rf p (p.code.drop (j + 1)) := by
  rw [List.drop_eq_getElem_cons h, List.getElem?_eq_getElem h, Option.getD_some]; rfl
theorem fromAt_step (p : PV) (r : Int) {j : Nat} (h : j < p.code.length) : fromAt p r j = ((fromAt p (p.code[j]?.getD default).to (j + 1) && decide (r ∈ asks (p.code[j]?.getD default))) || (!decide ((p.code[j]?.getD default).to = r) && fromAt p r (j + 1))) := by
  have h1 := rf_at p h
  unfold fromAt
  rw [h1, List.drop_eq_getElem_cons h, List.zip_cons_cons, List.getElem?_eq_getElem h, Option.getD_some]
  rfl
end Go.Proofs.Ytfleehgbpgmcnaa
set_option linter.unusedVariables false
namespace Go.Proofs.Ytfleehgbpgmcnaa
open Go Go.Sl
def heldAt (p : PV) (k : Nat) (r : Int) : Int := (lifeTo p k).held[r.toNat]?.getD default
def vlen (p : PV) (k : Nat) : Nat := (lifeTo p k).till.length
def tl (l : Life) (v : Int) : Int := l.till[v.toNat]?.getD default
def dueA (p : PV) (k : Nat) : Int := vA (lifeTo p k) (cAt p k)
def dueB (p : PV) (k : Nat) : Int := vB (lifeTo p k) (cAt p k)
theorem life_yes {p : PV} {k : Nat} (h : nAt p k = true) : lifeTo p (k + 1) = lifeStep (lifeTo p k) k (cAt p k) := if_pos h
theorem life_no {p : PV} {k : Nat} (h : ¬ nAt p k = true) : lifeTo p (k + 1) = lifeTo p k := if_neg h
theorem vlen_yes {p : PV} {k : Nat} (h : nAt p k = true) : vlen p (k + 1) = vlen p k + 1 := by unfold vlen; rw [life_yes h]; exact step_till_len _ _ _
theorem vlen_no {p : PV} {k : Nat} (h : ¬ nAt p k = true) : vlen p (k + 1) = vlen p k := by unfold vlen; rw [life_no h]
theorem vlen_mono (p : PV) {k j : Nat} (h : k ≤ j) : vlen p k ≤ vlen p j := by
  induction j with
  | zero => rw [Nat.le_zero.1 h]; exact Nat.le_refl _
  | succ j ih =>
    by_cases hk : k = j + 1
    · rw [hk]; exact Nat.le_refl _
    · have h1 := ih (by omega)
      by_cases hn : nAt p j = true
      · rw [vlen_yes hn]; omega
      · rw [vlen_no hn]; exact h1
theorem held_yes {p : PV} (hR : rightP p = true) {k : Nat} (hk : k < p.code.length) (h : nAt p k = true) {r : Int} (hr : 0 ≤ r ∧ r < p.regs) : heldAt p (k + 1) r = if (cAt p k).to = r then (vlen p k : Int) else heldAt p k r := by
  unfold heldAt
  rw [life_yes h]
  have hl := (lifeTo_ok hR k (by omega)).hl
  have ht := (may_facts (code_may hR hk)).2.1
  show ((lifeTo p k).held.set (cAt p k).to.toNat _)[r.toNat]?.getD default = _
  rw [ints_get_set (by rw [hl]; exact hr), Int.toNat_of_nonneg ht.1]
  rfl
theorem held_no {p : PV} {k : Nat} (h : ¬ nAt p k = true) (r : Int) : heldAt p (k + 1) r = heldAt p k r := by unfold heldAt; rw [life_no h]
theorem held_in {p : PV} (hR : rightP p = true) {k : Nat} (hk : k ≤ p.code.length) {r : Int} (hr : 0 ≤ r ∧ r < p.regs) : 0 ≤ heldAt p k r ∧ heldAt p k r < vlen p k := by
  have ok := lifeTo_ok hR k hk
  exact ok.hb _ (get_mem (by rw [ok.hl]; exact hr))
theorem held_back {p : PV} (hR : rightP p = true) {r : Int} (hr : 0 ≤ r ∧ r < p.regs) {k : Nat} : ∀ (j : Nat), k ≤ j → j ≤ p.code.length → heldAt p j r < vlen p k → heldAt p k r = heldAt p j r
  | 0, h, _, _ => by rw [Nat.le_zero.1 h]
  | j + 1, h, hj, hv => by
    by_cases hk : k = j + 1
    · rw [hk]
    · have hm := vlen_mono p (show k ≤ j by omega)
      by_cases hn : nAt p j = true
      · have e := held_yes hR (by omega) hn hr
        by_cases ht : (cAt p j).to = r
        · rw [if_pos ht] at e; rw [e] at hv; omega
        · rw [if_neg ht] at e
          rw [e] at hv ⊢
          exact held_back hR hr j (by omega) (by omega) hv
      · rw [held_no hn] at hv ⊢
        exact held_back hR hr j (by omega) (by omega) hv
theorem due_in {p : PV} (hR : rightP p = true) {k : Nat} (hk : k < p.code.length) : (0 ≤ dueA p k ∧ dueA p k < vlen p k) ∧ (0 ≤ dueB p k ∧ dueB p k < vlen p k) :=
  ⟨vA_ok (lifeTo_ok hR k (by omega)) (code_may hR hk), vB_ok (lifeTo_ok hR k (by omega)) (code_may hR hk)⟩
theorem due_held {p : PV} (hR : rightP p = true) {k : Nat} (hk : k < p.code.length) : (∃ r, (0 ≤ r ∧ r < p.regs) ∧ heldAt p k r = dueA p k) ∧ (∃ r, (0 ≤ r ∧ r < p.regs) ∧ heldAt p k r = dueB p k) := by
  have hm := may_facts (code_may hR hk)
  have h1 : ∃ r, (0 ≤ r ∧ r < p.regs) ∧ heldAt p k r = dueA p k := ⟨(cAt p k).a, hm.2.2.1, rfl⟩
  refine ⟨h1, ?_⟩
  by_cases h2 : 1 < (asks (cAt p k)).length
  · exact ⟨(cAt p k).b, hm.2.2.2.1 (two_op h2), (if_pos h2).symm⟩
  · obtain ⟨r, hr, e⟩ := h1
    exact ⟨r, hr, e.trans (if_neg h2).symm⟩
/-- until when a value is asked, as far as k -/
theorem tl_step {p : PV} (hR : rightP p = true) {k : Nat} (hk : k < p.code.length) (h : nAt p k = true) {v : Int} (hv : 0 ≤ v ∧ v < vlen p k) :
    tl (lifeTo p (k + 1)) v = if v = dueA p k ∨ v = dueB p k then (k : Int) else tl (lifeTo p k) v := by
  obtain ⟨⟨ha0, ha1⟩, hb0, hb1⟩ := due_in hR hk
  unfold tl
  rw [life_yes h]
  show ((((lifeTo p k).till.set (dueA p k).toNat (k : Int)).set (dueB p k).toNat (k : Int)) ++ [-1])[v.toNat]?.getD default = _
  have hv1 : v.toNat < (lifeTo p k).till.length := by have := hv.2; unfold vlen at this; omega
  rw [List.getElem?_append_left (by rw [List.length_set, List.length_set]; exact hv1)]
  unfold vlen at hb1 ha1 hv
  rw [ints_get_set (by rw [List.length_set]; exact hv), ints_get_set hv, Int.toNat_of_nonneg ha0, Int.toNat_of_nonneg hb0]
  by_cases e1 : dueB p k = v
  · rw [if_pos e1, if_pos (.inr e1.symm)]
  · rw [if_neg e1]
    by_cases e2 : dueA p k = v
    · rw [if_pos e2, if_pos (.inl e2.symm)]
    · rw [if_neg e2, if_neg (by rintro (h | h) <;> first | exact e2 h.symm | exact e1 h.symm)]
theorem tl_new {p : PV} {k : Nat} (h : nAt p k = true) : tl (lifeTo p (k + 1)) (vlen p k) = -1 := by
  unfold tl vlen
  rw [life_yes h]
  show ((((lifeTo p k).till.set _ _).set _ _) ++ [-1])[((((lifeTo p k).till.length : Nat)) : Int).toNat]?.getD default = _
  rw [Int.toNat_natCast, List.getElem?_append_right (by rw [List.length_set, List.length_set]; exact Nat.le_refl _), List.length_set, List.length_set, Nat.sub_self]
  rfl
/-- who asks last -/
def Asked (p : PV) (t : Nat) (v : Int) : Prop := nAt p t = true ∧ (v = dueA p t ∨ v = dueB p t)
theorem tl_said {p : PV} (hR : rightP p = true) : ∀ (k : Nat), k ≤ p.code.length → ∀ v : Int, 0 ≤ v ∧ v < vlen p k → tl (lifeTo p k) v = -1 ∨ ∃ t : Nat, t < k ∧ tl (lifeTo p k) v = t ∧ Asked p t v
  | 0, _, v, hv => by
    left
    show (List.replicate (p.ins.toNat + 1) (-1 : Int))[v.toNat]?.getD default = -1
    have : vlen p 0 = p.ins.toNat + 1 := List.length_replicate
    rw [List.getElem?_replicate, if_pos (by omega)]; rfl
  | k + 1, hk, v, hv => by
    by_cases hn : nAt p k = true
    · rw [vlen_yes hn] at hv
      by_cases hl : v < vlen p k
      · rw [tl_step hR (by omega) hn ⟨hv.1, hl⟩]
        by_cases hd : v = dueA p k ∨ v = dueB p k
        · rw [if_pos hd]; exact .inr ⟨k, by omega, rfl, hn, hd⟩
        · rw [if_neg hd]
          rcases tl_said hR k (by omega) v ⟨hv.1, hl⟩ with h | ⟨t, h1, h2, h3⟩
          · exact .inl h
          · exact .inr ⟨t, by omega, h2, h3⟩
      · have : v = vlen p k := by omega
        rw [this]; exact .inl (tl_new hn)
    · rw [vlen_no hn] at hv
      rw [life_no hn]
      rcases tl_said hR k (by omega) v hv with h | ⟨t, h1, h2, h3⟩
      · exact .inl h
      · exact .inr ⟨t, by omega, h2, h3⟩
theorem tl_grow {p : PV} (hR : rightP p = true) {k : Nat} {v : Int} (hv : 0 ≤ v ∧ v < vlen p k) : ∀ (j : Nat), k ≤ j → j ≤ p.code.length → tl (lifeTo p k) v ≤ tl (lifeTo p j) v
  | 0, h, _ => by rw [Nat.le_zero.1 h]; exact Int.le_refl _
  | j + 1, h, hj => by
    by_cases hk : k = j + 1
    · rw [hk]; exact Int.le_refl _
    · have h1 := tl_grow hR hv j (by omega) (by omega)
      have hm := vlen_mono p (show k ≤ j by omega)
      by_cases hn : nAt p j = true
      · rw [tl_step hR (by omega) hn (by omega)]
        split
        · rcases tl_said hR k (by omega) v hv with h2 | ⟨t, h2, h3, _⟩ <;> omega
        · exact h1
      · rw [life_no hn]; exact h1
theorem out_len (p : PV) : ∀ j, (outTo p j).till.length = vlen p p.code.length
  | 0 => rfl
  | j + 1 => by show ((outTo p j).till.set _ _).length = _; rw [List.length_set]; exact out_len p j
theorem outTo_held' (p : PV) : ∀ j, (outTo p j).held = (lifeTo p p.code.length).held
  | 0 => rfl
  | j + 1 => outTo_held' p j
theorem out_tl {p : PV} (hR : rightP p = true) {v : Int} (hv : 0 ≤ v ∧ v < vlen p p.code.length) : ∀ (j : Nat), j ≤ p.outs.length →
    (tl (outTo p j) v = tl (lifeTo p p.code.length) v ∨ tl (outTo p j) v = p.code.length ∧ ∃ r, (0 ≤ r ∧ r < p.regs) ∧ heldAt p p.code.length r = v) ∧
    (∀ i : Nat, i < j → heldAt p p.code.length (p.outs[((i : Nat) : Int).toNat]?.getD default) = v → tl (outTo p j) v = p.code.length)
  | 0, _ => ⟨.inl rfl, fun i hi => by omega⟩
  | j + 1, hj => by
    obtain ⟨h1, h2⟩ := out_tl hR hv j (by omega)
    have hr := out_may hR (show j < p.outs.length by omega)
    have hh : (outTo p j).held[(p.outs[((j : Nat) : Int).toNat]?.getD default).toNat]?.getD default = heldAt p p.code.length (p.outs[((j : Nat) : Int).toNat]?.getD default) := by unfold heldAt; rw [outTo_held']
    have hin := held_in hR (Nat.le_refl _) hr
    have e : tl (outTo p (j + 1)) v = if heldAt p p.code.length (p.outs[((j : Nat) : Int).toNat]?.getD default) = v then (p.code.length : Int) else tl (outTo p j) v := by
      unfold tl
      show ((outTo p j).till.set _ _)[v.toNat]?.getD default = _
      rw [hh, ints_get_set (by rw [out_len]; exact hv), Int.toNat_of_nonneg hin.1]
    by_cases hd : heldAt p p.code.length (p.outs[((j : Nat) : Int).toNat]?.getD default) = v
    · rw [if_pos hd] at e
      exact ⟨.inr ⟨e, _, hr, hd⟩, fun _ _ _ => e⟩
    · rw [if_neg hd] at e
      rw [e]
      refine ⟨h1, fun i hi hiv => ?_⟩
      by_cases hij : i = j
      · subst hij; exact absurd hiv hd
      · exact h2 i (by omega) hiv
/-- the last time that a value is asked -/
def due (p : PV) (v : Int) : Int := tl (lifeP p) v
theorem due_ge {p : PV} (hR : rightP p = true) {k : Nat} {v : Int} (hk : k ≤ p.code.length) (hv : 0 ≤ v ∧ v < vlen p k) : tl (lifeTo p k) v ≤ due p v := by
  have h1 := tl_grow hR hv p.code.length hk (Nat.le_refl _)
  have hv2 : 0 ≤ v ∧ v < vlen p p.code.length := ⟨hv.1, by have := vlen_mono p hk; omega⟩
  unfold due lifeP
  rcases (out_tl hR hv2 p.outs.length (Nat.le_refl _)).1 with h2 | ⟨h2, _⟩
  · rw [h2]; exact h1
  · rw [h2]
    rcases tl_said hR p.code.length (Nat.le_refl _) v hv2 with h3 | ⟨t, h3, h4, _⟩ <;> omega
/-- B1 -/
theorem due_asked {p : PV} (hR : rightP p = true) {k : Nat} (hk : k < p.code.length) {v : Int} (h : Asked p k v) : (k : Int) ≤ due p v := by
  obtain ⟨hn, hd⟩ := h
  have hin := due_in hR hk
  have hv : 0 ≤ v ∧ v < vlen p k := by rcases hd with h | h <;> rw [h] <;> first | exact hin.1 | exact hin.2
  have h1 := due_ge hR (k := k + 1) (v := v) (by omega) ⟨hv.1, by rw [vlen_yes hn]; omega⟩
  rw [tl_step hR hk hn hv, if_pos hd] at h1
  exact h1
/-- B2 -/
theorem due_out {p : PV} (hR : rightP p = true) {i : Nat} (hi : i < p.outs.length) : due p (heldAt p p.code.length (p.outs[((i : Nat) : Int).toNat]?.getD default)) = p.code.length :=
  (out_tl hR (held_in hR (Nat.le_refl _) (out_may hR hi)) p.outs.length (Nat.le_refl _)).2 i hi rfl
/-- B3 -/
theorem due_who {p : PV} (hR : rightP p = true) {v : Int} (hv : 0 ≤ v ∧ v < vlen p p.code.length) : due p v = -1 ∨ (∃ t : Nat, t < p.code.length ∧ due p v = t ∧ Asked p t v) ∨ (due p v = p.code.length ∧ ∃ r, (0 ≤ r ∧ r < p.regs) ∧ heldAt p p.code.length r = v) := by
  unfold due lifeP
  rcases (out_tl hR hv p.outs.length (Nat.le_refl _)).1 with h2 | h2
  · rw [h2]
    rcases tl_said hR p.code.length (Nat.le_refl _) v hv with h | h
    · exact .inl h
    · exact .inr (.inl h)
  · exact .inr (.inr h2)
/-- what is asked at k or later stands in a register ahead of k -/
theorem due_stands {p : PV} (hR : rightP p = true) {k : Nat} (hk : k ≤ p.code.length) {v : Int} (hv : 0 ≤ v ∧ v < vlen p k) (hd : (k : Int) ≤ due p v) : ∃ r, (0 ≤ r ∧ r < p.regs) ∧ heldAt p k r = v := by
  have hv2 : 0 ≤ v ∧ v < vlen p p.code.length := ⟨hv.1, by have := vlen_mono p hk; omega⟩
  rcases due_who hR hv2 with h | ⟨t, ht, h, hn, ha⟩ | ⟨h, r, hr, e⟩
  · omega
  · have h9 := due_held hR ht
    have h8 : ∃ r, (0 ≤ r ∧ r < p.regs) ∧ heldAt p t r = v := by rcases ha with e | e <;> rw [e] <;> first | exact h9.1 | exact h9.2
    obtain ⟨r, hr, e⟩ := h8
    exact ⟨r, hr, (held_back hR hr t (by omega) (by omega) (by rw [e]; exact hv.2)).trans e⟩
  · exact ⟨r, hr, (held_back hR hr p.code.length hk (Nat.le_refl _) (by rw [e]; exact hv.2)).trans e⟩
theorem need_from {p : PV} (hR : rightP p = true) {k : Nat} (hk : k < p.code.length) : nAt p k = fromAt p (cAt p k).to (k + 1) := by
  have h1 := rf_at p hk
  have h2 := rf_drop p p.code k
  unfold nAt
  rw [needed_rf hR, Int.toNat_natCast]
  have h3 : (rf p p.code)[k]? = ((rf p p.code).drop k)[0]? := by rw [List.getElem?_drop, Nat.add_zero]
  rw [h3, h2, h1]
  rfl
theorem from_due {p : PV} (hR : rightP p = true) {r : Int} (hr : 0 ≤ r ∧ r < p.regs) : ∀ (d j : Nat), j + d = p.code.length → fromAt p r j = true → (j : Int) ≤ due p (heldAt p j r)
  | 0, j, hj, h => by
    have hj' : j = p.code.length := by omega
    subst hj'
    rw [fromAt_end p r (Nat.le_refl _), decide_eq_true_eq] at h
    obtain ⟨i, hi, e⟩ := List.mem_iff_getElem.1 h
    have := due_out hR hi
    rw [Int.toNat_natCast, List.getElem?_eq_getElem hi, Option.getD_some, e] at this
    omega
  | d + 1, j, hj, h => by
    have hjn : j < p.code.length := by omega
    have hcj : p.code[j]?.getD default = cAt p j := by unfold cAt; rw [Int.toNat_natCast]
    rw [fromAt_step p r hjn, hcj, Bool.or_eq_true, Bool.and_eq_true, Bool.and_eq_true, decide_eq_true_eq, ← need_from hR hjn] at h
    rcases h with ⟨hn, ha⟩ | ⟨ht, hf⟩
    · refine due_asked hR hjn ⟨hn, ?_⟩
      unfold asks at ha
      split at ha
      · rename_i h34
        rcases List.mem_cons.1 ha with e | ha
        · left; rw [e]; rfl
        · right
          rw [List.mem_singleton.1 ha]
          exact (if_pos (by rw [two_iff]; exact h34)).symm
      · split at ha
        · left; rw [List.mem_singleton.1 ha]; rfl
        · cases ha
    · have ih := from_due hR hr d (j + 1) (by omega) hf
      have hne : ¬ (cAt p j).to = r := by simpa using ht
      by_cases hn : nAt p j = true
      · rw [held_yes hR hjn hn hr, if_neg hne] at ih; omega
      · rw [held_no hn] at ih; omega
/-- a value that is set is asked -/
theorem new_due {p : PV} (hR : rightP p = true) {k : Nat} (hk : k < p.code.length) (hn : nAt p k = true) : ((k + 1 : Nat) : Int) ≤ due p (vlen p k) := by
  have ht := (may_facts (code_may hR hk)).2.1
  have h1 := hn
  rw [need_from hR hk] at h1
  have h2 := from_due hR ht (p.code.length - (k + 1)) (k + 1) (by omega) h1
  rw [held_yes hR hk hn ht, if_pos rfl] at h2
  exact h2
end Go.Proofs.Ytfleehgbpgmcnaa
