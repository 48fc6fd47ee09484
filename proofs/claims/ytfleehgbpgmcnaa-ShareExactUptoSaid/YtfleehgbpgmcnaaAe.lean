import Derived.Test.YtfleehgbpgmcnaaAd
namespace Go.Proofs.Ytfleehgbpgmcnaa
open Go Go.Sl
set_option maxRecDepth 100000

set_option maxHeartbeats 2000000
/-- the document's state -/
def StH (held : List Int) (ks : List R6) (next : Int) (bs : Nat) (a : Option Addr) (c : Nat) (junk : List Value) (b : Option Addr) (d : Nat) (j : List Value) : Hp :=
  [(0, some bs, .cells #[.slice a held.length c, .slice b ks.length d, .int .i64 next] 61), (1, a.map (·.block), Row 3 held junk), (2, b.map (·.block), Row 99 ks j)]
def keyR (k : R6) : K4 := ⟨k.a, k.b, k.c, k.d⟩
/-- .. and what the pass's table would hold -/
def tabOf (held : List Int) (ks : List R6) (next : Int) : Tab := ⟨held, ks.map fun k => (keyR k, k.f), ks.map fun k => (keyR k, k.e), next⟩
theorem c25 (G : Imm) (p : PV) (ac ao : Option Addr) (cc co : Nat) (hr : 0 ≤ p.ins ∧ p.ins ≤ p.regs ∧ p.regs ≤ 128) :
    Does Try.prog 25 [.agg #[.int .i64 p.ins, .int .i64 p.regs, .slice ac p.code.length cc, .slice ao p.outs.length co]] G [] (fun v G' Ho => ∃ bs a c junk, v = .pointer (some ⟨bs, 0, none⟩) ∧
      OwnA a c (start p) junk ∧ Ho = StH (start p) [] (p.ins + 1) bs a c junk none 0 [] ∧ G' = G) := by
  have hsl : (start p).length = p.regs.toNat := by simp [start]
  refine Does.enter Try.func25 rfl Try.ntmps25 rfl (fun w => ?_)
  refine Wc.nilRow 0 (Row 3 ([] : List Int) []) (Wc.nilRow 1 (Row 99 ([] : List R6) []) ?_)
  refine Wc.seq ?_
  refine Wc.region rfl ?_
  refine Wl.box 2 rfl rfl rfl (fun b1 => ?_)
  refine Wl.q rfl (Qy.assign rfl) ?_
  refine Wl.done ?_
  refine Ar.next ?_
  refine Wc.seq ?_
  refine Wc.region rfl ?_
  refine Wl.q rfl (Qy.fieldAddr T.fa25_0 rfl) ?_
  refine Wl.q rfl (Qy.load 2 T.one3 rfl rfl rfl) ?_
  refine Wl.q rfl (Qy.add rfl rfl (by omega)) ?_
  refine Wl.q rfl (Qy.build (cs := [_, _, _]) T.st61 rfl rfl rfl) ?_
  refine Wl.box 3 rfl rfl rfl (fun b2 => ?_)
  refine Wl.q rfl (Qy.assign rfl) ?_
  refine Wl.done ?_
  refine Ar.next ?_
  refine Wc.seq ?_
  refine Wc.seq ?_
  refine Wc.region rfl ?_
  refine Wl.q rfl (Qy.assign rfl) ?_
  refine Wl.done ?_
  refine Ar.next ?_
  refine Wc.block ?_
  refine Wc.loop (ι := Nat × List Int × Option Addr × Nat × List Value) (fun (k, xs, a, c, junk) => ([(4, .int .i64 (k : Int)), (3, Go.Value.pointer (Option.some (Go.Addr.mk b2 0 Option.none))), (2, Go.Value.pointer Option.none), (1, Go.Value.pointer (Option.some (Go.Addr.mk b1 0 Option.none)))], [(0, a.map (·.block), Row 3 xs junk), (3, some b2, .cells #[.slice a xs.length c, .slice none 0 0, .int .i64 (p.ins + 1)] 61), (2, Option.some b1, Go.Obj.cells #[Go.Value.int Go.IntKind.i64 (Go.Proofs.Ytfleehgbpgmcnaa.PV.ins p), Go.Value.int Go.IntKind.i64 (Go.Proofs.Ytfleehgbpgmcnaa.PV.regs p), Go.Value.slice ac (List.length (Go.Proofs.Ytfleehgbpgmcnaa.PV.code p)) cc, Go.Value.slice ao (List.length (Go.Proofs.Ytfleehgbpgmcnaa.PV.outs p)) co] 25), (1, Option.none, Go.Sl.Row (α := Go.Sl.R6) 99 ([]) ([]))])) (fun (k, xs, a, c, junk) => k ≤ p.regs.toNat ∧ xs = (start p).take k ∧ OwnA a c xs junk) (fun (k, xs, a, c, junk) => p.regs.toNat - k) ((0, [], none, 0, [])) (⟨Nat.zero_le _, rfl, OwnA.nil⟩) ⟨rfl, rfl, rfl, rfl, trivial⟩ ⟨rfl, rfl, rfl, rfl, trivial⟩ (fun ⟨k, xs, a, c, junk⟩ => fun (hk : k ≤ p.regs.toNat ∧ xs = (start p).take k ∧ OwnA a c xs junk) => ?_)
  obtain ⟨hk1, hxs, ho⟩ := hk
  have hlen : xs.length = k := by rw [hxs, List.length_take]; omega
  have hst : k < p.regs.toNat → (start p).take (k + 1) = (start p).take k ++ [if p.ins < ((k : Nat) : Int) then p.ins else ((k : Nat) : Int)] := fun hkl => by
    rw [List.take_add_one]
    simp [start, hkl]
  refine Wc.seq ?_
  refine Wc.seq ?_
  refine Wc.region rfl ?_
  refine Wl.q rfl (Qy.move rfl) ?_
  refine Wl.q rfl (Qy.fieldAddr T.fa25_1 rfl) ?_
  refine Wl.q rfl (Qy.load 2 T.one3 rfl rfl rfl) ?_
  refine Wl.q rfl (Qy.lss rfl rfl) ?_
  refine Wl.done ?_
  refine Ar.next ?_
  refine Wc.cond rfl (fun hc1 => ?_) (fun hc1 => ?_)
  refine Wc.skip ?_
  refine Ar.next ?_
  refine Wc.seq ?_
  refine Wc.block ?_
  refine Wc.seq ?_
  refine Wc.region rfl ?_
  refine Wl.q rfl (Qy.move rfl) ?_
  refine Wl.q rfl (Qy.fieldAddr T.fa25_0 rfl) ?_
  refine Wl.q rfl (Qy.load 2 T.one3 rfl rfl rfl) ?_
  refine Wl.q rfl (Qy.lss rfl rfl) ?_
  refine Wl.done ?_
  refine Ar.next ?_
  refine Wc.cond rfl (fun hc2 => ?_) (fun hc2 => ?_)
  refine Wc.region rfl ?_
  refine Wl.q rfl (Qy.move rfl) ?_
  refine Wl.q rfl (Qy.move rfl) ?_
  refine Wl.q rfl (Qy.nilCheck rfl) ?_
  refine Wl.q rfl (Qy.fieldAddr T.fa61_0 rfl) ?_
  refine Wl.q rfl (Qy.load 3 T.one23 rfl rfl rfl) ?_
  refine Wl.q rfl (Qy.move rfl) ?_
  refine Wl.lit (α := Int) 4 [((↑k : Int))] rfl T.sl23 T.el3 rfl rfl rfl rfl rfl (fun b3 => ?_)
  refine Wl.append (α := Int) 0 rfl T.sl23 T.el3 rfl rfl rfl (by first | assumption | exact OwnA.nil | exact OwnA.made (by simp)) (Src.row 4 rfl) (by first | omega | (simp only [List.length_append, List.length_cons, List.length_nil, maxLen]; omega)) (by first | omega | (simp only [List.length_append, List.length_cons, List.length_nil, maxLen]; omega)) (fun a1 c1 junk1 ho1 => ?_)
  refine Wl.q rfl (Qy.nilCheck rfl) ?_
  refine Wl.q rfl (Qy.fieldAddr T.fa61_0 rfl) ?_
  refine Wl.store 3 T.one23 rfl rfl rfl rfl rfl ?_
  refine Wl.done ?_
  refine Ar.outNormal ?_
  refine Ar.next ?_
  refine Wc.region rfl ?_
  refine Wl.q rfl (Qy.move rfl) ?_
  refine Wl.q rfl (Qy.add rfl rfl (by omega)) ?_
  refine Wl.q rfl (Qy.assign rfl) ?_
  refine Wl.done ?_
  rotate_left
  refine Wc.draw [1, 2, 3, 0] [(3, 11), (0, 8), (1, 8)] T.mixed rfl ?_
  refine Gm.q 0 [] (by kernel_rfl) rfl rfl (Qy.move rfl) ?_
  refine Gm.q 1 [] (by kernel_rfl) rfl rfl (Qy.move rfl) ?_
  refine Gm.q 2 [] (by kernel_rfl) rfl rfl (Qy.nilCheck rfl) ?_
  refine Gm.q 3 [] (by kernel_rfl) rfl rfl (Qy.fieldAddr T.fa61_0 rfl) ?_
  refine Gm.q 4 [3] (by kernel_rfl) rfl rfl (Qy.load 3 T.one23 rfl rfl rfl) ?_
  refine Gm.q 5 [] (by kernel_rfl) rfl rfl (Qy.fieldAddr T.fa25_0 rfl) ?_
  refine Gm.q 6 [2] (by kernel_rfl) rfl rfl (Qy.load 2 T.one3 rfl rfl rfl) ?_
  refine Gm.one 7 ⟨rfl, rfl, rfl, rfl, trivial⟩ (by first | exact Imm.le_refl _ | assumption) (by kernel_rfl) rfl ?_
  refine Wl.lit (α := Int) 4 [(Go.Proofs.Ytfleehgbpgmcnaa.PV.ins p)] rfl T.sl23 T.el3 rfl rfl rfl rfl rfl (fun b3 => ?_)
  refine Wl.on0 ?_
  refine Gm.one 8 ⟨rfl, rfl, rfl, rfl, trivial⟩ (by first | exact Imm.le_refl _ | assumption) (by kernel_rfl) rfl ?_
  refine Wl.append (α := Int) 0 rfl T.sl23 T.el3 rfl rfl rfl (by first | assumption | exact OwnA.nil | exact OwnA.made (by simp)) (Src.row 4 rfl) (by first | omega | (simp only [List.length_append, List.length_cons, List.length_nil, maxLen]; omega)) (by first | omega | (simp only [List.length_append, List.length_cons, List.length_nil, maxLen]; omega)) (fun a1 c1 junk1 ho1 => ?_)
  refine Wl.on0 ?_
  refine Gm.q 9 [] (by kernel_rfl) rfl rfl (Qy.nilCheck rfl) ?_
  refine Gm.q 10 [] (by kernel_rfl) rfl rfl (Qy.fieldAddr T.fa61_0 rfl) ?_
  refine Gm.one 11 ⟨rfl, rfl, trivial⟩ (by first | exact Imm.le_refl _ | assumption) (by kernel_rfl) rfl ?_
  refine Wl.store 3 T.one23 rfl rfl rfl rfl rfl ?_
  refine Wl.on0 ?_
  refine Gm.doneA (by kernel_rfl) ⟨rfl, trivial⟩ (by first | exact Imm.le_refl _ | assumption) ?_
  refine Ar.outNormal ?_
  refine Ar.next ?_
  refine Wc.region rfl ?_
  refine Wl.q rfl (Qy.move rfl) ?_
  refine Wl.q rfl (Qy.add rfl rfl (by omega)) ?_
  refine Wl.q rfl (Qy.assign rfl) ?_
  refine Wl.done ?_
  rotate_left
  refine Wc.exit ?_
  refine Ar.passExit ?_
  refine Ar.passExit ?_
  refine Ar.here ?_
  refine Ar.next ?_
  refine Wc.seq ?_
  refine Wc.region rfl ?_
  refine Wl.q rfl (Qy.move rfl) ?_
  refine Wl.q rfl (Qy.assign rfl) ?_
  refine Wl.done ?_
  refine Ar.next ?_
  refine Wc.ret ?_
  refine Ar.pick [3, 0, 1] (by decide) (Ar.out1 (.inr rfl) rfl (.tmp rfl) (Hp.sub_self 0 _) ?_)
  rotate_left
  · refine Ar.again ((k + 1, _, a1, c1, junk1)) ?_ ?_ rfl ⟨rfl, rfl, rfl, rfl, trivial⟩ ⟨rfl, rfl, rfl, rfl, trivial⟩
    · refine ⟨by omega, ?_, ho1⟩
      rw [hst (by omega), hxs, if_neg (by omega)]
    · show p.regs.toNat - (k + 1) < p.regs.toNat - k
      omega
  · refine Ar.again ((k + 1, _, a1, c1, junk1)) ?_ ?_ rfl ⟨rfl, rfl, rfl, rfl, trivial⟩ ⟨rfl, rfl, rfl, rfl, trivial⟩
    · refine ⟨by omega, ?_, ho1⟩
      rw [hst (by omega), hxs]
      congr 2
      split <;> omega
    · show p.regs.toNat - (k + 1) < p.regs.toNat - k
      omega
  · have hk : k = p.regs.toNat := by omega
    have htk : xs = start p := by rw [hxs]; exact List.take_of_length_le (by omega)
    rw [htk] at ho ⊢
    exact ⟨b2, a, c, junk, rfl, ho, rfl, rfl⟩
theorem c59 (G : Imm) (held : List Int) (ks : List R6) (next : Int) (bs : Nat) (a : Option Addr) (c : Nat) (junk : List Value) (b : Option Addr) (d : Nat) (j : List Value) (v : Int) (ho : OwnA a c held junk) (hl : held.length ≤ 128) :
    Does Try.prog 59 [.pointer (some ⟨bs, 0, none⟩), .int .i64 v] G (StH held ks next bs a c junk b d j) (fun r G' Ho => r = .int .i64 (holder held v) ∧ G' = G ∧ Ho = StH held ks next bs a c junk b d j) := by
  refine Does.enter Try.func59 rfl Try.ntmps59 rfl (fun w => ?_)
  refine Wc.seq ?_
  refine Wc.region rfl ?_
  refine Wl.q rfl (Qy.assign rfl) ?_
  refine Wl.done ?_
  refine Ar.next ?_
  refine Wc.seq ?_
  refine Wc.seq ?_
  refine Wc.region rfl ?_
  refine Wl.q rfl (Qy.assign rfl) ?_
  refine Wl.done ?_
  refine Ar.next ?_
  refine Wc.block ?_
  refine Wc.loop (ι := Nat) (fun k => ([(5, .int .i64 (k : Int)), (0, Go.Value.pointer (Option.some (Go.Addr.mk bs 0 Option.none))), (1, Go.Value.int Go.IntKind.i64 v)], [(0, Option.some bs, Go.Obj.cells #[Go.Value.slice a (List.length held) c, Go.Value.slice b (List.length ks) d, Go.Value.int Go.IntKind.i64 next] 61), (1, Option.map (fun x => Go.Addr.block x) a, Go.Sl.Row (α := Int) 3 (held) (junk)), (2, Option.map (fun x => Go.Addr.block x) b, Go.Sl.Row (α := Go.Sl.R6) 99 (ks) (j))])) (fun k => k ≤ held.length ∧ (held.take k).all (fun x => !decide (x = v)) = true) (fun k => held.length - k) (0) (⟨Nat.zero_le _, rfl⟩) ⟨rfl, rfl, rfl, trivial⟩ ⟨rfl, rfl, rfl, trivial⟩ (fun k => fun (hk : k ≤ held.length ∧ (held.take k).all (fun x => !decide (x = v)) = true) => ?_)
  obtain ⟨hk1, hk2⟩ := hk
  refine Wc.seq ?_
  refine Wc.seq ?_
  refine Wc.region rfl ?_
  refine Wl.q rfl (Qy.move rfl) ?_
  refine Wl.q rfl (Qy.move rfl) ?_
  refine Wl.q rfl (Qy.nilCheck rfl) ?_
  refine Wl.q rfl (Qy.fieldAddr T.fa61_0 rfl) ?_
  refine Wl.q rfl (Qy.load 0 T.one23 rfl rfl rfl) ?_
  refine Wl.q rfl (Qy.len T.sl23 rfl) ?_
  refine Wl.q rfl (Qy.lss rfl rfl) ?_
  refine Wl.done ?_
  refine Ar.next ?_
  refine Wc.cond rfl (fun hc1 => ?_) (fun hc1 => ?_)
  refine Wc.skip ?_
  refine Ar.next ?_
  refine Wc.seq ?_
  refine Wc.block ?_
  refine Wc.seq ?_
  refine Wc.region rfl ?_
  refine Wl.q rfl (Qy.move rfl) ?_
  refine Wl.q rfl (Qy.nilCheck rfl) ?_
  refine Wl.q rfl (Qy.fieldAddr T.fa61_0 rfl) ?_
  refine Wl.q rfl (Qy.load 0 T.one23 rfl rfl rfl) ?_
  refine Wl.q rfl (Qy.move rfl) ?_
  refine Wl.q rfl (Qy.indexAddrO (α := Int) T.sl23 rfl rfl (by assumption) (by omega)) ?_
  refine Wl.q rfl (Qy.loadO 1 0 T.one3 rfl rfl (by assumption) (by omega) rfl rfl) ?_
  refine Wl.q rfl (Qy.move rfl) ?_
  refine Wl.q rfl (Qy.eql rfl rfl) ?_
  refine Wl.done ?_
  refine Ar.next ?_
  refine Wc.cond rfl (fun hc2 => ?_) (fun hc2 => ?_)
  refine Wc.seq ?_
  refine Wc.region rfl ?_
  refine Wl.q rfl (Qy.move rfl) ?_
  refine Wl.q rfl (Qy.assign rfl) ?_
  refine Wl.done ?_
  refine Ar.next ?_
  refine Wc.ret ?_
  refine Ar.outRet ?_
  refine Ar.passRet ?_
  refine Ar.passRet ?_
  refine Ar.outRet ?_
  refine Ar.passRet ?_
  refine Ar.out1 (.inr rfl) (Ho := Hp.only _ [0, 1, 2]) rfl (.tmp rfl) (Hp.sub_only _ _) ?_
  rotate_left
  refine Wc.skip ?_
  refine Ar.outNormal ?_
  refine Ar.next ?_
  refine Wc.region rfl ?_
  refine Wl.q rfl (Qy.move rfl) ?_
  refine Wl.q rfl (Qy.add rfl rfl (by omega)) ?_
  refine Wl.q rfl (Qy.assign rfl) ?_
  refine Wl.done ?_
  rotate_left
  refine Wc.exit ?_
  refine Ar.passExit ?_
  refine Ar.passExit ?_
  refine Ar.here ?_
  refine Ar.next ?_
  refine Wc.seq ?_
  refine Wc.region rfl ?_
  refine Wl.q rfl (Qy.assign rfl) ?_
  refine Wl.done ?_
  refine Ar.next ?_
  refine Wc.ret ?_
  refine Ar.out1 (.inr rfl) (Ho := Hp.only _ [0, 1, 2]) rfl (.tmp rfl) (Hp.sub_only _ _) ?_
  rotate_left
  · refine ⟨?_, rfl, rfl⟩
    have := find_bad (p := fun x => !decide (x = v)) (l := held) (k := k) (by omega) hk2 (by simpa using hc2)
    simp only [Bool.not_not] at this
    simp [holder, this]
  · refine Ar.again (k + 1) ?_ ?_ rfl ⟨rfl, rfl, rfl, trivial⟩ ⟨rfl, rfl, rfl, trivial⟩
    · refine ⟨by omega, ?_⟩
      rw [all_step _ (by omega), hk2]
      simpa using hc2
    · omega
  · refine ⟨?_, rfl, rfl⟩
    have hk : k = held.length := by omega
    subst hk
    rw [List.take_length] at hk2
    have := find_none hk2
    simp only [Bool.not_not] at this
    simp [holder, this]
theorem keyR_iff {r : R6} {x : K4} : keyR r = x ↔ (((r.a = x.op ∧ r.b = x.a) ∧ r.c = x.b) ∧ r.d = x.c) := by
  cases x; simp [keyR, and_assoc]
theorem mget_at {g : R6 → Int} {x : K4} : ∀ {ks : List R6} {k : Nat}, k < ks.length → (ks.take k).all (fun r => !decide (keyR r = x)) = true → keyR (ks[((k : Nat) : Int).toNat]?.getD default) = x →
    mget (ks.map fun r => (keyR r, g r)) x = some (g (ks[((k : Nat) : Int).toNat]?.getD default))
  | [], k, h, _, _ => by simp at h
  | r :: ks, 0, _, _, h2 => by
    have h2 : keyR r = x := by simpa using h2
    simp [mget, h2]
  | r :: ks, k + 1, h, h1, h2 => by
    simp only [List.take_succ_cons, List.all_cons, Bool.and_eq_true, Bool.not_eq_true', decide_eq_false_iff_not] at h1
    have ih := mget_at (g := g) (x := x) (ks := ks) (k := k) (by simpa using h) (by simpa using h1.2) (by simpa [Int.toNat_natCast] using h2)
    rw [Int.toNat_natCast] at ih ⊢
    rw [List.getElem?_cons_succ, ← ih]
    simp [mget, h1.1]
theorem mget_not {g : R6 → Int} {x : K4} {ks : List R6} (h : ks.all (fun r => !decide (keyR r = x)) = true) : mget (ks.map fun r => (keyR r, g r)) x = none := by
  rw [mget_none, List.findIdx?_eq_none_iff]
  intro y hy
  simp only [List.map_map, List.mem_map] at hy
  obtain ⟨r, hr, rfl⟩ := hy
  simpa using List.all_eq_true.1 h r hr
theorem c26 (G : Imm) (held : List Int) (ks : List R6) (next : Int) (bs : Nat) (a : Option Addr) (c : Nat) (junk : List Value) (b : Option Addr) (d : Nat) (j : List Value) (n : Int) (i : Sl.Instr) (ho : OwnA a c held junk) (hks : OwnA b d ks j)
    (hl : held.length ≤ 128) (hkl : ks.length ≤ 1000000) (hm : mayOk i held.length = true) (hn : 0 ≤ next ∧ next ≤ 1000000) :
    Does Try.prog 26 [.pointer (some ⟨bs, 0, none⟩), .int .i64 n, .agg (Cells.enc i).toArray] G (StH held ks next bs a c junk b d j)
      (fun r G' Ho => ∃ ks' b' d' j', r = .tuple #[.int .i64 (reckonP (tabOf held ks next) n i).1.1, .int .i64 (reckonP (tabOf held ks next) n i).1.2] ∧ tabOf held ks' (reckonP (tabOf held ks next) n i).2.next = (reckonP (tabOf held ks next) n i).2 ∧
        OwnA b' d' ks' j' ∧ ks'.length ≤ ks.length + 1 ∧ G' = G ∧ Ho = StH held ks' (reckonP (tabOf held ks next) n i).2.next bs a c junk b' d' j') := by
  rw [mayOk_iff] at hm
  obtain ⟨⟨hop1, hop2, hto1, hto2, ha1, ha2⟩, hb⟩ := hm
  have hb : i.op = 3 ∨ i.op = 4 → 0 ≤ i.b ∧ i.b < held.length := fun h => by rw [if_pos h] at hb; omega
  refine Does.enter Try.func26 rfl Try.ntmps26 rfl (fun w => ?_)
  refine Wc.seq ?_
  refine Wc.region rfl ?_
  refine Wl.box 3 rfl rfl rfl (fun b1 => ?_)
  refine Wl.q rfl (Qy.assign rfl) ?_
  refine Wl.q rfl (Qy.assign rfl) ?_
  refine Wl.done ?_
  refine Ar.next ?_
  refine Wc.seq ?_
  refine Wc.seq ?_
  refine Wc.region rfl ?_
  refine Wl.q rfl (Qy.fieldAddr T.fa34_0 rfl) ?_
  refine Wl.q rfl (Qy.load 3 T.one3 rfl rfl rfl) ?_
  refine Wl.q rfl (Qy.eql rfl rfl) ?_
  refine Wl.done ?_
  refine Ar.next ?_
  refine Wc.cond rfl (fun hc1 => ?_) (fun hc1 => ?_)
  refine Wc.seq ?_
  refine Wc.draw [2, 1, 0, 3] [] T.mixed rfl ?_
  refine Gm.q 0 [] (by kernel_rfl) rfl rfl (Qy.move rfl) ?_
  refine Gm.q 1 [] (by kernel_rfl) rfl rfl (Qy.nilCheck rfl) ?_
  refine Gm.q 2 [] (by kernel_rfl) rfl rfl (Qy.fieldAddr T.fa61_0 rfl) ?_
  refine Gm.q 3 [0] (by kernel_rfl) rfl rfl (Qy.load 0 T.one23 rfl rfl rfl) ?_
  refine Gm.q 4 [] (by kernel_rfl) rfl rfl (Qy.fieldAddr T.fa34_2 rfl) ?_
  refine Gm.q 5 [3] (by kernel_rfl) rfl rfl (Qy.load 3 T.one3 rfl rfl rfl) ?_
  refine Gm.q 6 [] (by kernel_rfl) rfl rfl (Qy.indexAddrO (α := Int) T.sl23 rfl rfl (by assumption) (by omega)) ?_
  refine Gm.q 7 [1, 0] (by kernel_rfl) rfl rfl (Qy.loadO 1 0 T.one3 rfl rfl (by assumption) (by omega) rfl rfl) ?_
  refine Gm.q 8 [] (by kernel_rfl) rfl rfl (Qy.assign rfl) ?_
  refine Gm.q 9 [] (by kernel_rfl) rfl rfl (Qy.assign rfl) ?_
  refine Gm.doneA (by kernel_rfl) ⟨rfl, rfl, rfl, rfl, trivial⟩ (by first | exact Imm.le_refl _ | assumption) ?_
  refine Ar.next ?_
  refine Wc.ret ?_
  refine Ar.passRet ?_
  refine Ar.out2 (.inr rfl) (Ho := Hp.only _ [0, 1, 2]) rfl (.tmp rfl) (.tmp rfl) (Hp.sub_only _ _) ?_
  rotate_left
  refine Wc.skip ?_
  refine Ar.next ?_
  refine Wc.seq ?_
  refine Wc.draw [2, 1, 0, 3] [(3, 19), (0, 19), (1, 19), (2, 19)] T.mixed rfl ?_
  refine Gm.q 0 [] (by kernel_rfl) rfl rfl (Qy.fieldAddr T.fa34_0 rfl) ?_
  refine Gm.q 1 [3] (by kernel_rfl) rfl rfl (Qy.load 3 T.one3 rfl rfl rfl) ?_
  refine Gm.q 2 [] (by kernel_rfl) rfl rfl (Qy.move rfl) ?_
  refine Gm.q 3 [] (by kernel_rfl) rfl rfl (Qy.nilCheck rfl) ?_
  refine Gm.q 4 [] (by kernel_rfl) rfl rfl (Qy.fieldAddr T.fa61_0 rfl) ?_
  refine Gm.q 5 [0] (by kernel_rfl) rfl rfl (Qy.load 0 T.one23 rfl rfl rfl) ?_
  refine Gm.q 6 [] (by kernel_rfl) rfl rfl (Qy.fieldAddr T.fa34_2 rfl) ?_
  refine Gm.q 7 [3] (by kernel_rfl) rfl rfl (Qy.load 3 T.one3 rfl rfl rfl) ?_
  refine Gm.q 8 [] (by kernel_rfl) rfl rfl (Qy.indexAddrO (α := Int) T.sl23 rfl rfl (by assumption) (by omega)) ?_
  refine Gm.q 9 [1, 0] (by kernel_rfl) rfl rfl (Qy.loadO 1 0 T.one3 rfl rfl (by assumption) (by omega) rfl rfl) ?_
  refine Gm.q 10 [] (by kernel_rfl) rfl rfl (Qy.fieldAddr T.fa34_4 rfl) ?_
  refine Gm.q 11 [3] (by kernel_rfl) rfl rfl (Qy.load 3 T.one3 rfl rfl rfl) ?_
  refine Gm.q 12 [] (by kernel_rfl) rfl rfl (Qy.move rfl) ?_
  refine Gm.q 13 [] (by kernel_rfl) rfl rfl (Qy.move rfl) ?_
  refine Gm.q 14 [] (by kernel_rfl) rfl rfl (Qy.nilCheck rfl) ?_
  refine Gm.q 15 [] (by kernel_rfl) rfl rfl (Qy.fieldAddr T.fa61_2 rfl) ?_
  refine Gm.q 16 [0] (by kernel_rfl) rfl rfl (Qy.load 0 T.one3 rfl rfl rfl) ?_
  refine Gm.q 17 [] (by kernel_rfl) rfl rfl (Qy.build (cs := [_, _, _, _, _, _]) T.st99 rfl rfl rfl) ?_
  refine Gm.one 18 ⟨rfl, rfl, rfl, rfl, trivial⟩ (by first | exact Imm.le_refl _ | assumption) (by kernel_rfl) rfl ?_
  refine Wl.alloc 4 rfl T.zero99 (fun b2 => ?_)
  refine Wl.on0 ?_
  refine Gm.one 19 ⟨rfl, rfl, rfl, rfl, trivial⟩ (by first | exact Imm.le_refl _ | assumption) (by kernel_rfl) rfl ?_
  refine Wl.storeAll 4 T.size99 rfl rfl rfl rfl rfl rfl ?_
  refine Wl.on0 ?_
  refine Gm.doneA (by kernel_rfl) trivial (by first | exact Imm.le_refl _ | assumption) ?_
  refine Ar.next ?_
  rotate_left
  · have h : reckonP (tabOf held ks next) n i = ((held[i.a.toNat]?.getD default, -1), tabOf held ks next) := if_pos hc1
    rw [h]
    exact ⟨ks, b, d, j, rfl, rfl, hks, Nat.le_succ _, rfl, rfl⟩
  · refine Wc.meet (ι := Int) (fun v => ([(8, Go.Value.pointer (Option.some (Go.Addr.mk b2 0 Option.none))), (7, Go.Value.int Go.IntKind.i64 0), (6, Go.Value.int Go.IntKind.i64 0), (5, Go.Value.pointer (Option.some (Go.Addr.mk b1 0 Option.none))), (0, Go.Value.pointer (Option.some (Go.Addr.mk bs 0 Option.none))), (1, Go.Value.int Go.IntKind.i64 n)], [(4, some b2, .cells #[.int .i64 i.op, .int .i64 (held[i.a.toNat]?.getD default), .int .i64 v, .int .i64 i.c, .int .i64 n, .int .i64 next] 99), (3, Option.some b1, Go.Obj.cells (List.toArray (Go.Sl.Cells.enc i)) 34), (0, Option.some bs, Go.Obj.cells #[Go.Value.slice a (List.length held) c, Go.Value.slice b (List.length ks) d, Go.Value.int Go.IntKind.i64 next] 61), (1, Option.map (fun x => Go.Addr.block x) a, Go.Sl.Row (α := Int) 3 (held) (junk)), (2, Option.map (fun x => Go.Addr.block x) b, Go.Sl.Row (α := Go.Sl.R6) 99 (ks) (j))])) (fun v => v = if i.op = 3 ∨ i.op = 4 then held[i.b.toNat]?.getD default else -1) ?_ (fun v => fun (hk : v = if i.op = 3 ∨ i.op = 4 then held[i.b.toNat]?.getD default else -1) => ?_)
    · refine Wc.seq ?_
      refine Wc.region rfl ?_
      refine Wl.q rfl (Qy.fieldAddr T.fa34_0 rfl) ?_
      refine Wl.q rfl (Qy.load 3 T.one3 rfl rfl rfl) ?_
      refine Wl.q rfl (Qy.eql rfl rfl) ?_
      refine Wl.q rfl (Qy.move rfl) ?_
      apply Wl.joinOr 4 43 47 rfl
      intro hg1
      refine Wl.want rfl rfl ?_
      refine Wl.q rfl (Qy.fieldAddr T.fa34_0 rfl) ?_
      refine Wl.want rfl rfl ?_
      refine Wl.q rfl (Qy.load 3 T.one3 rfl rfl rfl) ?_
      refine Wl.want rfl rfl ?_
      refine Wl.q rfl (Qy.eql rfl rfl) ?_
      refine Wl.q rfl (Qy.pick rfl rfl) ?_
      exact Wl.back 4 0 rfl rfl rfl rfl rfl
      intro hg1
      refine Wl.pass rfl rfl rfl ?_
      refine Wl.pass rfl rfl rfl ?_
      refine Wl.pass rfl rfl rfl ?_
      refine Wl.q rfl (Qy.pick rfl rfl) ?_
      exact Wl.back 4 0 rfl rfl rfl rfl rfl
      refine Wl.done ?_
      refine Ar.next ?_
      refine Wc.cond rfl (fun hc2 => ?_) (fun hc2 => ?_)
      refine Wc.draw [2, 1, 0, 3, 4] [(4, 9)] T.mixed rfl ?_
      refine Gm.q 0 [] (by kernel_rfl) rfl rfl (Qy.move rfl) ?_
      refine Gm.q 1 [] (by kernel_rfl) rfl rfl (Qy.nilCheck rfl) ?_
      refine Gm.q 2 [] (by kernel_rfl) rfl rfl (Qy.fieldAddr T.fa61_0 rfl) ?_
      refine Gm.q 3 [0] (by kernel_rfl) rfl rfl (Qy.load 0 T.one23 rfl rfl rfl) ?_
      refine Gm.q 4 [] (by kernel_rfl) rfl rfl (Qy.fieldAddr T.fa34_3 rfl) ?_
      refine Gm.q 5 [3] (by kernel_rfl) rfl rfl (Qy.load 3 T.one3 rfl rfl rfl) ?_
      refine Gm.q 6 [] (by kernel_rfl) rfl rfl (Qy.indexAddrO (α := Int) T.sl23 rfl rfl (by assumption) (by omega)) ?_
      refine Gm.q 7 [1, 0] (by kernel_rfl) rfl rfl (Qy.loadO 1 0 T.one3 rfl rfl (by assumption) (by omega) rfl rfl) ?_
      refine Gm.q 8 [] (by kernel_rfl) rfl rfl (Qy.fieldAddr T.fa99_2 rfl) ?_
      refine Gm.one 9 ⟨rfl, rfl, rfl, rfl, rfl, trivial⟩ (by first | exact Imm.le_refl _ | assumption) (by kernel_rfl) rfl ?_
      refine Wl.store 4 T.one3 rfl rfl rfl rfl rfl ?_
      refine Wl.on0 ?_
      refine Gm.doneA (by kernel_rfl) ⟨rfl, rfl, rfl, rfl, trivial⟩ (by first | exact Imm.le_refl _ | assumption) ?_
      rotate_left
      refine Wc.skip ?_
      rotate_left
      · refine Ar.meet (held[i.b.toNat]?.getD default) ?_ rfl ⟨rfl, rfl, rfl, rfl, rfl, rfl, trivial⟩ ⟨rfl, rfl, rfl, rfl, rfl, trivial⟩
        rw [if_pos hc2]
      · refine Ar.meet (-1) ?_ rfl ⟨rfl, rfl, rfl, rfl, rfl, rfl, trivial⟩ ⟨rfl, rfl, rfl, rfl, rfl, trivial⟩
        rw [if_neg hc2]
    · refine Wc.meet (ι := K4) (fun x => ([(8, Go.Value.pointer (Option.some (Go.Addr.mk b2 0 Option.none))), (7, Go.Value.int Go.IntKind.i64 0), (6, Go.Value.int Go.IntKind.i64 0), (0, Go.Value.pointer (Option.some (Go.Addr.mk bs 0 Option.none))), (1, Go.Value.int Go.IntKind.i64 n)], [(4, some b2, .cells #[.int .i64 x.op, .int .i64 x.a, .int .i64 x.b, .int .i64 x.c, .int .i64 n, .int .i64 next] 99), (3, Option.some b1, Go.Obj.cells (List.toArray (Go.Sl.Cells.enc i)) 34), (0, Option.some bs, Go.Obj.cells #[Go.Value.slice a (List.length held) c, Go.Value.slice b (List.length ks) d, Go.Value.int Go.IntKind.i64 next] 61), (1, Option.map (fun x => Go.Addr.block x) a, Go.Sl.Row (α := Int) 3 (held) (junk)), (2, Option.map (fun x => Go.Addr.block x) b, Go.Sl.Row (α := Go.Sl.R6) 99 (ks) (j))])) (fun x => x = keyOf held i) ?_ (fun x => fun (hk : x = keyOf held i) => ?_)
      · refine Wc.seq ?_
        refine Wc.region rfl ?_
        refine Wl.q rfl (Qy.fieldAddr T.fa34_0 rfl) ?_
        refine Wl.q rfl (Qy.load 3 T.one3 rfl rfl rfl) ?_
        refine Wl.q rfl (Qy.eql rfl rfl) ?_
        refine Wl.q rfl (Qy.move rfl) ?_
        apply Wl.joinAnd 6 60 66 rfl
        intro hg1
        refine Wl.want rfl rfl ?_
        refine Wl.q rfl (Qy.fieldAddr T.fa99_1 rfl) ?_
        refine Wl.want rfl rfl ?_
        refine Wl.q rfl (Qy.load 4 T.one3 rfl rfl rfl) ?_
        refine Wl.want rfl rfl ?_
        refine Wl.q rfl (Qy.fieldAddr T.fa99_2 rfl) ?_
        refine Wl.want rfl rfl ?_
        refine Wl.q rfl (Qy.load 4 T.one3 rfl rfl rfl) ?_
        refine Wl.want rfl rfl ?_
        refine Wl.q rfl (Qy.gtr rfl rfl) ?_
        refine Wl.q rfl (Qy.pick rfl rfl) ?_
        exact Wl.back 6 0 rfl rfl rfl rfl rfl
        intro hg1
        refine Wl.pass rfl rfl rfl ?_
        refine Wl.pass rfl rfl rfl ?_
        refine Wl.pass rfl rfl rfl ?_
        refine Wl.pass rfl rfl rfl ?_
        refine Wl.pass rfl rfl rfl ?_
        refine Wl.q rfl (Qy.pick rfl rfl) ?_
        exact Wl.back 6 0 rfl rfl rfl rfl rfl
        refine Wl.done ?_
        refine Ar.next ?_
        refine Wc.cond rfl (fun hc2 => ?_) (fun hc2 => ?_)
        refine Wc.region rfl ?_
        refine Wl.q rfl (Qy.fieldAddr T.fa99_2 rfl) ?_
        refine Wl.q rfl (Qy.load 4 T.one3 rfl rfl rfl) ?_
        refine Wl.q rfl (Qy.fieldAddr T.fa99_1 rfl) ?_
        refine Wl.q rfl (Qy.load 4 T.one3 rfl rfl rfl) ?_
        refine Wl.q rfl (Qy.fieldAddr T.fa99_1 rfl) ?_
        refine Wl.store 4 T.one3 rfl rfl rfl rfl rfl ?_
        refine Wl.q rfl (Qy.fieldAddr T.fa99_2 rfl) ?_
        refine Wl.store 4 T.one3 rfl rfl rfl rfl rfl ?_
        refine Wl.done ?_
        rotate_left
        refine Wc.skip ?_
        rotate_left
        · refine Ar.meet (⟨i.op, v, held[i.a.toNat]?.getD default, i.c⟩) ?_ rfl ⟨rfl, rfl, rfl, rfl, rfl, trivial⟩ ⟨rfl, rfl, rfl, rfl, rfl, trivial⟩
          have hv : v = held[i.b.toNat]?.getD default := by rw [hk, if_pos (by omega)]
          unfold keyOf
          rw [if_pos (by omega), ← hv, if_pos hc2]
        · refine Ar.meet (⟨i.op, held[i.a.toNat]?.getD default, v, i.c⟩) ?_ rfl ⟨rfl, rfl, rfl, rfl, rfl, trivial⟩ ⟨rfl, rfl, rfl, rfl, rfl, trivial⟩
          unfold keyOf
          by_cases h3 : i.op = 3 ∨ i.op = 4
          · rw [if_pos h3] at hk ⊢
            rw [← hk, if_neg hc2]
          · rw [if_neg h3] at hk ⊢
            rw [hk]
      · have hx := hk
        clear hk
        have hkn : ∀ y : List R6, mget (y.map fun k => (keyR k, k.f)) x = none → mget (y.map fun k => (keyR k, k.e)) x = none := fun y h => by
          rw [mget_none] at h ⊢
          simpa using h
        refine Wc.seq ?_
        refine Wc.seq ?_
        refine Wc.region rfl ?_
        refine Wl.q rfl (Qy.assign rfl) ?_
        refine Wl.done ?_
        refine Ar.next ?_
        refine Wc.block ?_
        refine Wc.loop (ι := Nat) (fun k => ([(9, .int .i64 (k : Int)), (8, Go.Value.pointer (Option.some (Go.Addr.mk b2 0 Option.none))), (0, Go.Value.pointer (Option.some (Go.Addr.mk bs 0 Option.none))), (1, Go.Value.int Go.IntKind.i64 n)], [(4, Option.some b2, Go.Obj.cells #[Go.Value.int Go.IntKind.i64 (Go.Sl.K4.op x), Go.Value.int Go.IntKind.i64 (Go.Sl.K4.a x), Go.Value.int Go.IntKind.i64 (Go.Sl.K4.b x), Go.Value.int Go.IntKind.i64 (Go.Sl.K4.c x), Go.Value.int Go.IntKind.i64 n, Go.Value.int Go.IntKind.i64 next] 99), (3, Option.some b1, Go.Obj.cells (List.toArray (Go.Sl.Cells.enc i)) 34), (0, Option.some bs, Go.Obj.cells #[Go.Value.slice a (List.length held) c, Go.Value.slice b (List.length ks) d, Go.Value.int Go.IntKind.i64 next] 61), (1, Option.map (fun x => Go.Addr.block x) a, Go.Sl.Row (α := Int) 3 (held) (junk)), (2, Option.map (fun x => Go.Addr.block x) b, Go.Sl.Row (α := Go.Sl.R6) 99 (ks) (j))])) (fun k => k ≤ ks.length ∧ (ks.take k).all (fun r => !decide (keyR r = x)) = true) (fun k => ks.length - k) (0) (⟨Nat.zero_le _, rfl⟩) ⟨rfl, rfl, rfl, rfl, trivial⟩ ⟨rfl, rfl, rfl, rfl, rfl, trivial⟩ (fun k => fun (hk : k ≤ ks.length ∧ (ks.take k).all (fun r => !decide (keyR r = x)) = true) => ?_)
        obtain ⟨hk1, hk2⟩ := hk
        refine Wc.seq ?_
        refine Wc.seq ?_
        refine Wc.region rfl ?_
        refine Wl.q rfl (Qy.move rfl) ?_
        refine Wl.q rfl (Qy.move rfl) ?_
        refine Wl.q rfl (Qy.nilCheck rfl) ?_
        refine Wl.q rfl (Qy.fieldAddr T.fa61_1 rfl) ?_
        refine Wl.q rfl (Qy.load 0 T.one59 rfl rfl rfl) ?_
        refine Wl.q rfl (Qy.len T.sl59 rfl) ?_
        refine Wl.q rfl (Qy.lss rfl rfl) ?_
        refine Wl.done ?_
        refine Ar.next ?_
        refine Wc.cond rfl (fun hc2 => ?_) (fun hc2 => ?_)
        refine Wc.skip ?_
        refine Ar.next ?_
        refine Wc.seq ?_
        refine Wc.block ?_
        refine Wc.seq ?_
        refine Wc.region rfl ?_
        refine Wl.q rfl (Qy.move rfl) ?_
        refine Wl.q rfl (Qy.nilCheck rfl) ?_
        refine Wl.q rfl (Qy.fieldAddr T.fa61_1 rfl) ?_
        refine Wl.q rfl (Qy.load 0 T.one59 rfl rfl rfl) ?_
        refine Wl.q rfl (Qy.move rfl) ?_
        refine Wl.q rfl (Qy.indexAddrO (α := R6) T.sl59 rfl rfl (by assumption) (by omega)) ?_
        refine Wl.q rfl (Qy.loadsO 2 T.agg99 rfl rfl (by assumption) (by omega)) ?_
        refine Wl.alloc 5 rfl T.zero99 (fun b3 => ?_)
        refine Wl.storeAll 5 T.size99 rfl rfl rfl rfl rfl rfl ?_
        refine Wl.done ?_
        refine Ar.next ?_
        refine Wc.seq ?_
        refine Wc.region rfl ?_
        refine Wl.q rfl (Qy.fieldAddr T.fa99_0 rfl) ?_
        refine Wl.q rfl (Qy.load 5 T.one3 rfl rfl rfl) ?_
        refine Wl.q rfl (Qy.fieldAddr T.fa99_0 rfl) ?_
        refine Wl.q rfl (Qy.load 4 T.one3 rfl rfl rfl) ?_
        refine Wl.q rfl (Qy.eql rfl rfl) ?_
        refine Wl.q rfl (Qy.move rfl) ?_
        apply Wl.joinAnd 6 94 100 rfl
        intro hg1
        refine Wl.want rfl rfl ?_
        refine Wl.q rfl (Qy.fieldAddr T.fa99_1 rfl) ?_
        refine Wl.want rfl rfl ?_
        refine Wl.q rfl (Qy.load 5 T.one3 rfl rfl rfl) ?_
        refine Wl.want rfl rfl ?_
        refine Wl.q rfl (Qy.fieldAddr T.fa99_1 rfl) ?_
        refine Wl.want rfl rfl ?_
        refine Wl.q rfl (Qy.load 4 T.one3 rfl rfl rfl) ?_
        refine Wl.want rfl rfl ?_
        refine Wl.q rfl (Qy.eql rfl rfl) ?_
        refine Wl.q rfl (Qy.pick rfl rfl) ?_
        exact Wl.back 6 0 rfl rfl rfl rfl rfl
        intro hg1
        refine Wl.pass rfl rfl rfl ?_
        refine Wl.pass rfl rfl rfl ?_
        refine Wl.pass rfl rfl rfl ?_
        refine Wl.pass rfl rfl rfl ?_
        refine Wl.pass rfl rfl rfl ?_
        refine Wl.q rfl (Qy.pick rfl rfl) ?_
        exact Wl.back 6 0 rfl rfl rfl rfl rfl
        refine Wl.q rfl (Qy.move rfl) ?_
        apply Wl.joinAnd 6 101 107 rfl
        intro hg1
        refine Wl.want rfl rfl ?_
        refine Wl.q rfl (Qy.fieldAddr T.fa99_2 rfl) ?_
        refine Wl.want rfl rfl ?_
        refine Wl.q rfl (Qy.load 5 T.one3 rfl rfl rfl) ?_
        refine Wl.want rfl rfl ?_
        refine Wl.q rfl (Qy.fieldAddr T.fa99_2 rfl) ?_
        refine Wl.want rfl rfl ?_
        refine Wl.q rfl (Qy.load 4 T.one3 rfl rfl rfl) ?_
        refine Wl.want rfl rfl ?_
        refine Wl.q rfl (Qy.eql rfl rfl) ?_
        refine Wl.q rfl (Qy.pick rfl rfl) ?_
        exact Wl.back 6 0 rfl rfl rfl rfl rfl
        intro hg1
        refine Wl.pass rfl rfl rfl ?_
        refine Wl.pass rfl rfl rfl ?_
        refine Wl.pass rfl rfl rfl ?_
        refine Wl.pass rfl rfl rfl ?_
        refine Wl.pass rfl rfl rfl ?_
        refine Wl.q rfl (Qy.pick rfl rfl) ?_
        exact Wl.back 6 0 rfl rfl rfl rfl rfl
        refine Wl.q rfl (Qy.move rfl) ?_
        apply Wl.joinAnd 6 108 114 rfl
        intro hg1
        refine Wl.want rfl rfl ?_
        refine Wl.q rfl (Qy.fieldAddr T.fa99_3 rfl) ?_
        refine Wl.want rfl rfl ?_
        refine Wl.q rfl (Qy.load 5 T.one3 rfl rfl rfl) ?_
        refine Wl.want rfl rfl ?_
        refine Wl.q rfl (Qy.fieldAddr T.fa99_3 rfl) ?_
        refine Wl.want rfl rfl ?_
        refine Wl.q rfl (Qy.load 4 T.one3 rfl rfl rfl) ?_
        refine Wl.want rfl rfl ?_
        refine Wl.q rfl (Qy.eql rfl rfl) ?_
        refine Wl.q rfl (Qy.pick rfl rfl) ?_
        exact Wl.back 6 0 rfl rfl rfl rfl rfl
        intro hg1
        refine Wl.pass rfl rfl rfl ?_
        refine Wl.pass rfl rfl rfl ?_
        refine Wl.pass rfl rfl rfl ?_
        refine Wl.pass rfl rfl rfl ?_
        refine Wl.pass rfl rfl rfl ?_
        refine Wl.q rfl (Qy.pick rfl rfl) ?_
        exact Wl.back 6 0 rfl rfl rfl rfl rfl
        refine Wl.done ?_
        refine Ar.next ?_
        refine Wc.cond rfl (fun hc3 => ?_) (fun hc3 => ?_)
        refine Wc.seq ?_
        refine Wc.draw [2, 1, 0, 3, 4, 5] [] T.mixed rfl ?_
        refine Gm.q 0 [] (by kernel_rfl) rfl rfl (Qy.fieldAddr T.fa99_5 rfl) ?_
        refine Gm.q 1 [5] (by kernel_rfl) rfl rfl (Qy.load 5 T.one3 rfl rfl rfl) ?_
        refine Gm.q 2 [] (by kernel_rfl) rfl rfl (Qy.fieldAddr T.fa99_4 rfl) ?_
        refine Gm.q 3 [5] (by kernel_rfl) rfl rfl (Qy.load 5 T.one3 rfl rfl rfl) ?_
        refine Gm.q 4 [] (by kernel_rfl) rfl rfl (Qy.assign rfl) ?_
        refine Gm.q 5 [] (by kernel_rfl) rfl rfl (Qy.assign rfl) ?_
        refine Gm.doneA (by kernel_rfl) ⟨rfl, rfl, rfl, rfl, rfl, rfl, trivial⟩ (by first | exact Imm.le_refl _ | assumption) ?_
        refine Ar.next ?_
        refine Wc.ret ?_
        refine Ar.outRet ?_
        refine Ar.passRet ?_
        refine Ar.passRet ?_
        refine Ar.outRet ?_
        refine Ar.passRet ?_
        refine Ar.out2 (.inr rfl) (Ho := Hp.only _ [0, 1, 2]) rfl (.tmp rfl) (.tmp rfl) (Hp.sub_only _ _) ?_
        rotate_left
        refine Wc.skip ?_
        refine Ar.outNormal ?_
        refine Ar.next ?_
        refine Wc.region rfl ?_
        refine Wl.q rfl (Qy.move rfl) ?_
        refine Wl.q rfl (Qy.add rfl rfl (by omega)) ?_
        refine Wl.q rfl (Qy.assign rfl) ?_
        refine Wl.done ?_
        rotate_left
        refine Wc.exit ?_
        refine Ar.passExit ?_
        refine Ar.passExit ?_
        refine Ar.here ?_
        refine Ar.next ?_
        refine Wc.seq ?_
        refine Wc.draw [2, 1, 0, 3, 4] [(0, 10), (1, 7), (2, 7)] T.mixed rfl ?_
        refine Gm.q 0 [] (by kernel_rfl) rfl rfl (Qy.move rfl) ?_
        refine Gm.q 1 [] (by kernel_rfl) rfl rfl (Qy.move rfl) ?_
        refine Gm.q 2 [] (by kernel_rfl) rfl rfl (Qy.nilCheck rfl) ?_
        refine Gm.q 3 [] (by kernel_rfl) rfl rfl (Qy.fieldAddr T.fa61_1 rfl) ?_
        refine Gm.q 4 [0] (by kernel_rfl) rfl rfl (Qy.load 0 T.one59 rfl rfl rfl) ?_
        refine Gm.q 5 [4] (by kernel_rfl) rfl rfl (Qy.loadAll 4 T.agg99 rfl rfl rfl) ?_
        refine Gm.one 6 ⟨rfl, rfl, rfl, rfl, rfl, trivial⟩ (by first | exact Imm.le_refl _ | assumption) (by kernel_rfl) rfl ?_
        refine Wl.lit (α := R6) 5 [⟨Go.Sl.K4.op x, Go.Sl.K4.a x, Go.Sl.K4.b x, Go.Sl.K4.c x, n, next⟩] rfl T.sl59 T.el99 rfl rfl rfl rfl rfl (fun b3 => ?_)
        refine Wl.on0 ?_
        refine Gm.one 7 ⟨rfl, rfl, rfl, rfl, rfl, trivial⟩ (by first | exact Imm.le_refl _ | assumption) (by kernel_rfl) rfl ?_
        refine Wl.append (α := R6) 2 rfl T.sl59 T.el99 rfl rfl rfl (by first | assumption | exact OwnA.nil | exact OwnA.made (by simp)) (Src.row 5 rfl) (by first | omega | (simp only [List.length_append, List.length_cons, List.length_nil, maxLen]; omega)) (by first | omega | (simp only [List.length_append, List.length_cons, List.length_nil, maxLen]; omega)) (fun a1 c1 junk1 ho1 => ?_)
        refine Wl.on0 ?_
        refine Gm.q 8 [] (by kernel_rfl) rfl rfl (Qy.nilCheck rfl) ?_
        refine Gm.q 9 [] (by kernel_rfl) rfl rfl (Qy.fieldAddr T.fa61_1 rfl) ?_
        refine Gm.one 10 ⟨rfl, rfl, rfl, trivial⟩ (by first | exact Imm.le_refl _ | assumption) (by kernel_rfl) rfl ?_
        refine Wl.store 0 T.one59 rfl rfl rfl rfl rfl ?_
        refine Wl.on0 ?_
        refine Gm.doneA (by kernel_rfl) ⟨rfl, rfl, trivial⟩ (by first | exact Imm.le_refl _ | assumption) ?_
        refine Ar.next ?_
        refine Wc.seq ?_
        refine Wc.region rfl ?_
        refine Wl.q rfl (Qy.move rfl) ?_
        refine Wl.q rfl (Qy.nilCheck rfl) ?_
        refine Wl.q rfl (Qy.fieldAddr T.fa61_2 rfl) ?_
        refine Wl.q rfl (Qy.load 0 T.one3 rfl rfl rfl) ?_
        refine Wl.q rfl (Qy.add rfl rfl (by omega)) ?_
        refine Wl.q rfl (Qy.nilCheck rfl) ?_
        refine Wl.q rfl (Qy.fieldAddr T.fa61_2 rfl) ?_
        refine Wl.store 0 T.one3 rfl rfl rfl rfl rfl ?_
        refine Wl.done ?_
        refine Ar.next ?_
        refine Wc.seq ?_
        refine Wc.region rfl ?_
        refine Wl.q rfl (Qy.fieldAddr T.fa99_5 rfl) ?_
        refine Wl.q rfl (Qy.load 4 T.one3 rfl rfl rfl) ?_
        refine Wl.q rfl (Qy.move rfl) ?_
        refine Wl.q rfl (Qy.assign rfl) ?_
        refine Wl.q rfl (Qy.assign rfl) ?_
        refine Wl.done ?_
        refine Ar.next ?_
        refine Wc.ret ?_
        refine Ar.out2 (.inr rfl) (Ho := Hp.only _ [0, 1, 2]) rfl (.tmp rfl) (.tmp rfl) (Hp.sub_only _ _) ?_
        rotate_left
        · have hm1 := mget_at (g := fun r => r.f) (k := k) (by omega) hk2 (keyR_iff.2 hc3)
          have hm2 := mget_at (g := fun r => r.e) (k := k) (by omega) hk2 (keyR_iff.2 hc3)
          have h : reckonP (tabOf held ks next) n i = (((ks[((k : Nat) : Int).toNat]?.getD default).f, (ks[((k : Nat) : Int).toNat]?.getD default).e), tabOf held ks next) := by
            unfold reckonP tabOf
            simp only
            rw [if_neg hc1, ← hx, hm1, hm2]
            rfl
          rw [h]
          exact ⟨ks, b, d, j, rfl, rfl, hks, Nat.le_succ _, rfl, rfl⟩
        · refine Ar.again (k + 1) ?_ ?_ rfl ⟨rfl, rfl, rfl, rfl, trivial⟩ ⟨rfl, rfl, rfl, rfl, rfl, trivial⟩
          · refine ⟨by omega, ?_⟩
            rw [all_step _ (by omega), hk2]
            simp only [Bool.true_and, Bool.not_eq_true', decide_eq_false_iff_not, keyR_iff]
            exact hc3
          · omega
        · have hkk : k = ks.length := by omega
          subst hkk
          rw [List.take_length] at hk2
          have hm1 := mget_not (g := fun r => r.f) hk2
          have h : reckonP (tabOf held ks next) n i = ((next, n), tabOf held (ks ++ [⟨x.op, x.a, x.b, x.c, n, next⟩]) (next + 1)) := by
            unfold reckonP tabOf
            simp only
            rw [if_neg hc1, ← hx, hm1]
            simp [keyR]
          rw [h]
          exact ⟨ks ++ [⟨x.op, x.a, x.b, x.c, n, next⟩], a1, c1, junk1, rfl, rfl, ho1, by simp, rfl, rfl⟩
end Go.Proofs.Ytfleehgbpgmcnaa
