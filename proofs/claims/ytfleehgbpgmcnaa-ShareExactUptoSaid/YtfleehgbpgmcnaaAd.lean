import Derived.Test.YtfleehgbpgmcnaaAc
namespace Go.Proofs.Ytfleehgbpgmcnaa
open Go Go.Sl
set_option maxRecDepth 100000

set_option maxHeartbeats 2000000
/-- the pass, one instruction: the table, what comes out -/
def passStep (s : Tab × List Sl.Instr) (n : Int) (i : Sl.Instr) : Tab × List Sl.Instr :=
  let v := (reckonP s.1 n i).1.1
  let t := (reckonP s.1 n i).2
  let j := askedP t.held i
  if t.held[i.to.toNat]?.getD default = v then (t, s.2)
  else ({ t with held := t.held.set i.to.toNat v }, s.2 ++ [if 0 ≤ holder t.held v then ⟨1, j.to, holder t.held v, 0, 0⟩ else j])
def passTo (p : PV) : Nat → Tab × List Sl.Instr
  | 0 => (⟨start p, [], [], p.ins + 1⟩, [])
  | k + 1 => passStep (passTo p k) k (p.code[((k : Nat) : Int).toNat]?.getD default)
def passOuts (p : PV) (held : List Int) : List Int := p.outs.map fun r => holder held (held[r.toNat]?.getD default)
def passP (p : PV) : PV := ⟨p.ins, p.regs, (passTo p p.code.length).2, passOuts p (passTo p p.code.length).1.held⟩
theorem right_facts {p : PV} (h : rightP p = true) : 1 ≤ p.ins ∧ p.ins ≤ p.regs ∧ p.regs ≤ 128 ∧ p.code.length ≤ 16384 ∧ 1 ≤ p.outs.length ∧ p.outs.length ≤ 128 ∧ (∀ r ∈ p.outs, 0 ≤ r ∧ r < p.regs) ∧ (∀ i ∈ p.code, mayOk i p.regs = true) := by
  unfold rightP checkP at h
  by_cases hh : headOk p = false
  · rw [if_pos hh] at h; cases h
  · rw [if_neg hh] at h
    have hb : badAt p = none := by
      cases hb : badAt p with
      | none => rfl
      | some k => rw [hb] at h; cases h
    have hh' : headOk p = true := by simpa using hh
    unfold headOk at hh'
    rw [Bool.and_eq_true, decide_eq_true_eq, List.all_eq_true] at hh'
    unfold badAt at hb
    rw [List.findIdx?_eq_none_iff] at hb
    obtain ⟨⟨g1, g2, g3, g4, g5, g6⟩, g7⟩ := hh'
    refine ⟨g1, g2, g3, g4, g5, g6, fun r hr => ?_, fun i hi => ?_⟩
    · have := g7 r hr; rw [decide_eq_true_eq] at this; exact this
    · simpa using hb i hi
theorem reckon_held (t : Tab) (n : Int) (i : Sl.Instr) : (reckonP t n i).2.held = t.held := by
  unfold reckonP; split
  · rfl
  · split <;> rfl
theorem reckon_kf {t : Tab} {n : Int} {i : Sl.Instr} (h : ∀ x, mget t.known x = none → mget t.first x = none) : ∀ x, mget (reckonP t n i).2.known x = none → mget (reckonP t n i).2.first x = none := by
  unfold reckonP
  split
  · exact h
  · split
    · rename_i hk
      intro x hx
      rw [← mput_none _ _ _ hk, mget_mput] at hx
      rw [← mput_none _ _ _ (h _ hk), mget_mput]
      split at hx
      · cases hx
      · rename_i hne; rw [if_neg hne]; exact h _ hx
    · exact h
theorem reckon_next {t : Tab} (h : 0 ≤ t.next) (n : Int) (i : Sl.Instr) : 0 ≤ (reckonP t n i).2.next ∧ (reckonP t n i).2.next ≤ t.next + 1 := by
  unfold reckonP
  split
  · exact ⟨h, by show t.next ≤ _; omega⟩
  · split
    · exact ⟨by show 0 ≤ t.next + 1; omega, Int.le_refl _⟩
    · exact ⟨h, by show t.next ≤ _; omega⟩
section
variable {t : Tab} {out : List Sl.Instr} {n : Int} {i : Sl.Instr}
theorem passStep_same (h : (reckonP t n i).2.held[(askedP (reckonP t n i).2.held i).to.toNat]?.getD default = (reckonP t n i).1.1) : passStep (t, out) n i = ((reckonP t n i).2, out) := if_pos h
theorem passStep_move (h : ¬ (reckonP t n i).2.held[(askedP (reckonP t n i).2.held i).to.toNat]?.getD default = (reckonP t n i).1.1) (h2 : 0 ≤ holder (reckonP t n i).2.held (reckonP t n i).1.1) :
    passStep (t, out) n i = ({ (reckonP t n i).2 with held := (reckonP t n i).2.held.set (askedP (reckonP t n i).2.held i).to.toNat (reckonP t n i).1.1 }, out ++ [⟨1, (askedP (reckonP t n i).2.held i).to, holder (reckonP t n i).2.held (reckonP t n i).1.1, 0, 0⟩]) :=
  (if_neg h).trans (by rw [if_pos h2]; rfl)
theorem passStep_keep (h : ¬ (reckonP t n i).2.held[(askedP (reckonP t n i).2.held i).to.toNat]?.getD default = (reckonP t n i).1.1) (h2 : ¬ 0 ≤ holder (reckonP t n i).2.held (reckonP t n i).1.1) :
    passStep (t, out) n i = ({ (reckonP t n i).2 with held := (reckonP t n i).2.held.set (askedP (reckonP t n i).2.held i).to.toNat (reckonP t n i).1.1 }, out ++ [askedP (reckonP t n i).2.held i]) :=
  (if_neg h).trans (by rw [if_neg h2]; rfl)
end
theorem c14W (G : Imm) (p : PV) (ac ao : Option Addr) (cc co : Nat) (hc : Arr G ac p.code) (ho : Arr G ao p.outs) (h1 : p.code.length ≤ 1099511627776) (h2 : p.outs.length ≤ 1099511627776) (hR : ¬ rightP p = true) :
    Does Try.prog 14 [.agg #[.int .i64 p.ins, .int .i64 p.regs, .slice ac p.code.length cc, .slice ao p.outs.length co]] G [] (fun v G' Ho =>
      v = .tuple #[.agg #[.int .i64 0, .int .i64 0, .slice none 0 0, .slice none 0 0], .int .i64 80] ∧ Ho = [] ∧ G' = G) := by
  have hcheck : (checkP p).2 = true := by simpa [rightP] using hR
  refine Does.enter Try.func14 rfl Try.ntmps14 rfl (fun w => ?_)
  refine Wc.seq ?_
  refine Wc.region rfl ?_
  refine Wl.box 0 rfl rfl rfl (fun b1 => ?_)
  refine Wl.alloc 1 rfl T.zero25 (fun b2 => ?_)
  refine Wl.q rfl (Qy.assign rfl) ?_
  refine Wl.done ?_
  refine Ar.next ?_
  refine Wc.seq ?_
  refine Wc.seq ?_
  refine Wc.region rfl ?_
  refine Wl.q rfl (Qy.loadAll 0 T.agg25 rfl rfl rfl) ?_
  refine Wl.call0 rfl T.fn53 rfl (c53 _ _ _ _ _ _ (by assumption) (by assumption) (by omega) (by omega)) ?_
  refine Wl.q rfl (Qy.move rfl) ?_
  refine Wl.q rfl (Qy.extract rfl rfl) ?_
  refine Wl.q rfl (Qy.extract rfl rfl) ?_
  refine Wl.q rfl (Qy.assign rfl) ?_
  refine Wl.q rfl (Qy.assign rfl) ?_
  refine Wl.done ?_
  refine Ar.next ?_
  refine Wc.seq ?_
  refine Wc.region rfl ?_
  refine Wl.q rfl (Qy.move rfl) ?_
  refine Wl.q rfl (Qy.neq rfl rfl) ?_
  refine Wl.done ?_
  refine Ar.next ?_
  refine Wc.cond rfl (fun hc1 => ?_) (fun hc1 => ?_)
  refine Wc.seq ?_
  refine Wc.region rfl ?_
  refine Wl.q rfl (Qy.build (cs := [_, _, _, _]) T.st25 rfl rfl rfl) ?_
  refine Wl.q rfl (Qy.move rfl) ?_
  refine Wl.storeAll 1 T.size25 rfl rfl rfl rfl rfl rfl ?_
  refine Wl.q rfl (Qy.assign rfl) ?_
  refine Wl.done ?_
  refine Ar.next ?_
  refine Wc.ret ?_
  refine Ar.passRet ?_
  rotate_left
  refine Wc.skip ?_
  refine Ar.next ?_
  refine Wc.seq ?_
  refine Wc.region rfl ?_
  refine Wl.q rfl (Qy.loadAll 0 T.agg25 rfl rfl rfl) ?_
  rotate_left
  · refine Ar.out2 (.inr rfl) (Ho := []) rfl (.agg 1 rfl rfl T.agg25) (.tmp rfl) trivial ?_
    rw [hcheck]; exact ⟨rfl, rfl, rfl⟩
  · rw [hcheck] at hc1; exact absurd (by decide) hc1
theorem c14R (G : Imm) (p : PV) (ac ao : Option Addr) (cc co : Nat) (hc : Arr G ac p.code) (ho : Arr G ao p.outs) (h1 : p.code.length ≤ 1099511627776) (h2 : p.outs.length ≤ 1099511627776) (hR : rightP p = true) :
    Does Try.prog 14 [.agg #[.int .i64 p.ins, .int .i64 p.regs, .slice ac p.code.length cc, .slice ao p.outs.length co]] G [] (fun v G' Ho =>
      ∃ bc bo dc do_ j1 j2, v = .tuple #[.agg #[.int .i64 p.ins, .int .i64 p.regs, .slice bc (passP p).code.length dc, .slice bo (passP p).outs.length do_], .int .i64 0] ∧
        OwnA bc dc (passP p).code j1 ∧ OwnA bo do_ (passP p).outs j2 ∧ Ho = [(0, bc.map (·.block), Row 34 (passP p).code j1), (1, bo.map (·.block), Row 3 (passP p).outs j2)] ∧ G' = G) := by
  obtain ⟨r1, r2, r3, r4, r5, r6, r7, r8⟩ := right_facts hR
  have hcheck : (checkP p).2 = false := by simpa [rightP] using hR
  refine Does.enter Try.func14 rfl Try.ntmps14 rfl (fun w => ?_)
  refine Wc.nilRow 0 (Row 34 ([] : List Sl.Instr) []) (Wc.nilRow 1 (Row 3 ([] : List Int) []) ?_)
  refine Wc.seq ?_
  refine Wc.region rfl ?_
  refine Wl.box 2 rfl rfl rfl (fun b1 => ?_)
  refine Wl.alloc 3 rfl T.zero25 (fun b2 => ?_)
  refine Wl.q rfl (Qy.assign rfl) ?_
  refine Wl.done ?_
  refine Ar.next ?_
  refine Wc.seq ?_
  refine Wc.seq ?_
  refine Wc.region rfl ?_
  refine Wl.q rfl (Qy.loadAll 2 T.agg25 rfl rfl rfl) ?_
  refine Wl.call0 rfl T.fn53 rfl (c53 _ _ _ _ _ _ (by assumption) (by assumption) (by omega) (by omega)) ?_
  refine Wl.q rfl (Qy.move rfl) ?_
  refine Wl.q rfl (Qy.extract rfl rfl) ?_
  refine Wl.q rfl (Qy.extract rfl rfl) ?_
  refine Wl.q rfl (Qy.assign rfl) ?_
  refine Wl.q rfl (Qy.assign rfl) ?_
  refine Wl.done ?_
  refine Ar.next ?_
  refine Wc.seq ?_
  refine Wc.region rfl ?_
  refine Wl.q rfl (Qy.move rfl) ?_
  refine Wl.q rfl (Qy.neq rfl rfl) ?_
  refine Wl.done ?_
  refine Ar.next ?_
  refine Wc.cond rfl (fun hc1 => ?_) (fun hc1 => ?_)
  refine Wc.seq ?_
  refine Wc.region rfl ?_
  refine Wl.q rfl (Qy.build (cs := [_, _, _, _]) T.st25 rfl rfl rfl) ?_
  refine Wl.q rfl (Qy.move rfl) ?_
  refine Wl.storeAll 3 T.size25 rfl rfl rfl rfl rfl rfl ?_
  refine Wl.q rfl (Qy.assign rfl) ?_
  refine Wl.done ?_
  refine Ar.next ?_
  refine Wc.ret ?_
  refine Ar.passRet ?_
  rotate_left
  refine Wc.skip ?_
  refine Ar.next ?_
  refine Wc.seq ?_
  refine Wc.region rfl ?_
  refine Wl.q rfl (Qy.loadAll 2 T.agg25 rfl rfl rfl) ?_
  refine Wl.call 4 rfl T.fn54 rfl (c54 _ _ _ _ _ _ (by omega)) (tags_of trivial) (fun v1 G1 Ho1 hle1 hp => ?_)
  obtain ⟨bt1, bk1, bf1, ta1, tc1, tj1, rfl, hto1, rfl, rfl⟩ := hp
  refine Wl.q rfl (Qy.assign rfl) ?_
  refine Wl.done ?_
  refine Ar.next ?_
  refine Wc.seq ?_
  refine Wc.region rfl ?_
  refine Wl.q rfl (Qy.fieldAddr T.fa25_0 rfl) ?_
  refine Wl.q rfl (Qy.load 2 T.one3 rfl rfl rfl) ?_
  refine Wl.q rfl (Qy.fieldAddr T.fa25_1 rfl) ?_
  refine Wl.q rfl (Qy.load 2 T.one3 rfl rfl rfl) ?_
  refine Wl.q rfl (Qy.build (cs := [_, _, _, _]) T.st25 rfl rfl rfl) ?_
  refine Wl.alloc 8 rfl T.zero25 (fun b3 => ?_)
  refine Wl.storeAll 8 T.size25 rfl rfl rfl rfl rfl rfl ?_
  refine Wl.done ?_
  refine Ar.next ?_
  refine Wc.seq ?_
  refine Wc.seq ?_
  refine Wc.region rfl ?_
  refine Wl.q rfl (Qy.fieldAddr T.fa25_2 rfl) ?_
  refine Wl.q rfl (Qy.load 2 T.one22 rfl rfl rfl) ?_
  refine Wl.q rfl (Qy.len T.sl22 rfl) ?_
  refine Wl.q rfl (Qy.move rfl) ?_
  refine Wl.done ?_
  refine Ar.next ?_
  refine Wc.block ?_
  rotate_left
  · rw [hcheck] at hc1; exact absurd rfl hc1
  refine Wc.loop (ι := Nat × Tab × List Sl.Instr × (Option Addr × Nat × List Value) × (Option Addr × Nat × List Value)) (fun (k, t, out, (a, c, junk), (a', c', junk')) => ([(34, .int .i64 (k : Int)), (33, Go.Value.int Go.IntKind.i64 (↑(List.length (Go.Proofs.Ytfleehgbpgmcnaa.PV.code p)) : Int)), (32, Go.Value.slice ac (List.length (Go.Proofs.Ytfleehgbpgmcnaa.PV.code p)) cc), (7, Go.Value.pointer (Option.some (Go.Addr.mk b3 0 Option.none))), (6, Go.Value.pointer (Option.some (Go.Addr.mk bt1 0 Option.none))), (3, Go.Value.int Go.IntKind.i64 0), (2, Go.Value.pointer (Option.some (Go.Addr.mk b2 0 Option.none))), (1, Go.Value.pointer (Option.some (Go.Addr.mk b1 0 Option.none)))], [(4, some bt1, .cells #[.slice a t.held.length c, .map (some bk1), .map (some bf1), .int .i64 t.next] 86), (5, a.map (·.block), Row 3 t.held junk), (6, some bk1, mapObj t.known), (7, some bf1, mapObj t.first), (8, some b3, .cells #[.int .i64 p.ins, .int .i64 p.regs, .slice a' out.length c', .slice none 0 0] 25), (0, a'.map (·.block), Row 34 out junk'), (3, Option.some b2, Go.Obj.cells #[Go.Value.int Go.IntKind.i64 0, Go.Value.int Go.IntKind.i64 0, Go.Value.slice Option.none 0 0, Go.Value.slice Option.none 0 0] 25), (2, Option.some b1, Go.Obj.cells #[Go.Value.int Go.IntKind.i64 (Go.Proofs.Ytfleehgbpgmcnaa.PV.ins p), Go.Value.int Go.IntKind.i64 (Go.Proofs.Ytfleehgbpgmcnaa.PV.regs p), Go.Value.slice ac (List.length (Go.Proofs.Ytfleehgbpgmcnaa.PV.code p)) cc, Go.Value.slice ao (List.length (Go.Proofs.Ytfleehgbpgmcnaa.PV.outs p)) co] 25), (1, Option.none, Go.Sl.Row (α := Int) 3 ([]) ([]))])) (fun (k, t, out, (a, c, junk), (a', c', junk')) => k ≤ p.code.length ∧ (t, out) = passTo p k ∧ OwnA a c t.held junk ∧ OwnA a' c' out junk' ∧ (t.held.length : Int) = p.regs ∧ out.length ≤ k ∧ (∀ x, mget t.known x = none → mget t.first x = none) ∧ 0 ≤ t.next ∧ t.next ≤ p.ins + 1 + k) (fun (k, t, out, (a, c, junk), (a', c', junk')) => p.code.length - k) ((0, ⟨start p, [], [], p.ins + 1⟩, [], (ta1, tc1, tj1), (none, 0, []))) (⟨Nat.zero_le _, rfl, hto1, OwnA.nil, by simp [start]; omega, Nat.zero_le _, fun _ _ => rfl, by show 0 ≤ p.ins + 1; omega, by show p.ins + 1 ≤ p.ins + 1 + 0; omega⟩) ⟨rfl, rfl, rfl, rfl, rfl, rfl, rfl, rfl, trivial⟩ ⟨rfl, rfl, rfl, rfl, rfl, rfl, rfl, rfl, rfl, trivial⟩ (fun ⟨k, t, out, (a, c, junk), (a', c', junk')⟩ => fun (hk : k ≤ p.code.length ∧ (t, out) = passTo p k ∧ OwnA a c t.held junk ∧ OwnA a' c' out junk' ∧ (t.held.length : Int) = p.regs ∧ out.length ≤ k ∧ (∀ x, mget t.known x = none → mget t.first x = none) ∧ 0 ≤ t.next ∧ t.next ≤ p.ins + 1 + k) => ?_)
  obtain ⟨hk1, hpass, hoa, hoa', hlen, hout, hkf, hn0, hn1⟩ := hk
  rcases Nat.lt_or_ge k p.code.length with hlt | hge
  · have hm : mayOk (p.code[((k : Nat) : Int).toNat]?.getD default) t.held.length = true := by
      rw [hlen]; refine r8 _ ?_
      rw [Int.toNat_natCast, List.getElem?_eq_getElem hlt]; simp
    have hrh := reckon_held t k (p.code[((k : Nat) : Int).toNat]?.getD default)
    have hra : OwnA a c (reckonP t k (p.code[((k : Nat) : Int).toNat]?.getD default)).2.held junk := by rw [hrh]; exact hoa
    have hrl : (reckonP t k (p.code[((k : Nat) : Int).toNat]?.getD default)).2.held.length = t.held.length := by rw [hrh]
    have hrm : mayOk (p.code[((k : Nat) : Int).toNat]?.getD default) (reckonP t k (p.code[((k : Nat) : Int).toNat]?.getD default)).2.held.length = true := by rw [hrl]; exact hm
    have hto : 0 ≤ (askedP (reckonP t k (p.code[((k : Nat) : Int).toNat]?.getD default)).2.held (p.code[((k : Nat) : Int).toNat]?.getD default)).to ∧
      (askedP (reckonP t k (p.code[((k : Nat) : Int).toNat]?.getD default)).2.held (p.code[((k : Nat) : Int).toNat]?.getD default)).to < (reckonP t k (p.code[((k : Nat) : Int).toNat]?.getD default)).2.held.length := by
      rw [mayOk_iff] at hm; unfold askedP; rw [hrl]; exact ⟨hm.1.2.2.1, hm.1.2.2.2.1⟩
    refine Wc.seq ?_
    refine Wc.region rfl ?_
    refine Wl.q rfl (Qy.lss rfl rfl) ?_
    refine Wl.done ?_
    refine Ar.next ?_
    refine Wc.seq ?_
    refine Wc.condP rfl (by first | assumption | omega) ?_
    refine Wc.skip ?_
    refine Ar.next ?_
    refine Wc.seq ?_
    refine Wc.block ?_
    refine Wc.seq ?_
    refine Wc.region rfl ?_
    refine Wl.q rfl (Qy.move rfl) ?_
    refine Wl.q rfl (Qy.at (α := Instr) T.sl22 rfl rfl (by assumption) (by omega)) ?_
    refine Wl.q rfl (Qy.loadsG T.agg34 rfl (Arr.elem (by assumption) (by omega)) rfl) ?_
    refine Wl.alloc 9 rfl T.zero34 (fun b4 => ?_)
    refine Wl.q rfl (Qy.assign rfl) ?_
    refine Wl.storeAll 9 T.size34 rfl rfl rfl rfl rfl rfl ?_
    refine Wl.done ?_
    refine Ar.next ?_
    refine Wc.seq ?_
    refine Wc.region rfl ?_
    refine Wl.q rfl (Qy.move rfl) ?_
    refine Wl.q rfl (Qy.move rfl) ?_
    refine Wl.q rfl (Qy.loadAll 9 T.agg34 rfl rfl rfl) ?_
    refine Wl.call 4 rfl T.fn55 rfl (c55 _ _ _ _ _ _ _ _ _ _ (by assumption) (by omega) (by assumption) (by assumption) (by omega)) (tags_of ⟨rfl, rfl, rfl, rfl, trivial⟩) (fun v2 G2 Ho2 hle2 hp => ?_)
    obtain ⟨rfl, rfl, rfl⟩ := hp
    refine Wl.q rfl (Qy.move rfl) ?_
    refine Wl.q rfl (Qy.extract rfl rfl) ?_
    refine Wl.q rfl (Qy.extract rfl rfl) ?_
    refine Wl.q rfl (Qy.assign rfl) ?_
    refine Wl.q rfl (Qy.assign rfl) ?_
    refine Wl.done ?_
    refine Ar.next ?_
    refine Wc.seq ?_
    refine Wc.region rfl ?_
    refine Wl.q rfl (Qy.move rfl) ?_
    refine Wl.q rfl (Qy.loadAll 9 T.agg34 rfl rfl rfl) ?_
    refine Wl.call1 4 rfl T.fn56 rfl (c56 _ _ _ _ _ _ _ _ _ (by assumption) (by omega) (by assumption)) (tags_of ⟨rfl, rfl, rfl, rfl, trivial⟩) ?_
    refine Wl.storeAll 9 T.size34 rfl rfl rfl rfl rfl rfl ?_
    refine Wl.done ?_
    refine Ar.next ?_
    refine Wc.seq ?_
    refine Wc.seq ?_
    refine Wc.draw [1, 2, 3, 0, 8, 7, 6, 5, 4, 9] [] T.mixed rfl ?_
    refine Gm.q 0 [] (by kernel_rfl) rfl rfl (Qy.move rfl) ?_
    refine Gm.q 1 [] (by kernel_rfl) rfl rfl (Qy.nilCheck rfl) ?_
    refine Gm.q 2 [] (by kernel_rfl) rfl rfl (Qy.fieldAddr T.fa86_0 rfl) ?_
    refine Gm.q 3 [4] (by kernel_rfl) rfl rfl (Qy.load 4 T.one23 rfl rfl rfl) ?_
    refine Gm.q 4 [] (by kernel_rfl) rfl rfl (Qy.fieldAddr T.fa34_1 rfl) ?_
    refine Gm.q 5 [9] (by kernel_rfl) rfl rfl (Qy.load 9 T.one3 rfl rfl rfl) ?_
    refine Gm.q 6 [] (by kernel_rfl) rfl rfl (Qy.indexAddrO (α := Int) T.sl23 rfl rfl (by assumption) (by omega)) ?_
    refine Gm.q 7 [0, 5] (by kernel_rfl) rfl rfl (Qy.loadO 5 0 T.one3 rfl rfl (by assumption) (by omega) rfl rfl) ?_
    refine Gm.q 8 [] (by kernel_rfl) rfl rfl (Qy.move rfl) ?_
    refine Gm.q 9 [] (by kernel_rfl) rfl rfl (Qy.eql rfl rfl) ?_
    refine Gm.doneA (by kernel_rfl) ⟨rfl, rfl, rfl, rfl, rfl, rfl, rfl, rfl, rfl, rfl, trivial⟩ (by first | exact Imm.le_refl _ | assumption) ?_
    refine Ar.next ?_
    refine Wc.cond rfl (fun hc2 => ?_) (fun hc2 => ?_)
    refine Wc.exit ?_
    refine Ar.passExit ?_
    refine Ar.here ?_
    refine Ar.next ?_
    refine Wc.region rfl ?_
    refine Wl.q rfl (Qy.add rfl rfl (by omega)) ?_
    refine Wl.q rfl (Qy.move rfl) ?_
    refine Wl.done ?_
    rotate_left
    refine Wc.skip ?_
    refine Ar.next ?_
    refine Wc.seq ?_
    refine Wc.seq ?_
    refine Wc.region rfl ?_
    refine Wl.q rfl (Qy.move rfl) ?_
    refine Wl.q rfl (Qy.move rfl) ?_
    refine Wl.call1 4 rfl T.fn57 rfl (c57 _ _ _ _ _ _ _ _ _ (by assumption) (by omega)) (tags_of ⟨rfl, rfl, rfl, rfl, trivial⟩) ?_
    refine Wl.q rfl (Qy.assign rfl) ?_
    refine Wl.done ?_
    refine Ar.next ?_
    refine Wc.seq ?_
    refine Wc.region rfl ?_
    refine Wl.q rfl (Qy.move rfl) ?_
    refine Wl.q rfl (Qy.geq rfl rfl) ?_
    refine Wl.done ?_
    refine Ar.next ?_
    refine Wc.cond rfl (fun hc3 => ?_) (fun hc3 => ?_)
    refine Wc.region rfl ?_
    refine Wl.q rfl (Qy.fieldAddr T.fa34_1 rfl) ?_
    refine Wl.q rfl (Qy.load 9 T.one3 rfl rfl rfl) ?_
    refine Wl.q rfl (Qy.move rfl) ?_
    refine Wl.q rfl (Qy.build (cs := [_, _, _, _, _]) T.st34 rfl rfl rfl) ?_
    refine Wl.storeAll 9 T.size34 rfl rfl rfl rfl rfl rfl ?_
    refine Wl.done ?_
    refine Ar.next ?_
    refine Wc.seq ?_
    refine Wc.region rfl ?_
    refine Wl.q rfl (Qy.fieldAddr T.fa25_2 rfl) ?_
    refine Wl.q rfl (Qy.load 8 T.one22 rfl rfl rfl) ?_
    refine Wl.q rfl (Qy.loadAll 9 T.agg34 rfl rfl rfl) ?_
    refine Wl.lit (α := Instr) 10 [⟨1, Go.Sl.Instr.to (Go.Proofs.Ytfleehgbpgmcnaa.askedP (Go.Proofs.Ytfleehgbpgmcnaa.Tab.held (Prod.snd (Go.Proofs.Ytfleehgbpgmcnaa.reckonP t (↑k : Int) (Option.getD (Go.Proofs.Ytfleehgbpgmcnaa.PV.code p)[Int.toNat (↑k : Int)]? Inhabited.default)))) (Option.getD (Go.Proofs.Ytfleehgbpgmcnaa.PV.code p)[Int.toNat (↑k : Int)]? Inhabited.default)), Go.Proofs.Ytfleehgbpgmcnaa.holder (Go.Proofs.Ytfleehgbpgmcnaa.Tab.held (Prod.snd (Go.Proofs.Ytfleehgbpgmcnaa.reckonP t (↑k : Int) (Option.getD (Go.Proofs.Ytfleehgbpgmcnaa.PV.code p)[Int.toNat (↑k : Int)]? Inhabited.default)))) (Prod.fst (Prod.fst (Go.Proofs.Ytfleehgbpgmcnaa.reckonP t (↑k : Int) (Option.getD (Go.Proofs.Ytfleehgbpgmcnaa.PV.code p)[Int.toNat (↑k : Int)]? Inhabited.default)))), 0, 0⟩] rfl T.sl22 T.el34 rfl rfl rfl rfl rfl (fun b5 => ?_)
    refine Wl.append (α := Instr) 0 rfl T.sl22 T.el34 rfl rfl rfl (by first | assumption | exact OwnA.nil | exact OwnA.made (by simp)) (Src.row 10 rfl) (by first | omega | (simp only [List.length_append, List.length_cons, List.length_nil, maxLen]; omega)) (by first | omega | (simp only [List.length_append, List.length_cons, List.length_nil, maxLen]; omega)) (fun a1 c1 junk1 ho1 => ?_)
    refine Wl.q rfl (Qy.fieldAddr T.fa25_2 rfl) ?_
    refine Wl.store 8 T.one22 rfl rfl rfl rfl rfl ?_
    refine Wl.done ?_
    refine Ar.next ?_
    refine Wc.draw [1, 2, 3, 7, 6, 5, 4, 9, 10, 0, 8] [(8, 8), (0, 8), (10, 8), (9, 8), (4, 8), (5, 8), (3, 8), (2, 8), (1, 8)] T.mixed rfl ?_
    refine Gm.q 0 [] (by kernel_rfl) rfl rfl (Qy.move rfl) ?_
    refine Gm.q 1 [] (by kernel_rfl) rfl rfl (Qy.nilCheck rfl) ?_
    refine Gm.q 2 [] (by kernel_rfl) rfl rfl (Qy.fieldAddr T.fa86_0 rfl) ?_
    refine Gm.q 3 [4] (by kernel_rfl) rfl rfl (Qy.load 4 T.one23 rfl rfl rfl) ?_
    refine Gm.q 4 [] (by kernel_rfl) rfl rfl (Qy.fieldAddr T.fa34_1 rfl) ?_
    refine Gm.q 5 [9] (by kernel_rfl) rfl rfl (Qy.load 9 T.one3 rfl rfl rfl) ?_
    refine Gm.q 6 [] (by kernel_rfl) rfl rfl (Qy.move rfl) ?_
    refine Gm.q 7 [] (by kernel_rfl) rfl rfl (Qy.indexAddrO (α := Int) T.sl23 rfl rfl (by assumption) (by omega)) ?_
    refine Gm.one 8 ⟨rfl, rfl, rfl, rfl, rfl, rfl, rfl, rfl, rfl, rfl, rfl, trivial⟩ (by first | exact Imm.le_refl _ | assumption) (by kernel_rfl) rfl ?_
    refine Wl.setO (z := _) 5 T.size3 rfl rfl rfl (by assumption) (by omega) rfl (fun ho2 => ?_)
    refine Wl.on0 ?_
    refine Gm.doneA (by kernel_rfl) ⟨rfl, rfl, trivial⟩ (by first | exact Imm.le_refl _ | assumption) ?_
    refine Ar.outNormal ?_
    refine Ar.next ?_
    refine Wc.region rfl ?_
    refine Wl.q rfl (Qy.add rfl rfl (by omega)) ?_
    refine Wl.q rfl (Qy.move rfl) ?_
    refine Wl.done ?_
    rotate_left
    refine Wc.skip ?_
    refine Ar.next ?_
    refine Wc.seq ?_
    refine Wc.region rfl ?_
    refine Wl.q rfl (Qy.fieldAddr T.fa25_2 rfl) ?_
    refine Wl.q rfl (Qy.load 8 T.one22 rfl rfl rfl) ?_
    refine Wl.q rfl (Qy.loadAll 9 T.agg34 rfl rfl rfl) ?_
    refine Wl.lit (α := Instr) 10 [(Go.Proofs.Ytfleehgbpgmcnaa.askedP (Go.Proofs.Ytfleehgbpgmcnaa.Tab.held (Prod.snd (Go.Proofs.Ytfleehgbpgmcnaa.reckonP t (↑k : Int) (Option.getD (Go.Proofs.Ytfleehgbpgmcnaa.PV.code p)[Int.toNat (↑k : Int)]? Inhabited.default)))) (Option.getD (Go.Proofs.Ytfleehgbpgmcnaa.PV.code p)[Int.toNat (↑k : Int)]? Inhabited.default))] rfl T.sl22 T.el34 rfl rfl rfl rfl rfl (fun b5 => ?_)
    refine Wl.append (α := Instr) 0 rfl T.sl22 T.el34 rfl rfl rfl (by first | assumption | exact OwnA.nil | exact OwnA.made (by simp)) (Src.row 10 rfl) (by first | omega | (simp only [List.length_append, List.length_cons, List.length_nil, maxLen]; omega)) (by first | omega | (simp only [List.length_append, List.length_cons, List.length_nil, maxLen]; omega)) (fun a1 c1 junk1 ho1 => ?_)
    refine Wl.q rfl (Qy.fieldAddr T.fa25_2 rfl) ?_
    refine Wl.store 8 T.one22 rfl rfl rfl rfl rfl ?_
    refine Wl.done ?_
    refine Ar.next ?_
    refine Wc.draw [1, 2, 3, 7, 6, 5, 4, 9, 10, 0, 8] [(8, 8), (0, 8), (10, 8), (9, 8), (4, 8), (5, 8), (3, 8), (2, 8), (1, 8)] T.mixed rfl ?_
    refine Gm.q 0 [] (by kernel_rfl) rfl rfl (Qy.move rfl) ?_
    refine Gm.q 1 [] (by kernel_rfl) rfl rfl (Qy.nilCheck rfl) ?_
    refine Gm.q 2 [] (by kernel_rfl) rfl rfl (Qy.fieldAddr T.fa86_0 rfl) ?_
    refine Gm.q 3 [4] (by kernel_rfl) rfl rfl (Qy.load 4 T.one23 rfl rfl rfl) ?_
    refine Gm.q 4 [] (by kernel_rfl) rfl rfl (Qy.fieldAddr T.fa34_1 rfl) ?_
    refine Gm.q 5 [9] (by kernel_rfl) rfl rfl (Qy.load 9 T.one3 rfl rfl rfl) ?_
    refine Gm.q 6 [] (by kernel_rfl) rfl rfl (Qy.move rfl) ?_
    refine Gm.q 7 [] (by kernel_rfl) rfl rfl (Qy.indexAddrO (α := Int) T.sl23 rfl rfl (by assumption) (by omega)) ?_
    refine Gm.one 8 ⟨rfl, rfl, rfl, rfl, rfl, rfl, rfl, rfl, rfl, rfl, rfl, trivial⟩ (by first | exact Imm.le_refl _ | assumption) (by kernel_rfl) rfl ?_
    refine Wl.setO (z := _) 5 T.size3 rfl rfl rfl (by assumption) (by omega) rfl (fun ho2 => ?_)
    refine Wl.on0 ?_
    refine Gm.doneA (by kernel_rfl) ⟨rfl, rfl, trivial⟩ (by first | exact Imm.le_refl _ | assumption) ?_
    refine Ar.outNormal ?_
    refine Ar.next ?_
    refine Wc.region rfl ?_
    refine Wl.q rfl (Qy.add rfl rfl (by omega)) ?_
    refine Wl.q rfl (Qy.move rfl) ?_
    refine Wl.done ?_
    rotate_left
    · generalize hI : p.code[((k : Nat) : Int).toNat]?.getD default = I at *
      refine Ar.again ((k + 1, (reckonP t k I).2, out, (a, c, junk), (a', c', junk'))) ?_ ?_ rfl ⟨rfl, rfl, rfl, rfl, rfl, rfl, rfl, rfl, trivial⟩ ⟨rfl, rfl, rfl, rfl, rfl, rfl, rfl, rfl, rfl, trivial⟩
      · refine ⟨by omega, ?_, hra, hoa', by rw [hrl]; exact hlen, by omega, reckon_kf hkf, (reckon_next hn0 k I).1, ?_⟩
        · show _ = passStep (passTo p k) k (p.code[((k : Nat) : Int).toNat]?.getD default)
          rw [← hpass, hI, passStep_same hc2]
        · have := (reckon_next hn0 k I).2
          omega
      · show p.code.length - (k + 1) < p.code.length - k
        omega
    · generalize hI : p.code[((k : Nat) : Int).toNat]?.getD default = I at *
      refine Ar.reH 4 (.cells #[.slice a ((reckonP t k I).2.held.set (askedP (reckonP t k I).2.held I).to.toNat (reckonP t k I).1.1).length c, .map (some bk1), .map (some bf1), .int .i64 (reckonP t k I).2.next] 86) rfl (by rw [List.length_set]) ?_
      refine Ar.again ((k + 1, { (reckonP t k I).2 with held := (reckonP t k I).2.held.set (askedP (reckonP t k I).2.held I).to.toNat (reckonP t k I).1.1 }, _, (a, c, junk), (a1, c1, junk1))) ?_ ?_ rfl ⟨rfl, rfl, rfl, rfl, rfl, rfl, rfl, rfl, trivial⟩ ⟨rfl, rfl, rfl, rfl, rfl, rfl, rfl, rfl, rfl, trivial⟩
      · refine ⟨by omega, ?_, ho2, ho1, ?_, ?_, reckon_kf hkf, ?_, ?_⟩
        · show _ = passStep (passTo p k) k (p.code[((k : Nat) : Int).toNat]?.getD default)
          rw [← hpass, hI, passStep_move hc2 hc3]
        · show (((reckonP t k I).2.held.set _ _).length : Int) = _
          rw [List.length_set, hrl]; exact hlen
        · rw [List.length_append]; simp only [List.length_cons, List.length_nil]; omega
        · exact (reckon_next hn0 k I).1
        · have := (reckon_next hn0 k I).2
          show (reckonP t k I).2.next ≤ _
          omega
      · show p.code.length - (k + 1) < p.code.length - k
        omega
    · generalize hI : p.code[((k : Nat) : Int).toNat]?.getD default = I at *
      refine Ar.reH 4 (.cells #[.slice a ((reckonP t k I).2.held.set (askedP (reckonP t k I).2.held I).to.toNat (reckonP t k I).1.1).length c, .map (some bk1), .map (some bf1), .int .i64 (reckonP t k I).2.next] 86) rfl (by rw [List.length_set]) ?_
      refine Ar.again ((k + 1, { (reckonP t k I).2 with held := (reckonP t k I).2.held.set (askedP (reckonP t k I).2.held I).to.toNat (reckonP t k I).1.1 }, _, (a, c, junk), (a1, c1, junk1))) ?_ ?_ rfl ⟨rfl, rfl, rfl, rfl, rfl, rfl, rfl, rfl, trivial⟩ ⟨rfl, rfl, rfl, rfl, rfl, rfl, rfl, rfl, rfl, trivial⟩
      · refine ⟨by omega, ?_, ho2, ho1, ?_, ?_, reckon_kf hkf, ?_, ?_⟩
        · show _ = passStep (passTo p k) k (p.code[((k : Nat) : Int).toNat]?.getD default)
          rw [← hpass, hI, passStep_keep hc2 hc3]
        · show (((reckonP t k I).2.held.set _ _).length : Int) = _
          rw [List.length_set, hrl]; exact hlen
        · rw [List.length_append]; simp only [List.length_cons, List.length_nil]; omega
        · exact (reckon_next hn0 k I).1
        · have := (reckon_next hn0 k I).2
          show (reckonP t k I).2.next ≤ _
          omega
      · show p.code.length - (k + 1) < p.code.length - k
        omega
  · have hk : k = p.code.length := by omega
    subst hk
    refine Wc.seq ?_
    refine Wc.region rfl ?_
    refine Wl.q rfl (Qy.lss rfl rfl) ?_
    refine Wl.done ?_
    refine Ar.next ?_
    refine Wc.seq ?_
    refine Wc.condN rfl (by first | assumption | omega) ?_
    refine Wc.exit ?_
    refine Ar.passExit ?_
    refine Ar.passExit ?_
    refine Ar.here ?_
    refine Ar.next ?_
    refine Wc.seq ?_
    refine Wc.seq ?_
    refine Wc.region rfl ?_
    refine Wl.q rfl (Qy.fieldAddr T.fa25_3 rfl) ?_
    refine Wl.q rfl (Qy.load 2 T.one23 rfl rfl rfl) ?_
    refine Wl.q rfl (Qy.len T.sl23 rfl) ?_
    refine Wl.q rfl (Qy.move rfl) ?_
    refine Wl.done ?_
    refine Ar.next ?_
    refine Wc.block ?_
    refine Wc.loop (ι := Nat × List Int × Option Addr × Nat × List Value) (fun (k, os, b, d, j) => ([(86, .int .i64 (k : Int)), (85, Go.Value.int Go.IntKind.i64 (↑(List.length (Go.Proofs.Ytfleehgbpgmcnaa.PV.outs p)) : Int)), (84, Go.Value.slice ao (List.length (Go.Proofs.Ytfleehgbpgmcnaa.PV.outs p)) co), (7, Go.Value.pointer (Option.some (Go.Addr.mk b3 0 Option.none))), (6, Go.Value.pointer (Option.some (Go.Addr.mk bt1 0 Option.none))), (3, Go.Value.int Go.IntKind.i64 0), (2, Go.Value.pointer (Option.some (Go.Addr.mk b2 0 Option.none)))], [(8, some b3, .cells #[.int .i64 p.ins, .int .i64 p.regs, .slice a' out.length c', .slice b os.length d] 25), (1, b.map (·.block), Row 3 os j), (4, Option.some bt1, Go.Obj.cells #[Go.Value.slice a (List.length (Go.Proofs.Ytfleehgbpgmcnaa.Tab.held t)) c, Go.Value.map (Option.some bk1), Go.Value.map (Option.some bf1), Go.Value.int Go.IntKind.i64 (Go.Proofs.Ytfleehgbpgmcnaa.Tab.next t)] 86), (5, Option.map (fun x => Go.Addr.block x) a, Go.Sl.Row (α := Int) 3 (Go.Proofs.Ytfleehgbpgmcnaa.Tab.held t) (junk)), (6, Option.some bk1, Go.Sl.mapObj (κ := Go.Sl.K4) (Go.Proofs.Ytfleehgbpgmcnaa.Tab.known t)), (7, Option.some bf1, Go.Sl.mapObj (κ := Go.Sl.K4) (Go.Proofs.Ytfleehgbpgmcnaa.Tab.first t)), (0, Option.map (fun x => Go.Addr.block x) a', Go.Sl.Row (α := Go.Sl.Instr) 34 (out) (junk')), (3, Option.some b2, Go.Obj.cells #[Go.Value.int Go.IntKind.i64 0, Go.Value.int Go.IntKind.i64 0, Go.Value.slice Option.none 0 0, Go.Value.slice Option.none 0 0] 25), (2, Option.some b1, Go.Obj.cells #[Go.Value.int Go.IntKind.i64 (Go.Proofs.Ytfleehgbpgmcnaa.PV.ins p), Go.Value.int Go.IntKind.i64 (Go.Proofs.Ytfleehgbpgmcnaa.PV.regs p), Go.Value.slice ac (List.length (Go.Proofs.Ytfleehgbpgmcnaa.PV.code p)) cc, Go.Value.slice ao (List.length (Go.Proofs.Ytfleehgbpgmcnaa.PV.outs p)) co] 25)])) (fun (k, os, b, d, j) => k ≤ p.outs.length ∧ os = (passOuts p t.held).take k ∧ OwnA b d os j) (fun (k, os, b, d, j) => p.outs.length - k) ((0, [], none, 0, [])) (⟨Nat.zero_le _, rfl, OwnA.nil⟩) ⟨rfl, rfl, rfl, rfl, rfl, rfl, rfl, trivial⟩ ⟨rfl, rfl, rfl, rfl, rfl, rfl, rfl, rfl, rfl, trivial⟩ (fun ⟨k, os, b, d, j⟩ => fun (hk : k ≤ p.outs.length ∧ os = (passOuts p t.held).take k ∧ OwnA b d os j) => ?_)
    obtain ⟨hk2, hos, hob⟩ := hk
    have hosl : os.length ≤ 128 := by rw [hos, List.length_take]; omega
    rcases Nat.lt_or_ge k p.outs.length with hlt | hge
    · have hr : 0 ≤ p.outs[((k : Nat) : Int).toNat]?.getD default ∧ p.outs[((k : Nat) : Int).toNat]?.getD default < t.held.length := by
        rw [hlen]; refine r7 _ ?_
        rw [Int.toNat_natCast, List.getElem?_eq_getElem hlt]; simp
      refine Wc.seq ?_
      refine Wc.region rfl ?_
      refine Wl.q rfl (Qy.lss rfl rfl) ?_
      refine Wl.done ?_
      refine Ar.next ?_
      refine Wc.seq ?_
      refine Wc.condP rfl (by first | assumption | omega) ?_
      refine Wc.skip ?_
      refine Ar.next ?_
      refine Wc.seq ?_
      refine Wc.block ?_
      refine Wc.seq ?_
      refine Wc.region rfl ?_
      refine Wl.q rfl (Qy.at (α := Int) T.sl23 rfl rfl (by assumption) (by omega)) ?_
      refine Wl.q rfl (Qy.loadG T.one3 rfl (Arr.cell (by assumption) (by omega) 0 rfl rfl)) ?_
      refine Wl.q rfl (Qy.assign rfl) ?_
      refine Wl.done ?_
      refine Ar.next ?_
      refine Wc.draw [2, 3, 0, 7, 6, 5, 4, 1, 8] [(8, 14), (1, 12), (5, 12), (0, 12)] T.mixed rfl ?_
      refine Gm.q 0 [] (by kernel_rfl) rfl rfl (Qy.fieldAddr T.fa25_3 rfl) ?_
      refine Gm.q 1 [8] (by kernel_rfl) rfl rfl (Qy.load 8 T.one23 rfl rfl rfl) ?_
      refine Gm.q 2 [] (by kernel_rfl) rfl rfl (Qy.move rfl) ?_
      refine Gm.q 3 [] (by kernel_rfl) rfl rfl (Qy.move rfl) ?_
      refine Gm.q 4 [] (by kernel_rfl) rfl rfl (Qy.nilCheck rfl) ?_
      refine Gm.q 5 [] (by kernel_rfl) rfl rfl (Qy.fieldAddr T.fa86_0 rfl) ?_
      refine Gm.q 6 [4] (by kernel_rfl) rfl rfl (Qy.load 4 T.one23 rfl rfl rfl) ?_
      refine Gm.q 7 [] (by kernel_rfl) rfl rfl (Qy.move rfl) ?_
      refine Gm.q 8 [] (by kernel_rfl) rfl rfl (Qy.indexAddrO (α := Int) T.sl23 rfl rfl (by assumption) (by omega)) ?_
      refine Gm.one 9 ⟨rfl, rfl, rfl, rfl, rfl, rfl, rfl, rfl, rfl, trivial⟩ (by first | exact Imm.le_refl _ | assumption) (by kernel_rfl) rfl ?_
      refine Wl.q rfl (Qy.loadO 5 0 T.one3 rfl rfl (by assumption) (by omega) rfl rfl) ?_
      refine Wl.on0 ?_
      refine Gm.one 10 ⟨rfl, rfl, rfl, rfl, rfl, rfl, rfl, rfl, rfl, trivial⟩ (by first | exact Imm.le_refl _ | assumption) (by kernel_rfl) rfl ?_
      refine Wl.call1 4 rfl T.fn57 rfl (c57 _ _ _ _ _ _ _ _ _ (by assumption) (by omega)) (tags_of ⟨rfl, rfl, rfl, rfl, trivial⟩) ?_
      refine Wl.on0 ?_
      refine Gm.one 11 ⟨rfl, rfl, rfl, rfl, rfl, rfl, rfl, rfl, rfl, trivial⟩ (by first | exact Imm.le_refl _ | assumption) (by kernel_rfl) rfl ?_
      refine Wl.lit (α := Int) 9 [(Go.Proofs.Ytfleehgbpgmcnaa.holder (Go.Proofs.Ytfleehgbpgmcnaa.Tab.held t) (Option.getD (Go.Proofs.Ytfleehgbpgmcnaa.Tab.held t)[Int.toNat (Option.getD (Go.Proofs.Ytfleehgbpgmcnaa.PV.outs p)[Int.toNat (↑k : Int)]? Inhabited.default)]? Inhabited.default))] rfl T.sl23 T.el3 rfl rfl rfl rfl rfl (fun b4 => ?_)
      refine Wl.on0 ?_
      refine Gm.one 12 ⟨rfl, rfl, rfl, rfl, rfl, rfl, rfl, rfl, rfl, trivial⟩ (by first | exact Imm.le_refl _ | assumption) (by kernel_rfl) rfl ?_
      refine Wl.append (α := Int) 1 rfl T.sl23 T.el3 rfl rfl rfl (by first | assumption | exact OwnA.nil | exact OwnA.made (by simp)) (Src.row 9 rfl) (by first | omega | (simp only [List.length_append, List.length_cons, List.length_nil, maxLen]; omega)) (by first | omega | (simp only [List.length_append, List.length_cons, List.length_nil, maxLen]; omega)) (fun a1 c1 junk1 ho1 => ?_)
      refine Wl.on0 ?_
      refine Gm.q 13 [] (by kernel_rfl) rfl rfl (Qy.fieldAddr T.fa25_3 rfl) ?_
      refine Gm.one 14 ⟨rfl, rfl, rfl, rfl, rfl, rfl, trivial⟩ (by first | exact Imm.le_refl _ | assumption) (by kernel_rfl) rfl ?_
      refine Wl.store 8 T.one23 rfl rfl rfl rfl rfl ?_
      refine Wl.on0 ?_
      refine Gm.doneA (by kernel_rfl) ⟨rfl, rfl, rfl, rfl, rfl, trivial⟩ (by first | exact Imm.le_refl _ | assumption) ?_
      refine Ar.outNormal ?_
      refine Ar.next ?_
      refine Wc.region rfl ?_
      refine Wl.q rfl (Qy.add rfl rfl (by omega)) ?_
      refine Wl.q rfl (Qy.move rfl) ?_
      refine Wl.done ?_
      refine Ar.again ((k + 1, _, a1, c1, junk1)) ?_ ?_ rfl ⟨rfl, rfl, rfl, rfl, rfl, rfl, rfl, trivial⟩ ⟨rfl, rfl, rfl, rfl, rfl, rfl, rfl, rfl, rfl, trivial⟩
      · refine ⟨by omega, ?_, ho1⟩
        have hst : (passOuts p t.held).take (k + 1) = (passOuts p t.held).take k ++ [holder t.held (t.held[(p.outs[((k : Nat) : Int).toNat]?.getD default).toNat]?.getD default)] := by
          rw [List.take_add_one]
          simp [passOuts, hlt]
        rw [hst, hos]
      · show p.outs.length - (k + 1) < p.outs.length - k
        omega
    · refine Wc.seq ?_
      refine Wc.region rfl ?_
      refine Wl.q rfl (Qy.lss rfl rfl) ?_
      refine Wl.done ?_
      refine Ar.next ?_
      refine Wc.seq ?_
      refine Wc.condN rfl (by first | assumption | omega) ?_
      refine Wc.exit ?_
      refine Ar.passExit ?_
      refine Ar.passExit ?_
      refine Ar.here ?_
      refine Ar.next ?_
      refine Wc.seq ?_
      refine Wc.region rfl ?_
      refine Wl.q rfl (Qy.loadAll 8 T.agg25 rfl rfl rfl) ?_
      refine Wl.storeAll 3 T.size25 rfl rfl rfl rfl rfl rfl ?_
      refine Wl.q rfl (Qy.assign rfl) ?_
      refine Wl.done ?_
      refine Ar.next ?_
      refine Wc.ret ?_
      refine Ar.out2 (.inr rfl) (Ho := Hp.only _ [0, 1]) rfl (.agg 3 rfl rfl T.agg25) (.tmp rfl) (Hp.sub_only _ _) ?_
      have ht : t = (passTo p p.code.length).1 := congrArg Prod.fst hpass
      have hou : out = (passP p).code := congrArg Prod.snd hpass
      have hos' : os = (passP p).outs := by
        rw [hos, List.take_of_length_le (by simp [passOuts]; omega), ht]; rfl
      rw [hou] at hoa' ⊢
      rw [hos'] at hob ⊢
      exact ⟨a', b, c', d, junk', j, rfl, hoa', hob, rfl, rfl⟩
end Go.Proofs.Ytfleehgbpgmcnaa
