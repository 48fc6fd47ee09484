import Derived.Test.YtfleehgbpgmcnaaSlN
import Derived.Test.YtfleehgbpgmcnaaAb
namespace Go.Proofs.Ytfleehgbpgmcnaa
open Go Go.Sl
set_option maxRecDepth 100000

set_option maxHeartbeats 2000000
theorem cell_one {G : Imm} {b : Nat} {cs : List Value} {T : TypeId} {fz : Nat × Nat} (h : G b = some (.cells cs.toArray T fz)) (k : Nat) {v : Value} (hv : cs[k]? = some v) : G.cell b k = some v := by
  simp only [Imm.cell, h]; simpa using hv
theorem row_all {G : Imm} {b : Nat} {cs : List Value} {T : TypeId} {fz : Nat × Nat} (h : G b = some (.cells cs.toArray T fz)) : G.row b 0 cs := by
  intro i v hi; simp only [Imm.cell, h, Nat.zero_add]; simpa using hi
theorem c93 (G : Imm) (a : Option Addr) (n c : Nat) : Does Try.prog 93 [.slice a n c] G [] (fun v G' Ho => ∃ b, v = .func (.func 100) #[] #[.pointer (some ⟨b, 0, none⟩)] ∧ Ho = [] ∧ G' b = some (.cells [.slice a n c].toArray 22)) := by
  refine Does.enter Try.func93 rfl Try.ntmps93 rfl (fun w => ?_)
  refine Wc.seq ?_
  refine Wc.region rfl ?_
  refine Wl.box 0 rfl rfl rfl (fun b1 => ?_)
  refine Wl.q rfl (Qy.assign rfl) ?_
  refine Wl.done ?_
  refine Ar.next ?_
  refine Wc.seq ?_
  refine Wc.region rfl ?_
  refine Wl.q rfl (Qy.makeFunc rfl rfl) ?_
  refine Wl.q rfl (Qy.assign rfl) ?_
  refine Wl.done ?_
  refine Ar.next ?_
  refine Wc.ret ?_
  refine Ar.freeze 0 rfl (fun G' hle hb => ?_)
  refine Ar.out1 (.inr rfl) (Ho := []) rfl (.tmp rfl) trivial ?_
  exact ⟨_, rfl, rfl, hb⟩
/-- a list's elements from behind, with their places -/
def backL (xs : List Sl.Instr) : List (Int × Sl.Instr) := (List.range xs.length).map fun j => (((xs.length - 1 - j : Nat) : Int), xs[xs.length - 1 - j]?.getD default)
def encB (x : Int × Sl.Instr) : List Value := [.int .i64 x.1, .agg (Cells.enc x.2).toArray]
theorem backL_len (xs : List Sl.Instr) : (backL xs).length = xs.length := by simp [backL]
theorem backL_get (xs : List Sl.Instr) {j : Nat} (h : j < xs.length) : (backL xs)[j]? = some (((xs.length - 1 - j : Nat) : Int), xs[xs.length - 1 - j]?.getD default) := by simp [backL, h]
theorem c100 (G : Imm) (a : Option Addr) (c : Nat) (xs : List Sl.Instr) (b : Nat) (hx : Arr G a xs) (hl : xs.length ≤ 1099511627776) (hb : G b = some (.cells [.slice a xs.length c].toArray 22)) :
    IterDoes Try.prog 100 [.pointer (some ⟨b, 0, none⟩)] G encB (backL xs) := by
  intro ι J inv stop ly i0 hi0 hY
  have hcell : G.cell b 0 = some (.slice a xs.length c) := cell_one hb 0 rfl
  refine Does.enter Try.func100 rfl Try.ntmps100 rfl (fun w => ?_)
  refine Wc.lift 1000 ?_
  refine Wc.seq ?_
  refine Wc.region rfl ?_
  refine Wl.q rfl (Qy.loadG T.one22 rfl (by assumption)) ?_
  refine Wl.q rfl (Qy.len T.sl22 rfl) ?_
  refine Wl.q rfl (Qy.sub rfl rfl (by omega)) ?_
  refine Wl.q rfl (Qy.assign rfl) ?_
  refine Wl.done ?_
  refine Ar.next ?_
  refine Wc.block ?_
  refine Wc.loopT (ι := Int × ι) 1000 (fun (m, s) => ([(3, .int .i64 m), (0, Go.Value.func (Go.Fn.yield ly) #[] #[]), (1, Go.Value.pointer (Option.some (Go.Addr.mk b 0 Option.none)))], [])) (fun (m, s) => J s) (fun (m, s) => -1 ≤ m ∧ m < (xs.length : Int) ∧ inv ((xs.length : Int) - 1 - m).toNat s) (fun (m, s) => (m + 1).toNat) (((xs.length : Int) - 1, i0)) (⟨by omega, by omega, by rw [show ((xs.length : Int) - 1 - ((xs.length : Int) - 1)).toNat = 0 by omega]; exact hi0⟩) ⟨rfl, rfl, rfl, trivial⟩ trivial (by repeat (first | exact Hp.tl_self _ _ | refine Hp.tl_cons rfl ?_)) (fun ⟨m, s⟩ => fun (hk : -1 ≤ m ∧ m < (xs.length : Int) ∧ inv ((xs.length : Int) - 1 - m).toNat s) => ?_)
  obtain ⟨hm1, hm2, hinv⟩ := hk
  refine Wc.seq ?_
  refine Wc.seq ?_
  refine Wc.region rfl ?_
  refine Wl.q rfl (Qy.move rfl) ?_
  refine Wl.q rfl (Qy.geq rfl rfl) ?_
  refine Wl.done ?_
  refine Ar.next ?_
  refine Wc.cond rfl (fun hc1 => ?_) (fun hc1 => ?_)
  refine Wc.skip ?_
  refine Ar.next ?_
  refine Wc.seq ?_
  refine Wc.block ?_
  refine Wc.seq ?_
  refine Wc.region rfl ?_
  refine Wl.q rfl (Qy.move rfl) ?_
  refine Wl.q rfl (Qy.move rfl) ?_
  refine Wl.q rfl (Qy.loadG T.one22 rfl (by assumption)) ?_
  refine Wl.q rfl (Qy.move rfl) ?_
  refine Wl.q rfl (Qy.at (α := Instr) T.sl22 rfl rfl (by assumption) (by omega)) ?_
  refine Wl.q rfl (Qy.loadsG T.agg34 rfl (Arr.elem (by assumption) (by omega)) rfl) ?_
  rotate_left
  refine Wc.exit ?_
  refine Ar.passExit ?_
  refine Ar.passExit ?_
  refine Ar.here ?_
  rotate_left
  · have hbx : (backL xs)[((xs.length : Int) - 1 - m).toNat]? = some (m, xs[m.toNat]?.getD default) := by
      rw [backL_get xs (by omega)]
      have e1 : xs.length - 1 - ((xs.length : Int) - 1 - m).toNat = m.toNat := by omega
      rw [e1]
      have e2 : ((m.toNat : Nat) : Int) = m := by omega
      rw [e2]
    refine Wl.yieldT (A := []) 1000 rfl rfl rfl trivial (by repeat (first | exact Hp.tl_self _ _ | refine Hp.tl_cons rfl ?_)) rfl (hY ((xs.length : Int) - 1 - m).toNat _ s hbx hinv) (fun vy Gy Hy hly hp => ?_)
    obtain ⟨rfl, s', rfl, hp⟩ := hp
    rcases hp with ⟨rfl, hinv'⟩ | ⟨rfl, hst⟩
    · refine Wl.q rfl (Qy.not rfl) ?_
      refine Wl.done ?_
      refine Ar.next ?_
      refine Wc.condF rfl ?_
      refine Wc.skip ?_
      refine Ar.outNormal ?_
      refine Ar.next ?_
      refine Wc.region rfl ?_
      refine Wl.q rfl (Qy.move rfl) ?_
      refine Wl.q rfl (Qy.sub rfl rfl (by omega)) ?_
      refine Wl.q rfl (Qy.assign rfl) ?_
      refine Wl.done ?_
      refine Ar.againT ((m - 1, s')) ?_ ?_ ⟨rfl, rfl, rfl, trivial⟩ trivial (by repeat (first | exact Hp.tl_self _ _ | refine Hp.tl_cons rfl ?_))
      · refine ⟨by omega, by omega, ?_⟩
        rw [show ((xs.length : Int) - 1 - (m - 1)).toNat = ((xs.length : Int) - 1 - m).toNat + 1 by omega]
        exact hinv'
      · show (m - 1 + 1).toNat < (m + 1).toNat
        omega
    · refine Wl.q rfl (Qy.not rfl) ?_
      refine Wl.done ?_
      refine Ar.next ?_
      refine Wc.condT rfl ?_
      refine Wc.ret ?_
      refine Ar.outRet ?_
      refine Ar.passRet ?_
      refine Ar.passRet ?_
      refine Ar.outRet ?_
      refine Ar.outT (k := 1000) (.inr rfl) rfl (by repeat (first | exact Hp.tl_self _ _ | refine Hp.tl_cons rfl ?_)) ⟨rfl, s', rfl, .inr hst⟩
  · have hm : m = -1 := by omega
    subst hm
    refine Ar.outT (k := 1000) (.inl rfl) rfl (by repeat (first | exact Hp.tl_self _ _ | refine Hp.tl_cons rfl ?_)) ⟨rfl, s, rfl, .inl ?_⟩
    rw [backL_len]
    rw [show ((xs.length : Int) - 1 - -1).toNat = xs.length by omega] at hinv
    exact hinv
/-- the iterator over a program's instructions from behind -/
theorem c69 (G : Imm) (p : PV) (ac ao : Option Addr) (cc co : Nat) :
    Does Try.prog 69 [.agg #[.int .i64 p.ins, .int .i64 p.regs, .slice ac p.code.length cc, .slice ao p.outs.length co]] G [] (fun v G' Ho =>
      ∃ b, v = .func (.func 92) #[] #[.pointer (some ⟨b, 0, none⟩)] ∧ Ho = [] ∧ G' b = some (.cells [.int .i64 p.ins, .int .i64 p.regs, .slice ac p.code.length cc, .slice ao p.outs.length co].toArray 25)) := by
  refine Does.enter Try.func69 rfl Try.ntmps69 rfl (fun w => ?_)
  refine Wc.seq ?_
  refine Wc.region rfl ?_
  refine Wl.box 0 rfl rfl rfl (fun b1 => ?_)
  refine Wl.q rfl (Qy.assign rfl) ?_
  refine Wl.done ?_
  refine Ar.next ?_
  refine Wc.seq ?_
  refine Wc.region rfl ?_
  refine Wl.q rfl (Qy.makeFunc rfl rfl) ?_
  refine Wl.q rfl (Qy.assign rfl) ?_
  refine Wl.done ?_
  refine Ar.next ?_
  refine Wc.ret ?_
  refine Ar.freeze 0 rfl (fun G' hle hb => ?_)
  refine Ar.out1 (.inr rfl) (Ho := []) rfl (.tmp rfl) trivial ?_
  exact ⟨_, rfl, rfl, hb⟩
theorem c92R (G : Imm) (p : PV) (ac ao : Option Addr) (cc co : Nat) (b : Nat) (hc : Arr G ac p.code) (ho : Arr G ao p.outs) (h1 : p.code.length ≤ 1099511627776) (h2 : p.outs.length ≤ 1099511627776)
    (hb : G b = some (.cells [.int .i64 p.ins, .int .i64 p.regs, .slice ac p.code.length cc, .slice ao p.outs.length co].toArray 25)) (hR : rightP p = true) :
    IterDoes Try.prog 92 [.pointer (some ⟨b, 0, none⟩)] G encB (backL p.code) := by
  intro ι J inv stop ly i0 hi0 hY
  have hrow := row_all hb
  have hcode := cell_one hb 2 rfl
  refine Does.enterM Try.func92 rfl Try.ntmps92 rfl (fun w => ?_)
  refine Wc.lift 1000 ?_
  refine Wc.seq ?_
  refine Wc.region rfl ?_
  refine Wl.box 0 rfl rfl rfl (fun b1 => ?_)
  refine Wl.done ?_
  refine Ar.next ?_
  refine Wc.seq ?_
  refine Wc.seq ?_
  refine Wc.region rfl ?_
  refine Wl.q rfl (Qy.loadsG T.agg25 rfl (by assumption) rfl) ?_
  refine Wl.call0 rfl T.fn76 rfl (c76 _ _ _ _ _ _ (by assumption) (by assumption) (by omega) (by omega)) ?_
  refine Wl.q rfl (Qy.notD rfl) ?_
  refine Wl.done ?_
  refine Ar.next ?_
  refine Wc.cond rfl (fun hc1 => ?_) (fun hc1 => ?_)
  refine Wc.ret ?_
  refine Ar.passRet ?_
  refine Ar.outOf (.inr rfl) ?_
  rotate_left
  refine Wc.skip ?_
  refine Ar.next ?_
  refine Wc.seq ?_
  refine Wc.region rfl ?_
  refine Wl.q rfl (Qy.fieldAddr T.fa25_2 rfl) ?_
  refine Wl.q rfl (Qy.loadG T.one22 rfl (by assumption)) ?_
  refine Wl.call 1 rfl T.fn93 rfl (c93 _ _ _ _) (tags_of trivial) (fun v1 G1 Ho1 hle1 hp => ?_)
  obtain ⟨bk1, rfl, rfl, hbk1⟩ := hp
  replace hc := hc.up hle1
  replace ho := ho.up hle1
  refine Wl.done ?_
  refine Ar.next ?_
  refine Wc.block ?_
  rotate_left
  · exact absurd hR hc1
  refine Wc.rangeFunc (ι := ι) 900 901 (fun s => [(0, Option.some b1, Go.Obj.cells #[Go.Value.func (Go.Fn.yield ly) #[] #[]] 136)] ++ Hp.shift 1000 (J s)) (fun k s => inv k s) (fun c s => c = Code.ret ∧ stop s) (i0) rfl T.fn100 (fun _ => rfl) rfl (c100 _ ac cc p.code bk1 hc h1 hbk1) (hi0) (Hp.got_app ⟨rfl, trivial⟩ (by repeat (first | exact Hp.tl_self _ _ | refine Hp.tl_cons rfl ?_))) ⟨rfl, fun _ => Hp.none_app rfl rfl⟩ (fun k x s l dd q w0 hx hi => ?_) (fun s dd hi => ?_) (fun s dd c hi => ?_)
  · refine Wc.seq ?_
    refine Wc.region rfl ?_
    refine Wl.q rfl (Qy.assign rfl) ?_
    refine Wl.done ?_
    refine Ar.next ?_
    refine Wc.region rfl ?_
    refine Wl.alloc 902 rfl T.zero34 (fun b2 => ?_)
    refine Wl.storeAll 902 T.size34 rfl rfl rfl rfl rfl rfl ?_
    refine Wl.done ?_
    refine Ar.begin 900 rfl ?_
    refine Wc.block ?_
    refine Wc.seq ?_
    refine Wc.region rfl ?_
    refine Wl.q rfl (Qy.load 0 T.one136 rfl rfl rfl) ?_
    refine Wl.q rfl (Qy.move rfl) ?_
    refine Wl.q rfl (Qy.loadAll 902 T.agg34 rfl rfl rfl) ?_
    refine Wl.yieldT (A := [(900, Option.some l, Go.Sl.lrec q Go.LoopState.busy Option.none), (902, Option.some b2, Go.Obj.cells (List.toArray (Go.Sl.Cells.enc (Prod.snd x))) 34), (901, Option.some dd, Go.Obj.deferred (Option.some [])), (0, Option.some b1, Go.Obj.cells #[Go.Value.func (Go.Fn.yield ly) #[] #[]] 136)]) 1000 rfl rfl rfl ⟨rfl, rfl, rfl, rfl, trivial⟩ (by repeat (first | exact Hp.tl_self _ _ | refine Hp.tl_cons rfl ?_)) rfl ((hY k x s hx hi).up hle1) (fun vy Gy Hy hly hp => ?_)
    obtain ⟨rfl, s', rfl, hp⟩ := hp
    rcases hp with ⟨rfl, hinv'⟩ | ⟨rfl, hst⟩
    · refine Wl.q rfl (Qy.not rfl) ?_
      refine Wl.done ?_
      refine Ar.next ?_
      refine Wc.condF rfl ?_
      refine Wc.skip ?_
      refine Ar.outNormal ?_
      refine Ar.roundEnd none (.inl ⟨rfl, rfl⟩) 900 rfl ⟨rfl, (s', none), rfl, .inl ⟨rfl, rfl, ?_⟩⟩ (Hp.got_cons rfl (Hp.got_cons rfl (Hp.got_app ⟨rfl, trivial⟩ (by repeat (first | exact Hp.tl_self _ _ | refine Hp.tl_cons rfl ?_)))))
      exact hinv'
    · refine Wl.q rfl (Qy.not rfl) ?_
      refine Wl.done ?_
      refine Ar.next ?_
      refine Wc.condT rfl ?_
      refine Wc.ret ?_
      refine Ar.outRet ?_
      refine Ar.roundEnd (some (.ret)) (.inr (.inl ⟨rfl, rfl⟩)) 900 rfl ⟨rfl, (s', some (.ret)), rfl, .inr ⟨rfl, _, rfl, ?_⟩⟩ (Hp.got_cons rfl (Hp.got_cons rfl (Hp.got_app ⟨rfl, trivial⟩ (by repeat (first | exact Hp.tl_self _ _ | refine Hp.tl_cons rfl ?_)))))
      exact ⟨rfl, hst⟩
  · refine Ar.outNormal ?_
    refine Ar.collect (.inl rfl) 901 rfl ?_
    refine Ar.outOf (.inr rfl) ?_
    refine Ar.base ?_
    refine Ar.outT (k := 1000) (.inr rfl) rfl (by repeat (first | exact Hp.tl_self _ _ | refine Hp.tl_cons rfl ?_)) ⟨rfl, s, rfl, .inl hi⟩
  · obtain ⟨rfl, hst⟩ := hi
    refine Wc.ret ?_
    refine Ar.outRet ?_
    refine Ar.collect (.inr rfl) 901 rfl ?_
    refine Ar.outOf (.inr rfl) ?_
    refine Ar.base ?_
    refine Ar.outT (k := 1000) (.inr rfl) rfl (by repeat (first | exact Hp.tl_self _ _ | refine Hp.tl_cons rfl ?_)) ⟨rfl, s, rfl, .inr hst⟩
end Go.Proofs.Ytfleehgbpgmcnaa
