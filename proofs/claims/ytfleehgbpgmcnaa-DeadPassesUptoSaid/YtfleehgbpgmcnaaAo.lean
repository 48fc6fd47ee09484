import Derived.Test.YtfleehgbpgmcnaaSlN
import Derived.Test.YtfleehgbpgmcnaaAn
namespace Go.Proofs.Ytfleehgbpgmcnaa
open Go Go.Sl
set_option maxRecDepth 100000

set_option maxHeartbeats 2000000
theorem c33 (G : Imm) (p : PV) (ac ao : Option Addr) (cc co : Nat) :
    Does Try.prog 33 [.agg #[.int .i64 p.ins, .int .i64 p.regs, .slice ac p.code.length cc, .slice ao p.outs.length co]] G [] (fun v G' Ho =>
      ∃ b, v = .func (.func 71) #[] #[.pointer (some ⟨b, 0, none⟩)] ∧ Ho = [] ∧ G' b = some (.cells [.int .i64 p.ins, .int .i64 p.regs, .slice ac p.code.length cc, .slice ao p.outs.length co].toArray 25)) := by
  refine Does.enter Try.func33 rfl Try.ntmps33 rfl (fun w => ?_)
  refine Wc.seq ?_
  refine Wc.region rfl ?_
  refine Wl.box 0 rfl rfl rfl (fun b1 => ?_)
  refine Wl.q rfl (Qy.assign rfl) ?_
  refine Wl.done ?_
  refine Ar.next ?_
  refine Wc.seq ?_
  refine Wc.region rfl ?_
  refine Wl.q rfl (Qy.makeFunc rfl rfl) ?_
  refine Wl.q rfl (Qy.assign rfl) ?_
  refine Wl.done ?_
  refine Ar.next ?_
  refine Wc.ret ?_
  refine Ar.freeze 0 rfl (fun G' hle hb => ?_)
  refine Ar.out1 (.inr rfl) (Ho := []) rfl (.tmp rfl) trivial ?_
  exact ⟨_, rfl, rfl, hb⟩
def doesNothing (i : Sl.Instr) : Prop := i.op = 1 ∧ i.to = i.a
instance (i : Sl.Instr) : Decidable (doesNothing i) := inferInstanceAs (Decidable (_ ∧ _))
def idleAt (p : PV) (k : Nat) : Option Int := if (neededP p)[((k : Nat) : Int).toNat]?.getD default = true ∧ ¬ doesNothing (p.code[((k : Nat) : Int).toNat]?.getD default) then none else some (k : Int)
def idleTo (p : PV) (k : Nat) : List Int := (List.range k).filterMap (idleAt p)
def idleP (p : PV) : List Int := if rightP p then idleTo p p.code.length else []
def enc1 (k : Int) : List Value := [.int .i64 k]
theorem idleTo_step (p : PV) (k : Nat) : idleTo p (k + 1) = idleTo p k ++ (idleAt p k).toList := by
  unfold idleTo
  rw [List.range_succ, List.filterMap_append]
  cases h : idleAt p k <;> simp [h]
theorem idleTo_get (p : PV) {k n : Nat} (hk : k < n) {y : Int} (h : idleAt p k = some y) : (idleTo p n)[(idleTo p k).length]? = some y := by
  induction n with
  | zero => omega
  | succ n ih =>
    rw [idleTo_step]
    rcases Nat.lt_or_ge k n with h1 | h1
    · have := ih h1
      rw [List.getElem?_append_left (List.getElem?_eq_some_iff.1 this).1]; exact this
    · have : k = n := by omega
      subst this
      rw [List.getElem?_append_right (Nat.le_refl _), h]; simp
theorem c71R (G : Imm) (p : PV) (ac ao : Option Addr) (cc co : Nat) (b : Nat) (hc : Arr G ac p.code) (ho : Arr G ao p.outs) (h1 : p.code.length ≤ 1099511627776) (h2 : p.outs.length ≤ 1099511627776)
    (hb : G b = some (.cells [.int .i64 p.ins, .int .i64 p.regs, .slice ac p.code.length cc, .slice ao p.outs.length co].toArray 25)) (hR : rightP p = true) :
    IterDoes Try.prog 71 [.pointer (some ⟨b, 0, none⟩)] G enc1 (idleP p) := by
  intro ι J inv stop ly i0 hi0 hY
  obtain ⟨r1, r2, r3, r4, r5, r6, r7, r8⟩ := right_facts hR
  have hcheck : (checkP p).2 = false := by simpa [rightP] using hR
  have hrow := row_all hb
  have hcode := cell_one hb 2 rfl
  have hid : idleP p = idleTo p p.code.length := if_pos hR
  rw [hid] at hY
  have hnl : (neededP p).length = p.code.length := (needTo_len p _).2
  refine Does.enter Try.func71 rfl Try.ntmps71 rfl (fun w => ?_)
  refine Wc.lift 1000 ?_
  refine Wc.seq ?_
  refine Wc.region rfl ?_
  refine Wl.q rfl (Qy.loadsG T.agg25 rfl (by assumption) rfl) ?_
  refine Wl.call0 rfl T.fn53 rfl (c53 _ _ _ _ _ _ (by assumption) (by assumption) (by omega) (by omega)) ?_
  refine Wl.q rfl (Qy.move rfl) ?_
  refine Wl.q rfl (Qy.extract rfl rfl) ?_
  refine Wl.q rfl (Qy.extract rfl rfl) ?_
  refine Wl.q rfl (Qy.assign rfl) ?_
  refine Wl.q rfl (Qy.assign rfl) ?_
  refine Wl.done ?_
  refine Ar.next ?_
  refine Wc.seq ?_
  refine Wc.seq ?_
  refine Wc.region rfl ?_
  refine Wl.q rfl (Qy.move rfl) ?_
  refine Wl.q rfl (Qy.neq rfl rfl) ?_
  refine Wl.done ?_
  refine Ar.next ?_
  refine Wc.cond rfl (fun hc1 => ?_) (fun hc1 => ?_)
  refine Wc.ret ?_
  refine Ar.passRet ?_
  rotate_left
  refine Wc.skip ?_
  refine Ar.next ?_
  refine Wc.seq ?_
  refine Wc.region rfl ?_
  refine Wl.q rfl (Qy.loadsG T.agg25 rfl (by assumption) rfl) ?_
  refine Wl.call 0 rfl T.fn66 rfl (c66 _ _ _ _ _ _ (by assumption) (by assumption) (by omega) (by omega) (by assumption)) (tags_of trivial) (fun v1 G1 Ho1 hle1 hp => ?_)
  obtain ⟨nb1, nc1, nj1, rfl, hnb1, rfl, rfl⟩ := hp
  refine Wl.q rfl (Qy.len T.sl64 rfl) ?_
  refine Wl.q rfl (Qy.move rfl) ?_
  refine Wl.done ?_
  refine Ar.next ?_
  refine Wc.block ?_
  rotate_left
  · rw [hcheck] at hc1; exact absurd rfl hc1
  refine Wc.loopT (ι := Nat × ι) 1000 (fun (k, s) => ([(17, .int .i64 (k : Int)), (16, Go.Value.int Go.IntKind.i64 (↑(List.length (Go.Proofs.Ytfleehgbpgmcnaa.neededP p)) : Int)), (15, Go.Value.slice nb1 (List.length (Go.Proofs.Ytfleehgbpgmcnaa.neededP p)) nc1), (0, Go.Value.func (Go.Fn.yield ly) #[] #[]), (1, Go.Value.pointer (Option.some (Go.Addr.mk b 0 Option.none)))], [(0, Option.map (fun x => Go.Addr.block x) nb1, Go.Sl.Row (α := Bool) 4 (Go.Proofs.Ytfleehgbpgmcnaa.neededP p) (nj1))])) (fun (k, s) => J s) (fun (k, s) => k ≤ p.code.length ∧ inv (idleTo p k).length s) (fun (k, s) => p.code.length - k) ((0, i0)) (⟨Nat.zero_le _, hi0⟩) ⟨rfl, rfl, rfl, rfl, rfl, trivial⟩ ⟨rfl, trivial⟩ (by repeat (first | exact Hp.tl_self _ _ | refine Hp.tl_cons rfl ?_)) (fun ⟨k, s⟩ => fun (hk : k ≤ p.code.length ∧ inv (idleTo p k).length s) => ?_)
  obtain ⟨hk1, hinv⟩ := hk
  rcases Nat.lt_or_ge k p.code.length with hlt | hge
  · by_cases hd : (p.code[((k : Nat) : Int).toNat]?.getD default).op = 1 ∧ (p.code[((k : Nat) : Int).toNat]?.getD default).to = (p.code[((k : Nat) : Int).toNat]?.getD default).a
    · have hat : idleAt p k = some (k : Int) := if_neg (fun h => h.2 hd)
      refine Wc.seq ?_
      refine Wc.region rfl ?_
      refine Wl.q rfl (Qy.lss rfl rfl) ?_
      refine Wl.done ?_
      refine Ar.next ?_
      refine Wc.seq ?_
      refine Wc.condP rfl (by first | assumption | omega) ?_
      refine Wc.skip ?_
      refine Ar.next ?_
      refine Wc.seq ?_
      refine Wc.block ?_
      refine Wc.seq ?_
      refine Wc.region rfl ?_
      refine Wl.q rfl (Qy.move rfl) ?_
      refine Wl.q rfl (Qy.indexAddrO (α := Bool) T.sl64 rfl rfl (by assumption) (by omega)) ?_
      refine Wl.q rfl (Qy.loadO 0 0 T.one4 rfl rfl (by assumption) (by omega) rfl rfl) ?_
      refine Wl.q rfl (Qy.assign rfl) ?_
      refine Wl.q rfl (Qy.assign rfl) ?_
      refine Wl.done ?_
      refine Ar.next ?_
      refine Wc.seq ?_
      refine Wc.region rfl ?_
      refine Wl.q rfl (Qy.move rfl) ?_
      refine Wl.q rfl (Qy.not rfl) ?_
      refine Wl.q rfl (Qy.move rfl) ?_
      refine Wl.casesB 24 rfl (fun hg1 => ?_) (fun hg1 => ?_)
      refine Wl.pass rfl rfl rfl ?_
      refine Wl.pass rfl rfl rfl ?_
      refine Wl.pass rfl rfl rfl ?_
      refine Wl.pass rfl rfl rfl ?_
      refine Wl.pass rfl rfl rfl ?_
      refine Wl.pass rfl rfl rfl ?_
      refine Wl.q rfl (Qy.pick rfl rfl) ?_
      refine Wl.q rfl (Qy.move rfl) ?_
      refine Wl.want rfl rfl ?_
      refine Wl.q rfl (Qy.move rfl) ?_
      refine Wl.want rfl rfl ?_
      refine Wl.q rfl (Qy.move rfl) ?_
      refine Wl.want rfl rfl ?_
      rotate_left
      refine Wl.want rfl rfl ?_
      refine Wl.q rfl (Qy.fieldAddr T.fa25_2 rfl) ?_
      refine Wl.want rfl rfl ?_
      refine Wl.q rfl (Qy.loadG T.one22 rfl (by assumption)) ?_
      refine Wl.want rfl rfl ?_
      refine Wl.q rfl (Qy.move rfl) ?_
      refine Wl.want rfl rfl ?_
      refine Wl.q rfl (Qy.at (α := Instr) T.sl22 rfl rfl (by assumption) (by omega)) ?_
      refine Wl.want rfl rfl ?_
      refine Wl.q rfl (Qy.loadsG T.agg34 rfl (Arr.elem (by assumption) (by omega)) rfl) ?_
      refine Wl.want rfl rfl ?_
      refine Wl.call0 rfl T.fn67 rfl (c67 _ _) ?_
      refine Wl.q rfl (Qy.pick rfl rfl) ?_
      refine Wl.q rfl (Qy.move rfl) ?_
      refine Wl.yes 32 rfl (by first | assumption | omega) ?_
      refine Wl.want rfl rfl ?_
      refine Wl.q rfl (Qy.move rfl) ?_
      refine Wl.want rfl rfl ?_
      refine Wl.q rfl (Qy.move rfl) ?_
      refine Wl.want rfl rfl ?_
      rotate_left
      all_goals
        refine Wl.yieldT (A := [(0, Option.map (fun x => Go.Addr.block x) nb1, Go.Sl.Row (α := Bool) 4 (Go.Proofs.Ytfleehgbpgmcnaa.neededP p) (nj1))]) 1000 rfl rfl rfl ⟨rfl, trivial⟩ (by repeat (first | exact Hp.tl_self _ _ | refine Hp.tl_cons rfl ?_)) rfl (hY (idleTo p k).length _ s (idleTo_get p hlt hat) hinv) (fun vy Gy Hy hly hp => ?_)
        obtain ⟨rfl, s', rfl, hp⟩ := hp
        rcases hp with ⟨rfl, hinv'⟩ | ⟨rfl, hst⟩
        · refine Wl.want rfl rfl ?_
          refine Wl.q rfl (Qy.not rfl) ?_
          refine Wl.q rfl (Qy.pick rfl rfl) ?_
          refine Wl.done ?_
          refine Ar.next ?_
          refine Wc.condF rfl ?_
          refine Wc.skip ?_
          refine Ar.outNormal ?_
          refine Ar.next ?_
          refine Wc.region rfl ?_
          refine Wl.q rfl (Qy.add rfl rfl (by omega)) ?_
          refine Wl.q rfl (Qy.move rfl) ?_
          refine Wl.done ?_
          refine Ar.againT ((k + 1, s')) ?_ ?_ ⟨rfl, rfl, rfl, rfl, rfl, trivial⟩ ⟨rfl, trivial⟩ (by repeat (first | exact Hp.tl_self _ _ | refine Hp.tl_cons rfl ?_))
          · exact ⟨by omega, by rw [idleTo_step, hat]; simpa using hinv'⟩
          · show p.code.length - (k + 1) < p.code.length - k
            omega
        · refine Wl.want rfl rfl ?_
          refine Wl.q rfl (Qy.not rfl) ?_
          refine Wl.q rfl (Qy.pick rfl rfl) ?_
          refine Wl.done ?_
          refine Ar.next ?_
          refine Wc.condT rfl ?_
          refine Wc.ret ?_
          refine Ar.outRet ?_
          refine Ar.passRet ?_
          refine Ar.passRet ?_
          refine Ar.outRet ?_
          refine Ar.outT (k := 1000) (.inr rfl) rfl (by repeat (first | exact Hp.tl_self _ _ | refine Hp.tl_cons rfl ?_)) ⟨rfl, s', rfl, .inr hst⟩
    · refine Wc.seq ?_
      refine Wc.region rfl ?_
      refine Wl.q rfl (Qy.lss rfl rfl) ?_
      refine Wl.done ?_
      refine Ar.next ?_
      refine Wc.seq ?_
      refine Wc.condP rfl (by first | assumption | omega) ?_
      refine Wc.skip ?_
      refine Ar.next ?_
      refine Wc.seq ?_
      refine Wc.block ?_
      refine Wc.seq ?_
      refine Wc.region rfl ?_
      refine Wl.q rfl (Qy.move rfl) ?_
      refine Wl.q rfl (Qy.indexAddrO (α := Bool) T.sl64 rfl rfl (by assumption) (by omega)) ?_
      refine Wl.q rfl (Qy.loadO 0 0 T.one4 rfl rfl (by assumption) (by omega) rfl rfl) ?_
      refine Wl.q rfl (Qy.assign rfl) ?_
      refine Wl.q rfl (Qy.assign rfl) ?_
      refine Wl.done ?_
      refine Ar.next ?_
      refine Wc.seq ?_
      refine Wc.region rfl ?_
      refine Wl.q rfl (Qy.move rfl) ?_
      refine Wl.q rfl (Qy.not rfl) ?_
      refine Wl.q rfl (Qy.move rfl) ?_
      refine Wl.casesB 24 rfl (fun hg1 => ?_) (fun hg1 => ?_)
      refine Wl.pass rfl rfl rfl ?_
      refine Wl.pass rfl rfl rfl ?_
      refine Wl.pass rfl rfl rfl ?_
      refine Wl.pass rfl rfl rfl ?_
      refine Wl.pass rfl rfl rfl ?_
      refine Wl.pass rfl rfl rfl ?_
      refine Wl.q rfl (Qy.pick rfl rfl) ?_
      refine Wl.q rfl (Qy.move rfl) ?_
      refine Wl.want rfl rfl ?_
      refine Wl.q rfl (Qy.move rfl) ?_
      refine Wl.want rfl rfl ?_
      refine Wl.q rfl (Qy.move rfl) ?_
      refine Wl.want rfl rfl ?_
      rotate_left
      refine Wl.want rfl rfl ?_
      refine Wl.q rfl (Qy.fieldAddr T.fa25_2 rfl) ?_
      refine Wl.want rfl rfl ?_
      refine Wl.q rfl (Qy.loadG T.one22 rfl (by assumption)) ?_
      refine Wl.want rfl rfl ?_
      refine Wl.q rfl (Qy.move rfl) ?_
      refine Wl.want rfl rfl ?_
      refine Wl.q rfl (Qy.at (α := Instr) T.sl22 rfl rfl (by assumption) (by omega)) ?_
      refine Wl.want rfl rfl ?_
      refine Wl.q rfl (Qy.loadsG T.agg34 rfl (Arr.elem (by assumption) (by omega)) rfl) ?_
      refine Wl.want rfl rfl ?_
      refine Wl.call0 rfl T.fn67 rfl (c67 _ _) ?_
      refine Wl.q rfl (Qy.pick rfl rfl) ?_
      refine Wl.q rfl (Qy.move rfl) ?_
      refine Wl.no 32 rfl (by first | assumption | omega) ?_
      refine Wl.pass rfl rfl rfl ?_
      refine Wl.pass rfl rfl rfl ?_
      refine Wl.pass rfl rfl rfl ?_
      refine Wl.pass rfl rfl rfl ?_
      refine Wl.q rfl (Qy.pick rfl rfl) ?_
      refine Wl.done ?_
      refine Ar.next ?_
      refine Wc.condF rfl ?_
      refine Wc.skip ?_
      refine Ar.outNormal ?_
      refine Ar.next ?_
      refine Wc.region rfl ?_
      refine Wl.q rfl (Qy.add rfl rfl (by omega)) ?_
      refine Wl.q rfl (Qy.move rfl) ?_
      refine Wl.done ?_
      rotate_left
      · have hat : idleAt p k = some (k : Int) := if_neg (fun h => by rw [h.1] at hg1; cases hg1)
        refine Wl.yieldT (A := [(0, Option.map (fun x => Go.Addr.block x) nb1, Go.Sl.Row (α := Bool) 4 (Go.Proofs.Ytfleehgbpgmcnaa.neededP p) (nj1))]) 1000 rfl rfl rfl ⟨rfl, trivial⟩ (by repeat (first | exact Hp.tl_self _ _ | refine Hp.tl_cons rfl ?_)) rfl (hY (idleTo p k).length _ s (idleTo_get p hlt hat) hinv) (fun vy Gy Hy hly hp => ?_)
        obtain ⟨rfl, s', rfl, hp⟩ := hp
        rcases hp with ⟨rfl, hinv'⟩ | ⟨rfl, hst⟩
        · refine Wl.want rfl rfl ?_
          refine Wl.q rfl (Qy.not rfl) ?_
          refine Wl.q rfl (Qy.pick rfl rfl) ?_
          refine Wl.done ?_
          refine Ar.next ?_
          refine Wc.condF rfl ?_
          refine Wc.skip ?_
          refine Ar.outNormal ?_
          refine Ar.next ?_
          refine Wc.region rfl ?_
          refine Wl.q rfl (Qy.add rfl rfl (by omega)) ?_
          refine Wl.q rfl (Qy.move rfl) ?_
          refine Wl.done ?_
          refine Ar.againT ((k + 1, s')) ?_ ?_ ⟨rfl, rfl, rfl, rfl, rfl, trivial⟩ ⟨rfl, trivial⟩ (by repeat (first | exact Hp.tl_self _ _ | refine Hp.tl_cons rfl ?_))
          · exact ⟨by omega, by rw [idleTo_step, hat]; simpa using hinv'⟩
          · show p.code.length - (k + 1) < p.code.length - k
            omega
        · refine Wl.want rfl rfl ?_
          refine Wl.q rfl (Qy.not rfl) ?_
          refine Wl.q rfl (Qy.pick rfl rfl) ?_
          refine Wl.done ?_
          refine Ar.next ?_
          refine Wc.condT rfl ?_
          refine Wc.ret ?_
          refine Ar.outRet ?_
          refine Ar.passRet ?_
          refine Ar.passRet ?_
          refine Ar.outRet ?_
          refine Ar.outT (k := 1000) (.inr rfl) rfl (by repeat (first | exact Hp.tl_self _ _ | refine Hp.tl_cons rfl ?_)) ⟨rfl, s', rfl, .inr hst⟩
      · have hat : idleAt p k = none := if_pos ⟨by simpa using hg1, hd⟩
        refine Ar.againT ((k + 1, s)) ?_ ?_ ⟨rfl, rfl, rfl, rfl, rfl, trivial⟩ ⟨rfl, trivial⟩ (by repeat (first | exact Hp.tl_self _ _ | refine Hp.tl_cons rfl ?_))
        · exact ⟨by omega, by rw [idleTo_step, hat]; simpa using hinv⟩
        · show p.code.length - (k + 1) < p.code.length - k
          omega
  · have hk : k = p.code.length := by omega
    subst hk
    rw [← hid] at hinv
    refine Wc.seq ?_
    refine Wc.region rfl ?_
    refine Wl.q rfl (Qy.lss rfl rfl) ?_
    refine Wl.done ?_
    refine Ar.next ?_
    refine Wc.seq ?_
    refine Wc.condN rfl (by first | assumption | omega) ?_
    refine Wc.exit ?_
    refine Ar.passExit ?_
    refine Ar.passExit ?_
    refine Ar.here ?_
    refine Ar.outT (k := 1000) (.inl rfl) rfl (by repeat (first | exact Hp.tl_self _ _ | refine Hp.tl_cons rfl ?_)) ⟨rfl, s, rfl, .inl hinv⟩
theorem c71W (G : Imm) (p : PV) (ac ao : Option Addr) (cc co : Nat) (b : Nat) (hc : Arr G ac p.code) (ho : Arr G ao p.outs) (h1 : p.code.length ≤ 1099511627776) (h2 : p.outs.length ≤ 1099511627776)
    (hb : G b = some (.cells [.int .i64 p.ins, .int .i64 p.regs, .slice ac p.code.length cc, .slice ao p.outs.length co].toArray 25)) (hR : ¬ rightP p = true) :
    IterDoes Try.prog 71 [.pointer (some ⟨b, 0, none⟩)] G enc1 (idleP p) := by
  intro ι J inv stop ly i0 hi0 hY
  have hcheck : (checkP p).2 = true := by simpa [rightP] using hR
  have hrow := row_all hb
  have hid : idleP p = [] := if_neg hR
  refine Does.enter Try.func71 rfl Try.ntmps71 rfl (fun w => ?_)
  refine Wc.lift 1000 ?_
  refine Wc.seq ?_
  refine Wc.region rfl ?_
  refine Wl.q rfl (Qy.loadsG T.agg25 rfl (by assumption) rfl) ?_
  refine Wl.call0 rfl T.fn53 rfl (c53 _ _ _ _ _ _ (by assumption) (by assumption) (by omega) (by omega)) ?_
  refine Wl.q rfl (Qy.move rfl) ?_
  refine Wl.q rfl (Qy.extract rfl rfl) ?_
  refine Wl.q rfl (Qy.extract rfl rfl) ?_
  refine Wl.q rfl (Qy.assign rfl) ?_
  refine Wl.q rfl (Qy.assign rfl) ?_
  refine Wl.done ?_
  refine Ar.next ?_
  refine Wc.seq ?_
  refine Wc.seq ?_
  refine Wc.region rfl ?_
  refine Wl.q rfl (Qy.move rfl) ?_
  refine Wl.q rfl (Qy.neq rfl rfl) ?_
  refine Wl.done ?_
  refine Ar.next ?_
  refine Wc.cond rfl (fun hc1 => ?_) (fun hc1 => ?_)
  refine Wc.ret ?_
  refine Ar.passRet ?_
  rotate_left
  refine Wc.skip ?_
  refine Ar.next ?_
  refine Wc.seq ?_
  refine Wc.region rfl ?_
  refine Wl.q rfl (Qy.loadsG T.agg25 rfl (by assumption) rfl) ?_
  rotate_left
  · refine Ar.outT (k := 1000) (.inr rfl) rfl (by repeat (first | exact Hp.tl_self _ _ | refine Hp.tl_cons rfl ?_)) ⟨rfl, i0, rfl, .inl (by rw [hid]; exact hi0)⟩
  · rw [hcheck] at hc1; exact absurd (by decide) hc1
theorem c71 (G : Imm) (p : PV) (ac ao : Option Addr) (cc co : Nat) (b : Nat) (hc : Arr G ac p.code) (ho : Arr G ao p.outs) (h1 : p.code.length ≤ 1099511627776) (h2 : p.outs.length ≤ 1099511627776)
    (hb : G b = some (.cells [.int .i64 p.ins, .int .i64 p.regs, .slice ac p.code.length cc, .slice ao p.outs.length co].toArray 25)) : IterDoes Try.prog 71 [.pointer (some ⟨b, 0, none⟩)] G enc1 (idleP p) := by
  by_cases hR : rightP p = true
  · exact c71R G p ac ao cc co b hc ho h1 h2 hb hR
  · exact c71W G p ac ao cc co b hc ho h1 h2 hb hR
theorem idle_len (p : PV) : (idleP p).length ≤ p.code.length := by
  unfold idleP
  split
  · unfold idleTo
    exact Nat.le_trans (List.length_filterMap_le _ _) (by simp)
  · simp
theorem c31 (G : Imm) (p : PV) (ac ao : Option Addr) (cc co : Nat) (hc : Arr G ac p.code) (ho : Arr G ao p.outs) (h1 : p.code.length ≤ 1048576) (h2 : p.outs.length ≤ 1048576) :
    Does Try.prog 31 [.agg #[.int .i64 p.ins, .int .i64 p.regs, .slice ac p.code.length cc, .slice ao p.outs.length co]] G [] (fun v G' Ho => ∃ b d j, v = .slice b (idleP p).length d ∧ (idleP p = [] → b = none) ∧ OwnA b d (idleP p) j ∧ Ho = [(0, b.map (·.block), Row 3 (idleP p) j)] ∧ G' = G) := by
  have hil := idle_len p
  refine Does.enterM Try.func31 rfl Try.ntmps31 rfl (fun w => ?_)
  refine Wc.nilRow 0 (Row 3 ([] : List Int) []) ?_
  refine Wc.seq ?_
  refine Wc.region rfl ?_
  refine Wl.box 1 rfl rfl rfl (fun b1 => ?_)
  refine Wl.q rfl (Qy.assign rfl) ?_
  refine Wl.done ?_
  refine Ar.next ?_
  refine Wc.seq ?_
  refine Wc.region rfl ?_
  refine Wl.alloc 2 rfl T.zero23 (fun b2 => ?_)
  refine Wl.done ?_
  refine Ar.next ?_
  refine Wc.seq ?_
  refine Wc.region rfl ?_
  refine Wl.q rfl (Qy.loadAll 1 T.agg25 rfl rfl rfl) ?_
  refine Wl.call 3 rfl T.fn33 rfl (c33 _ _ _ _ _ _) (tags_of trivial) (fun v1 G1 Ho1 hle1 hp => ?_)
  obtain ⟨bi1, rfl, rfl, hbi1⟩ := hp
  replace hc := hc.up hle1
  replace ho := ho.up hle1
  refine Wl.q rfl (Qy.assign rfl) ?_
  refine Wl.done ?_
  refine Ar.next ?_
  refine Wc.seq ?_
  refine Wc.seq ?_
  refine Wc.region rfl ?_
  refine Wl.q rfl (Qy.move rfl) ?_
  refine Wl.q rfl (Qy.eqlFuncNil (by kernel_rfl) rfl rfl) ?_
  refine Wl.done ?_
  refine Ar.next ?_
  refine Wc.condF rfl ?_
  refine Wc.skip ?_
  refine Ar.next ?_
  refine Wc.seq ?_
  refine Wc.seq ?_
  refine Wc.region rfl ?_
  refine Wl.q rfl (Qy.move rfl) ?_
  refine Wl.done ?_
  refine Ar.next ?_
  refine Wc.block ?_
  refine Wc.rangeFunc (ι := List Int × (Option Addr × Nat × List Value)) 900 901 (fun (xs, (b, d, j)) => [(2, some b2, .cells #[.slice b xs.length d] 23), (0, b.map (·.block), Row 3 xs j), (1, Option.some b1, Go.Obj.cells #[Go.Value.int Go.IntKind.i64 (Go.Proofs.Ytfleehgbpgmcnaa.PV.ins p), Go.Value.int Go.IntKind.i64 (Go.Proofs.Ytfleehgbpgmcnaa.PV.regs p), Go.Value.slice ac (List.length (Go.Proofs.Ytfleehgbpgmcnaa.PV.code p)) cc, Go.Value.slice ao (List.length (Go.Proofs.Ytfleehgbpgmcnaa.PV.outs p)) co] 25)]) (fun k (xs, (b, d, j)) => xs = (idleP p).take k ∧ OwnA b d xs j ∧ (xs = [] → b = none)) (fun c (xs, (b, d, j)) => False) (([], (none, 0, []))) rfl T.fn71 (fun _ => rfl) rfl (c71 _ p _ _ _ _ _ hc ho (by omega) (by omega) hbi1) (⟨rfl, OwnA.nil, fun _ => rfl⟩) (Hp.got ⟨rfl, rfl, rfl, trivial⟩) ⟨rfl, fun _ => rfl⟩ (fun k x ⟨xs, (b, d, j)⟩ l dd q w0 hx hi => ?_) (fun ⟨xs, (b, d, j)⟩ dd hi => ?_) (fun ⟨xs, (b, d, j)⟩ dd c hi => ?_)
  · obtain ⟨hxs, hob, hnil⟩ := hi
    have hxl : xs.length ≤ 1048576 := by rw [hxs, List.length_take]; omega
    refine Wc.region rfl ?_
    refine Wl.q rfl (Qy.assign rfl) ?_
    refine Wl.done ?_
    refine Ar.begin 900 rfl ?_
    refine Wc.block ?_
    refine Wc.region rfl ?_
    refine Wl.q rfl (Qy.load 2 T.one23 rfl rfl rfl) ?_
    refine Wl.q rfl (Qy.move rfl) ?_
    refine Wl.lit (α := Int) 902 [(x)] rfl T.sl23 T.el3 rfl rfl rfl rfl rfl (fun b3 => ?_)
    refine Wl.append (α := Int) 0 rfl T.sl23 T.el3 rfl rfl rfl (by first | assumption | exact OwnA.nil | exact OwnA.made (by simp)) (Src.row 902 rfl) (by first | omega | (simp only [List.length_append, List.length_cons, List.length_nil, maxLen]; omega)) (by first | omega | (simp only [List.length_append, List.length_cons, List.length_nil, maxLen]; omega)) (fun a1 c1 junk1 ho1 => ?_)
    refine Wl.store 2 T.one23 rfl rfl rfl rfl rfl ?_
    refine Wl.done ?_
    refine Ar.outNormal ?_
    refine Ar.roundEnd none (.inl ⟨rfl, rfl⟩) 900 rfl ⟨rfl, ((xs ++ [x], (a1, c1, junk1)), none), rfl, .inl ⟨rfl, rfl, ?_⟩⟩ (Hp.got ⟨rfl, rfl, rfl, rfl, rfl, trivial⟩)
    refine ⟨?_, ho1, fun h => by simp at h⟩
    rw [List.take_add_one, hx, hxs]; rfl
  · obtain ⟨hxs, hob, hnil⟩ := hi
    rw [List.take_length] at hxs
    subst hxs
    refine Ar.outNormal ?_
    refine Ar.next ?_
    refine Wc.seq ?_
    refine Wc.region rfl ?_
    refine Wl.q rfl (Qy.load 2 T.one23 rfl rfl rfl) ?_
    refine Wl.q rfl (Qy.assign rfl) ?_
    refine Wl.done ?_
    refine Ar.next ?_
    refine Wc.ret ?_
    refine Ar.collect (.inr rfl) 901 rfl ?_
    refine Ar.outOf (.inr rfl) ?_
    refine Ar.base (Ar.pick [0] (by decide) (Ar.out1 (.inr rfl) rfl (.tmp rfl) (Hp.sub_self 0 _) ?_))
    exact ⟨_, _, _, rfl, hnil, hob, rfl, rfl⟩
  · exact hi.elim
end Go.Proofs.Ytfleehgbpgmcnaa
