import Derived.Test.YtfleehgbpgmcnaaSlN
import Derived.Test.YtfleehgbpgmcnaaAd
import Derived.Test.YtfleehgbpgmcnaaAl
namespace Go.Proofs.Ytfleehgbpgmcnaa
open Go Go.Sl
set_option maxRecDepth 100000

set_option maxHeartbeats 2000000
/-- some registers are asked -/
def setAll (l : List Bool) (rs : List Int) : List Bool := rs.foldl (fun l r => l.set r.toNat true) l
theorem setAll_len (l : List Bool) (rs : List Int) : (setAll l rs).length = l.length := by
  unfold setAll
  induction rs generalizing l with
  | nil => rfl
  | cons r rs ih => simp only [List.foldl_cons]; rw [ih, List.length_set]
theorem setAll_step (l : List Bool) (rs : List Int) {k : Nat} (h : k < rs.length) : setAll l (rs.take (k + 1)) = (setAll l (rs.take k)).set (rs[((k : Nat) : Int).toNat]?.getD default).toNat true := by
  unfold setAll
  rw [List.take_add_one, List.foldl_append, Int.toNat_natCast, List.getElem?_eq_getElem h]
  rfl
/-- one instruction from behind: whether it is needed, what is asked ahead of it -/
def needStep (s : List Bool × List Bool) (k : Int) (i : Sl.Instr) : List Bool × List Bool :=
  if s.1[i.to.toNat]?.getD default = true then (setAll (s.1.set i.to.toNat false) (asks i), s.2.set k.toNat true) else s
def needTo (p : PV) : Nat → List Bool × List Bool
  | 0 => (setAll (List.replicate p.regs.toNat false) p.outs, List.replicate p.code.length false)
  | j + 1 => needStep (needTo p j) ((p.code.length - 1 - j : Nat) : Int) (p.code[p.code.length - 1 - j]?.getD default)
def neededP (p : PV) : List Bool := (needTo p p.code.length).2
theorem needTo_len (p : PV) (j : Nat) : (needTo p j).1.length = p.regs.toNat ∧ (needTo p j).2.length = p.code.length := by
  induction j with
  | zero => simp [needTo, setAll_len]
  | succ j ih =>
    simp only [needTo, needStep]
    split
    · simp [setAll_len, ih]
    · exact ih
theorem asks_in {i : Sl.Instr} {regs : Int} (h : mayOk i regs = true) : ∀ r ∈ asks i, 0 ≤ r ∧ r < regs := by
  unfold mayOk at h
  simp only [Bool.and_eq_true, List.all_eq_true, decide_eq_true_eq] at h
  exact h.2
theorem c66 (G : Imm) (p : PV) (ac ao : Option Addr) (cc co : Nat) (hc : Arr G ac p.code) (ho : Arr G ao p.outs) (h1 : p.code.length ≤ 1099511627776) (h2 : p.outs.length ≤ 1099511627776) (hR : rightP p = true) :
    Does Try.prog 66 [.agg #[.int .i64 p.ins, .int .i64 p.regs, .slice ac p.code.length cc, .slice ao p.outs.length co]] G [] (fun v G' Ho => ∃ b c j, v = .slice b (neededP p).length c ∧ OwnA b c (neededP p) j ∧ Ho = [(0, b.map (·.block), Row 4 (neededP p) j)] ∧ G' = G) := by
  obtain ⟨r1, r2, r3, r4, r5, r6, r7, r8⟩ := right_facts hR
  refine Does.enterM Try.func66 rfl Try.ntmps66 rfl (fun w => ?_)
  refine Wc.seq ?_
  refine Wc.region rfl ?_
  refine Wl.box 0 rfl rfl rfl (fun b1 => ?_)
  refine Wl.q rfl (Qy.assign rfl) ?_
  refine Wl.done ?_
  refine Ar.next ?_
  refine Wc.scope ?_
  refine Wc.seq ?_
  refine Wc.region rfl ?_
  refine Wl.q rfl (Qy.fieldAddr T.fa25_1 rfl) ?_
  refine Wl.q rfl (Qy.load 0 T.one3 rfl rfl rfl) ?_
  refine Wl.make (α := Bool) 1 rfl T.sl64 T.el4 rfl rfl (by omega) (by omega) (fun b2 => ?_)
  refine Wl.alloc 2 rfl T.zero64 (fun b3 => ?_)
  refine Wl.store 2 T.one64 rfl rfl rfl rfl rfl ?_
  refine Wl.done ?_
  refine Ar.next ?_
  refine Wc.seq ?_
  refine Wc.seq ?_
  refine Wc.region rfl ?_
  refine Wl.q rfl (Qy.fieldAddr T.fa25_3 rfl) ?_
  refine Wl.q rfl (Qy.load 0 T.one23 rfl rfl rfl) ?_
  refine Wl.q rfl (Qy.len T.sl23 rfl) ?_
  refine Wl.q rfl (Qy.move rfl) ?_
  refine Wl.done ?_
  refine Ar.next ?_
  refine Wc.block ?_
  generalize hR0 : List.replicate p.regs.toNat (default : Bool) = R0 at *
  have hR0l : (R0.length : Int) = p.regs := by rw [← hR0, List.length_replicate]; omega
  refine Wc.loop (ι := Nat × List Bool) (fun (k, xs) => ([(17, .int .i64 (k : Int)), (16, Go.Value.int Go.IntKind.i64 (↑(List.length (Go.Proofs.Ytfleehgbpgmcnaa.PV.outs p)) : Int)), (15, Go.Value.slice ao (List.length (Go.Proofs.Ytfleehgbpgmcnaa.PV.outs p)) co), (3, Go.Value.pointer (Option.some (Go.Addr.mk b3 0 Option.none))), (2, Go.Value.slice Option.none 0 0), (1, Go.Value.pointer (Option.some (Go.Addr.mk b1 0 Option.none)))], [(2, some b3, .cells #[.slice (some ⟨b2, 0, none⟩) xs.length R0.length] 64), (1, some b2, Row 4 xs []), (0, Option.some b1, Go.Obj.cells #[Go.Value.int Go.IntKind.i64 (Go.Proofs.Ytfleehgbpgmcnaa.PV.ins p), Go.Value.int Go.IntKind.i64 (Go.Proofs.Ytfleehgbpgmcnaa.PV.regs p), Go.Value.slice ac (List.length (Go.Proofs.Ytfleehgbpgmcnaa.PV.code p)) cc, Go.Value.slice ao (List.length (Go.Proofs.Ytfleehgbpgmcnaa.PV.outs p)) co] 25)])) (fun (k, xs) => k ≤ p.outs.length ∧ xs = setAll R0 (p.outs.take k) ∧ OwnA (some ⟨b2, 0, none⟩) R0.length xs []) (fun (k, xs) => p.outs.length - k) ((0, R0)) (⟨Nat.zero_le _, rfl, OwnA.made (by simp only [maxLen]; omega)⟩) ⟨rfl, rfl, rfl, rfl, rfl, rfl, trivial⟩ ⟨rfl, rfl, rfl, trivial⟩ (fun ⟨k, xs⟩ => fun (hk : k ≤ p.outs.length ∧ xs = setAll R0 (p.outs.take k) ∧ OwnA (some ⟨b2, 0, none⟩) R0.length xs []) => ?_)
  obtain ⟨hk1, hxs, hox⟩ := hk
  have hxl : (xs.length : Int) = p.regs := by rw [hxs, setAll_len]; exact hR0l
  rcases Nat.lt_or_ge k p.outs.length with hlt | hge
  · have hr : 0 ≤ p.outs[((k : Nat) : Int).toNat]?.getD default ∧ p.outs[((k : Nat) : Int).toNat]?.getD default < xs.length := by
      rw [hxl]; refine r7 _ ?_
      rw [Int.toNat_natCast, List.getElem?_eq_getElem hlt]; simp
    refine Wc.seq ?_
    refine Wc.region rfl ?_
    refine Wl.q rfl (Qy.lss rfl rfl) ?_
    refine Wl.done ?_
    refine Ar.next ?_
    refine Wc.seq ?_
    refine Wc.condP rfl (by first | assumption | omega) ?_
    refine Wc.skip ?_
    refine Ar.next ?_
    refine Wc.seq ?_
    refine Wc.block ?_
    refine Wc.seq ?_
    refine Wc.region rfl ?_
    refine Wl.q rfl (Qy.at (α := Int) T.sl23 rfl rfl (by assumption) (by omega)) ?_
    refine Wl.q rfl (Qy.loadG T.one3 rfl (Arr.cell (by assumption) (by omega) 0 rfl rfl)) ?_
    refine Wl.q rfl (Qy.assign rfl) ?_
    refine Wl.done ?_
    refine Ar.next ?_
    refine Wc.region rfl ?_
    refine Wl.q rfl (Qy.load 2 T.one64 rfl rfl rfl) ?_
    refine Wl.q rfl (Qy.move rfl) ?_
    refine Wl.q rfl (Qy.indexAddrO (α := Bool) T.sl64 rfl rfl (by assumption) (by omega)) ?_
    refine Wl.setO (z := _) 1 T.size4 rfl rfl rfl (by assumption) (by omega) rfl (fun ho1 => ?_)
    refine Wl.done ?_
    refine Ar.outNormal ?_
    refine Ar.next ?_
    refine Wc.region rfl ?_
    refine Wl.q rfl (Qy.add rfl rfl (by omega)) ?_
    refine Wl.q rfl (Qy.move rfl) ?_
    refine Wl.done ?_
    refine Ar.reH 2 (.cells #[.slice (some ⟨b2, 0, none⟩) (xs.set (p.outs[((k : Nat) : Int).toNat]?.getD default).toNat true).length R0.length] 64) rfl (by rw [List.length_set]) ?_
    refine Ar.again ((k + 1, _)) ?_ ?_ rfl ⟨rfl, rfl, rfl, rfl, rfl, rfl, trivial⟩ ⟨rfl, rfl, rfl, trivial⟩
    · exact ⟨by omega, by rw [setAll_step _ _ hlt, hxs], ho1⟩
    · show p.outs.length - (k + 1) < p.outs.length - k
      omega
  · have hk : k = p.outs.length := by omega
    subst hk
    rw [List.take_length] at hxs
    clear hk1 hge
    refine Wc.seq ?_
    refine Wc.region rfl ?_
    refine Wl.q rfl (Qy.lss rfl rfl) ?_
    refine Wl.done ?_
    refine Ar.next ?_
    refine Wc.seq ?_
    refine Wc.condN rfl (by first | assumption | omega) ?_
    refine Wc.exit ?_
    refine Ar.passExit ?_
    refine Ar.passExit ?_
    refine Ar.here ?_
    refine Ar.next ?_
    refine Wc.seq ?_
    refine Wc.region rfl ?_
    refine Wl.q rfl (Qy.fieldAddr T.fa25_2 rfl) ?_
    refine Wl.q rfl (Qy.load 0 T.one22 rfl rfl rfl) ?_
    refine Wl.q rfl (Qy.len T.sl22 rfl) ?_
    refine Wl.make (α := Bool) 3 rfl T.sl64 T.el4 rfl rfl (by omega) (by omega) (fun b4 => ?_)
    refine Wl.alloc 4 rfl T.zero64 (fun b5 => ?_)
    refine Wl.store 4 T.one64 rfl rfl rfl rfl rfl ?_
    refine Wl.done ?_
    refine Ar.next ?_
    refine Wc.seq ?_
    refine Wc.label ?_
    refine Ar.next ?_
    refine Wc.seq ?_
    refine Wc.seq ?_
    refine Wc.region rfl ?_
    refine Wl.q rfl (Qy.loadAll 0 T.agg25 rfl rfl rfl) ?_
    refine Wl.call 5 rfl T.fn69 rfl (c69 _ _ _ _ _ _) (tags_of trivial) (fun v1 G1 Ho1 hle1 hp => ?_)
    obtain ⟨bb1, rfl, rfl, hbb1⟩ := hp
    replace hc := hc.up hle1
    replace ho := ho.up hle1
    refine Wl.done ?_
    refine Ar.next ?_
    refine Wc.block ?_
    generalize hS0 : List.replicate ((p.code.length : Int)).toNat (default : Bool) = S0 at *
    have hS0l : S0.length = p.code.length := by rw [← hS0, List.length_replicate]; omega
    refine Wc.rangeFunc (ι := List Bool × List Bool) 900 901 (fun (A, O) => [(4, some b5, .cells #[.slice (some ⟨b4, 0, none⟩) O.length S0.length] 64), (3, some b4, Row 4 O []), (2, some b3, .cells #[.slice (some ⟨b2, 0, none⟩) A.length R0.length] 64), (1, some b2, Row 4 A []), (0, Option.some b1, Go.Obj.cells #[Go.Value.int Go.IntKind.i64 (Go.Proofs.Ytfleehgbpgmcnaa.PV.ins p), Go.Value.int Go.IntKind.i64 (Go.Proofs.Ytfleehgbpgmcnaa.PV.regs p), Go.Value.slice ac (List.length (Go.Proofs.Ytfleehgbpgmcnaa.PV.code p)) cc, Go.Value.slice ao (List.length (Go.Proofs.Ytfleehgbpgmcnaa.PV.outs p)) co] 25)]) (fun k (A, O) => (A, O) = needTo p k ∧ OwnA (some ⟨b2, 0, none⟩) R0.length A [] ∧ OwnA (some ⟨b4, 0, none⟩) S0.length O []) (fun c (A, O) => False) ((xs, S0)) rfl T.fn92 (fun _ => rfl) rfl (c92R _ p _ _ _ _ _ hc ho (by omega) (by omega) hbb1 hR) (⟨by rw [hxs, ← hR0, ← hS0]; rfl, hox, OwnA.made (by simp only [maxLen]; omega)⟩) (Hp.got ⟨rfl, rfl, rfl, rfl, rfl, trivial⟩) ⟨rfl, fun _ => rfl⟩ (fun k x ⟨A, O⟩ l dd q w0 hx hi => ?_) (fun ⟨A, O⟩ dd hi => ?_) (fun ⟨A, O⟩ dd c hi => ?_)
    · obtain ⟨hn, hoA, hoO⟩ := hi
      have hkl : k < p.code.length := by have := (List.getElem?_eq_some_iff.1 hx).1; rw [backL_len] at this; exact this
      have hxe : x = (((p.code.length - 1 - k : Nat) : Int), p.code[p.code.length - 1 - k]?.getD default) := by rw [backL_get _ hkl] at hx; exact (Option.some.inj hx).symm
      have hx1 : x.1 = ((p.code.length - 1 - k : Nat) : Int) := by rw [hxe]
      have hx2 : x.2 = p.code[p.code.length - 1 - k]?.getD default := by rw [hxe]
      clear hxe
      have hm : mayOk x.2 p.regs = true := by
        rw [hx2]; refine r8 _ ?_
        rw [List.getElem?_eq_getElem (by omega), Option.getD_some]; exact List.getElem_mem _
      have hAl : (A.length : Int) = p.regs := by have := (needTo_len p k).1; rw [← hn] at this; show (A.length : Int) = _; rw [show A.length = p.regs.toNat from this]; omega
      have hOl : O.length = p.code.length := by have := (needTo_len p k).2; rw [← hn] at this; exact this
      have hto : 0 ≤ x.2.to ∧ x.2.to < A.length := by rw [hAl]; rw [mayOk_iff] at hm; exact ⟨hm.1.2.2.1, hm.1.2.2.2.1⟩
      have hx1b : 0 ≤ x.1 ∧ x.1 < O.length := by rw [hx1, hOl]; omega
      have hask : ∀ r ∈ asks x.2, 0 ≤ r ∧ r < A.length := by rw [hAl]; exact asks_in hm
      have hst : needTo p (k + 1) = needStep (A, O) x.1 x.2 := by rw [hx1, hx2, hn]; rfl
      have hasks : (asks x.2).length ≤ 2 := by unfold asks; split <;> (try split) <;> simp
      refine Wc.seq ?_
      refine Wc.region rfl ?_
      refine Wl.q rfl (Qy.assign rfl) ?_
      refine Wl.done ?_
      refine Ar.next ?_
      refine Wc.region rfl ?_
      refine Wl.alloc 902 rfl T.zero34 (fun b6 => ?_)
      refine Wl.storeAll 902 T.size34 rfl rfl rfl rfl rfl rfl ?_
      refine Wl.done ?_
      refine Ar.begin 900 rfl ?_
      refine Wc.block ?_
      refine Wc.seq ?_
      refine Wc.seq ?_
      refine Wc.region rfl ?_
      refine Wl.q rfl (Qy.load 2 T.one64 rfl rfl rfl) ?_
      refine Wl.q rfl (Qy.fieldAddr T.fa34_1 rfl) ?_
      refine Wl.q rfl (Qy.load 902 T.one3 rfl rfl rfl) ?_
      refine Wl.q rfl (Qy.indexAddrO (α := Bool) T.sl64 rfl rfl (by assumption) (by omega)) ?_
      refine Wl.q rfl (Qy.loadO 1 0 T.one4 rfl rfl (by assumption) (by omega) rfl rfl) ?_
      refine Wl.q rfl (Qy.not rfl) ?_
      refine Wl.done ?_
      refine Ar.next ?_
      refine Wc.ite rfl (fun hc1 => ?_) (fun hc1 => ?_)
      refine Wc.exit ?_
      refine Ar.passExit ?_
      refine Ar.here ?_
      rotate_left
      refine Wc.skip ?_
      refine Ar.next ?_
      refine Wc.seq ?_
      refine Wc.region rfl ?_
      refine Wl.q rfl (Qy.load 4 T.one64 rfl rfl rfl) ?_
      refine Wl.q rfl (Qy.move rfl) ?_
      refine Wl.q rfl (Qy.indexAddrO (α := Bool) T.sl64 rfl rfl (by assumption) (by omega)) ?_
      refine Wl.setO (z := _) 3 T.size4 rfl rfl rfl (by assumption) (by omega) rfl (fun ho1 => ?_)
      refine Wl.done ?_
      refine Ar.next ?_
      refine Wc.seq ?_
      refine Wc.region rfl ?_
      refine Wl.q rfl (Qy.load 2 T.one64 rfl rfl rfl) ?_
      refine Wl.q rfl (Qy.fieldAddr T.fa34_1 rfl) ?_
      refine Wl.q rfl (Qy.load 902 T.one3 rfl rfl rfl) ?_
      refine Wl.q rfl (Qy.indexAddrO (α := Bool) T.sl64 rfl rfl (by assumption) (by omega)) ?_
      refine Wl.setO (z := _) 1 T.size4 rfl rfl rfl (by assumption) (by omega) rfl (fun ho2 => ?_)
      refine Wl.done ?_
      refine Ar.next ?_
      refine Wc.seq ?_
      refine Wc.region rfl ?_
      refine Wl.q rfl (Qy.loadAll 902 T.agg34 rfl rfl rfl) ?_
      refine Wl.call 903 rfl T.fn70 rfl (c70 _ _) (tags_of trivial) (fun v2 G2 Ho2 hle2 hp => ?_)
      obtain ⟨ad2, cd2, junk2, rfl, hoa2, rfl, rfl⟩ := hp
      refine Wl.q rfl (Qy.len T.sl23 rfl) ?_
      refine Wl.q rfl (Qy.move rfl) ?_
      refine Wl.done ?_
      refine Ar.next ?_
      refine Wc.block ?_
      rotate_left
      · refine Ar.roundEnd none (.inl ⟨rfl, rfl⟩) 900 rfl ⟨rfl, ((A, O), none), rfl, .inl ⟨rfl, rfl, ?_⟩⟩ (Hp.got ⟨rfl, rfl, rfl, rfl, rfl, rfl, rfl, trivial⟩)
        refine ⟨?_, hoA, hoO⟩
        rw [hst]; unfold needStep
        rw [if_neg (by simpa using hc1)]
      refine Wc.reH 2 (.cells #[.slice (some ⟨b2, 0, none⟩) (A.set x.2.to.toNat false).length R0.length] 64) rfl (by rw [List.length_set]) (Wc.reH 4 (.cells #[.slice (some ⟨b4, 0, none⟩) (O.set x.1.toNat true).length S0.length] 64) rfl (by rw [List.length_set]) ?_)
      refine Wc.loop (ι := Nat × List Bool) (fun (m, B) => ([(49, .int .i64 (m : Int)), (48, Go.Value.int Go.IntKind.i64 (↑(List.length (Go.Proofs.Ytfleehgbpgmcnaa.asks (Prod.snd x))) : Int)), (47, Go.Value.slice ad2 (List.length (Go.Proofs.Ytfleehgbpgmcnaa.asks (Prod.snd x))) cd2), (3, Go.Value.pointer (Option.some (Go.Addr.mk b3 0 Option.none)))], [(2, some b3, .cells #[.slice (some ⟨b2, 0, none⟩) B.length R0.length] 64), (1, some b2, Row 4 B []), (4, Option.some b5, Go.Obj.cells #[Go.Value.slice (Option.some (Go.Addr.mk b4 0 Option.none)) (List.length (List.set O (Int.toNat (Prod.fst x)) Bool.true)) (List.length S0)] 64), (904, Option.map (fun x => Go.Addr.block x) ad2, Go.Sl.Row (α := Int) 3 (Go.Proofs.Ytfleehgbpgmcnaa.asks (Prod.snd x)) (junk2)), (3, Option.map (fun x => Go.Addr.block x) (Option.some (Go.Addr.mk b4 0 Option.none)), Go.Sl.Row (α := Bool) 4 (List.set O (Int.toNat (Prod.fst x)) Bool.true) ([])), (900, Option.some l, Go.Sl.lrec q Go.LoopState.busy Option.none), (902, Option.some b6, Go.Obj.cells (List.toArray (Go.Sl.Cells.enc (Prod.snd x))) 34), (901, Option.some dd, Go.Obj.deferred (Option.some [])), (0, Option.some b1, Go.Obj.cells #[Go.Value.int Go.IntKind.i64 (Go.Proofs.Ytfleehgbpgmcnaa.PV.ins p), Go.Value.int Go.IntKind.i64 (Go.Proofs.Ytfleehgbpgmcnaa.PV.regs p), Go.Value.slice ac (List.length (Go.Proofs.Ytfleehgbpgmcnaa.PV.code p)) cc, Go.Value.slice ao (List.length (Go.Proofs.Ytfleehgbpgmcnaa.PV.outs p)) co] 25)])) (fun (m, B) => m ≤ (asks x.2).length ∧ B = setAll (A.set x.2.to.toNat false) ((asks x.2).take m) ∧ OwnA (some ⟨b2, 0, none⟩) R0.length B []) (fun (m, B) => (asks x.2).length - m) ((0, A.set x.2.to.toNat false)) (⟨Nat.zero_le _, rfl, ho2⟩) ⟨rfl, rfl, rfl, rfl, trivial⟩ ⟨rfl, rfl, rfl, rfl, rfl, rfl, rfl, rfl, rfl, trivial⟩ (fun ⟨m, B⟩ => fun (hk : m ≤ (asks x.2).length ∧ B = setAll (A.set x.2.to.toNat false) ((asks x.2).take m) ∧ OwnA (some ⟨b2, 0, none⟩) R0.length B []) => ?_)
      obtain ⟨hm1, hB, hoB⟩ := hk
      have hBl : B.length = A.length := by rw [hB, setAll_len, List.length_set]
      rcases Nat.lt_or_ge m (asks x.2).length with hlt | hge
      · have hr : 0 ≤ (asks x.2)[((m : Nat) : Int).toNat]?.getD default ∧ (asks x.2)[((m : Nat) : Int).toNat]?.getD default < B.length := by
          rw [hBl]; refine hask _ ?_
          rw [Int.toNat_natCast, List.getElem?_eq_getElem hlt]; simp
        refine Wc.seq ?_
        refine Wc.region rfl ?_
        refine Wl.q rfl (Qy.lss rfl rfl) ?_
        refine Wl.done ?_
        refine Ar.next ?_
        refine Wc.seq ?_
        refine Wc.condP rfl (by first | assumption | omega) ?_
        refine Wc.skip ?_
        refine Ar.next ?_
        refine Wc.seq ?_
        refine Wc.block ?_
        refine Wc.seq ?_
        refine Wc.region rfl ?_
        refine Wl.q rfl (Qy.indexAddrO (α := Int) T.sl23 rfl rfl (by assumption) (by omega)) ?_
        refine Wl.q rfl (Qy.loadO 904 0 T.one3 rfl rfl (by assumption) (by omega) rfl rfl) ?_
        refine Wl.q rfl (Qy.assign rfl) ?_
        refine Wl.done ?_
        refine Ar.next ?_
        refine Wc.region rfl ?_
        refine Wl.q rfl (Qy.load 2 T.one64 rfl rfl rfl) ?_
        refine Wl.q rfl (Qy.move rfl) ?_
        refine Wl.q rfl (Qy.indexAddrO (α := Bool) T.sl64 rfl rfl (by assumption) (by omega)) ?_
        refine Wl.setO (z := _) 1 T.size4 rfl rfl rfl (by assumption) (by omega) rfl (fun ho3 => ?_)
        refine Wl.done ?_
        refine Ar.outNormal ?_
        refine Ar.next ?_
        refine Wc.region rfl ?_
        refine Wl.q rfl (Qy.add rfl rfl (by omega)) ?_
        refine Wl.q rfl (Qy.move rfl) ?_
        refine Wl.done ?_
        refine Ar.reH 2 (.cells #[.slice (some ⟨b2, 0, none⟩) (B.set ((asks x.2)[((m : Nat) : Int).toNat]?.getD default).toNat true).length R0.length] 64) rfl (by rw [List.length_set]) ?_
        refine Ar.again ((m + 1, _)) ?_ ?_ rfl ⟨rfl, rfl, rfl, rfl, trivial⟩ ⟨rfl, rfl, rfl, rfl, rfl, rfl, rfl, rfl, rfl, trivial⟩
        · exact ⟨by omega, by rw [setAll_step _ _ hlt, hB], ho3⟩
        · show (asks x.2).length - (m + 1) < (asks x.2).length - m
          omega
      · have hm : m = (asks x.2).length := by omega
        subst hm
        rw [List.take_length] at hB
        refine Wc.seq ?_
        refine Wc.region rfl ?_
        refine Wl.q rfl (Qy.lss rfl rfl) ?_
        refine Wl.done ?_
        refine Ar.next ?_
        refine Wc.seq ?_
        refine Wc.condN rfl (by first | assumption | omega) ?_
        refine Wc.exit ?_
        refine Ar.passExit ?_
        refine Ar.passExit ?_
        refine Ar.here ?_
        refine Ar.outNormal ?_
        refine Ar.roundEnd none (.inl ⟨rfl, rfl⟩) 900 rfl ⟨rfl, ((B, O.set x.1.toNat true), none), rfl, .inl ⟨rfl, rfl, ?_⟩⟩ (Hp.got ⟨rfl, rfl, rfl, rfl, rfl, rfl, rfl, trivial⟩)
        refine ⟨?_, hoB, ho1⟩
        rw [hst]; unfold needStep
        rw [if_pos (by simpa using hc1), hB]
    · obtain ⟨hn, hoA, hoO⟩ := hi
      rw [backL_len] at hn
      have hO : O = neededP p := congrArg Prod.snd hn
      subst hO
      refine Ar.outNormal ?_
      refine Ar.next ?_
      refine Wc.seq ?_
      refine Wc.region rfl ?_
      refine Wl.q rfl (Qy.load 4 T.one64 rfl rfl rfl) ?_
      refine Wl.q rfl (Qy.assign rfl) ?_
      refine Wl.done ?_
      refine Ar.next ?_
      refine Wc.ret ?_
      refine Ar.scopeR ?_
      refine Ar.collect (.inr rfl) 901 rfl ?_
      refine Ar.outOf (.inr rfl) ?_
      refine Ar.base (Ar.pick [3] (by decide) (Ar.out1 (.inr rfl) rfl (.tmp rfl) (Hp.sub_self 0 _) ?_))
      exact ⟨_, _, _, rfl, hoO, rfl, rfl⟩
    · exact hi.elim
end Go.Proofs.Ytfleehgbpgmcnaa
