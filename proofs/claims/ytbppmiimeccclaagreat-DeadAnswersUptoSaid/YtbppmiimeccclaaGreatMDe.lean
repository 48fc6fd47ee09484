/- Parts of the proof (part 5): what the rows' text needs of the texts that lead to it. -/
import Derived.Test.YtbppmiimeccclaaGreatMDd
set_option linter.unusedVariables false
set_option linter.unusedSimpArgs false
set_option linter.unusedSectionVars false
namespace Go.Proofs.YtbppmiimeccclaaGreat
open Go Go.Sl
set_option maxRecDepth 100000
set_option maxHeartbeats 2000000
theorem c96 (G : Imm) (p : PV) (ac ao : Option Addr) (cc co : Nat) :
    Does Tryz.prog 96 [.agg #[.int .i64 p.ins, .int .i64 p.regs, .slice ac p.code.length cc, .slice ao p.outs.length co]] G [] (fun v G' Ho =>
      ∃ b, v = .func (.func 152) #[] #[.pointer (some ⟨b, 0, none⟩)] ∧ Ho = [] ∧ G' b = some (.cells [.int .i64 p.ins, .int .i64 p.regs, .slice ac p.code.length cc, .slice ao p.outs.length co].toArray 25)) := by
  refine Does.enter Tryz.func96 rfl Tryz.ntmps96 rfl (fun w => ?_)
  refine Wc.gl 2 [] ?_
  refine Wl.box 0 rfl rfl rfl (fun b1 => ?_)
  refine Wl.gl 5 [] ?_
  refine Wl.q rfl (Qy.makeFunc rfl rfl) ?_
  refine Wl.ga 4 [] ?_
  refine Ar.freeze 0 rfl (fun G' hle hb => ?_)
  refine Ar.out1 (.inr rfl) (Ho := []) rfl (.tmp rfl) trivial ?_
  exact ⟨_, rfl, rfl, hb⟩
def doesNothing (i : Sl.Instr) : Prop := i.op = 1 ∧ i.to = i.a
instance (i : Sl.Instr) : Decidable (doesNothing i) := inferInstanceAs (Decidable (_ ∧ _))
def idleAt (p : PV) (k : Nat) : Option Int := if (neededP p)[((k : Nat) : Int).toNat]?.getD default = true ∧ ¬ doesNothing (p.code[((k : Nat) : Int).toNat]?.getD default) then none else some (k : Int)
def idleTo (p : PV) (k : Nat) : List Int := (List.range k).filterMap (idleAt p)
def idleP (p : PV) : List Int := if rightP p then idleTo p p.code.length else []
def enc1 (k : Int) : List Value := [.int .i64 k]
theorem idleTo_step (p : PV) (k : Nat) : idleTo p (k + 1) = idleTo p k ++ (idleAt p k).toList := by
  unfold idleTo
  rw [List.range_succ, List.filterMap_append]
  cases h : idleAt p k <;> simp [h]
theorem idleTo_get (p : PV) {k n : Nat} (hk : k < n) {y : Int} (h : idleAt p k = some y) : (idleTo p n)[(idleTo p k).length]? = some y := by
  induction n with
  | zero => omega
  | succ n ih =>
    rw [idleTo_step]
    rcases Nat.lt_or_ge k n with h1 | h1
    · have := ih h1
      rw [List.getElem?_append_left (List.getElem?_eq_some_iff.1 this).1]; exact this
    · have : k = n := by omega
      subst this
      rw [List.getElem?_append_right (Nat.le_refl _), h]; simp
theorem c152R (G : Imm) (p : PV) (ac ao : Option Addr) (cc co : Nat) (b : Nat) (hc : Arr G ac p.code) (ho : Arr G ao p.outs) (h1 : p.code.length ≤ 1099511627776) (h2 : p.outs.length ≤ 1099511627776)
    (hb : G b = some (.cells [.int .i64 p.ins, .int .i64 p.regs, .slice ac p.code.length cc, .slice ao p.outs.length co].toArray 25)) (hR : rightP p = true) :
    IterDoes Tryz.prog 152 [.pointer (some ⟨b, 0, none⟩)] G enc1 (idleP p) := by
  intro ι J inv stop ly i0 hi0 hY
  obtain ⟨r1, r2, r3, r4, r5, r6, r7, r8⟩ := right_facts hR
  have hcheck : (checkP p).2 = false := by simpa [rightP] using hR
  have hrow := row_all hb
  have hcode := cell_one hb 2 rfl
  have hid : idleP p = idleTo p p.code.length := if_pos hR
  rw [hid] at hY
  have hnl : (neededP p).length = p.code.length := (needTo_len p _).2
  refine Does.enter Tryz.func152 rfl Tryz.ntmps152 rfl (fun w => ?_)
  refine Wc.lift 1000 ?_
  refine Wc.gl 2 [] ?_
  refine Wl.q rfl (Qy.loadsG T.agg25 rfl (by assumption) rfl) ?_
  refine Wl.call0 rfl T.fn18 rfl (c18 _ _ _ _ _ _ (by assumption) (by assumption) (by omega) (by omega)) ?_
  refine Wl.gc 14 [] ?_
  refine Wc.cond rfl (fun hc1 => ?_) (fun hc1 => ?_)
  refine Wc.ga 2 [] ?_
  rotate_left
  refine Wc.gl 4 [] ?_
  refine Wl.q rfl (Qy.loadsG T.agg25 rfl (by assumption) rfl) ?_
  refine Wl.call 0 rfl T.fn49 rfl (c49 _ _ _ _ _ _ (by assumption) (by assumption) (by omega) (by omega) (by assumption)) (tags_of trivial) (fun v1 G1 Ho1 hle1 hp => ?_)
  obtain ⟨nb1, nc1, nj1, rfl, hnb1, rfl, rfl⟩ := hp
  refine Wl.gc 5 [] ?_
  rotate_left
  · rw [hcheck] at hc1; exact absurd rfl hc1
  refine Wc.loopT (ι := Nat × ι) 1000 (fun (k, s) => ([(17, .int .i64 (k : Int)), (16, Go.Value.int Go.IntKind.i64 (↑(List.length (Go.Proofs.YtbppmiimeccclaaGreat.neededP p)) : Int)), (15, Go.Value.slice nb1 (List.length (Go.Proofs.YtbppmiimeccclaaGreat.neededP p)) nc1), (0, Go.Value.func (Go.Fn.yield ly) #[] #[]), (1, Go.Value.pointer (Option.some (Go.Addr.mk b 0 Option.none)))], [(0, Option.map (fun x => Go.Addr.block x) nb1, Go.Sl.Row (α := Bool) 4 (Go.Proofs.YtbppmiimeccclaaGreat.neededP p) (nj1))])) (fun (k, s) => J s) (fun (k, s) => k ≤ p.code.length ∧ inv (idleTo p k).length s) (fun (k, s) => p.code.length - k) ((0, i0)) (⟨Nat.zero_le _, hi0⟩) ⟨rfl, rfl, rfl, rfl, rfl, trivial⟩ ⟨rfl, trivial⟩ (by repeat (first | exact Hp.tl_self _ _ | refine Hp.tl_cons rfl ?_)) (fun ⟨k, s⟩ => fun (hk : k ≤ p.code.length ∧ inv (idleTo p k).length s) => ?_)
  obtain ⟨hk1, hinv⟩ := hk
  rcases Nat.lt_or_ge k p.code.length with hlt | hge
  · by_cases hd : (p.code[((k : Nat) : Int).toNat]?.getD default).op = 1 ∧ (p.code[((k : Nat) : Int).toNat]?.getD default).to = (p.code[((k : Nat) : Int).toNat]?.getD default).a
    · have hat : idleAt p k = some (k : Int) := if_neg (fun h => h.2 hd)
      refine Wc.gl 14 [1] ?_
      refine Wl.q rfl (Qy.indexAddrO (α := Bool) T.sl87 rfl rfl (by assumption) (by omega)) ?_
      refine Wl.q rfl (Qy.loadO 0 0 T.one4 rfl rfl (by assumption) (by omega) rfl rfl) ?_
      refine Wl.gl 9 [] ?_
      refine Wl.casesB 24 rfl (fun hg1 => ?_) (fun hg1 => ?_)
      refine Wl.ll0 13 [] ?_
      rotate_left
      refine Wl.ll0 3 [] ?_
      refine Wl.q rfl (Qy.loadG T.one22 rfl (by assumption)) ?_
      refine Wl.ll0 3 [] ?_
      refine Wl.q rfl (Qy.at (α := Instr) T.sl22 rfl rfl (by assumption) (by omega)) ?_
      refine Wl.want rfl rfl ?_
      refine Wl.q rfl (Qy.loadsG T.agg93 rfl (Arr.elem (by assumption) (by omega)) rfl) ?_
      refine Wl.want rfl rfl ?_
      refine Wl.call0 rfl T.fn50 rfl (c50 _ _) ?_
      refine Wl.ll0 2 [] ?_
      refine Wl.yes 32 rfl (by first | assumption | omega) ?_
      refine Wl.ll0 5 [] ?_
      rotate_left
      all_goals
        refine Wl.yieldT (A := [(0, Option.map (fun x => Go.Addr.block x) nb1, Go.Sl.Row (α := Bool) 4 (Go.Proofs.YtbppmiimeccclaaGreat.neededP p) (nj1))]) 1000 rfl rfl rfl ⟨rfl, trivial⟩ (by repeat (first | exact Hp.tl_self _ _ | refine Hp.tl_cons rfl ?_)) rfl (hY (idleTo p k).length _ s (idleTo_get p hlt hat) hinv) (fun vy Gy Hy hly hp => ?_)
        obtain ⟨rfl, s', rfl, hp⟩ := hp
        rcases hp with ⟨rfl, hinv'⟩ | ⟨rfl, hst⟩
        · refine Wl.ga 13 [0] ?_
          refine Ar.againT ((k + 1, s')) ?_ ?_ ⟨rfl, rfl, rfl, rfl, rfl, trivial⟩ ⟨rfl, trivial⟩ (by repeat (first | exact Hp.tl_self _ _ | refine Hp.tl_cons rfl ?_))
          · exact ⟨by omega, by rw [idleTo_step, hat]; simpa using hinv'⟩
          · show p.code.length - (k + 1) < p.code.length - k
            omega
        · refine Wl.ga 11 [1] ?_
          refine Ar.outT (k := 1000) (.inr rfl) rfl (by repeat (first | exact Hp.tl_self _ _ | refine Hp.tl_cons rfl ?_)) ⟨rfl, s', rfl, .inr hst⟩
    · refine Wc.gl 14 [1] ?_
      refine Wl.q rfl (Qy.indexAddrO (α := Bool) T.sl87 rfl rfl (by assumption) (by omega)) ?_
      refine Wl.q rfl (Qy.loadO 0 0 T.one4 rfl rfl (by assumption) (by omega) rfl rfl) ?_
      refine Wl.gl 9 [] ?_
      refine Wl.casesB 24 rfl (fun hg1 => ?_) (fun hg1 => ?_)
      refine Wl.ll0 13 [] ?_
      rotate_left
      refine Wl.ll0 3 [] ?_
      refine Wl.q rfl (Qy.loadG T.one22 rfl (by assumption)) ?_
      refine Wl.ll0 3 [] ?_
      refine Wl.q rfl (Qy.at (α := Instr) T.sl22 rfl rfl (by assumption) (by omega)) ?_
      refine Wl.want rfl rfl ?_
      refine Wl.q rfl (Qy.loadsG T.agg93 rfl (Arr.elem (by assumption) (by omega)) rfl) ?_
      refine Wl.want rfl rfl ?_
      refine Wl.call0 rfl T.fn50 rfl (c50 _ _) ?_
      refine Wl.ll0 2 [] ?_
      refine Wl.no 32 rfl (by first | assumption | omega) ?_
      refine Wl.ga 15 [0] ?_
      rotate_left
      · have hat : idleAt p k = some (k : Int) := if_neg (fun h => by rw [h.1] at hg1; cases hg1)
        refine Wl.yieldT (A := [(0, Option.map (fun x => Go.Addr.block x) nb1, Go.Sl.Row (α := Bool) 4 (Go.Proofs.YtbppmiimeccclaaGreat.neededP p) (nj1))]) 1000 rfl rfl rfl ⟨rfl, trivial⟩ (by repeat (first | exact Hp.tl_self _ _ | refine Hp.tl_cons rfl ?_)) rfl (hY (idleTo p k).length _ s (idleTo_get p hlt hat) hinv) (fun vy Gy Hy hly hp => ?_)
        obtain ⟨rfl, s', rfl, hp⟩ := hp
        rcases hp with ⟨rfl, hinv'⟩ | ⟨rfl, hst⟩
        · refine Wl.ga 13 [0] ?_
          refine Ar.againT ((k + 1, s')) ?_ ?_ ⟨rfl, rfl, rfl, rfl, rfl, trivial⟩ ⟨rfl, trivial⟩ (by repeat (first | exact Hp.tl_self _ _ | refine Hp.tl_cons rfl ?_))
          · exact ⟨by omega, by rw [idleTo_step, hat]; simpa using hinv'⟩
          · show p.code.length - (k + 1) < p.code.length - k
            omega
        · refine Wl.ga 11 [1] ?_
          refine Ar.outT (k := 1000) (.inr rfl) rfl (by repeat (first | exact Hp.tl_self _ _ | refine Hp.tl_cons rfl ?_)) ⟨rfl, s', rfl, .inr hst⟩
      · have hat : idleAt p k = none := if_pos ⟨by simpa using hg1, hd⟩
        refine Ar.againT ((k + 1, s)) ?_ ?_ ⟨rfl, rfl, rfl, rfl, rfl, trivial⟩ ⟨rfl, trivial⟩ (by repeat (first | exact Hp.tl_self _ _ | refine Hp.tl_cons rfl ?_))
        · exact ⟨by omega, by rw [idleTo_step, hat]; simpa using hinv⟩
        · show p.code.length - (k + 1) < p.code.length - k
          omega
  · have hk : k = p.code.length := by omega
    subst hk
    rw [← hid] at hinv
    refine Wc.ga 11 [0] ?_
    refine Ar.outT (k := 1000) (.inl rfl) rfl (by repeat (first | exact Hp.tl_self _ _ | refine Hp.tl_cons rfl ?_)) ⟨rfl, s, rfl, .inl hinv⟩
theorem c152W (G : Imm) (p : PV) (ac ao : Option Addr) (cc co : Nat) (b : Nat) (hc : Arr G ac p.code) (ho : Arr G ao p.outs) (h1 : p.code.length ≤ 1099511627776) (h2 : p.outs.length ≤ 1099511627776)
    (hb : G b = some (.cells [.int .i64 p.ins, .int .i64 p.regs, .slice ac p.code.length cc, .slice ao p.outs.length co].toArray 25)) (hR : ¬ rightP p = true) :
    IterDoes Tryz.prog 152 [.pointer (some ⟨b, 0, none⟩)] G enc1 (idleP p) := by
  intro ι J inv stop ly i0 hi0 hY
  have hcheck : (checkP p).2 = true := by simpa [rightP] using hR
  have hrow := row_all hb
  have hid : idleP p = [] := if_neg hR
  refine Does.enter Tryz.func152 rfl Tryz.ntmps152 rfl (fun w => ?_)
  refine Wc.lift 1000 ?_
  refine Wc.gl 2 [] ?_
  refine Wl.q rfl (Qy.loadsG T.agg25 rfl (by assumption) rfl) ?_
  refine Wl.call0 rfl T.fn18 rfl (c18 _ _ _ _ _ _ (by assumption) (by assumption) (by omega) (by omega)) ?_
  refine Wl.gc 14 [] ?_
  refine Wc.cond rfl (fun hc1 => ?_) (fun hc1 => ?_)
  refine Wc.ga 2 [] ?_
  rotate_left
  refine Wc.gl 4 [] ?_
  refine Wl.q rfl (Qy.loadsG T.agg25 rfl (by assumption) rfl) ?_
  rotate_left
  · refine Ar.outT (k := 1000) (.inr rfl) rfl (by repeat (first | exact Hp.tl_self _ _ | refine Hp.tl_cons rfl ?_)) ⟨rfl, i0, rfl, .inl (by rw [hid]; exact hi0)⟩
  · rw [hcheck] at hc1; exact absurd (by decide) hc1
theorem c152 (G : Imm) (p : PV) (ac ao : Option Addr) (cc co : Nat) (b : Nat) (hc : Arr G ac p.code) (ho : Arr G ao p.outs) (h1 : p.code.length ≤ 1099511627776) (h2 : p.outs.length ≤ 1099511627776)
    (hb : G b = some (.cells [.int .i64 p.ins, .int .i64 p.regs, .slice ac p.code.length cc, .slice ao p.outs.length co].toArray 25)) : IterDoes Tryz.prog 152 [.pointer (some ⟨b, 0, none⟩)] G enc1 (idleP p) := by
  by_cases hR : rightP p = true
  · exact c152R G p ac ao cc co b hc ho h1 h2 hb hR
  · exact c152W G p ac ao cc co b hc ho h1 h2 hb hR
theorem idle_len (p : PV) : (idleP p).length ≤ p.code.length := by
  unfold idleP
  split
  · unfold idleTo
    exact Nat.le_trans (List.length_filterMap_le _ _) (by simp)
  · simp
theorem c48 (G : Imm) (p : PV) (ac ao : Option Addr) (cc co : Nat) (hc : Arr G ac p.code) (ho : Arr G ao p.outs) (h1 : p.code.length ≤ 1048576) (h2 : p.outs.length ≤ 1048576) :
    Does Tryz.prog 48 [.agg #[.int .i64 p.ins, .int .i64 p.regs, .slice ac p.code.length cc, .slice ao p.outs.length co]] G [] (fun v G' Ho => ∃ b d j, v = .slice b (idleP p).length d ∧ (idleP p = [] → b = none) ∧ OwnA b d (idleP p) j ∧ Ho = [(0, b.map (·.block), Row 3 (idleP p) j)] ∧ G' = G) := by
  have hil := idle_len p
  refine Does.enterM Tryz.func48 rfl Tryz.ntmps48 rfl (fun w => ?_)
  refine Wc.nilRow 0 (Row 3 ([] : List Int) []) ?_
  refine Wc.gl 2 [] ?_
  refine Wl.box 1 rfl rfl rfl (fun b1 => ?_)
  refine Wl.gl 5 [] ?_
  refine Wl.alloc 2 rfl T.zero23 (fun b2 => ?_)
  refine Wl.gl 5 [1] ?_
  refine Wl.call 3 rfl T.fn96 rfl (c96 _ _ _ _ _ _) (tags_of trivial) (fun v1 G1 Ho1 hle1 hp => ?_)
  obtain ⟨bi1, rfl, rfl, hbi1⟩ := hp
  replace hc := hc.up hle1
  replace ho := ho.up hle1
  refine Wl.gl 7 [] ?_
  refine Wl.q rfl (Qy.eqlFuncNil (by kernel_rfl) rfl rfl) ?_
  refine Wl.gc 12 [0] ?_
  refine Wc.rangeFunc (ι := List Int × (Option Addr × Nat × List Value)) 900 901 (fun (xs, (b, d, j)) => [(2, some b2, .cells #[.slice b xs.length d] 23), (0, b.map (·.block), Row 3 xs j), (1, Option.some b1, Go.Obj.cells #[Go.Value.int Go.IntKind.i64 (Go.Proofs.YtbppmiimeccclaaGreat.PV.ins p), Go.Value.int Go.IntKind.i64 (Go.Proofs.YtbppmiimeccclaaGreat.PV.regs p), Go.Value.slice ac (List.length (Go.Proofs.YtbppmiimeccclaaGreat.PV.code p)) cc, Go.Value.slice ao (List.length (Go.Proofs.YtbppmiimeccclaaGreat.PV.outs p)) co] 25)]) (fun k (xs, (b, d, j)) => xs = (idleP p).take k ∧ OwnA b d xs j ∧ (xs = [] → b = none)) (fun c (xs, (b, d, j)) => False) (([], (none, 0, []))) rfl T.fn152 (fun _ => rfl) rfl (c152 _ p _ _ _ _ _ hc ho (by omega) (by omega) hbi1) (⟨rfl, OwnA.nil, fun _ => rfl⟩) (Hp.got ⟨rfl, rfl, rfl, trivial⟩) ⟨rfl, fun _ => rfl⟩ (fun k x ⟨xs, (b, d, j)⟩ l dd q w0 hx hi => ?_) (fun ⟨xs, (b, d, j)⟩ dd hi => ?_) (fun ⟨xs, (b, d, j)⟩ dd c hi => ?_)
  · obtain ⟨hxs, hob, hnil⟩ := hi
    have hxl : xs.length ≤ 1048576 := by rw [hxs, List.length_take]; omega
    refine Wc.ga 3 [] ?_
    refine Ar.begin 900 rfl ?_
    refine Wc.gl 4 [2] ?_
    refine Wl.lit (α := Int) 902 [(x)] rfl T.sl23 T.el3 rfl rfl rfl rfl rfl (fun b3 => ?_)
    refine Wl.append (α := Int) 0 rfl T.sl23 T.el3 rfl rfl rfl (by first | assumption | exact OwnA.nil | exact OwnA.made (by simp)) (Src.row 902 rfl) (by first | omega | (simp only [List.length_append, List.length_cons, List.length_nil, maxLen]; omega)) (by first | omega | (simp only [List.length_append, List.length_cons, List.length_nil, maxLen]; omega)) (fun a1 c1 junk1 ho1 => ?_)
    refine Wl.ga 3 [2] ?_
    refine Ar.roundEnd none (.inl ⟨rfl, rfl⟩) 900 rfl ⟨rfl, ((xs ++ [x], (a1, c1, junk1)), none), rfl, .inl ⟨rfl, rfl, ?_⟩⟩ (Hp.got ⟨rfl, rfl, rfl, rfl, rfl, trivial⟩)
    refine ⟨?_, ho1, fun h => by simp at h⟩
    rw [List.take_add_one, hx, hxs]; rfl
  · obtain ⟨hxs, hob, hnil⟩ := hi
    rw [List.take_length] at hxs
    subst hxs
    refine Ar.ga 9 [2] ?_
    refine Ar.collect (.inr rfl) 901 rfl ?_
    refine Ar.outOf (.inr rfl) ?_
    refine Ar.base (Ar.pick [0] (by decide) (Ar.out1 (.inr rfl) rfl (.tmp rfl) (Hp.sub_self 0 _) ?_))
    exact ⟨_, _, _, rfl, hnil, hob, rfl, rfl⟩
  · exact hi.elim
end Go.Proofs.YtbppmiimeccclaaGreat
namespace Go.Proofs.YtbppmiimeccclaaGreat
open Go Go.Sl
set_option maxRecDepth 100000
set_option maxHeartbeats 2000000
theorem c47 (G : Imm) (xs ys : List Int) (a b : Option Addr) (c d : Nat) (hx : Arr G a xs) (hy : Arr G b ys) (h1 : xs.length ≤ 1099511627776) (h2 : ys.length ≤ 1099511627776) :
    Does Tryz.prog 47 [.slice a xs.length c, .slice b ys.length d] G [] (fun v G' Ho => v = .bool (decide (xs = ys)) ∧ G' = G ∧ Ho = []) := by
  refine Does.enter Tryz.func47 rfl Tryz.ntmps47 rfl (fun w => ?_)
  refine Wc.gc 15 [] ?_
  refine Wc.cond rfl (fun hc1 => ?_) (fun hc1 => ?_)
  refine Wc.ga 7 [] ?_
  refine Ar.out1 (.inr rfl) (Ho := Hp.only _ []) rfl (.tmp rfl) (Hp.sub_only _ _) ?_
  rotate_left
  refine Wc.gc 11 [] ?_
  rotate_left
  · have : xs ≠ ys := by rintro rfl; exact hc1 rfl
    exact ⟨by simp [this], rfl, rfl⟩
  have hl : xs.length = ys.length := by omega
  clear hc1
  refine Wc.loop (ι := Nat) (fun k => ([(13, .int .i64 (k : Int)), (12, Go.Value.int Go.IntKind.i64 (↑(List.length xs) : Int)), (0, Go.Value.slice a (List.length xs) c), (1, Go.Value.slice b (List.length ys) d)], [])) (fun k => k ≤ xs.length ∧ xs.take k = ys.take k) (fun k => xs.length - k) (0) (⟨Nat.zero_le _, rfl⟩) ⟨rfl, rfl, rfl, rfl, trivial⟩ trivial (fun k => fun (hk : k ≤ xs.length ∧ xs.take k = ys.take k) => ?_)
  obtain ⟨hk1, hk2⟩ := hk
  refine Wc.gc 6 [] ?_
  refine Wc.cond rfl (fun hc1 => ?_) (fun hc1 => ?_)
  refine Wc.gc 11 [] ?_
  refine Wc.draw [] [] T.mixed rfl ?_
  refine Gm.q 0 [] (by kernel_rfl) rfl rfl (Qy.move rfl) ?_
  refine Gm.q 1 [] (by kernel_rfl) rfl rfl (Qy.move rfl) ?_
  refine Gm.q 2 [] (by kernel_rfl) rfl rfl (Qy.at (α := Int) T.sl23 rfl rfl (by assumption) (by omega)) ?_
  refine Gm.q 3 [] (by kernel_rfl) rfl rfl (Qy.loadG T.one3 rfl (Arr.cell (by assumption) (by omega) 0 rfl rfl)) ?_
  refine Gm.q 4 [] (by kernel_rfl) rfl rfl (Qy.move rfl) ?_
  refine Gm.q 5 [] (by kernel_rfl) rfl rfl (Qy.move rfl) ?_
  refine Gm.q 6 [] (by kernel_rfl) rfl rfl (Qy.at (α := Int) T.sl23 rfl rfl (by assumption) (by omega)) ?_
  refine Gm.q 7 [] (by kernel_rfl) rfl rfl (Qy.loadG T.one3 rfl (Arr.cell (by assumption) (by omega) 0 rfl rfl)) ?_
  refine Gm.q 8 [] (by kernel_rfl) rfl rfl (Qy.neq rfl rfl) ?_
  refine Gm.doneA (by kernel_rfl) trivial (by first | exact Imm.le_refl _ | assumption | (refine Imm.le_trans ?_ (by assumption); first | assumption | (refine Imm.le_trans ?_ (by assumption); assumption))) ?_
  refine Ar.next ?_
  refine Wc.cond rfl (fun hc2 => ?_) (fun hc2 => ?_)
  refine Wc.ga 11 [] ?_
  refine Ar.out1 (.inr rfl) (Ho := Hp.only _ []) rfl (.tmp rfl) (Hp.sub_only _ _) ?_
  rotate_left
  refine Wc.ga 7 [] ?_
  rotate_left
  refine Wc.ga 11 [] ?_
  refine Ar.out1 (.inr rfl) (Ho := Hp.only _ []) rfl (.tmp rfl) (Hp.sub_only _ _) ?_
  rotate_left
  · have : xs ≠ ys := by rintro rfl; exact hc2 rfl
    exact ⟨by simp [this], rfl, rfl⟩
  · refine Ar.again (k + 1) ?_ ?_ rfl ⟨rfl, rfl, rfl, rfl, trivial⟩ trivial
    · exact ⟨by omega, take_eq_step (by omega) (by omega) hk2 (Decidable.not_not.1 hc2)⟩
    · omega
  · have hk : k = xs.length := by omega
    subst hk
    rw [List.take_length, hl, List.take_length] at hk2
    exact ⟨by simp [hk2], rfl, rfl⟩
theorem c46 (G : Imm) (xs ys : List Bool) (a b : Option Addr) (c d : Nat) (hx : Arr G a xs) (hy : Arr G b ys) (h1 : xs.length ≤ 1099511627776) (h2 : ys.length ≤ 1099511627776) :
    Does Tryz.prog 46 [.slice a xs.length c, .slice b ys.length d] G [] (fun v G' Ho => v = .bool (decide (xs = ys)) ∧ G' = G ∧ Ho = []) := by
  refine Does.enter Tryz.func46 rfl Tryz.ntmps46 rfl (fun w => ?_)
  refine Wc.gc 15 [] ?_
  refine Wc.cond rfl (fun hc1 => ?_) (fun hc1 => ?_)
  refine Wc.ga 7 [] ?_
  refine Ar.out1 (.inr rfl) (Ho := Hp.only _ []) rfl (.tmp rfl) (Hp.sub_only _ _) ?_
  rotate_left
  refine Wc.gc 11 [] ?_
  rotate_left
  · have : xs ≠ ys := by rintro rfl; exact hc1 rfl
    exact ⟨by simp [this], rfl, rfl⟩
  have hl : xs.length = ys.length := by omega
  clear hc1
  refine Wc.loop (ι := Nat) (fun k => ([(13, .int .i64 (k : Int)), (12, Go.Value.int Go.IntKind.i64 (↑(List.length xs) : Int)), (0, Go.Value.slice a (List.length xs) c), (1, Go.Value.slice b (List.length ys) d)], [])) (fun k => k ≤ xs.length ∧ xs.take k = ys.take k) (fun k => xs.length - k) (0) (⟨Nat.zero_le _, rfl⟩) ⟨rfl, rfl, rfl, rfl, trivial⟩ trivial (fun k => fun (hk : k ≤ xs.length ∧ xs.take k = ys.take k) => ?_)
  obtain ⟨hk1, hk2⟩ := hk
  refine Wc.gc 6 [] ?_
  refine Wc.cond rfl (fun hc1 => ?_) (fun hc1 => ?_)
  refine Wc.gc 11 [] ?_
  refine Wc.draw [] [] T.mixed rfl ?_
  refine Gm.q 0 [] (by kernel_rfl) rfl rfl (Qy.move rfl) ?_
  refine Gm.q 1 [] (by kernel_rfl) rfl rfl (Qy.move rfl) ?_
  refine Gm.q 2 [] (by kernel_rfl) rfl rfl (Qy.at (α := Bool) T.sl87 rfl rfl (by assumption) (by omega)) ?_
  refine Gm.q 3 [] (by kernel_rfl) rfl rfl (Qy.loadG T.one4 rfl (Arr.cell (by assumption) (by omega) 0 rfl rfl)) ?_
  refine Gm.q 4 [] (by kernel_rfl) rfl rfl (Qy.move rfl) ?_
  refine Gm.q 5 [] (by kernel_rfl) rfl rfl (Qy.move rfl) ?_
  refine Gm.q 6 [] (by kernel_rfl) rfl rfl (Qy.at (α := Bool) T.sl87 rfl rfl (by assumption) (by omega)) ?_
  refine Gm.q 7 [] (by kernel_rfl) rfl rfl (Qy.loadG T.one4 rfl (Arr.cell (by assumption) (by omega) 0 rfl rfl)) ?_
  refine Gm.q 8 [] (by kernel_rfl) rfl rfl (Qy.neqB T.u4 rfl rfl) ?_
  refine Gm.doneA (by kernel_rfl) trivial (by first | exact Imm.le_refl _ | assumption | (refine Imm.le_trans ?_ (by assumption); first | assumption | (refine Imm.le_trans ?_ (by assumption); assumption))) ?_
  refine Ar.next ?_
  refine Wc.cond rfl (fun hc2 => ?_) (fun hc2 => ?_)
  refine Wc.ga 11 [] ?_
  refine Ar.out1 (.inr rfl) (Ho := Hp.only _ []) rfl (.tmp rfl) (Hp.sub_only _ _) ?_
  rotate_left
  refine Wc.ga 7 [] ?_
  rotate_left
  refine Wc.ga 11 [] ?_
  refine Ar.out1 (.inr rfl) (Ho := Hp.only _ []) rfl (.tmp rfl) (Hp.sub_only _ _) ?_
  rotate_left
  · have : xs ≠ ys := by rintro rfl; exact hc2 rfl
    exact ⟨by simp [this], rfl, rfl⟩
  · refine Ar.again (k + 1) ?_ ?_ rfl ⟨rfl, rfl, rfl, rfl, trivial⟩ trivial
    · exact ⟨by omega, take_eq_step (by omega) (by omega) hk2 (Decidable.not_not.1 hc2)⟩
    · omega
  · have hk : k = xs.length := by omega
    subst hk
    rw [List.take_length, hl, List.take_length] at hk2
    exact ⟨by simp [hk2], rfl, rfl⟩
def exD : PV := ⟨2, 4, [⟨3, 2, 0, 1, 0⟩, ⟨5, 3, 2, 0, 5⟩, ⟨4, 2, 0, 1, 0⟩, ⟨1, 1, 1, 0, 0⟩], [2, 0]⟩
theorem c43 (G : Imm) : Does Tryz.prog 43 [] G [] (fun v G' Ho => ∃ b d, v = .agg #[.int .i64 exD.ins, .int .i64 exD.regs, .slice (some ⟨b, 0, none⟩) exD.code.length exD.code.length, .slice (some ⟨d, 0, none⟩) exD.outs.length exD.outs.length] ∧
    Ho = [(0, some b, Row 93 exD.code []), (1, some d, Row 3 exD.outs [])] ∧ G' = G) := by
  refine Does.enter Tryz.func43 rfl Tryz.ntmps43 rfl (fun w => ?_)
  refine Wc.gl 2 [] ?_
  refine Wl.alloc 0 rfl T.zero25 (fun b1 => ?_)
  refine Wl.gl 4 [] ?_
  refine Wl.q rfl (Qy.build (cs := [_, _, _, _, _]) T.st93 rfl rfl rfl) ?_
  refine Wl.q rfl (Qy.build (cs := [_, _, _, _, _]) T.st93 rfl rfl rfl) ?_
  refine Wl.q rfl (Qy.build (cs := [_, _, _, _, _]) T.st93 rfl rfl rfl) ?_
  refine Wl.q rfl (Qy.build (cs := [_, _, _, _, _]) T.st93 rfl rfl rfl) ?_
  refine Wl.lit (α := Instr) 1 [⟨3, 2, 0, 1, 0⟩, ⟨5, 3, 2, 0, 5⟩, ⟨4, 2, 0, 1, 0⟩, ⟨1, 1, 1, 0, 0⟩] rfl T.sl22 T.el93 rfl rfl rfl rfl rfl (fun b2 => ?_)
  refine Wl.lit (α := Int) 2 [(2), (0)] rfl T.sl23 T.el3 rfl rfl rfl rfl rfl (fun b3 => ?_)
  refine Wl.q rfl (Qy.build (cs := [_, _, _, _]) T.st25 rfl rfl rfl) ?_
  refine Wl.ga 4 [0] ?_
  refine Ar.pick [1, 2, 0] (by decide) (Ar.out1 (.inr rfl) (Ho := Hp.only _ [0, 1]) rfl (.agg 2 rfl rfl T.agg25) (Hp.sub_only _ _) ?_)
  exact ⟨_, _, rfl, rfl, rfl⟩
theorem keepTo_mem (p : PV) : ∀ k, k ≤ p.code.length → ∀ i ∈ keepTo p k, i ∈ p.code
  | 0, _, i, h => by simp [keepTo] at h
  | k + 1, hk, i, h => by
    have hlt : k < p.code.length := by omega
    have hel : p.code[((k : Nat) : Int).toNat]?.getD default ∈ p.code := by rw [Int.toNat_natCast, List.getElem?_eq_getElem hlt, Option.getD_some]; exact List.getElem_mem _
    simp only [keepTo] at h
    split at h
    · rw [List.mem_append, List.mem_singleton] at h
      rcases h with h | h
      · exact keepTo_mem p k (by omega) i h
      · rw [h]; exact hel
    · exact keepTo_mem p k (by omega) i h
/-- right_facts, the other way -/
theorem right_of {q : PV} (h : 1 ≤ q.ins ∧ q.ins ≤ q.regs ∧ q.regs ≤ 128 ∧ q.code.length ≤ 16384 ∧ 1 ≤ q.outs.length ∧ q.outs.length ≤ 128) (ho : ∀ r ∈ q.outs, 0 ≤ r ∧ r < q.regs) (hc : ∀ i ∈ q.code, mayOk i q.regs = true) : rightP q = true := by
  have h1 : headOk q = true := by
    unfold headOk
    rw [Bool.and_eq_true, decide_eq_true_eq, List.all_eq_true]
    exact ⟨by omega, fun r hr => by rw [decide_eq_true_eq]; exact ho r hr⟩
  have h2 : badAt q = none := by
    unfold badAt
    rw [List.findIdx?_eq_none_iff]
    intro i hi
    rw [hc i hi]; rfl
  unfold rightP checkP
  rw [if_neg (by rw [h1]; decide), h2]; rfl
theorem dead_right {p : PV} (h : rightP p = true) : rightP (deadP p) = true := by
  obtain ⟨r1, r2, r3, r4, r5, r6, r7, r8⟩ := right_facts h
  have hl := keepTo_len p p.code.length
  exact right_of ⟨r1, r2, r3, by show (keepTo p p.code.length).length ≤ 16384; omega, r5, r6⟩ r7 (fun i hi => r8 i (keepTo_mem p _ (Nat.le_refl _) i hi))
/-- from behind: which registers are asked ahead of an instruction -/
def askStep (s : List Bool) (i : Sl.Instr) : List Bool := setAll (s.set i.to.toNat false) (asks i)
def askTo (q : PV) : Nat → List Bool
  | 0 => setAll (List.replicate q.regs.toNat false) q.outs
  | j + 1 => askStep (askTo q j) (q.code[q.code.length - 1 - j]?.getD default)
def askAll (q : PV) : List Bool := askTo q q.code.length
theorem askTo_len (q : PV) (j : Nat) : (askTo q j).length = q.regs.toNat := by
  induction j with
  | zero => simp [askTo, setAll_len]
  | succ j ih => simp [askTo, askStep, setAll_len, ih]
def askE (p : PV) : List Bool := if rightP p then askAll (deadP p) else []
theorem c44R (G : Imm) (p : PV) (ac ao : Option Addr) (cc co : Nat) (hc : Arr G ac p.code) (ho : Arr G ao p.outs) (h1 : p.code.length ≤ 1099511627776) (h2 : p.outs.length ≤ 1099511627776) (hR : rightP p = true) :
    Does Tryz.prog 44 [.agg #[.int .i64 p.ins, .int .i64 p.regs, .slice ac p.code.length cc, .slice ao p.outs.length co]] G [] (fun v G' Ho => ∃ b c j, v = .tuple #[.slice b (askAll (deadP p)).length c, .int .i64 0] ∧
      OwnA b c (askAll (deadP p)) j ∧ Ho = [(0, b.map (·.block), Row 4 (askAll (deadP p)) j)] ∧ G' = G) := by
  have hD := dead_right hR
  have hE : deadE p = deadP p := if_pos hR
  have hEr : errP p = 0 := if_pos hR
  refine Does.enterM Tryz.func44 rfl Tryz.ntmps44 rfl (fun w => ?_)
  refine Wc.gl 2 [] ?_
  refine Wl.box 0 rfl rfl rfl (fun b1 => ?_)
  refine Wl.gl 7 [0] ?_
  refine Wl.call 1 rfl T.fn17 rfl (c17 _ _ _ _ _ _ (by assumption) (by assumption) (by omega) (by omega)) (tags_of trivial) (fun v1 G1 Ho1 hle1 hp => ?_)
  obtain ⟨q1, e1, qc1, qo1, qcc1, qoc1, qj1, qk1, rfl, hq1, hqc1, hqo1, rfl, rfl⟩ := hp
  refine Wl.ll0 3 [] ?_
  refine Wl.alloc 3 rfl T.zero25 (fun b2 => ?_)
  refine Wl.gl 18 [3, 0, 3] ?_
  obtain ⟨hq, he⟩ := hq1
  rw [hE] at hq
  rw [hEr] at he
  subst hq he
  obtain ⟨r1, r2, r3, r4, r5, r6, r7, r8⟩ := right_facts hD
  generalize hQ : deadP p = z at *
  refine Wl.freezeRow 1 rfl hqc1 (fun G2 hle2 hQc => Wl.freezeRow 2 rfl hqo1 (fun G3 hle3 hQo => ?_))
  replace hQc := hQc.up hle3
  clear hqc1 hqo1 hc ho hle1 hle2 hle3
  refine Wl.make (α := Bool) 4 rfl T.sl87 T.el4 rfl rfl (by omega) (by omega) (fun b3 => ?_)
  refine Wl.alloc 5 rfl T.zero87 (fun b4 => ?_)
  refine Wl.gc 13 [5, 3] ?_
  generalize hR0 : List.replicate z.regs.toNat (default : Bool) = R0 at *
  have hR0l : (R0.length : Int) = z.regs := by rw [← hR0, List.length_replicate]; omega
  refine Wc.loop (ι := Nat × List Bool) (fun (k, xs) => ([(27, .int .i64 (k : Int)), (26, Go.Value.int Go.IntKind.i64 (↑(List.length (Go.Proofs.YtbppmiimeccclaaGreat.PV.outs z)) : Int)), (25, Go.Value.slice qo1 (List.length (Go.Proofs.YtbppmiimeccclaaGreat.PV.outs z)) qoc1), (6, Go.Value.pointer (Option.some (Go.Addr.mk b4 0 Option.none))), (4, Go.Value.pointer (Option.some (Go.Addr.mk b2 0 Option.none))), (3, Go.Value.int Go.IntKind.i64 0), (2, Go.Value.slice Option.none 0 0)], [(5, some b4, .cells #[.slice (some ⟨b3, 0, none⟩) xs.length R0.length] 87), (4, some b3, Row 4 xs []), (3, Option.some b2, Go.Obj.cells #[Go.Value.int Go.IntKind.i64 (Go.Proofs.YtbppmiimeccclaaGreat.PV.ins z), Go.Value.int Go.IntKind.i64 (Go.Proofs.YtbppmiimeccclaaGreat.PV.regs z), Go.Value.slice qc1 (List.length (Go.Proofs.YtbppmiimeccclaaGreat.PV.code z)) qcc1, Go.Value.slice qo1 (List.length (Go.Proofs.YtbppmiimeccclaaGreat.PV.outs z)) qoc1] 25), (0, Option.some b1, Go.Obj.cells #[Go.Value.int Go.IntKind.i64 (Go.Proofs.YtbppmiimeccclaaGreat.PV.ins p), Go.Value.int Go.IntKind.i64 (Go.Proofs.YtbppmiimeccclaaGreat.PV.regs p), Go.Value.slice ac (List.length (Go.Proofs.YtbppmiimeccclaaGreat.PV.code p)) cc, Go.Value.slice ao (List.length (Go.Proofs.YtbppmiimeccclaaGreat.PV.outs p)) co] 25)])) (fun (k, xs) => k ≤ z.outs.length ∧ xs = setAll R0 (z.outs.take k) ∧ OwnA (some ⟨b3, 0, none⟩) R0.length xs []) (fun (k, xs) => z.outs.length - k) ((0, R0)) (⟨Nat.zero_le _, rfl, OwnA.made (by simp only [maxLen]; omega)⟩) ⟨rfl, rfl, rfl, rfl, rfl, rfl, rfl, trivial⟩ ⟨rfl, rfl, rfl, rfl, trivial⟩ (fun ⟨k, xs⟩ => fun (hk : k ≤ z.outs.length ∧ xs = setAll R0 (z.outs.take k) ∧ OwnA (some ⟨b3, 0, none⟩) R0.length xs []) => ?_)
  obtain ⟨hk1, hxs, hox⟩ := hk
  have hxl : (xs.length : Int) = z.regs := by rw [hxs, setAll_len]; exact hR0l
  rcases Nat.lt_or_ge k z.outs.length with hlt | hge
  · have hr : 0 ≤ z.outs[((k : Nat) : Int).toNat]?.getD default ∧ z.outs[((k : Nat) : Int).toNat]?.getD default < xs.length := by
      rw [hxl]; refine r7 _ ?_
      rw [Int.toNat_natCast, List.getElem?_eq_getElem hlt]; simp
    refine Wc.gl 13 [1] ?_
    refine Wl.q rfl (Qy.at (α := Int) T.sl23 rfl rfl (by assumption) (by omega)) ?_
    refine Wl.q rfl (Qy.loadG T.one3 rfl (Arr.cell (by assumption) (by omega) 0 rfl rfl)) ?_
    refine Wl.gl 6 [5] ?_
    refine Wl.q rfl (Qy.indexAddrO (α := Bool) T.sl87 rfl rfl (by assumption) (by omega)) ?_
    refine Wl.setO (z := _) 4 T.size4 rfl rfl rfl (by assumption) (by omega) rfl (fun ho1 => ?_)
    refine Wl.ga 7 [] ?_
    refine Ar.reH 5 (.cells #[.slice (some ⟨b3, 0, none⟩) (xs.set (z.outs[((k : Nat) : Int).toNat]?.getD default).toNat true).length R0.length] 87) rfl (by rw [List.length_set]) ?_
    refine Ar.again ((k + 1, _)) ?_ ?_ rfl ⟨rfl, rfl, rfl, rfl, rfl, rfl, rfl, trivial⟩ ⟨rfl, rfl, rfl, rfl, trivial⟩
    · exact ⟨by omega, by rw [setAll_step _ _ hlt, hxs], ho1⟩
    · show z.outs.length - (k + 1) < z.outs.length - k
      omega
  have hk : k = z.outs.length := by omega
  subst hk
  rw [List.take_length] at hxs
  clear hk1 hge
  refine Wc.gl 16 [0, 3] ?_
  refine Wl.call 6 rfl T.fn94 rfl (c94 _ _ _ _ _ _) (tags_of trivial) (fun v1 G1 Ho1 hle1 hp => ?_)
  obtain ⟨bb1, rfl, rfl, hbb1⟩ := hp
  replace hQo := hQo.up hle1
  replace hQc := hQc.up hle1
  refine Wl.gc 3 [] ?_
  refine Wc.rangeFunc (ι := List Bool) 900 901 (fun A => [(5, some b4, .cells #[.slice (some ⟨b3, 0, none⟩) A.length R0.length] 87), (4, some b3, Row 4 A []), (3, Option.some b2, Go.Obj.cells #[Go.Value.int Go.IntKind.i64 (Go.Proofs.YtbppmiimeccclaaGreat.PV.ins z), Go.Value.int Go.IntKind.i64 (Go.Proofs.YtbppmiimeccclaaGreat.PV.regs z), Go.Value.slice qc1 (List.length (Go.Proofs.YtbppmiimeccclaaGreat.PV.code z)) qcc1, Go.Value.slice qo1 (List.length (Go.Proofs.YtbppmiimeccclaaGreat.PV.outs z)) qoc1] 25), (0, Option.some b1, Go.Obj.cells #[Go.Value.int Go.IntKind.i64 (Go.Proofs.YtbppmiimeccclaaGreat.PV.ins p), Go.Value.int Go.IntKind.i64 (Go.Proofs.YtbppmiimeccclaaGreat.PV.regs p), Go.Value.slice ac (List.length (Go.Proofs.YtbppmiimeccclaaGreat.PV.code p)) cc, Go.Value.slice ao (List.length (Go.Proofs.YtbppmiimeccclaaGreat.PV.outs p)) co] 25)]) (fun k A => A = askTo z k ∧ OwnA (some ⟨b3, 0, none⟩) R0.length A []) (fun c A => False) (xs) rfl T.fn149 (fun _ => rfl) rfl (c149R _ z _ _ _ _ _ hQc hQo (by omega) (by omega) hbb1 hD) (⟨by rw [hxs, ← hR0]; rfl, hox⟩) (Hp.got ⟨rfl, rfl, rfl, rfl, trivial⟩) ⟨rfl, fun _ => rfl⟩ (fun k x A l dd q w0 hx hi => ?_) (fun A dd hi => ?_) (fun A dd c hi => ?_)
  · obtain ⟨hn, hoA⟩ := hi
    have hkl : k < z.code.length := by have := (List.getElem?_eq_some_iff.1 hx).1; rw [backL_len] at this; exact this
    have hxe : x = (((z.code.length - 1 - k : Nat) : Int), z.code[z.code.length - 1 - k]?.getD default) := by rw [backL_get _ hkl] at hx; exact (Option.some.inj hx).symm
    have hx2 : x.2 = z.code[z.code.length - 1 - k]?.getD default := by rw [hxe]
    clear hxe
    have hm : mayOk x.2 z.regs = true := by
      rw [hx2]; refine r8 _ ?_
      rw [List.getElem?_eq_getElem (by omega), Option.getD_some]; exact List.getElem_mem _
    have hAl : (A.length : Int) = z.regs := by rw [hn, askTo_len]; omega
    have hto : 0 ≤ x.2.to ∧ x.2.to < A.length := by rw [hAl]; rw [mayOk_iff] at hm; exact ⟨hm.1.2.2.1, hm.1.2.2.2.1⟩
    have hask : ∀ r ∈ asks x.2, 0 ≤ r ∧ r < A.length := by rw [hAl]; exact asks_in hm
    have hst : askTo z (k + 1) = askStep A x.2 := by rw [hx2, hn]; rfl
    have hasks : (asks x.2).length ≤ 2 := by unfold asks; split <;> (try split) <;> simp
    refine Wc.region rfl ?_
    refine Wl.alloc 902 rfl T.zero93 (fun b5 => ?_)
    refine Wl.ga 2 [902] ?_
    refine Ar.begin 900 rfl ?_
    refine Wc.gl 6 [5, 902] ?_
    refine Wl.q rfl (Qy.indexAddrO (α := Bool) T.sl87 rfl rfl (by assumption) (by omega)) ?_
    refine Wl.setO (z := _) 4 T.size4 rfl rfl rfl (by assumption) (by omega) rfl (fun ho1 => ?_)
    refine Wl.gl 5 [902] ?_
    refine Wl.call 903 rfl T.fn95 rfl (c95 _ _) (tags_of trivial) (fun v2 G2 Ho2 hle2 hp => ?_)
    obtain ⟨ad2, cd2, junk2, rfl, hoa2, rfl, rfl⟩ := hp
    refine Wl.gc 5 [] ?_
    refine Wc.reH 5 (.cells #[.slice (some ⟨b3, 0, none⟩) (A.set x.2.to.toNat false).length R0.length] 87) rfl (by rw [List.length_set]) ?_
    refine Wc.loop (ι := Nat × List Bool) (fun (m, B) => ([(46, .int .i64 (m : Int)), (45, Go.Value.int Go.IntKind.i64 (↑(List.length (Go.Proofs.YtbppmiimeccclaaGreat.asks (Prod.snd x))) : Int)), (44, Go.Value.slice ad2 (List.length (Go.Proofs.YtbppmiimeccclaaGreat.asks (Prod.snd x))) cd2), (6, Go.Value.pointer (Option.some (Go.Addr.mk b4 0 Option.none)))], [(5, some b4, .cells #[.slice (some ⟨b3, 0, none⟩) B.length R0.length] 87), (4, some b3, Row 4 B []), (904, Option.map (fun x => Go.Addr.block x) ad2, Go.Sl.Row (α := Int) 3 (Go.Proofs.YtbppmiimeccclaaGreat.asks (Prod.snd x)) (junk2)), (900, Option.some l, Go.Sl.lrec q Go.LoopState.busy Option.none), (902, Option.some b5, Go.Obj.cells (List.toArray (Go.Sl.Cells.enc (Prod.snd x))) 93), (901, Option.some dd, Go.Obj.deferred (Option.some [])), (3, Option.some b2, Go.Obj.cells #[Go.Value.int Go.IntKind.i64 (Go.Proofs.YtbppmiimeccclaaGreat.PV.ins z), Go.Value.int Go.IntKind.i64 (Go.Proofs.YtbppmiimeccclaaGreat.PV.regs z), Go.Value.slice qc1 (List.length (Go.Proofs.YtbppmiimeccclaaGreat.PV.code z)) qcc1, Go.Value.slice qo1 (List.length (Go.Proofs.YtbppmiimeccclaaGreat.PV.outs z)) qoc1] 25), (0, Option.some b1, Go.Obj.cells #[Go.Value.int Go.IntKind.i64 (Go.Proofs.YtbppmiimeccclaaGreat.PV.ins p), Go.Value.int Go.IntKind.i64 (Go.Proofs.YtbppmiimeccclaaGreat.PV.regs p), Go.Value.slice ac (List.length (Go.Proofs.YtbppmiimeccclaaGreat.PV.code p)) cc, Go.Value.slice ao (List.length (Go.Proofs.YtbppmiimeccclaaGreat.PV.outs p)) co] 25)])) (fun (m, B) => m ≤ (asks x.2).length ∧ B = setAll (A.set x.2.to.toNat false) ((asks x.2).take m) ∧ OwnA (some ⟨b3, 0, none⟩) R0.length B []) (fun (m, B) => (asks x.2).length - m) ((0, A.set x.2.to.toNat false)) (⟨Nat.zero_le _, rfl, ho1⟩) ⟨rfl, rfl, rfl, rfl, trivial⟩ ⟨rfl, rfl, rfl, rfl, rfl, rfl, rfl, rfl, trivial⟩ (fun ⟨m, B⟩ => fun (hk : m ≤ (asks x.2).length ∧ B = setAll (A.set x.2.to.toNat false) ((asks x.2).take m) ∧ OwnA (some ⟨b3, 0, none⟩) R0.length B []) => ?_)
    obtain ⟨hm1, hB, hoB⟩ := hk
    have hBl : B.length = A.length := by rw [hB, setAll_len, List.length_set]
    rcases Nat.lt_or_ge m (asks x.2).length with hlt | hge
    · have hr : 0 ≤ (asks x.2)[((m : Nat) : Int).toNat]?.getD default ∧ (asks x.2)[((m : Nat) : Int).toNat]?.getD default < B.length := by
        rw [hBl]; refine hask _ ?_
        rw [Int.toNat_natCast, List.getElem?_eq_getElem hlt]; simp
      refine Wc.gl 13 [1] ?_
      refine Wl.q rfl (Qy.indexAddrO (α := Int) T.sl23 rfl rfl (by assumption) (by omega)) ?_
      refine Wl.q rfl (Qy.loadO 904 0 T.one3 rfl rfl (by assumption) (by omega) rfl rfl) ?_
      refine Wl.gl 6 [5] ?_
      refine Wl.q rfl (Qy.indexAddrO (α := Bool) T.sl87 rfl rfl (by assumption) (by omega)) ?_
      refine Wl.setO (z := _) 4 T.size4 rfl rfl rfl (by assumption) (by omega) rfl (fun ho2 => ?_)
      refine Wl.ga 7 [] ?_
      refine Ar.reH 5 (.cells #[.slice (some ⟨b3, 0, none⟩) (B.set ((asks x.2)[((m : Nat) : Int).toNat]?.getD default).toNat true).length R0.length] 87) rfl (by rw [List.length_set]) ?_
      refine Ar.again ((m + 1, _)) ?_ ?_ rfl ⟨rfl, rfl, rfl, rfl, trivial⟩ ⟨rfl, rfl, rfl, rfl, rfl, rfl, rfl, rfl, trivial⟩
      · exact ⟨by omega, by rw [setAll_step _ _ hlt, hB], ho2⟩
      · show (asks x.2).length - (m + 1) < (asks x.2).length - m
        omega
    · have hm : m = (asks x.2).length := by omega
      subst hm
      rw [List.take_length] at hB
      refine Wc.ga 12 [0] ?_
      refine Ar.roundEnd none (.inl ⟨rfl, rfl⟩) 900 rfl ⟨rfl, (B, none), rfl, .inl ⟨rfl, rfl, ?_⟩⟩ (Hp.got ⟨rfl, rfl, rfl, rfl, rfl, rfl, trivial⟩)
      exact ⟨by rw [hst, hB]; rfl, hoB⟩
  · obtain ⟨hn, hoA⟩ := hi
    rw [backL_len] at hn
    have hO : A = askAll z := hn
    subst hO
    refine Ar.ga 10 [5] ?_
    refine Ar.collect (.inr rfl) 901 rfl ?_
    refine Ar.outOf (.inr rfl) ?_
    refine Ar.base (Ar.pick [4] (by decide) (Ar.out2 (.inr rfl) rfl (.tmp rfl) (.tmp rfl) (Hp.sub_self 0 _) ?_))
    exact ⟨_, _, _, rfl, hoA, rfl, rfl⟩
  · exact hi.elim
theorem c44W (G : Imm) (p : PV) (ac ao : Option Addr) (cc co : Nat) (hc : Arr G ac p.code) (ho : Arr G ao p.outs) (h1 : p.code.length ≤ 1099511627776) (h2 : p.outs.length ≤ 1099511627776) (hR : ¬ rightP p = true) :
    Does Tryz.prog 44 [.agg #[.int .i64 p.ins, .int .i64 p.regs, .slice ac p.code.length cc, .slice ao p.outs.length co]] G [] (fun v G' Ho => v = .tuple #[.slice none 0 0, .int .i64 80] ∧
      Ho = [(0, none, Row 4 ([] : List Bool) [])] ∧ G' = G) := by
  have hE : deadE p = ⟨0, 0, [], []⟩ := if_neg hR
  have hEr : errP p = 80 := if_neg hR
  refine Does.enterM Tryz.func44 rfl Tryz.ntmps44 rfl (fun w => ?_)
  refine Wc.nilRow 20 (Row 4 ([] : List Bool) []) ?_
  refine Wc.gl 2 [] ?_
  refine Wl.box 21 rfl rfl rfl (fun b1 => ?_)
  refine Wl.gl 7 [21] ?_
  refine Wl.call 22 rfl T.fn17 rfl (c17 _ _ _ _ _ _ (by assumption) (by assumption) (by omega) (by omega)) (tags_of trivial) (fun v1 G1 Ho1 hle1 hp => ?_)
  obtain ⟨q1, e1, qc1, qo1, qcc1, qoc1, qj1, qk1, rfl, hq1, hqc1, hqo1, rfl, rfl⟩ := hp
  refine Wl.ll0 3 [] ?_
  refine Wl.alloc 24 rfl T.zero25 (fun b2 => ?_)
  refine Wl.ga 21 [24, 1] ?_
  refine Ar.outOf (.inr rfl) ?_
  refine Ar.pick [20] (by decide) (Ar.out2 (.inr rfl) rfl (.tmp rfl) (.tmp rfl) (Hp.sub_self 0 _) ?_)
  rw [hq1.2, hEr]
  exact ⟨rfl, rfl, rfl⟩
theorem c44 (G : Imm) (p : PV) (ac ao : Option Addr) (cc co : Nat) (hc : Arr G ac p.code) (ho : Arr G ao p.outs) (h1 : p.code.length ≤ 1099511627776) (h2 : p.outs.length ≤ 1099511627776) :
    Does Tryz.prog 44 [.agg #[.int .i64 p.ins, .int .i64 p.regs, .slice ac p.code.length cc, .slice ao p.outs.length co]] G [] (fun v G' Ho => ∃ l e b c j, v = .tuple #[.slice b l.length c, .int .i64 e] ∧ (l = askE p ∧ e = errP p ∧ (rightP p ≠ true → b = none)) ∧
      OwnA b c l j ∧ Ho = [(0, b.map (·.block), Row 4 l j)] ∧ G' = G) := by
  by_cases hR : rightP p = true
  · refine (c44R G p ac ao cc co hc ho h1 h2 hR).mono fun v G' Ho _ ⟨b, c, j, q1, q2, q3, q4⟩ => ?_
    exact ⟨askAll (deadP p), 0, b, c, j, q1, ⟨(if_pos hR).symm, (if_pos hR).symm, fun h => absurd hR h⟩, q2, q3, q4⟩
  · refine (c44W G p ac ao cc co hc ho h1 h2 hR).mono fun v G' Ho _ ⟨q1, q2, q3⟩ => ?_
    exact ⟨[], 80, none, 0, [], q1, ⟨(if_neg hR).symm, (if_neg hR).symm, fun _ => rfl⟩, OwnA.nil, q2, q3⟩
end Go.Proofs.YtbppmiimeccclaaGreat
namespace Go.Proofs.YtbppmiimeccclaaGreat
open Go Go.Sl
set_option maxRecDepth 100000
set_option maxHeartbeats 2000000
theorem c43F (G : Imm) : Does Tryz.prog 43 [] G [] (fun v G' Ho => ∃ a b c d, v = .agg #[.int .i64 exD.ins, .int .i64 exD.regs, .slice a exD.code.length c, .slice b exD.outs.length d] ∧ Arr G' a exD.code ∧ Arr G' b exD.outs ∧ Ho = []) := by
  refine (Does.frz2 (α := Sl.Instr) (β := Int) (E := 93) (E' := 3) (q := fun v a c xs b d ys => v = .agg #[.int .i64 exD.ins, .int .i64 exD.regs, .slice a xs.length c, .slice b ys.length d] ∧ xs = exD.code ∧ ys = exD.outs)
    ((c43 G).mono fun v G' Ho _ ⟨b, d, h1, h2, h3⟩ => ⟨_, _, exD.code, [], _, _, exD.outs, [], ⟨h1, rfl, rfl⟩, OwnA.made (by simp [maxLen, exD]), OwnA.made (by simp [maxLen, exD]), h2, h3⟩)).mono
    fun v G' Ho _ ⟨a, c, xs, b, d, ys, ⟨h1, hx, hy⟩, h2, h3, h4⟩ => ?_
  subst hx hy
  exact ⟨a, b, c, d, h1, h2, h3, h4⟩
theorem c17F (G : Imm) (p : PV) (ac ao : Option Addr) (cc co : Nat) (hc : Arr G ac p.code) (ho : Arr G ao p.outs) (h1 : p.code.length ≤ 1099511627776) (h2 : p.outs.length ≤ 1099511627776) :
    Does Tryz.prog 17 [.agg #[.int .i64 p.ins, .int .i64 p.regs, .slice ac p.code.length cc, .slice ao p.outs.length co]] G [] (fun v G' Ho =>
      ∃ q e bc bo dc do_, v = .tuple #[.agg #[.int .i64 q.ins, .int .i64 q.regs, .slice bc q.code.length dc, .slice bo q.outs.length do_], .int .i64 e] ∧ (q = deadE p ∧ e = errP p) ∧ Arr G' bc q.code ∧ Arr G' bo q.outs ∧ Ho = []) := by
  refine (Does.frz2 (α := Sl.Instr) (β := Int) (E := 93) (E' := 3) (q := fun v a c xs b d ys => ∃ q e, v = .tuple #[.agg #[.int .i64 q.ins, .int .i64 q.regs, .slice a q.code.length c, .slice b q.outs.length d], .int .i64 e] ∧ (q = deadE p ∧ e = errP p) ∧ xs = q.code ∧ ys = q.outs)
    ((c17 G p ac ao cc co hc ho h1 h2).mono fun v G' Ho _ ⟨q, e, bc, bo, dc, do_, j1, j2, g1, g2, g3, g4, g5, g6⟩ => ⟨bc, dc, q.code, j1, bo, do_, q.outs, j2, ⟨q, e, g1, g2, rfl, rfl⟩, g3, g4, g5, g6⟩)).mono
    fun v G' Ho _ ⟨a, c, xs, b, d, ys, ⟨q, e, g1, g2, hx, hy⟩, h2, h3, h4⟩ => ?_
  subst hx hy
  exact ⟨q, e, a, b, c, d, g1, g2, h2, h3, h4⟩
theorem c44F (G : Imm) (p : PV) (ac ao : Option Addr) (cc co : Nat) (hc : Arr G ac p.code) (ho : Arr G ao p.outs) (h1 : p.code.length ≤ 1099511627776) (h2 : p.outs.length ≤ 1099511627776) :
    Does Tryz.prog 44 [.agg #[.int .i64 p.ins, .int .i64 p.regs, .slice ac p.code.length cc, .slice ao p.outs.length co]] G [] (fun v G' Ho => ∃ l e b c, v = .tuple #[.slice b l.length c, .int .i64 e] ∧ (l = askE p ∧ e = errP p) ∧ (rightP p ≠ true → b = none) ∧
      Arr G' b l ∧ Ho = []) := by
  refine (Does.frz1 (α := Bool) (E := 4) (q := fun v a c xs => ∃ e, v = .tuple #[.slice a xs.length c, .int .i64 e] ∧ (xs = askE p ∧ e = errP p) ∧ (rightP p ≠ true → a = none))
    ((c44 G p ac ao cc co hc ho h1 h2).mono fun v G' Ho _ ⟨l, e, b, c, j, g1, ⟨g2, g3, g4⟩, g5, g6, g7⟩ => ⟨b, c, l, j, ⟨e, g1, ⟨g2, g3⟩, g4⟩, g5, g6, g7⟩)).mono
    fun v G' Ho _ ⟨a, c, xs, ⟨e, g1, g2, g3⟩, h2, h3⟩ => ⟨xs, e, a, c, g1, g2, g3, h2, h3⟩
theorem c48F (G : Imm) (p : PV) (ac ao : Option Addr) (cc co : Nat) (hc : Arr G ac p.code) (ho : Arr G ao p.outs) (h1 : p.code.length ≤ 1048576) (h2 : p.outs.length ≤ 1048576) :
    Does Tryz.prog 48 [.agg #[.int .i64 p.ins, .int .i64 p.regs, .slice ac p.code.length cc, .slice ao p.outs.length co]] G [] (fun v G' Ho => ∃ l b d, v = .slice b l.length d ∧ (l = idleP p ∧ (l = [] ↔ b = none)) ∧ Arr G' b l ∧ Ho = []) := by
  refine (Does.frz1 (α := Int) (E := 3) (q := fun v a c xs => v = .slice a xs.length c ∧ xs = idleP p ∧ (xs = [] ↔ a = none))
    ((c48 G p ac ao cc co hc ho h1 h2).mono fun v G' Ho _ ⟨b, d, j, g1, g2, g3, g4, g5⟩ => ⟨b, d, idleP p, j, ⟨g1, rfl, g2, fun hb => ?_⟩, g3, g4, g5⟩)).mono
    fun v G' Ho _ ⟨a, c, xs, ⟨g1, g2⟩, h2, h3⟩ => ⟨xs, a, c, g1, g2, h2, h3⟩
  rcases g3 with ⟨_, h, _⟩ | ⟨b', h, _⟩
  · exact h
  · rw [hb] at h; cases h
def exD2 : PV := ⟨2, 4, [⟨4, 2, 0, 1, 0⟩], [2, 0]⟩
theorem exD_right : rightP exD = true := by decide
theorem exD_dead : deadE exD = exD2 := by rw [deadE, if_pos exD_right]; rfl
theorem exD_err : errP exD = 0 := if_pos exD_right
theorem exD_ask : askE exD = [true, true, false, false] := by unfold askE; rw [if_pos exD_right]; rfl
theorem exD_idle : idleP exD = [0, 1, 3] := by unfold idleP; rw [if_pos exD_right]; rfl
attribute [local irreducible] deadE errP askE idleP
theorem c15 (G : Imm) : Does Tryz.prog 15 [] G [] (fun v G' Ho => v = .bool true ∧ G' = G ∧ Ho = []) := by
  have hd := exD_dead
  have he := exD_err
  have ha := exD_ask
  have hi := exD_idle
  refine Does.enter Tryz.func15 rfl Tryz.ntmps15 rfl (fun w => ?_)
  refine Wc.gl 7 [] ?_
  refine Wl.call 0 rfl T.fn43 rfl (c43F _) (tags_of trivial) (fun v1 G1 Ho1 hle1 hp => ?_)
  obtain ⟨xa1, xo1, xc1, xd1, rfl, hxa1, hxo1, rfl⟩ := hp
  refine Wl.call 0 rfl T.fn17 rfl (c17F _ exD _ _ _ _ (by assumption) (by assumption) (by decide) (by decide)) (tags_of trivial) (fun v2 G2 Ho2 hle2 hp => ?_)
  obtain ⟨_, _, qc2, qo2, qcc2, qoc2, rfl, ⟨rfl, rfl⟩, hqc2, hqo2, rfl⟩ := hp
  replace hxa1 := hxa1.up hle2
  replace hxo1 := hxo1.up hle2
  refine Wl.ll0 3 [] ?_
  refine Wl.alloc 0 rfl T.zero25 (fun b1 => ?_)
  refine Wl.gl 6 [0] ?_
  refine Wl.call 1 rfl T.fn43 rfl (c43F _) (tags_of trivial) (fun v3 G3 Ho3 hle3 hp => ?_)
  obtain ⟨xa3, xo3, xc3, xd3, rfl, hxa3, hxo3, rfl⟩ := hp
  replace hqc2 := hqc2.up hle3
  replace hqo2 := hqo2.up hle3
  replace hxa1 := hxa1.up hle3
  replace hxo1 := hxo1.up hle3
  refine Wl.call 1 rfl T.fn44 rfl (c44F _ exD _ _ _ _ (by assumption) (by assumption) (by decide) (by decide)) (tags_of trivial) (fun v4 G4 Ho4 hle4 hp => ?_)
  obtain ⟨_, _, lb4, lc4, rfl, ⟨rfl, rfl⟩, hln4, hla4, rfl⟩ := hp
  replace hxa3 := hxa3.up hle4
  replace hxo3 := hxo3.up hle4
  replace hqc2 := hqc2.up hle4
  replace hqo2 := hqo2.up hle4
  replace hxa1 := hxa1.up hle4
  replace hxo1 := hxo1.up hle4
  refine Wl.gl 12 [] ?_
  refine Wl.yes 17 rfl (by first | assumption | omega) ?_
  refine Wl.ll0 6 [] ?_
  refine Wl.yes 21 rfl (by first | assumption | omega) ?_
  refine Wl.ll0 3 [0] ?_
  refine Wl.q rfl (Qy.build (cs := [_, _, _, _, _]) T.st93 rfl rfl rfl) ?_
  refine Wl.want rfl rfl ?_
  refine Wl.lit (α := Instr) 1 [⟨4, 2, 0, 1, 0⟩] rfl T.sl22 T.el93 rfl rfl rfl rfl rfl (fun b2 => ?_)
  refine Wl.want rfl rfl ?_
  refine Wl.lit (α := Int) 2 [(2), (0)] rfl T.sl23 T.el3 rfl rfl rfl rfl rfl (fun b3 => ?_)
  refine Wl.want rfl rfl ?_
  refine Wl.q rfl (Qy.build (cs := [_, _, _, _]) T.st25 rfl rfl rfl) ?_
  refine Wl.want rfl rfl ?_
  refine Wl.callB 5 rfl T.fn45 rfl (fun Gx hGx hgx => c45 Gx (deadE exD) exD2 _ _ _ _ _ _ _ _ (hqc2.up hGx) (hqo2.up hGx) (Arr.own hgx 1 rfl (OwnA.made (by simp [maxLen, exD2]))) (Arr.own hgx 2 rfl (OwnA.made (by simp [maxLen, exD2]))) (by rw [hd]; decide) (by rw [hd]; decide)) (fun v5 Gx5 G5 Ho5 hlx5 hp => ?_)
  obtain ⟨rfl, rfl, rfl⟩ := hp
  refine Wl.ll0 2 [] ?_
  refine Wl.yes 29 rfl (by first | assumption | omega) ?_
  refine Wl.ll0 3 [] ?_
  refine Wl.lit (α := Bool) 3 [(Bool.true), (Bool.true), (Bool.false), (Bool.false)] rfl T.sl87 T.el4 rfl rfl rfl rfl rfl (fun b4 => ?_)
  refine Wl.want rfl rfl ?_
  refine Wl.callB 6 rfl T.fn46 rfl (fun Gx hGx hgx => c46 Gx (askE exD) [true, true, false, false] _ _ _ _ (hla4.up hGx) (Arr.own hgx 3 rfl (OwnA.made (by simp [maxLen]))) (by rw [ha]; decide) (by decide)) (fun v6 Gx6 G6 Ho6 hlx6 hp => ?_)
  obtain ⟨rfl, rfl, rfl⟩ := hp
  refine Wl.ll0 2 [] ?_
  refine Wl.yes 34 rfl (by first | assumption | omega) ?_
  refine Wl.want rfl rfl ?_
  refine Wl.call 4 rfl T.fn43 rfl (c43F _) (tags_of trivial) (fun v5 G5 Ho5 hle5 hp => ?_)
  obtain ⟨xa5, xo5, xc5, xd5, rfl, hxa5, hxo5, rfl⟩ := hp
  replace hla4 := hla4.up hle5
  replace hxa3 := hxa3.up hle5
  replace hxo3 := hxo3.up hle5
  replace hqc2 := hqc2.up hle5
  replace hqo2 := hqo2.up hle5
  replace hxa1 := hxa1.up hle5
  replace hxo1 := hxo1.up hle5
  refine Wl.want rfl rfl ?_
  refine Wl.call 4 rfl T.fn48 rfl (c48F _ exD _ _ _ _ (by assumption) (by assumption) (by decide) (by decide)) (tags_of trivial) (fun v6 G6 Ho6 hle6 hp => ?_)
  obtain ⟨_, ib6, id6, rfl, ⟨rfl, hin6⟩, hia6, rfl⟩ := hp
  replace hxa5 := hxa5.up hle6
  replace hxo5 := hxo5.up hle6
  replace hla4 := hla4.up hle6
  replace hxa3 := hxa3.up hle6
  replace hxo3 := hxo3.up hle6
  replace hqc2 := hqc2.up hle6
  replace hqo2 := hqo2.up hle6
  replace hxa1 := hxa1.up hle6
  replace hxo1 := hxo1.up hle6
  refine Wl.want rfl rfl ?_
  refine Wl.lit (α := Int) 4 [(0), (1), (3)] rfl T.sl23 T.el3 rfl rfl rfl rfl rfl (fun b5 => ?_)
  refine Wl.want rfl rfl ?_
  refine Wl.callB 8 rfl T.fn47 rfl (fun Gx hGx hgx => c47 Gx (idleP exD) [0, 1, 3] _ _ _ _ (Arr.up (by assumption) hGx) (Arr.own hgx 4 rfl (OwnA.made (by simp [maxLen]))) (by rw [hi]; decide) (by decide)) (fun v9 Gx9 G9 Ho9 hlx9 hp => ?_)
  obtain ⟨rfl, rfl, rfl⟩ := hp
  refine Wl.ga 5 [] ?_
  refine Ar.base (Ar.out1 (.inr rfl) (Ho := []) rfl (.tmp rfl) trivial ?_)
  exact ⟨by simp [hi], rfl, rfl⟩
end Go.Proofs.YtbppmiimeccclaaGreat
set_option maxRecDepth 100000
set_option linter.unusedVariables false
namespace Go.Proofs.YtbppmiimeccclaaGreat
open Go Go.Sl
set_option maxHeartbeats 4000000
/-- a grid over which a program may be run -/
def GoodG (p : PV) (gs : List (List Int)) : Prop := (gs.length : Int) = p.ins ∧ ∃ N : Nat, N ≤ 4096 ∧ ∀ z ∈ gs, z.length = N
attribute [local irreducible] valB pb cmpZ lstWp p2 cst doI doZ
theorem c19U (G : Imm) (p : PV) (ac ao ai : Option Addr) (cc co ci : Nat) (li : List IV) (zs : List Int) (hc : Arr G ac p.code) (ho : Arr G ao p.outs) (hi : Arr G ai li) (hb : Bigs G li zs) (hm : Below 2 zs) (hR : rightP p = true) (hl : li.length ≤ 1048576) :
    Does Tryz.prog 19 [.agg #[.int .i64 p.ins, .int .i64 p.regs, .slice ac p.code.length cc, .slice ao p.outs.length co], .slice ai li.length ci] G [] (fun v G' Ho => ∃ (b : Option Addr) (r : List IV) (c' : Nat) (k e : Int), v = .tuple #[.slice b r.length c', .int .i64 k, .int .i64 e] ∧ Arr G' b r ∧
      (e = 0 → ∃ os, (li.length : Int) = p.ins ∧ ansZ p zs = some os ∧ Bigs G' r os ∧ r.length = p.outs.length) ∧ ((li.length : Int) = p.ins → ansZ p zs ≠ none → e = 0) ∧ Ho = []) := by
  obtain ⟨f1, f2, f3, f4, f5, f6, f7, f8⟩ := right_facts hR
  by_cases hn : (li.length : Int) = p.ins
  · refine (c19 G p ac ao ai cc co ci li zs 2 hc ho hi hb hm (by decide) hR hn).mono fun v G' Ho _ ⟨e0, h⟩ => ?_
    rcases h with ⟨os, b, r, c', e1, e2, e3, e4, e5⟩ | ⟨e1, k, e2⟩
    · exact ⟨b, r, c', 0, 0, e2, e3, fun _ => ⟨os, hn, e1, e4, e5⟩, fun _ _ => rfl, e0⟩
    · exact ⟨none, [], 0, k, 20, e2, Arr.nil _, fun h => absurd h (by decide), fun _ h => absurd e1 h, e0⟩
  · refine (c19N G p ac ao ai cc co ci li hc ho (by omega) (by omega) hR hl hn).mono fun v G' Ho _ ⟨e1, e2, e3⟩ => ?_
    exact ⟨none, [], 0, 0, 5, e1, Arr.nil _, fun h => absurd h (by decide), fun h _ => absurd h hn, e3⟩
theorem c24E (G : Imm) (p : PV) (ac ao ga : Option Addr) (cc co gc : Nat) (gl : List SV) (h67 : Does Tryz.prog 67 [.agg #[.int .i64 p.ins, .int .i64 p.regs, .slice ac p.code.length cc, .slice ao p.outs.length co], .slice ga gl.length gc] G [] (fun v G' Ho => v = .tuple #[.slice none 0 0, .int .i64 5] ∧ Ho = [])) :
    Does Tryz.prog 24 [.agg #[.int .i64 p.ins, .int .i64 p.regs, .slice ac p.code.length cc, .slice ao p.outs.length co], .slice ga gl.length gc] G [] (fun v G' Ho => v = .tuple #[.slice none 0 0, .int .i64 0, .int .i64 5] ∧ Ho = []) := by
  refine Does.enter Tryz.func24 rfl Tryz.ntmps24 rfl (fun w => ?_)
  refine Wc.gl 2 [] ?_
  refine Wl.box 0 rfl rfl rfl (fun b1 => ?_)
  refine Wl.gl 9 [0] ?_
  refine Wl.k 1 rfl (h67) (fun v1 G1 Ho1 hle1 hp => ?_)
  obtain ⟨rfl, rfl⟩ := hp
  refine Wl.ga 25 [1] ?_
  refine Ar.e3 ?_
  exact ⟨rfl, rfl⟩
theorem c24U (G : Imm) (p : PV) (ac ao ga : Option Addr) (cc co gc : Nat) (gl : List SV) (gs : List (List Int)) (hc : Arr G ac p.code) (ho : Arr G ao p.outs) (hga : Arr G ga gl) (hgg : BGrid G gl gs) (hbel : ∀ z ∈ gs, Below 2 z) (hlen : ∀ z ∈ gs, z.length ≤ 1048576) (hR : rightP p = true) (hl : gl.length ≤ 1048576) :
    Does Tryz.prog 24 [.agg #[.int .i64 p.ins, .int .i64 p.regs, .slice ac p.code.length cc, .slice ao p.outs.length co], .slice ga gl.length gc] G [] (fun v G' Ho => ∃ (b : Option Addr) (r : List SV) (c' : Nat) (k e : Int), v = .tuple #[.slice b r.length c', .int .i64 k, .int .i64 e] ∧ Arr G' b r ∧
      (e = 0 → ∃ os N, GoodG p gs ∧ followP p gs = some os ∧ BGrid G' r os ∧ EvenB 49154 N os ∧ N ≤ 4096) ∧ (GoodG p gs → followP p gs ≠ none → e = 0) ∧ Ho = []) := by
  obtain ⟨f1, f2, f3, f4, f5, f6, f7, f8⟩ := right_facts hR
  have hgl := hgg.1
  by_cases hn : (gl.length : Int) = p.ins
  · have hg0 : 0 < gl.length := by omega
    have e0 : ∀ k : Nat, k < gl.length → (gl[k]?.getD default).n = (gs[k]?.getD []).length := fun k hk => by
      obtain ⟨l1, a1, a2, a3, a4⟩ := hgg.2 k hk
      rw [← a1, a4.1]
    have hmem : ∀ k : Nat, k < gl.length → gs[k]?.getD [] ∈ gs := fun k hk => by
      rw [List.getElem?_eq_getElem (by omega)]; exact List.getElem_mem _
    by_cases hgood : ∀ k : Nat, k < gl.length → (gl[k]?.getD default).n = (gl[(0 : Int).toNat]?.getD default).n ∧ (gl[(0 : Int).toNat]?.getD default).n ≤ 4096
    · have hN := (hgood 0 hg0).2
      have hev : EvenB 2 (gl[(0 : Int).toNat]?.getD default).n gs := fun z hz => by
        obtain ⟨k, hk, rfl⟩ := List.mem_iff_getElem.1 hz
        have h1 := (hgood k (by omega)).1
        have h2 := e0 k (by omega)
        rw [List.getElem?_eq_getElem hk] at h2
        exact ⟨by rw [← h1, h2]; rfl, hbel _ hz⟩
      have hG : GoodG p gs := ⟨by omega, _, hN, fun z hz => (hev z hz).1⟩
      refine (c24 G p ac ao ga cc co gc gl gs 2 _ hc ho hga hgg hev (by decide) hN hR hn).mono fun v G' Ho _ ⟨h0, h⟩ => ?_
      rcases h with ⟨os, b, r, c', e1, e2, e3, e4, e5, e6⟩ | ⟨e1, k, e2⟩
      · exact ⟨b, r, c', 0, 0, e2, e3, fun _ => ⟨os, _, hG, e1, e5, e6.mono (by omega), hN⟩, fun _ _ => rfl, h0⟩
      · exact ⟨none, [], 0, k, 20, e2, Arr.nil _, fun h => absurd h (by decide), fun _ h => absurd e1 h, h0⟩
    · refine (c24E G p ac ao ga cc co gc gl (c67N G p ac ao ga cc co gc gl gs hgg hc ho hga hR hn (by rw [show (0 : Int).toNat = 0 from rfl, e0 0 hg0]; exact hlen _ (hmem 0 hg0)) hgood)).mono fun v G' Ho _ ⟨e1, e2⟩ => ?_
      refine ⟨none, [], 0, 0, 5, e1, Arr.nil _, fun h => absurd h (by decide), fun ⟨g1, N, g2, g3⟩ _ => absurd (fun k hk => ?_) hgood, e2⟩
      rw [show (0 : Int).toNat = 0 from rfl, e0 k hk, e0 0 hg0, g3 _ (hmem k hk), g3 _ (hmem 0 hg0)]
      exact ⟨rfl, g2⟩
  · refine (c24E G p ac ao ga cc co gc gl (c67M G p ac ao ga cc co gc gl hc ho (by omega) (by omega) hR hl hn)).mono fun v G' Ho _ ⟨e1, e2⟩ => ?_
    exact ⟨none, [], 0, 0, 5, e1, Arr.nil _, fun h => absurd h (by decide), fun ⟨g1, _⟩ _ => absurd (by omega) hn, e2⟩
theorem c21Y (G : Imm) (s t : SV) (os : List Int) (hs : BRow G s os) (ht : BRow G t os) (hl : os.length ≤ 1048576) (hb : Below 49154 os) :
    Does Tryz.prog 21 [.slice s.a s.n s.c, .slice t.a t.n t.c] G [] (fun v G' Ho => v = .bool true ∧ G' = G ∧ Ho = []) := by
  obtain ⟨l, e1, e2, e3, e4⟩ := hs
  obtain ⟨m, g1, g2, g3, g4⟩ := ht
  have h := c21 G s.a t.a s.c t.c l m os os e3 g3 e4 g4 (by rw [e4.1]; exact hl) (by rw [g4.1]; exact hl) 49154 (by decide) hb hb
  rw [e1, g1, decide_eq_true rfl] at h
  exact h
theorem c25T (G : Imm) (a b : Option Addr) (ca cb : Nat) (l m : List SV) (os : List (List Int)) (N : Nat) (ha : Arr G a l) (hb : Arr G b m) (hl : BGrid G l os) (hm : BGrid G m os) (hev : EvenB 49154 N os) (hN : N ≤ 4096) (h1 : l.length ≤ 1048576) :
    Does Tryz.prog 25 [.slice a l.length ca, .slice b m.length cb, .func (.func 21) #[] #[]] G [] (fun v G' Ho => v = .bool true ∧ G' = G ∧ Ho = []) := by
  have hl1 := hl.1
  have hm1 := hm.1
  refine Does.enter Tryz.func25 rfl Tryz.ntmps25 rfl (fun w => ?_)
  refine Wc.gc 27 [0] ?_
  refine Wc.loop (ι := Nat) (fun i => ([(17, .int .i64 (i : Int)), (16, Go.Value.int Go.IntKind.i64 (↑(List.length l) : Int)), (15, Go.Value.slice a (List.length l) ca), (1, Go.Value.slice b (List.length m) cb), (2, Go.Value.func (Go.Fn.func 21) #[] #[])], [])) (fun i => i ≤ l.length) (fun i => l.length - i) (0) (Nat.zero_le _) ⟨rfl, rfl, rfl, rfl, rfl, trivial⟩ trivial (fun i => fun (hk : i ≤ l.length) => ?_)
  rcases Nat.lt_or_ge i l.length with hil | hil
  · have hx : BRow G (l[((i : Nat) : Int).toNat]?.getD default) (os[i]?.getD []) := hl.2 i hil
    have hy : BRow G (m[((i : Nat) : Int).toNat]?.getD default) (os[i]?.getD []) := hm.2 i (by omega)
    obtain ⟨hN1, hok⟩ := hev.at (k := i) (by omega)
    have hn : (os[i]?.getD []).length ≤ 1048576 := by omega
    refine Wc.gl 14 [1] ?_
    refine Wl.q rfl (Qy.at (α := SV) T.sl53 rfl rfl (by assumption) (by omega)) ?_
    refine Wl.q rfl (Qy.loadG T.one44 rfl (Arr.cell (by assumption) (by omega) 0 rfl rfl)) ?_
    refine Wl.gl 8 [] ?_
    refine Wl.q rfl (Qy.at (α := SV) T.sl53 rfl rfl (by assumption) (by omega)) ?_
    refine Wl.q rfl (Qy.loadG T.one44 rfl (Arr.cell (by assumption) (by omega) 0 rfl rfl)) ?_
    refine Wl.gl 8 [] ?_
    refine Wl.callV (fst := []) (cap := []) 0 rfl T.fn21 rfl rfl (c21Y _ _ _ _ (by assumption) (by assumption) (by assumption) (by assumption)) (tags_of trivial) (fun v1 G1 Ho1 hle1 hp => ?_)
    obtain ⟨rfl, rfl, rfl⟩ := hp
    refine Wl.ga 11 [0] ?_
    refine Ar.again (i + 1) ?_ ?_ rfl ⟨rfl, rfl, rfl, rfl, rfl, trivial⟩ trivial
    · show i + 1 ≤ l.length
      omega
    · show l.length - (i + 1) < l.length - i
      omega
  · refine Wc.ga 18 [0] ?_
    refine Ar.e1 ?_
    exact ⟨rfl, rfl, rfl⟩
theorem c16 (G : Imm) (p : PV) (ac ao : Option Addr) (cc co : Nat) (h1 : p.code.length ≤ 1099511627776) (h2 : p.outs.length ≤ 1099511627776) :
    Does Tryz.prog 16 [.agg #[.int .i64 p.ins, .int .i64 p.regs, .slice ac p.code.length cc, .slice ao p.outs.length co]] G [] (fun v G' Ho => v = .bool (decide (300 < (p.code.length : Int) ∧ (p.code.length : Int) ≤ 16384)) ∧ G' = G ∧ Ho = []) := by
  refine Does.enter Tryz.func16 rfl Tryz.ntmps16 rfl (fun w => ?_)
  refine Wc.gl 2 [] ?_
  refine Wl.box 0 rfl rfl rfl (fun b1 => ?_)
  refine Wl.gl 10 [0] ?_
  apply Wl.joinAnd 5 7 12 rfl
  intro hg1
  refine Wl.ll0 9 [0] ?_
  exact Wl.back 5 0 rfl rfl rfl rfl rfl
  intro hg1
  refine Wl.ll0 5 [] ?_
  exact Wl.back 5 0 rfl rfl rfl rfl rfl
  refine Wl.ga 4 [] ?_
  refine Ar.e1 ?_
  exact ⟨rfl, rfl, rfl⟩
end Go.Proofs.YtbppmiimeccclaaGreat
namespace Go.Proofs.YtbppmiimeccclaaGreat
open Go Go.Sl
set_option linter.unusedVariables false
/-- the marks over a list of instructions, from behind -/
def nf (p : PV) : List Sl.Instr → List Bool × List Bool
  | [] => (setAll (List.replicate p.regs.toNat false) p.outs, [])
  | i :: l => if (nf p l).1[i.to.toNat]?.getD default = true then (setAll ((nf p l).1.set i.to.toNat false) (asks i), true :: (nf p l).2) else ((nf p l).1, false :: (nf p l).2)
theorem nf_len (p : PV) (l : List Sl.Instr) : (nf p l).1.length = p.regs.toNat ∧ (nf p l).2.length = l.length := by
  induction l with
  | nil => simp [nf, setAll_len]
  | cons i l ih =>
    simp only [nf]
    split
    · simp [setAll_len, ih]
    · simp [ih]
theorem needTo_nf (p : PV) : ∀ j, j ≤ p.code.length → needTo p j = ((nf p (p.code.drop (p.code.length - j))).1, List.replicate (p.code.length - j) false ++ (nf p (p.code.drop (p.code.length - j))).2)
  | 0, _ => by simp [needTo, nf]
  | j + 1, hj => by
    have ih := needTo_nf p j (by omega)
    obtain ⟨k, hk⟩ : ∃ k, k = p.code.length - (j + 1) := ⟨_, rfl⟩
    have hk1 : p.code.length - j = k + 1 := by omega
    have hk2 : p.code.length - 1 - j = k := by omega
    have hlt : k < p.code.length := by omega
    rw [hk1] at ih
    rw [← hk]
    have hd : p.code.drop k = p.code[k]?.getD default :: p.code.drop (k + 1) := by
      rw [List.getElem?_eq_getElem hlt, Option.getD_some]; exact List.drop_eq_getElem_cons hlt
    show needStep (needTo p j) ((p.code.length - 1 - j : Nat) : Int) (p.code[p.code.length - 1 - j]?.getD default) = _
    rw [hk2, ih, hd]
    generalize p.code[k]?.getD default = i
    generalize p.code.drop (k + 1) = l
    unfold needStep
    simp only [nf]
    rw [List.replicate_succ']
    split
    · simp only [Int.toNat_natCast]
      rw [List.append_assoc, List.set_append_right _ _ (by simp)]
      simp
    · simp
theorem needed_nf (p : PV) : neededP p = (nf p p.code).2 := by
  unfold neededP
  rw [needTo_nf p p.code.length (Nat.le_refl _)]
  simp
/-- whether an instruction is left -/
def leaves (x : Sl.Instr × Bool) : Option Sl.Instr := if x.2 = true ∧ ¬ doesNothing x.1 then some x.1 else none
theorem leaves_pos {i : Sl.Instr} {b : Bool} (h : b = true ∧ ¬ doesNothing i) : leaves (i, b) = some i := if_pos h
theorem leaves_neg {i : Sl.Instr} {b : Bool} (h : ¬ (b = true ∧ ¬ doesNothing i)) : leaves (i, b) = none := if_neg h
def keepF (p : PV) (l : List Sl.Instr) : List Sl.Instr := (l.zip (nf p l).2).filterMap leaves
theorem keepTo_zip (p : PV) : ∀ k, k ≤ p.code.length → keepTo p k = ((p.code.take k).zip ((neededP p).take k)).filterMap leaves
  | 0, _ => by simp [keepTo]
  | k + 1, hk => by
    have hlt : k < p.code.length := by omega
    have hnl : (neededP p).length = p.code.length := (needTo_len p _).2
    have hlt2 : k < (neededP p).length := by omega
    have e1 : p.code.take (k + 1) = p.code.take k ++ [p.code[((k : Nat) : Int).toNat]?.getD default] := by
      rw [List.take_add_one, Int.toNat_natCast, List.getElem?_eq_getElem hlt]; rfl
    have e2 : (neededP p).take (k + 1) = (neededP p).take k ++ [(neededP p)[((k : Nat) : Int).toNat]?.getD default] := by
      rw [List.take_add_one, Int.toNat_natCast, List.getElem?_eq_getElem hlt2]; rfl
    rw [e1, e2, List.zip_append (by simp; omega), List.filterMap_append, ← keepTo_zip p k (by omega)]
    simp only [List.zip_cons_cons, List.zip_nil_right, List.filterMap_cons, List.filterMap_nil]
    by_cases h : (neededP p)[((k : Nat) : Int).toNat]?.getD default = true ∧ ¬ doesNothing (p.code[((k : Nat) : Int).toNat]?.getD default)
    · rw [leaves_pos h]; exact if_pos h
    · rw [leaves_neg h]
      show keepTo p (k + 1) = keepTo p k ++ []
      rw [List.append_nil]; exact if_neg h
theorem dead_code (p : PV) : (deadP p).code = keepF p p.code := by
  show keepTo p p.code.length = _
  have hnl : (neededP p).length = p.code.length := (needTo_len p _).2
  rw [keepTo_zip p _ (Nat.le_refl _), List.take_length, ← hnl, List.take_length, needed_nf]
  rfl
theorem asks_nothing {i : Sl.Instr} (h : doesNothing i) : asks i = [i.to] := by
  unfold asks
  rw [if_neg (by rw [h.1]; decide), if_pos (by rw [h.1]; decide), h.2]
theorem set_back {l : List Bool} {k : Nat} (h : l[k]?.getD default = true) : (l.set k false).set k true = l := by
  apply List.ext_getElem?
  intro i
  rw [List.getElem?_set, List.getElem?_set]
  by_cases hi : k = i
  · subst hi
    by_cases hl : k < l.length
    · simp only [List.length_set, hl, if_true]
      rw [List.getElem?_eq_getElem hl] at h ⊢
      simpa using h.symm
    · rw [List.getElem?_eq_none (by omega)] at h; cases h
  · simp [hi]
end Go.Proofs.YtbppmiimeccclaaGreat
namespace Go.Proofs.YtbppmiimeccclaaGreat
open Go Go.Sl
set_option linter.unusedVariables false
theorem setAll_get : ∀ (rs : List Int) (l : List Bool) (k : Nat), k < l.length → (∀ r ∈ rs, 0 ≤ r) → (setAll l rs)[k]?.getD default = (l[k]?.getD default || decide ((k : Int) ∈ rs))
  | [], l, k, hk, _ => by simp [setAll]
  | r :: rs, l, k, hk, hr => by
    have ih := setAll_get rs (l.set r.toNat true) k (by simpa using hk) (fun x hx => hr x (by simp [hx]))
    have e : setAll l (r :: rs) = setAll (l.set r.toNat true) rs := rfl
    rw [e, ih, List.getElem?_set]
    have h0 := hr r (by simp)
    by_cases h : r.toNat = k
    · have h1 : (k : Int) = r := by omega
      have h2 : (k : Int) ∈ r :: rs := by rw [h1]; simp
      rw [if_pos h, if_pos (by omega), decide_eq_true h2]
      simp
    · have h1 : (k : Int) ≠ r := by omega
      rw [if_neg h]
      simp [h1]
theorem asks_pos {i : Sl.Instr} {regs : Int} (h : mayOk i regs = true) : ∀ r ∈ asks i, 0 ≤ r := fun r hr => (asks_in h r hr).1
/-- one step from behind -/
theorem step_get {A : List Bool} {i : Sl.Instr} {regs : Int} (hA : (A.length : Int) = regs) (hm : mayOk i regs = true) {r : Int} (hr : 0 ≤ r ∧ r < regs) :
    (setAll (A.set i.to.toNat false) (asks i))[r.toNat]?.getD default = (decide (r ∈ asks i) || (!decide (i.to = r) && A[r.toNat]?.getD default)) := by
  have hto : 0 ≤ i.to ∧ i.to < regs := by rw [mayOk_iff] at hm; exact ⟨hm.1.2.2.1, hm.1.2.2.2.1⟩
  rw [setAll_get _ _ _ (by rw [List.length_set]; omega) (asks_pos hm), List.getElem?_set]
  have e1 : ((r.toNat : Nat) : Int) = r := by omega
  rw [e1]
  by_cases h : i.to = r
  · subst h
    rw [if_pos rfl, if_pos (by omega)]
    simp
  · rw [if_neg (by omega)]
    simp [h, Bool.or_comm]
theorem start_get {regs : Int} (h0 : 0 ≤ regs) {outs : List Int} (ho : ∀ r ∈ outs, 0 ≤ r ∧ r < regs) {r : Int} (hr : 0 ≤ r ∧ r < regs) : (setAll (List.replicate regs.toNat false) outs)[r.toNat]?.getD default = decide (r ∈ outs) := by
  rw [setAll_get _ _ _ (by simp; omega) (fun x hx => (ho x hx).1)]
  have e1 : ((r.toNat : Nat) : Int) = r := by omega
  rw [e1]
  have : (List.replicate regs.toNat false)[r.toNat]?.getD default = false := by
    rw [List.getElem?_replicate]; split <;> rfl
  rw [this, Bool.false_or]
end Go.Proofs.YtbppmiimeccclaaGreat
set_option linter.unusedVariables false
namespace Go.Proofs.YtbppmiimeccclaaGreat
open Go Go.Sl
section
variable {D : Type} [Inhabited D]
/-- code run over registers -/
def runG (st : Sl.Instr → List D → Option D) : List Sl.Instr → List D → Option (List D)
  | [], rs => some rs
  | i :: l, rs => (st i rs).bind fun x => runG st l (rs.set i.to.toNat x)
theorem runG_snoc (st : Sl.Instr → List D → Option D) (l : List Sl.Instr) (i : Sl.Instr) (rs : List D) : runG st (l ++ [i]) rs = (runG st l rs).bind fun r => (st i r).map fun x => r.set i.to.toNat x := by
  induction l generalizing rs with
  | nil =>
    show (st i rs).bind (fun x => some (rs.set i.to.toNat x)) = (st i rs).map _
    cases st i rs <;> rfl
  | cons j l ih =>
    show (st j rs).bind (fun x => runG st (l ++ [i]) (rs.set j.to.toNat x)) = ((st j rs).bind fun x => runG st l (rs.set j.to.toNat x)).bind _
    cases st j rs with
    | none => rfl
    | some x => exact ih _
/-- the same where it is asked -/
def AgreeG (A : List Bool) (r s : List D) : Prop := r.length = s.length ∧ ∀ k : Nat, A[k]?.getD default = true → r[k]?.getD default = s[k]?.getD default
/-- a step looks at what the instruction asks alone; what does nothing leaves its register -/
structure StepG (st : Sl.Instr → List D → Option D) : Prop where
  same : ∀ i r s, r[i.a.toNat]?.getD default = s[i.a.toNat]?.getD default → (i.op = 3 ∨ i.op = 4 → r[i.b.toNat]?.getD default = s[i.b.toNat]?.getD default) → st i r = st i s
  move : ∀ i r x, doesNothing i → st i r = some x → x = r[i.a.toNat]?.getD default
theorem get_setG (r : List D) (n k : Nat) (x : D) : (r.set n x)[k]?.getD default = if n = k ∧ k < r.length then x else r[k]?.getD default := by
  rw [List.getElem?_set]
  by_cases h : n = k
  · subst h
    by_cases h2 : n < r.length
    · rw [if_pos rfl, if_pos h2, if_pos ⟨rfl, h2⟩]; rfl
    · rw [if_pos rfl, if_neg h2, if_neg (fun h => h2 h.2), List.getElem?_eq_none (by omega)]
  · rw [if_neg h, if_neg (fun h2 => h h2.1)]
theorem dead_runG {st : Sl.Instr → List D → Option D} (hst : StepG st) {p : PV} (hm : ∀ i ∈ p.code, mayOk i p.regs = true) : ∀ (l : List Sl.Instr), (∀ i ∈ l, i ∈ p.code) → ∀ (r s r' : List D), (r.length : Int) = p.regs → AgreeG (nf p l).1 r s → runG st l r = some r' →
    ∃ s', runG st (keepF p l) s = some s' ∧ AgreeG (setAll (List.replicate p.regs.toNat false) p.outs) r' s'
  | [], _, r, s, r', _, h, h1 => by
    cases h1; exact ⟨s, rfl, h⟩
  | i :: l, hl, r, s, r', hlen, h, h1 => by
    have hmi := hm i (hl i (by simp))
    obtain ⟨m1, m2, m3, m4, m5, m6, m7, m8⟩ := may_facts hmi
    have hA : ((nf p l).1.length : Int) = p.regs := by rw [(nf_len p l).1]; omega
    have hl' : ∀ j ∈ l, j ∈ p.code := fun j hj => hl j (by simp [hj])
    unfold runG at h1
    obtain ⟨x, hx, h1⟩ := Option.bind_eq_some_iff.1 h1
    obtain ⟨hl1, hag⟩ := h
    have hlen2 : ((r.set i.to.toNat x).length : Int) = p.regs := by rw [List.length_set]; exact hlen
    by_cases hasked : (nf p l).1[i.to.toNat]?.getD default = true
    · have e : nf p (i :: l) = (setAll ((nf p l).1.set i.to.toNat false) (asks i), true :: (nf p l).2) := by simp only [nf]; rw [if_pos hasked]
      by_cases hd : doesNothing i
      · have ek : keepF p (i :: l) = keepF p l := by unfold keepF; rw [e]; simp [leaves, hd]
        rw [ek]
        refine dead_runG hst hm l hl' _ s r' hlen2 ⟨by rw [List.length_set]; exact hl1, fun k hk => ?_⟩ h1
        rw [e] at hag
        simp only [asks_nothing hd] at hag
        have hb : setAll ((nf p l).1.set i.to.toNat false) [i.to] = (nf p l).1 := set_back hasked
        rw [hb] at hag
        have hxx := hst.move i r x hd hx
        rw [get_setG]
        by_cases hc : i.to.toNat = k ∧ k < r.length
        · rw [if_pos hc, hxx, ← hd.2, hc.1]; exact hag k hk
        · rw [if_neg hc]; exact hag k hk
      · have ek : keepF p (i :: l) = i :: keepF p l := by unfold keepF; rw [e]; simp [leaves, hd]
        rw [ek]
        rw [e] at hag
        have hin : ∀ q ∈ asks i, r[q.toNat]?.getD default = s[q.toNat]?.getD default := fun q hq => by
          have hqr := asks_in hmi q hq
          refine hag q.toNat ?_
          show (setAll _ _)[q.toNat]?.getD default = true
          rw [step_get hA hmi hqr, decide_eq_true hq, Bool.true_or]
        have haa : i.a ∈ asks i := by
          unfold asks
          split
          · exact List.mem_cons_self
          · first | exact List.mem_cons_self | (rw [if_pos m1]; exact List.mem_cons_self)
        have hds := hst.same i r s (hin _ haa) (fun h34 => hin _ (by unfold asks; rw [if_pos h34]; exact List.mem_cons_of_mem _ List.mem_cons_self))
        rw [hx] at hds
        obtain ⟨s', h2, h3⟩ := dead_runG hst hm l hl' _ (s.set i.to.toNat x) r' hlen2 ⟨by rw [List.length_set, List.length_set]; exact hl1, fun k hk => (by
          rw [get_setG, get_setG, hl1]
          by_cases hc : i.to.toNat = k ∧ k < s.length
          · rw [if_pos hc, if_pos hc]
          · rw [if_neg hc, if_neg hc]
            have hkA : k < (nf p l).1.length := by
              rcases Nat.lt_or_ge k (nf p l).1.length with h | h
              · exact h
              · rw [List.getElem?_eq_none h] at hk; cases hk
            refine hag k ?_
            have hg := step_get hA hmi (r := (k : Int)) (by omega)
            rw [Int.toNat_natCast] at hg
            show (setAll _ _)[k]?.getD default = true
            rw [hg, hk, decide_eq_false (show ¬ i.to = (k : Int) by omega)]
            simp)⟩ h1
        refine ⟨s', ?_, h3⟩
        show (st i s).bind _ = _
        rw [← hds]; exact h2
    · have e : nf p (i :: l) = ((nf p l).1, false :: (nf p l).2) := by simp only [nf]; rw [if_neg hasked]
      have ek : keepF p (i :: l) = keepF p l := by unfold keepF; rw [e]; simp [leaves]
      rw [ek]
      rw [e] at hag
      refine dead_runG hst hm l hl' _ s r' hlen2 ⟨by rw [List.length_set]; exact hl1, fun k hk => ?_⟩ h1
      rw [get_setG, if_neg]
      · exact hag k hk
      · rintro ⟨rfl, _⟩; exact hasked hk
/-- what the pass leaves answers the same -/
theorem dead_outsG {st : Sl.Instr → List D → Option D} (hst : StepG st) {p : PV} (hR : rightP p = true) {r r' : List D} (hlen : (r.length : Int) = p.regs) (h : runG st p.code r = some r') :
    ∃ s', runG st (deadP p).code r = some s' ∧ (p.outs.map fun k => r'[k.toNat]?.getD default) = p.outs.map fun k => s'[k.toNat]?.getD default := by
  obtain ⟨f1, f2, f3, f4, f5, f6, f7, f8⟩ := right_facts hR
  obtain ⟨s', h1, h2⟩ := dead_runG hst f8 p.code (fun i hi => hi) r r r' hlen ⟨rfl, fun _ _ => rfl⟩ h
  refine ⟨s', by rw [dead_code]; exact h1, List.map_congr_left fun k hk => ?_⟩
  have hkr := f7 k hk
  refine h2.2 k.toNat ?_
  rw [start_get (by omega) f7 hkr]
  exact decide_eq_true hk
end
theorem doZ_step : StepG doZ where
  same := fun i r s ha hb => by
    have ha' : r[i.a.toNat]?.getD 0 = s[i.a.toNat]?.getD 0 := ha
    unfold doZ
    simp only [ha']
    by_cases h34 : i.op = 3 ∨ i.op = 4
    · have hb' : r[i.b.toNat]?.getD 0 = s[i.b.toNat]?.getD 0 := hb h34
      rw [hb']
    · have h3 : ¬ i.op = 3 := fun e => h34 (.inl e)
      have h4 : ¬ i.op = 4 := fun e => h34 (.inr e)
      simp only [h3, h4, if_false]
  move := fun i r x hd hx => by
    unfold doZ at hx
    simp only [hd.1] at hx
    exact (Option.some.inj hx).symm
theorem stepsZ_runG (p : PV) (zs : List Int) : ∀ k, k ≤ p.code.length → stepsZ p zs k = runG doZ (p.code.take k) zs
  | 0, _ => by rw [List.take_zero]; rfl
  | k + 1, hk => by
    have htk : p.code.take (k + 1) = p.code.take k ++ [p.code[((k : Nat) : Int).toNat]?.getD default] := by
      rw [List.take_add_one, Int.toNat_natCast, List.getElem?_eq_getElem (by omega)]; rfl
    rw [htk, runG_snoc, ← stepsZ_runG p zs k (by omega)]
    rfl
theorem dead_ansZ {p : PV} (hR : rightP p = true) {zs os : List Int} (hz : (zs.length : Int) = p.ins) (h : ansZ p zs = some os) : ansZ (deadP p) zs = some os := by
  obtain ⟨f1, f2, f3, f4, f5, f6, f7, f8⟩ := right_facts hR
  unfold ansZ at h ⊢
  rw [stepsZ_runG _ _ _ (Nat.le_refl _), List.take_length] at h ⊢
  obtain ⟨r1, hr1, rfl⟩ := Option.map_eq_some_iff.1 h
  have hl : (regs0Z p zs).length = p.regs.toNat := by unfold regs0Z; rw [List.length_append, List.length_replicate]; omega
  obtain ⟨s', h1, h2⟩ := dead_outsG doZ_step hR (by omega) hr1
  have e : regs0Z (deadP p) zs = regs0Z p zs := rfl
  rw [e, h1]
  show some (outsZ (deadP p) s') = some (outsZ p r1)
  exact congrArg some h2.symm
theorem doI_step : StepG doI where
  same := fun i r s ha hb => by
    have ha' : r[i.a.toNat]?.getD [] = s[i.a.toNat]?.getD [] := ha
    unfold doI
    simp only [ha']
    by_cases h34 : i.op = 3 ∨ i.op = 4
    · have hb' : r[i.b.toNat]?.getD [] = s[i.b.toNat]?.getD [] := hb h34
      rw [hb']
    · have h3 : ¬ i.op = 3 := fun e => h34 (.inl e)
      have h4 : ¬ i.op = 4 := fun e => h34 (.inr e)
      simp only [h3, h4, if_false]
  move := fun i r x hd hx => by
    unfold doI at hx
    simp only [hd.1] at hx
    exact (Option.some.inj hx).symm
theorem runTo_runG (p : PV) (gs : List (List Int)) : ∀ k, k ≤ p.code.length → runTo p gs k = runG doI (p.code.take k) (regs0 p gs)
  | 0, _ => by rw [List.take_zero]; rfl
  | k + 1, hk => by
    have htk : p.code.take (k + 1) = p.code.take k ++ [p.code[((k : Nat) : Int).toNat]?.getD default] := by
      rw [List.take_add_one, Int.toNat_natCast, List.getElem?_eq_getElem (by omega)]; rfl
    rw [htk, runG_snoc, ← runTo_runG p gs k (by omega)]
    rfl
theorem dead_follow {p : PV} (hR : rightP p = true) {gs os : List (List Int)} (h : followP p gs = some os) : followP (deadP p) gs = some os := by
  obtain ⟨f1, f2, f3, f4, f5, f6, f7, f8⟩ := right_facts hR
  unfold followP at h ⊢
  rw [runTo_runG _ _ _ (Nat.le_refl _), List.take_length] at h ⊢
  obtain ⟨r1, hr1, rfl⟩ := Option.map_eq_some_iff.1 h
  have hl : (regs0 p gs).length = p.regs.toNat := by unfold regs0; rw [List.length_map, List.length_range]
  obtain ⟨s', h1, h2⟩ := dead_outsG doI_step hR (by omega) hr1
  have e : regs0 (deadP p) gs = regs0 p gs := rfl
  rw [e, h1]
  show some (outsOf (deadP p) s') = some (outsOf p r1)
  exact congrArg some h2.symm
end Go.Proofs.YtbppmiimeccclaaGreat
set_option linter.unusedVariables false
namespace Go.Proofs.YtbppmiimeccclaaGreat
open Go Go.Sl
abbrev QZ := Int × Int
def lowQ (n d : Int) : QZ := (n / (Int.gcd n d : Int), d / (Int.gcd n d : Int) - 1)
def makeQ (n d : Int) : QZ := if d = 0 then (0, 0) else if d < 0 then lowQ (-n) (-d) else lowQ n d
def wholeQ (z : Int) : QZ := (z, 0)
def negQ (x : QZ) : QZ := (-x.1, x.2)
def addQ (x y : QZ) : QZ := lowQ (x.1 * (y.2 + 1) + y.1 * (x.2 + 1)) ((x.2 + 1) * (y.2 + 1))
def subQ (x y : QZ) : QZ := addQ x (negQ y)
def mulQ (x y : QZ) : QZ := lowQ (x.1 * y.1) ((x.2 + 1) * (y.2 + 1))
def overQ (x y : QZ) : QZ := makeQ (x.1 * (y.2 + 1)) ((x.2 + 1) * y.1)
/-- what an instruction makes of what it asks, at one place -/
def doQ (i : Sl.Instr) (a b : QZ) : QZ :=
  if i.op = 2 then negQ a
  else if i.op = 3 then addQ a b
  else if i.op = 4 then subQ a b
  else if i.op = 5 ∨ i.op = 7 then mulQ a (wholeQ (cst i))
  else if i.op = 6 ∨ i.op = 8 then overQ a (wholeQ (cst i))
  else a
/-- how many bits a number has -/
def bitsZ (z : Int) : Nat := if z = 0 then 0 else z.natAbs.log2 + 1
def wideQ (x : QZ) : Bool := decide (65536 < bitsZ x.1) || decide (65536 < bitsZ (x.2 + 1))
def rowQ (i : Sl.Instr) (a b : List QZ) : List QZ := if i.op = 3 ∨ i.op = 4 then List.zipWith (doQ i) a b else a.map fun x => doQ i x (0, 0)
def stepQ (i : Sl.Instr) (rs : List (List QZ)) : Option (List QZ) :=
  let row := rowQ i (rs[i.a.toNat]?.getD []) (rs[i.b.toNat]?.getD [])
  if row.any wideQ = true then none else some row
def unitsQ (p : PV) : List (List QZ) := (List.range p.regs.toNat).map fun k => (List.range p.ins.toNat).map fun j => if k = j then ((1, 0) : QZ) else (0, 0)
/-- what a program denotes; none: too wide -/
def denP (p : PV) : Option (List (List QZ)) := (runG stepQ p.code (unitsQ p)).map fun rs => p.outs.map fun r => rs[r.toNat]?.getD []
theorem stepQ_step : StepG stepQ where
  same := fun i r s ha hb => by
    have ha' : r[i.a.toNat]?.getD [] = s[i.a.toNat]?.getD [] := ha
    unfold stepQ rowQ
    simp only [ha']
    by_cases h34 : i.op = 3 ∨ i.op = 4
    · have hb' : r[i.b.toNat]?.getD [] = s[i.b.toNat]?.getD [] := hb h34
      rw [hb']
    · simp only [h34, if_false]
  move := fun i r x hd hx => by
    unfold stepQ at hx
    simp only at hx
    split at hx
    · cases hx
    · have h9 := (Option.some.inj hx).symm
      rw [h9]
      unfold rowQ
      have h1 := hd.1
      rw [if_neg (by omega)]
      have e : (fun x => doQ i x (0, 0)) = fun x => x := by
        funext x
        unfold doQ
        simp [h1]
      rw [e, List.map_id']
      rfl
theorem units_len (p : PV) : (unitsQ p).length = p.regs.toNat := by unfold unitsQ; rw [List.length_map, List.length_range]
theorem dead_denP {p : PV} (hR : rightP p = true) {os : List (List QZ)} (h : denP p = some os) : denP (deadP p) = some os := by
  obtain ⟨f1, f2, f3, f4, f5, f6, f7, f8⟩ := right_facts hR
  unfold denP at h ⊢
  obtain ⟨r1, hr1, rfl⟩ := Option.map_eq_some_iff.1 h
  have hl := units_len p
  obtain ⟨s', h1, h2⟩ := dead_outsG stepQ_step hR (by omega) hr1
  have e : unitsQ (deadP p) = unitsQ p := rfl
  rw [e, h1]
  exact congrArg some h2.symm
end Go.Proofs.YtbppmiimeccclaaGreat
set_option maxRecDepth 100000
set_option linter.unusedVariables false
namespace Go.Proofs.YtbppmiimeccclaaGreat
open Go Go.Sl
set_option maxHeartbeats 4000000
attribute [local irreducible] valB pb cmpZ lstWp lowQ
theorem big_sgn (G : Imm) (x : IV) (z : Int) (hx : Big G x z) (h1 : x.n ≤ 1073741824) :
    Does Tryz.prog 106 [.agg (Cells.enc x).toArray] G [] (fun v G' Ho => v = .int .i64 (sgZ z) ∧ G' = G ∧ Ho = []) := big_sign G x z hx h1
theorem c215 (G : Imm) (x y : IV) (zx zy : Int) (hx : Big G x zx) (hy : Big G y zy) (h1 : x.n ≤ 268435456) (h2 : y.n ≤ 268435456) :
    Does Tryz.prog 215 [.agg (Cells.enc x).toArray, .agg (Cells.enc y).toArray] G [] (fun v G' Ho => ∃ r : IV, v = .agg (Cells.enc r).toArray ∧ Big G' r (Int.gcd zx zy : Int) ∧ Ho = []) := by
  refine Does.enter Tryz.func215 rfl Tryz.ntmps215 rfl (fun w => ?_)
  refine Wc.gl 2 [] ?_
  refine Wl.box 0 rfl rfl rfl (fun b1 => ?_)
  refine Wl.box 1 rfl rfl rfl (fun b2 => ?_)
  refine Wl.alloc 2 rfl T.zero104 (fun b3 => ?_)
  refine Wl.gc 2 [] ?_
  refine Wc.scope ?_
  refine Wc.meet (ι := Nat × Nat × IV × IV) (fun (p, q, ra1, ra2) => ([(5, .pointer (some ⟨p, 0, none⟩)), (6, .pointer (some ⟨q, 0, none⟩)), (4, .pointer (some ⟨b3, 0, none⟩))], [(60, some p, .cells (Cells.enc ra1).toArray 104), (61, some q, .cells (Cells.enc ra2).toArray 104), (2, some b3, .cells #[.bool false, .slice none 0 0] 104), (1, Option.some b2, Go.Obj.cells (List.toArray (Go.Sl.Cells.enc y)) 104), (0, Option.some b1, Go.Obj.cells (List.toArray (Go.Sl.Cells.enc x)) 104)])) (fun (p, q, ra1, ra2) => Big G ra1 (zx.natAbs : Int) ∧ Big G ra2 (zy.natAbs : Int)) ?_ (fun ⟨p, q, ra1, ra2⟩ => fun (hk : Big G ra1 (zx.natAbs : Int) ∧ Big G ra2 (zy.natAbs : Int)) => ?_)
  · refine Wc.draw [0, 1, 2] [] T.mixed rfl ?_
    refine Gm.c 0 [0] [0] ?_
    refine Gm.c 2 [1] [1] ?_
    refine Gm.o3 1 4 5 ?_ ?_ ?_
    refine Wl.k 3 rfl (c159 _ _ _ (by assumption) (by omega)) (fun v1 G1 Ho1 hle1 hp => ?_)
    obtain ⟨ra1, rfl, hra1, rfl, rfl⟩ := hp
    replace hx := hx.up hle1
    replace hy := hy.up hle1
    refine Wl.on0 ?_
    refine Gm.o3 3 4 5 ?_ ?_ ?_
    refine Wl.k 3 rfl (c159 _ _ _ (by assumption) (by omega)) (fun v2 G2 Ho2 hle2 hp => ?_)
    obtain ⟨ra2, rfl, hra2, rfl, rfl⟩ := hp
    replace hra1 := hra1.up hle2
    replace hx := hx.up hle2
    replace hy := hy.up hle2
    refine Wl.on0 ?_
    refine Gm.o2 4 5 ?_ ?_
    refine Wl.alloc 3 rfl T.zero104 (fun b4 => ?_)
    refine Wl.on0 ?_
    refine Gm.o1 5 ?_
    refine Wl.alloc 4 rfl T.zero104 (fun b5 => ?_)
    refine Wl.on0 ?_
    refine Gm.o1 6 ?_
    refine Wl.ll0 1 [3] ?_
    refine Wl.on0 ?_
    refine Gm.o1 7 ?_
    refine Wl.ll0 1 [4] ?_
    refine Wl.on0 ?_
    refine Gm.fin ?_
    rotate_left
    refine Wl.alloc 3 rfl T.zero104 (fun b4 => ?_)
    refine Wl.on0 ?_
    refine Gm.o1 4 ?_
    refine Wl.alloc 4 rfl T.zero104 (fun b5 => ?_)
    refine Wl.on0 ?_
    refine Gm.o1 6 ?_
    refine Wl.ll0 1 [4] ?_
    refine Wl.on0 ?_
    refine Gm.o1 7 ?_
    refine Wl.ll0 1 [3] ?_
    refine Wl.on0 ?_
    refine Gm.fin ?_
    rotate_left
    refine Wl.alloc 3 rfl T.zero104 (fun b4 => ?_)
    refine Wl.on0 ?_
    refine Gm.o2 3 5 ?_ ?_
    refine Wl.k 4 rfl (c159 _ _ _ (by assumption) (by omega)) (fun v2 G2 Ho2 hle2 hp => ?_)
    obtain ⟨ra2, rfl, hra2, rfl, rfl⟩ := hp
    replace hra1 := hra1.up hle2
    replace hx := hx.up hle2
    replace hy := hy.up hle2
    refine Wl.on0 ?_
    refine Gm.o1 5 ?_
    refine Wl.alloc 4 rfl T.zero104 (fun b5 => ?_)
    refine Wl.on0 ?_
    refine Gm.o1 6 ?_
    refine Wl.ll0 1 [3] ?_
    refine Wl.on0 ?_
    refine Gm.o1 7 ?_
    refine Wl.ll0 1 [4] ?_
    refine Wl.on0 ?_
    refine Gm.fin ?_
    rotate_left
    refine Wl.alloc 4 rfl T.zero104 (fun b5 => ?_)
    refine Wl.on0 ?_
    refine Gm.o1 3 ?_
    refine Wl.k 5 rfl (c159 _ _ _ (by assumption) (by omega)) (fun v2 G2 Ho2 hle2 hp => ?_)
    obtain ⟨ra2, rfl, hra2, rfl, rfl⟩ := hp
    replace hra1 := hra1.up hle2
    replace hx := hx.up hle2
    replace hy := hy.up hle2
    refine Wl.on0 ?_
    refine Gm.o1 6 ?_
    refine Wl.ll0 1 [3] ?_
    refine Wl.on0 ?_
    refine Gm.o1 7 ?_
    refine Wl.ll0 1 [4] ?_
    refine Wl.on0 ?_
    refine Gm.fin ?_
    rotate_left
    refine Wl.alloc 3 rfl T.zero104 (fun b4 => ?_)
    refine Wl.on0 ?_
    refine Gm.o2 3 4 ?_ ?_
    refine Wl.k 4 rfl (c159 _ _ _ (by assumption) (by omega)) (fun v2 G2 Ho2 hle2 hp => ?_)
    obtain ⟨ra2, rfl, hra2, rfl, rfl⟩ := hp
    replace hra1 := hra1.up hle2
    replace hx := hx.up hle2
    replace hy := hy.up hle2
    refine Wl.on0 ?_
    refine Gm.o1 4 ?_
    refine Wl.alloc 4 rfl T.zero104 (fun b5 => ?_)
    refine Wl.on0 ?_
    refine Gm.o1 6 ?_
    refine Wl.ll0 1 [4] ?_
    refine Wl.on0 ?_
    refine Gm.o1 7 ?_
    refine Wl.ll0 1 [3] ?_
    refine Wl.on0 ?_
    refine Gm.fin ?_
    rotate_left
    refine Wl.alloc 4 rfl T.zero104 (fun b5 => ?_)
    refine Wl.on0 ?_
    refine Gm.o1 3 ?_
    refine Wl.k 5 rfl (c159 _ _ _ (by assumption) (by omega)) (fun v2 G2 Ho2 hle2 hp => ?_)
    obtain ⟨ra2, rfl, hra2, rfl, rfl⟩ := hp
    replace hra1 := hra1.up hle2
    replace hx := hx.up hle2
    replace hy := hy.up hle2
    refine Wl.on0 ?_
    refine Gm.o1 6 ?_
    refine Wl.ll0 1 [4] ?_
    refine Wl.on0 ?_
    refine Gm.o1 7 ?_
    refine Wl.ll0 1 [3] ?_
    refine Wl.on0 ?_
    refine Gm.fin ?_
    rotate_left
    refine Wl.alloc 3 rfl T.zero104 (fun b4 => ?_)
    refine Wl.on0 ?_
    refine Gm.o2 1 5 ?_ ?_
    refine Wl.k 4 rfl (c159 _ _ _ (by assumption) (by omega)) (fun v1 G1 Ho1 hle1 hp => ?_)
    obtain ⟨ra1, rfl, hra1, rfl, rfl⟩ := hp
    replace hx := hx.up hle1
    replace hy := hy.up hle1
    refine Wl.on0 ?_
    refine Gm.o2 3 5 ?_ ?_
    refine Wl.k 4 rfl (c159 _ _ _ (by assumption) (by omega)) (fun v2 G2 Ho2 hle2 hp => ?_)
    obtain ⟨ra2, rfl, hra2, rfl, rfl⟩ := hp
    replace hra1 := hra1.up hle2
    replace hx := hx.up hle2
    replace hy := hy.up hle2
    refine Wl.on0 ?_
    refine Gm.o1 5 ?_
    refine Wl.alloc 4 rfl T.zero104 (fun b5 => ?_)
    refine Wl.on0 ?_
    refine Gm.o1 6 ?_
    refine Wl.ll0 1 [3] ?_
    refine Wl.on0 ?_
    refine Gm.o1 7 ?_
    refine Wl.ll0 1 [4] ?_
    refine Wl.on0 ?_
    refine Gm.fin ?_
    rotate_left
    refine Wl.alloc 4 rfl T.zero104 (fun b5 => ?_)
    refine Wl.on0 ?_
    refine Gm.o1 3 ?_
    refine Wl.k 5 rfl (c159 _ _ _ (by assumption) (by omega)) (fun v2 G2 Ho2 hle2 hp => ?_)
    obtain ⟨ra2, rfl, hra2, rfl, rfl⟩ := hp
    replace hra1 := hra1.up hle2
    replace hx := hx.up hle2
    replace hy := hy.up hle2
    refine Wl.on0 ?_
    refine Gm.o1 6 ?_
    refine Wl.ll0 1 [3] ?_
    refine Wl.on0 ?_
    refine Gm.o1 7 ?_
    refine Wl.ll0 1 [4] ?_
    refine Wl.on0 ?_
    refine Gm.fin ?_
    rotate_left
    refine Wl.alloc 4 rfl T.zero104 (fun b5 => ?_)
    refine Wl.on0 ?_
    refine Gm.o1 1 ?_
    refine Wl.k 5 rfl (c159 _ _ _ (by assumption) (by omega)) (fun v1 G1 Ho1 hle1 hp => ?_)
    obtain ⟨ra1, rfl, hra1, rfl, rfl⟩ := hp
    replace hx := hx.up hle1
    replace hy := hy.up hle1
    refine Wl.on0 ?_
    refine Gm.o1 3 ?_
    refine Wl.k 5 rfl (c159 _ _ _ (by assumption) (by omega)) (fun v2 G2 Ho2 hle2 hp => ?_)
    obtain ⟨ra2, rfl, hra2, rfl, rfl⟩ := hp
    replace hra1 := hra1.up hle2
    replace hx := hx.up hle2
    replace hy := hy.up hle2
    refine Wl.on0 ?_
    refine Gm.o1 6 ?_
    refine Wl.ll0 1 [3] ?_
    refine Wl.on0 ?_
    refine Gm.o1 7 ?_
    refine Wl.ll0 1 [4] ?_
    refine Wl.on0 ?_
    refine Gm.fin ?_
    rotate_left
    refine Wl.alloc 3 rfl T.zero104 (fun b4 => ?_)
    refine Wl.on0 ?_
    refine Gm.o2 1 4 ?_ ?_
    refine Wl.k 4 rfl (c159 _ _ _ (by assumption) (by omega)) (fun v1 G1 Ho1 hle1 hp => ?_)
    obtain ⟨ra1, rfl, hra1, rfl, rfl⟩ := hp
    replace hx := hx.up hle1
    replace hy := hy.up hle1
    refine Wl.on0 ?_
    refine Gm.o2 3 4 ?_ ?_
    refine Wl.k 4 rfl (c159 _ _ _ (by assumption) (by omega)) (fun v2 G2 Ho2 hle2 hp => ?_)
    obtain ⟨ra2, rfl, hra2, rfl, rfl⟩ := hp
    replace hra1 := hra1.up hle2
    replace hx := hx.up hle2
    replace hy := hy.up hle2
    refine Wl.on0 ?_
    refine Gm.o1 4 ?_
    refine Wl.alloc 4 rfl T.zero104 (fun b5 => ?_)
    refine Wl.on0 ?_
    refine Gm.o1 6 ?_
    refine Wl.ll0 1 [4] ?_
    refine Wl.on0 ?_
    refine Gm.o1 7 ?_
    refine Wl.ll0 1 [3] ?_
    refine Wl.on0 ?_
    refine Gm.fin ?_
    rotate_left
    refine Wl.alloc 4 rfl T.zero104 (fun b5 => ?_)
    refine Wl.on0 ?_
    refine Gm.o1 3 ?_
    refine Wl.k 5 rfl (c159 _ _ _ (by assumption) (by omega)) (fun v2 G2 Ho2 hle2 hp => ?_)
    obtain ⟨ra2, rfl, hra2, rfl, rfl⟩ := hp
    replace hra1 := hra1.up hle2
    replace hx := hx.up hle2
    replace hy := hy.up hle2
    refine Wl.on0 ?_
    refine Gm.o1 6 ?_
    refine Wl.ll0 1 [4] ?_
    refine Wl.on0 ?_
    refine Gm.o1 7 ?_
    refine Wl.ll0 1 [3] ?_
    refine Wl.on0 ?_
    refine Gm.fin ?_
    rotate_left
    refine Wl.alloc 4 rfl T.zero104 (fun b5 => ?_)
    refine Wl.on0 ?_
    refine Gm.o1 1 ?_
    refine Wl.k 5 rfl (c159 _ _ _ (by assumption) (by omega)) (fun v1 G1 Ho1 hle1 hp => ?_)
    obtain ⟨ra1, rfl, hra1, rfl, rfl⟩ := hp
    replace hx := hx.up hle1
    replace hy := hy.up hle1
    refine Wl.on0 ?_
    refine Gm.o1 3 ?_
    refine Wl.k 5 rfl (c159 _ _ _ (by assumption) (by omega)) (fun v2 G2 Ho2 hle2 hp => ?_)
    obtain ⟨ra2, rfl, hra2, rfl, rfl⟩ := hp
    replace hra1 := hra1.up hle2
    replace hx := hx.up hle2
    replace hy := hy.up hle2
    refine Wl.on0 ?_
    refine Gm.o1 6 ?_
    refine Wl.ll0 1 [4] ?_
    refine Wl.on0 ?_
    refine Gm.o1 7 ?_
    refine Wl.ll0 1 [3] ?_
    refine Wl.on0 ?_
    refine Gm.fin ?_
    rotate_left
    all_goals first | (refine Ar.retag 3 60 rfl rfl (Ar.retag 4 61 rfl rfl (Ar.meet (b4, b5, ra1, ra2) ⟨hra1, hra2⟩ rfl ?_ ?_)) <;> (repeat (first | exact trivial | refine ⟨rfl, ?_⟩)); done) | (refine Ar.retag 4 60 rfl rfl (Ar.retag 3 61 rfl rfl (Ar.meet (b5, b4, ra1, ra2) ⟨hra1, hra2⟩ rfl ?_ ?_)) <;> (repeat (first | exact trivial | refine ⟨rfl, ?_⟩)); done) | (refine Ar.retag 3 60 rfl rfl (Ar.retag 4 61 rfl rfl (Ar.meet (b5, b4, ra1, ra2) ⟨hra1, hra2⟩ rfl ?_ ?_)) <;> (repeat (first | exact trivial | refine ⟨rfl, ?_⟩)); done) | (refine Ar.retag 4 60 rfl rfl (Ar.retag 3 61 rfl rfl (Ar.meet (b4, b5, ra1, ra2) ⟨hra1, hra2⟩ rfl ?_ ?_)) <;> (repeat (first | exact trivial | refine ⟨rfl, ?_⟩)); done)
  have hn1 : ra1.n ≤ 268435456 := Nat.le_trans (Big.len hk.1 (m := x.n) (by rw [Int.natAbs_natCast]; exact Big.lt hx)) h1
  have hn2 : ra2.n ≤ 268435456 := Nat.le_trans (Big.len hk.2 (m := y.n) (by rw [Int.natAbs_natCast]; exact Big.lt hy)) h2
  refine Wc.gc 5 [] ?_
  refine Wc.loopG (ι := Nat × Nat × Imm × IV × IV) (fun (α, β, Gx, ra, rb) => ([(5, .pointer (some ⟨p, 0, none⟩)), (6, .pointer (some ⟨q, 0, none⟩)), (4, .pointer (some ⟨b3, 0, none⟩))], [(61, some q, .cells (Cells.enc rb).toArray 104), (60, some p, .cells (Cells.enc ra).toArray 104), (2, some b3, .cells #[.bool false, .slice none 0 0] 104), (1, Option.some b2, Go.Obj.cells (List.toArray (Go.Sl.Cells.enc y)) 104), (0, Option.some b1, Go.Obj.cells (List.toArray (Go.Sl.Cells.enc x)) 104)])) (fun (α, β, Gx, ra, rb) => Gx) (fun (α, β, Gx, ra, rb) => G.le Gx ∧ Big Gx ra (α : Int) ∧ Big Gx rb (β : Int) ∧ ra.n ≤ 268435456 ∧ rb.n ≤ 268435456 ∧ Nat.gcd α β = Int.gcd zx zy) (fun (α, β, Gx, ra, rb) => β) ((zx.natAbs, zy.natAbs, G, ra1, ra2)) (⟨Imm.le_refl _, hk.1, hk.2, hn1, hn2, rfl⟩) rfl ⟨rfl, rfl, rfl, trivial⟩ ⟨rfl, rfl, rfl, rfl, rfl, trivial⟩ (fun ⟨α, β, Gx, ra, rb⟩ => fun (hk : G.le Gx ∧ Big Gx ra (α : Int) ∧ Big Gx rb (β : Int) ∧ ra.n ≤ 268435456 ∧ rb.n ≤ 268435456 ∧ Nat.gcd α β = Int.gcd zx zy) => ?_)
  obtain ⟨hgx, hra, hrb, hna, hnb, hg⟩ := hk
  by_cases hb0 : β = 0
  · have hs0 : sgZ (β : Int) = 0 := sgZ_zero.2 (by omega)
    refine Wc.gl 4 [61] ?_
    refine Wl.k0 rfl (big_sgn _ _ _ (by assumption) (by omega)) ?_
    refine Wl.ga 16 [0, 60, 2] ?_
    refine Ar.scopeR ?_
    refine Ar.out1 (.inr rfl) (Ho := Hp.only _ []) rfl (.agg 2 rfl rfl T.agg104) (Hp.sub_only _ _) ?_
    refine ⟨ra, rfl, ?_, rfl⟩
    have e : Int.gcd zx zy = α := by rw [← hg, hb0, Nat.gcd_zero_right]
    rw [e]; exact hra
  · have hs0 : sgZ (β : Int) ≠ 0 := fun e => hb0 (by have := sgZ_zero.1 e; omega)
    refine Wc.gl 4 [61] ?_
    refine Wl.k0 rfl (big_sgn _ _ _ (by assumption) (by omega)) ?_
    refine Wl.gl 11 [1, 60, 61] ?_
    refine Wl.k 62 rfl (c105 _ _ _ _ _ (by assumption) (by assumption) (by omega) (by omega) (by omega)) (fun v1 G1 Ho1 hle1 hp => ?_)
    obtain ⟨q1, r1, rfl, hq1, hr1, rfl⟩ := hp
    replace hra := hra.up hle1
    replace hrb := hrb.up hle1
    refine Wl.ll0 4 [] ?_
    refine Wl.alloc 62 rfl T.zero104 (fun b4 => ?_)
    refine Wl.alloc 63 rfl T.zero104 (fun b5 => ?_)
    refine Wl.gc 6 [62, 63] ?_
    refine Wc.draw [0, 1, 2, 60, 61, 62, 63] [(61, 3), (60, 2)] T.mixed rfl ?_
    refine Gm.c 0 [61] [61] ?_
    refine Gm.c 1 [63] [63] ?_
    refine Gm.o1 2 ?_
    refine Wl.ll0 1 [60] ?_
    refine Wl.on0 ?_
    refine Gm.o1 3 ?_
    refine Wl.ll0 1 [61] ?_
    refine Wl.on0 ?_
    refine Gm.fin ?_
    refine Ar.ga 3 [] ?_
    refine Ar.again ((β, α % β, G1, rb, r1)) ?_ ?_ rfl ⟨rfl, rfl, rfl, trivial⟩ ⟨rfl, rfl, rfl, rfl, rfl, trivial⟩
    · have e1 : ((α % β : Nat) : Int) = (α : Int) % (β : Int) := Int.natCast_emod α β
      have hlt : (((α : Int) % (β : Int)).natAbs : Int) < pb rb.n := by
        have h3 := Big.lt hrb
        have h4 : α % β < β := Nat.mod_lt _ (by omega)
        rw [← e1, Int.natAbs_natCast]
        rw [Int.natAbs_natCast] at h3
        omega
      refine ⟨Imm.le_trans hgx hle1, hrb, by rw [e1]; exact hr1, hnb, Nat.le_trans (Big.len hr1 hlt) hnb, ?_⟩
      rw [← hg, Nat.gcd_comm α β, Nat.gcd_rec β α, Nat.gcd_comm]
    · show α % β < β
      exact Nat.mod_lt _ (by omega)
end Go.Proofs.YtbppmiimeccclaaGreat
set_option maxRecDepth 100000
set_option linter.unusedVariables false
namespace Go.Proofs.YtbppmiimeccclaaGreat
open Go Go.Sl
/-- a fraction's handle -/
structure QV where
  num : IV
  less : IV
instance : Inhabited QV := ⟨⟨default, default⟩⟩
instance : Cells QV := ⟨4, fun x => [.bool x.num.neg, .slice x.num.a x.num.n x.num.c, .bool x.less.neg, .slice x.less.a x.less.n x.less.c], fun _ => rfl, fun _ => rfl⟩
def BigQ (G : Imm) (r : QV) (q : QZ) : Prop := Big G r.num q.1 ∧ Big G r.less q.2
theorem BigQ.up {G G' : Imm} {r : QV} {q : QZ} (h : BigQ G r q) (hl : G.le G') : BigQ G' r q := ⟨h.1.up hl, h.2.up hl⟩
/-- a number of so many limbs -/
def Lt (m : Nat) (z : Int) : Prop := (z.natAbs : Int) < pb m
theorem Lt.mono {m k : Nat} {z : Int} (h : Lt m z) (hk : m ≤ k) : Lt k z := Int.lt_of_lt_of_le h (pb_le hk)
theorem Lt.mul {m k : Nat} {x y : Int} (hx : Lt m x) (hy : Lt k y) : Lt (m + k) (x * y) := mul_lt_pb hx hy
theorem Lt.le {m : Nat} {x y : Int} (hx : Lt m x) (h : y.natAbs ≤ x.natAbs) : Lt m y := by unfold Lt at *; omega
theorem pb_two {m : Nat} : 2 * pb m ≤ pb (m + 1) := by
  have h1 := pb_pos m
  have h2 : pb (m + 1) = 4294967296 * pb m := by
    unfold pb
    rw [Nat.pow_succ, Nat.mul_comm]; rfl
  rw [h2]; omega
theorem Lt.add {m : Nat} {x y : Int} (hx : Lt m x) (hy : Lt m y) : Lt (m + 1) (x + y) := by
  unfold Lt at *
  have := pb_two (m := m)
  omega
theorem Lt.neg {m : Nat} {x : Int} (hx : Lt m x) : Lt m (-x) := by unfold Lt at *; omega
theorem Lt.sub {m : Nat} {x y : Int} (hx : Lt m x) (hy : Lt m y) : Lt (m + 1) (x - y) := by
  unfold Lt at *
  have := pb_two (m := m)
  omega
theorem Lt.one {m : Nat} (hm : 1 ≤ m) : Lt m 1 := Lt.mono one_lt hm
theorem Lt.succ {m : Nat} {x : Int} (hx : Lt m x) (hm : 1 ≤ m) : Lt (m + 1) (x + 1) := Lt.add hx (Lt.one hm)
theorem Lt.n {m : Nat} {G : Imm} {x : IV} {z : Int} (h : Lt m z) (hx : Big G x z) : x.n ≤ m := Big.len hx h
/-- a fraction in lowest terms, of so many limbs -/
theorem lowQ_def (n d : Int) : lowQ n d = (n / (Int.gcd n d : Int), d / (Int.gcd n d : Int) - 1) := rfl
def OkQ (m : Nat) (q : QZ) : Prop := Lt m q.1 ∧ Lt m q.2 ∧ 0 ≤ q.2
set_option maxHeartbeats 4000000
attribute [local irreducible] valB pb cmpZ lstWp lowQ Lt
theorem v57 (G : Imm) : Does Tryz.prog 57 [.int .i64 1] G [] (fun v G' Ho => ∃ r : IV, v = .agg (Cells.enc r).toArray ∧ Big G' r 1 ∧ Ho = []) := c57 G 1 (by decide)
theorem v101 (G : Imm) (x y : IV) (zx zy : Int) (hx : Big G x zx) (hy : Big G y zy) (h1 : Lt 100000 zx) (h2 : Lt 100000 zy) :
    Does Tryz.prog 101 [.agg (Cells.enc x).toArray, .agg (Cells.enc y).toArray] G [] (fun v G' Ho => ∃ r : IV, v = .agg (Cells.enc r).toArray ∧ Big G' r (zx + zy) ∧ Ho = []) := c101 G x y zx zy hx hy (Nat.le_trans (h1.n hx) (by decide)) (Nat.le_trans (h2.n hy) (by decide))
theorem v102 (G : Imm) (x y : IV) (zx zy : Int) (hx : Big G x zx) (hy : Big G y zy) (h1 : Lt 100000 zx) (h2 : Lt 100000 zy) :
    Does Tryz.prog 102 [.agg (Cells.enc x).toArray, .agg (Cells.enc y).toArray] G [] (fun v G' Ho => ∃ r : IV, v = .agg (Cells.enc r).toArray ∧ Big G' r (zx - zy) ∧ Ho = []) := c102 G x y zx zy hx hy (Nat.le_trans (h1.n hx) (by decide)) (Nat.le_trans (h2.n hy) (by decide))
theorem v103 (G : Imm) (x y : IV) (zx zy : Int) (hx : Big G x zx) (hy : Big G y zy) (h1 : Lt 100000 zx) (h2 : Lt 100000 zy) :
    Does Tryz.prog 103 [.agg (Cells.enc x).toArray, .agg (Cells.enc y).toArray] G [] (fun v G' Ho => ∃ r : IV, v = .agg (Cells.enc r).toArray ∧ Big G' r (zx * zy) ∧ Ho = []) := c103 G x y zx zy hx hy (Nat.le_trans (h1.n hx) (by decide)) (Nat.le_trans (h2.n hy) (by decide))
theorem v100 (G : Imm) (x : IV) (z : Int) (hx : Big G x z) (h1 : Lt 100000 z) :
    Does Tryz.prog 100 [.agg (Cells.enc x).toArray] G [] (fun v G' Ho => ∃ r : IV, v = .agg (Cells.enc r).toArray ∧ Big G' r (-z) ∧ G' = G ∧ Ho = []) := c100 G x z hx (Nat.le_trans (h1.n hx) (by decide))
theorem v105 (G : Imm) (x y : IV) (zx zy : Int) (hx : Big G x zx) (hy : Big G y zy) (h1 : Lt 100000 zx) (h2 : Lt 100000 zy) (hy0 : zy ≠ 0) :
    Does Tryz.prog 105 [.agg (Cells.enc x).toArray, .agg (Cells.enc y).toArray] G [] (fun v G' Ho => ∃ q r : IV, v = .tuple #[.agg (Cells.enc q).toArray, .agg (Cells.enc r).toArray, .int .i64 0] ∧ Big G' q (zx / zy) ∧ Big G' r (zx % zy) ∧ Ho = []) := c105 G x y zx zy hx hy (Nat.le_trans (h1.n hx) (by decide)) (Nat.le_trans (h2.n hy) (by decide)) hy0
theorem v215 (G : Imm) (x y : IV) (zx zy : Int) (hx : Big G x zx) (hy : Big G y zy) (h1 : Lt 100000 zx) (h2 : Lt 100000 zy) :
    Does Tryz.prog 215 [.agg (Cells.enc x).toArray, .agg (Cells.enc y).toArray] G [] (fun v G' Ho => ∃ r : IV, v = .agg (Cells.enc r).toArray ∧ Big G' r (Int.gcd zx zy : Int) ∧ Ho = []) := c215 G x y zx zy hx hy (Nat.le_trans (h1.n hx) (by decide)) (Nat.le_trans (h2.n hy) (by decide))
theorem v60 (G : Imm) (x y : IV) (zx zy : Int) (hx : Big G x zx) (hy : Big G y zy) (h1 : Lt 100000 zx) (h2 : Lt 100000 zy) :
    Does Tryz.prog 60 [.agg (Cells.enc x).toArray, .agg (Cells.enc y).toArray] G [] (fun v G' Ho => v = .int .i64 (cmpZ zx zy) ∧ G' = G ∧ Ho = []) := c60 G x y zx zy hx hy (Nat.le_trans (h1.n hx) (by decide)) (Nat.le_trans (h2.n hy) (by decide))
theorem v106 (G : Imm) (x : IV) (z : Int) (hx : Big G x z) (h1 : Lt 100000 z) :
    Does Tryz.prog 106 [.agg (Cells.enc x).toArray] G [] (fun v G' Ho => v = .int .i64 (sgZ z) ∧ G' = G ∧ Ho = []) := big_sgn G x z hx (Nat.le_trans (h1.n hx) (by decide))
theorem quot_lt {m : Nat} {x y : Int} (h : Lt m x) : Lt m (x / y) := Lt.le h (Int.natAbs_ediv_le_natAbs x y)
theorem gcd_lt {m : Nat} {x y : Int} (h : Lt m y) (hy : 0 < y) : Lt m (Int.gcd x y : Int) := Lt.le h (by
  have h1 : Int.gcd x y ∣ y.natAbs := Nat.gcd_dvd_right _ _
  have h2 := Nat.le_of_dvd (by omega) h1
  rw [Int.natAbs_natCast]; exact h2)
theorem gcd_ne {x y : Int} (hy : 0 < y) : (Int.gcd x y : Int) ≠ 0 := fun e => by
  have h1 : Int.gcd x y = 0 := by omega
  have := (Int.gcd_eq_zero_iff.1 h1).2
  omega
theorem c112 (G : Imm) (x : IV) (z : Int) (hx : Big G x z) :
    Does Tryz.prog 112 [.agg (Cells.enc x).toArray] G [] (fun v G' Ho => ∃ r : QV, v = .agg (Cells.enc r).toArray ∧ BigQ G' r (wholeQ z) ∧ G' = G ∧ Ho = []) := by
  refine Does.enter Tryz.func112 rfl Tryz.ntmps112 rfl (fun w => ?_)
  refine Wc.gl 2 [] ?_
  refine Wl.box 0 rfl rfl rfl (fun b1 => ?_)
  refine Wl.alloc 1 rfl T.zero178 (fun b2 => ?_)
  refine Wl.gl 5 [0] ?_
  refine Wl.q rfl (Qy.build (cs := [_, _, _, _]) T.st178 rfl rfl rfl) ?_
  refine Wl.ga 4 [1] ?_
  refine Ar.out1 (.inr rfl) (Ho := Hp.only _ []) rfl (.agg 1 rfl rfl T.agg178) (Hp.sub_only _ _) ?_
  exact ⟨⟨x, default⟩, rfl, ⟨hx, Big.zero _⟩, rfl, rfl⟩
theorem c177 (G : Imm) (x : QV) :
    Does Tryz.prog 177 [.agg (Cells.enc x).toArray] G [] (fun v G' Ho => v = .agg (Cells.enc x.num).toArray ∧ G' = G ∧ Ho = []) := by
  refine Does.enter Tryz.func177 rfl Tryz.ntmps177 rfl (fun w => ?_)
  refine Wc.gl 2 [] ?_
  refine Wl.box 0 rfl rfl rfl (fun b1 => ?_)
  refine Wl.alloc 1 rfl T.zero104 (fun b2 => ?_)
  refine Wl.gl 5 [] ?_
  refine Wl.q rfl (Qy.loads 0 T.agg104 rfl rfl rfl rfl) ?_
  refine Wl.ga 4 [1] ?_
  refine Ar.out1 (.inr rfl) (Ho := Hp.only _ []) rfl (.agg 1 rfl rfl T.agg104) (Hp.sub_only _ _) ?_
  exact ⟨rfl, rfl, rfl⟩
theorem c179 (G : Imm) (x : QV) (q : QZ) (hx : BigQ G x q) (h1 : Lt 100000 q.2) :
    Does Tryz.prog 179 [.agg (Cells.enc x).toArray] G [] (fun v G' Ho => ∃ r : IV, v = .agg (Cells.enc r).toArray ∧ Big G' r (q.2 + 1) ∧ Ho = []) := by
  have hl : Big G x.less q.2 := hx.2
  have h2 : Lt 100000 1 := Lt.one (by decide)
  refine Does.enter Tryz.func179 rfl Tryz.ntmps179 rfl (fun w => ?_)
  refine Wc.gl 2 [] ?_
  refine Wl.box 0 rfl rfl rfl (fun b1 => ?_)
  refine Wl.alloc 1 rfl T.zero104 (fun b2 => ?_)
  refine Wl.gc 3 [] ?_
  refine Wc.draw [0, 1] [(1, 4)] T.mixed rfl ?_
  refine Gm.c 0 [] [] ?_
  refine Gm.u 1 [0] rfl (Qy.loads 0 T.agg104 rfl rfl rfl rfl) ?_
  refine Gm.o1 2 ?_
  refine Wl.k 2 rfl (v57 _) (fun v1 G1 Ho1 hle1 hp => ?_)
  obtain ⟨ri1, rfl, hri1, rfl⟩ := hp
  replace hx := hx.up hle1
  replace hl := hl.up hle1
  refine Wl.on0 ?_
  refine Gm.o1 3 ?_
  refine Wl.k 2 rfl (v101 _ _ _ _ _ (by assumption) (by assumption) (by assumption) (by assumption)) (fun v2 G2 Ho2 hle2 hp => ?_)
  obtain ⟨ri2, rfl, hri2, rfl⟩ := hp
  replace hri1 := hri1.up hle2
  replace hx := hx.up hle2
  replace hl := hl.up hle2
  refine Wl.on0 ?_
  refine Gm.o1 4 ?_
  refine Wl.ll0 1 [1] ?_
  refine Wl.on0 ?_
  refine Gm.fin ?_
  refine Ar.ga 2 [] ?_
  refine Ar.out1 (.inr rfl) (Ho := Hp.only _ []) rfl (.agg 1 rfl rfl T.agg104) (Hp.sub_only _ _) ?_
  exact ⟨_, rfl, hri2, rfl⟩
theorem c197 (G : Imm) (x y : IV) (zx zy : Int) (hx : Big G x zx) (hy : Big G y zy) (h1 : Lt 100000 zx) (h2 : Lt 100000 zy) (h0 : 0 < zy) :
    Does Tryz.prog 197 [.agg (Cells.enc x).toArray, .agg (Cells.enc y).toArray] G [] (fun v G' Ho => ∃ r : QV, v = .agg (Cells.enc r).toArray ∧ BigQ G' r (lowQ zx zy) ∧ Ho = []) := by
  have hg1 : Lt 100000 (Int.gcd zx zy : Int) := gcd_lt h2 h0
  have hg0 : (Int.gcd zx zy : Int) ≠ 0 := gcd_ne h0
  have hq1 : Lt 100000 (zy / (Int.gcd zx zy : Int)) := quot_lt h2
  have ho : Lt 100000 1 := Lt.one (by decide)
  refine Does.enter Tryz.func197 rfl Tryz.ntmps197 rfl (fun w => ?_)
  refine Wc.gl 2 [] ?_
  refine Wl.box 0 rfl rfl rfl (fun b1 => ?_)
  refine Wl.box 1 rfl rfl rfl (fun b2 => ?_)
  refine Wl.alloc 2 rfl T.zero178 (fun b3 => ?_)
  refine Wl.gl 6 [0, 1] ?_
  refine Wl.k 3 rfl (v215 _ _ _ _ _ (by assumption) (by assumption) (by assumption) (by assumption)) (fun v1 G1 Ho1 hle1 hp => ?_)
  obtain ⟨ri1, rfl, hri1, rfl⟩ := hp
  replace hx := hx.up hle1
  replace hy := hy.up hle1
  refine Wl.alloc 3 rfl T.zero104 (fun b4 => ?_)
  refine Wl.gl 7 [3, 0, 3] ?_
  refine Wl.k 4 rfl (v105 _ _ _ _ _ (by assumption) (by assumption) (by assumption) (by assumption) (by assumption)) (fun v2 G2 Ho2 hle2 hp => ?_)
  obtain ⟨q2, r2, rfl, hq2, hr2, rfl⟩ := hp
  replace hri1 := hri1.up hle2
  replace hx := hx.up hle2
  replace hy := hy.up hle2
  refine Wl.gl 11 [0, 1, 3] ?_
  refine Wl.k 4 rfl (v105 _ _ _ _ _ (by assumption) (by assumption) (by assumption) (by assumption) (by assumption)) (fun v3 G3 Ho3 hle3 hp => ?_)
  obtain ⟨q3, r3, rfl, hq3, hr3, rfl⟩ := hp
  replace hq2 := hq2.up hle3
  replace hr2 := hr2.up hle3
  replace hri1 := hri1.up hle3
  replace hx := hx.up hle3
  replace hy := hy.up hle3
  refine Wl.gc 8 [1] ?_
  refine Wc.draw [2, 3, 0, 1] [(2, 5)] T.mixed rfl ?_
  refine Gm.c 0 [0] [0] ?_
  refine Gm.c 1 [1] [1] ?_
  refine Gm.o1 2 ?_
  refine Wl.k 4 rfl (v57 _) (fun v4 G4 Ho4 hle4 hp => ?_)
  obtain ⟨ri4, rfl, hri4, rfl⟩ := hp
  replace hq3 := hq3.up hle4
  replace hr3 := hr3.up hle4
  replace hq2 := hq2.up hle4
  replace hr2 := hr2.up hle4
  replace hri1 := hri1.up hle4
  replace hx := hx.up hle4
  replace hy := hy.up hle4
  refine Wl.on0 ?_
  refine Gm.o1 3 ?_
  refine Wl.k 4 rfl (v102 _ _ _ _ _ (by assumption) (by assumption) (by assumption) (by assumption)) (fun v5 G5 Ho5 hle5 hp => ?_)
  obtain ⟨ri5, rfl, hri5, rfl⟩ := hp
  replace hri4 := hri4.up hle5
  replace hq3 := hq3.up hle5
  replace hr3 := hr3.up hle5
  replace hq2 := hq2.up hle5
  replace hr2 := hr2.up hle5
  replace hri1 := hri1.up hle5
  replace hx := hx.up hle5
  replace hy := hy.up hle5
  refine Wl.on0 ?_
  refine Gm.u 4 [] rfl (Qy.build (cs := [_, _, _, _]) T.st178 rfl rfl rfl) ?_
  refine Gm.o1 5 ?_
  refine Wl.ll0 1 [2] ?_
  refine Wl.on0 ?_
  refine Gm.fin ?_
  refine Ar.ga 2 [] ?_
  refine Ar.out1 (.inr rfl) (Ho := Hp.only _ []) rfl (.agg 2 rfl rfl T.agg178) (Hp.sub_only _ _) ?_
  exact ⟨⟨q2, ri5⟩, rfl, by rw [lowQ_def]; exact ⟨hq2, hri5⟩, rfl⟩
theorem c216 (G : Imm) (x y : IV) (zx zy : Int) (hx : Big G x zx) (hy : Big G y zy) (h1 : Lt 100000 zx) (h2 : Lt 100000 zy) (h0 : zy ≠ 0) :
    Does Tryz.prog 216 [.agg (Cells.enc x).toArray, .agg (Cells.enc y).toArray] G [] (fun v G' Ho => ∃ r : QV, v = .tuple #[.agg (Cells.enc r).toArray, .int .i64 0] ∧ BigQ G' r (makeQ zx zy) ∧ Ho = []) := by
  have h3 : Lt 100000 (-zx) := h1.neg
  have h4 : Lt 100000 (-zy) := h2.neg
  refine Does.enter Tryz.func216 rfl Tryz.ntmps216 rfl (fun w => ?_)
  rcases Int.lt_or_lt_of_ne h0 with hs | hs
  · have hg := sgZ_lt hs
    have h9 : 0 < -zy := by omega
    have em : makeQ zx zy = lowQ (-zx) (-zy) := by unfold makeQ; rw [if_neg h0, if_pos hs]
    refine Wc.gl 2 [] ?_
    refine Wl.box 0 rfl rfl rfl (fun b1 => ?_)
    refine Wl.box 1 rfl rfl rfl (fun b2 => ?_)
    refine Wl.alloc 2 rfl T.zero178 (fun b3 => ?_)
    refine Wl.gl 7 [1] ?_
    refine Wl.k0 rfl (v106 _ _ _ (by assumption) (by assumption)) ?_
    refine Wl.gc 17 [0, 1] ?_
    refine Wc.draw [0, 1, 2] [(1, 5), (0, 4)] T.mixed rfl ?_
    refine Gm.c 0 [0] [0] ?_
    refine Gm.c 2 [1] [1] ?_
    refine Gm.o1 1 ?_
    refine Wl.k 3 rfl (v100 _ _ _ (by assumption) (by assumption)) (fun v1 G1 Ho1 hle1 hp => ?_)
    obtain ⟨ri1, rfl, hri1, rfl, rfl⟩ := hp
    replace hx := hx.up hle1
    replace hy := hy.up hle1
    refine Wl.on0 ?_
    refine Gm.o1 3 ?_
    refine Wl.k 3 rfl (v100 _ _ _ (by assumption) (by assumption)) (fun v2 G2 Ho2 hle2 hp => ?_)
    obtain ⟨ri2, rfl, hri2, rfl, rfl⟩ := hp
    replace hri1 := hri1.up hle2
    replace hx := hx.up hle2
    replace hy := hy.up hle2
    refine Wl.on0 ?_
    refine Gm.o1 4 ?_
    refine Wl.ll0 1 [0] ?_
    refine Wl.on0 ?_
    refine Gm.o1 5 ?_
    refine Wl.ll0 1 [1] ?_
    refine Wl.on0 ?_
    refine Gm.fin ?_
    refine Ar.gl 6 [0, 1] ?_
    refine Wl.k 3 rfl (c197 _ _ _ _ _ (by assumption) (by assumption) (by assumption) (by assumption) (by assumption)) (fun v3 G3 Ho3 hle3 hp => ?_)
    obtain ⟨rr3, rfl, hrr3, rfl⟩ := hp
    replace hri2 := hri2.up hle3
    replace hri1 := hri1.up hle3
    replace hx := hx.up hle3
    replace hy := hy.up hle3
    refine Wl.ga 5 [2] ?_
    refine Ar.out2 (.inr rfl) (Ho := Hp.only _ []) rfl (.agg 2 rfl rfl T.agg178) (.tmp rfl) (Hp.sub_only _ _) ?_
    all_goals exact ⟨_, rfl, by rw [em]; assumption, rfl⟩
  · have hg := sgZ_gt hs
    have em : makeQ zx zy = lowQ zx zy := by unfold makeQ; rw [if_neg h0, if_neg (by omega)]
    refine Wc.gl 2 [] ?_
    refine Wl.box 0 rfl rfl rfl (fun b1 => ?_)
    refine Wl.box 1 rfl rfl rfl (fun b2 => ?_)
    refine Wl.alloc 2 rfl T.zero178 (fun b3 => ?_)
    refine Wl.gl 7 [1] ?_
    refine Wl.k0 rfl (v106 _ _ _ (by assumption) (by assumption)) ?_
    refine Wl.gl 24 [0, 0, 0, 1] ?_
    refine Wl.k 3 rfl (c197 _ _ _ _ _ (by assumption) (by assumption) (by assumption) (by assumption) (by assumption)) (fun v1 G1 Ho1 hle1 hp => ?_)
    obtain ⟨rr1, rfl, hrr1, rfl⟩ := hp
    replace hx := hx.up hle1
    replace hy := hy.up hle1
    refine Wl.ga 5 [2] ?_
    refine Ar.out2 (.inr rfl) (Ho := Hp.only _ []) rfl (.agg 2 rfl rfl T.agg178) (.tmp rfl) (Hp.sub_only _ _) ?_
    all_goals exact ⟨_, rfl, by rw [em]; assumption, rfl⟩
theorem c163 (G : Imm) (x : QV) (q : QZ) (hx : BigQ G x q) (h1 : Lt 100000 q.1) :
    Does Tryz.prog 163 [.agg (Cells.enc x).toArray] G [] (fun v G' Ho => ∃ r : QV, v = .agg (Cells.enc r).toArray ∧ BigQ G' r (negQ q) ∧ G' = G ∧ Ho = []) := by
  have hn : Big G x.num q.1 := hx.1
  have hl : Big G x.less q.2 := hx.2
  refine Does.enter Tryz.func163 rfl Tryz.ntmps163 rfl (fun w => ?_)
  refine Wc.gl 2 [] ?_
  refine Wl.box 0 rfl rfl rfl (fun b1 => ?_)
  refine Wl.alloc 1 rfl T.zero178 (fun b2 => ?_)
  refine Wl.gc 3 [] ?_
  refine Wc.draw [0, 1] [(1, 6)] T.mixed rfl ?_
  refine Gm.c 0 [] [] ?_
  refine Gm.u 1 [0] rfl (Qy.loads 0 T.agg104 rfl rfl rfl rfl) ?_
  refine Gm.c 3 [] [] ?_
  refine Gm.u 4 [0] rfl (Qy.loads 0 T.agg104 rfl rfl rfl rfl) ?_
  refine Gm.o1 2 ?_
  refine Wl.k 2 rfl (v100 _ _ _ (by assumption) (by assumption)) (fun v1 G1 Ho1 hle1 hp => ?_)
  obtain ⟨ri1, rfl, hri1, rfl, rfl⟩ := hp
  replace hx := hx.up hle1
  replace hn := hn.up hle1
  replace hl := hl.up hle1
  refine Wl.on0 ?_
  refine Gm.u 5 [] rfl (Qy.build (cs := [_, _, _, _]) T.st178 rfl rfl rfl) ?_
  refine Gm.o1 6 ?_
  refine Wl.ll0 1 [1] ?_
  refine Wl.on0 ?_
  refine Gm.fin ?_
  refine Ar.ga 2 [] ?_
  refine Ar.out1 (.inr rfl) (Ho := Hp.only _ []) rfl (.agg 1 rfl rfl T.agg178) (Hp.sub_only _ _) ?_
  exact ⟨⟨ri1, x.less⟩, rfl, ⟨hri1, hl⟩, rfl, rfl⟩
theorem c165 (G : Imm) (x y : QV) (p q : QZ) (hx : BigQ G x p) (hy : BigQ G y q) (h1 : OkQ 2100 p) (h2 : OkQ 2100 q) :
    Does Tryz.prog 165 [.agg (Cells.enc x).toArray, .agg (Cells.enc y).toArray] G [] (fun v G' Ho => ∃ r : QV, v = .agg (Cells.enc r).toArray ∧ BigQ G' r (addQ p q) ∧ Ho = []) := by
  have hxn : Big G x.num p.1 := hx.1
  have hyn : Big G y.num q.1 := hy.1
  have a1 := h1.1
  have a2 := h1.2.1.succ (by decide)
  have b1 := h2.1
  have b2 := h2.2.1.succ (by decide)
  have a3 := (a1.mono (show 2100 ≤ 2101 by decide)).mul b2
  have b3 := (b1.mono (show 2100 ≤ 2101 by decide)).mul a2
  have c1 := (a3.add b3).mono (show 2101 + 2101 + 1 ≤ 100000 by decide)
  have d1 := (a2.mul b2).mono (show 2101 + 2101 ≤ 100000 by decide)
  have e1 := a1.mono (show 2100 ≤ 100000 by decide)
  have e2 := a2.mono (show 2100 + 1 ≤ 100000 by decide)
  have e3 := b1.mono (show 2100 ≤ 100000 by decide)
  have e4 := b2.mono (show 2100 + 1 ≤ 100000 by decide)
  have e5 := a3.mono (show 2101 + 2101 ≤ 100000 by decide)
  have e6 := b3.mono (show 2101 + 2101 ≤ 100000 by decide)
  have e7 := h1.2.1.mono (show 2100 ≤ 100000 by decide)
  have e8 := h2.2.1.mono (show 2100 ≤ 100000 by decide)
  have h0 : 0 < (p.2 + 1) * (q.2 + 1) := Int.mul_pos (by have := h1.2.2; omega) (by have := h2.2.2; omega)
  refine Does.enter Tryz.func165 rfl Tryz.ntmps165 rfl (fun w => ?_)
  refine Wc.gl 2 [] ?_
  refine Wl.box 0 rfl rfl rfl (fun b4 => ?_)
  refine Wl.box 1 rfl rfl rfl (fun b5 => ?_)
  refine Wl.alloc 2 rfl T.zero178 (fun b6 => ?_)
  refine Wl.gc 2 [] ?_
  refine Wc.meetG (ι := Nat × Nat × Imm × IV × IV) (fun (s, t, Gx, ra, rb) => ([(5, .pointer (some ⟨s, 0, none⟩)), (6, .pointer (some ⟨t, 0, none⟩)), (4, .pointer (some ⟨b6, 0, none⟩)), (3, .pointer (some ⟨b5, 0, none⟩)), (2, .pointer (some ⟨b4, 0, none⟩))], [(60, some s, .cells (Cells.enc ra).toArray 104), (61, some t, .cells (Cells.enc rb).toArray 104), (2, some b6, .cells #[.bool false, .slice none 0 0, .bool false, .slice none 0 0] 178), (1, some b5, .cells (Cells.enc y).toArray 178), (0, some b4, .cells (Cells.enc x).toArray 178)])) (fun (_, _, Gx, _, _) => Gx) (fun (_, _, Gx, ra, rb) => G.le Gx ∧ Big Gx ra (p.2 + 1) ∧ Big Gx rb (q.2 + 1)) ?_ (fun (s, t, Gx, ra, rb) hk => ?_)
  · refine Wc.draw [0, 1, 2] [] T.mixed rfl ?_
    refine Gm.c 0 [0] [0] ?_
    refine Gm.c 2 [1] [1] ?_
    refine Gm.o3 1 4 5 ?_ ?_ ?_
    refine Wl.k 3 rfl (c179 _ _ _ (by assumption) (by assumption)) (fun v1 G1 Ho1 hle1 hp => ?_)
    obtain ⟨ri1, rfl, hri1, rfl⟩ := hp
    replace hx := hx.up hle1
    replace hy := hy.up hle1
    replace hxn := hxn.up hle1
    replace hyn := hyn.up hle1
    refine Wl.on0 ?_
    refine Gm.o3 3 4 5 ?_ ?_ ?_
    refine Wl.k 3 rfl (c179 _ _ _ (by assumption) (by assumption)) (fun v2 G2 Ho2 hle2 hp => ?_)
    obtain ⟨ri2, rfl, hri2, rfl⟩ := hp
    replace hri1 := hri1.up hle2
    replace hx := hx.up hle2
    replace hy := hy.up hle2
    replace hxn := hxn.up hle2
    replace hyn := hyn.up hle2
    refine Wl.on0 ?_
    refine Gm.o2 4 5 ?_ ?_
    refine Wl.alloc 3 rfl T.zero104 (fun b7 => ?_)
    refine Wl.on0 ?_
    refine Gm.o1 5 ?_
    refine Wl.alloc 4 rfl T.zero104 (fun b8 => ?_)
    refine Wl.on0 ?_
    refine Gm.o1 6 ?_
    refine Wl.ll0 1 [3] ?_
    refine Wl.on0 ?_
    refine Gm.o1 7 ?_
    refine Wl.ll0 1 [4] ?_
    refine Wl.on0 ?_
    refine Gm.fin ?_
    rotate_left
    refine Wl.alloc 3 rfl T.zero104 (fun b7 => ?_)
    refine Wl.on0 ?_
    refine Gm.o1 4 ?_
    refine Wl.alloc 4 rfl T.zero104 (fun b8 => ?_)
    refine Wl.on0 ?_
    refine Gm.o1 6 ?_
    refine Wl.ll0 1 [4] ?_
    refine Wl.on0 ?_
    refine Gm.o1 7 ?_
    refine Wl.ll0 1 [3] ?_
    refine Wl.on0 ?_
    refine Gm.fin ?_
    rotate_left
    refine Wl.alloc 3 rfl T.zero104 (fun b7 => ?_)
    refine Wl.on0 ?_
    refine Gm.o2 3 5 ?_ ?_
    refine Wl.k 4 rfl (c179 _ _ _ (by assumption) (by assumption)) (fun v2 G2 Ho2 hle2 hp => ?_)
    obtain ⟨ri2, rfl, hri2, rfl⟩ := hp
    replace hri1 := hri1.up hle2
    replace hx := hx.up hle2
    replace hy := hy.up hle2
    replace hxn := hxn.up hle2
    replace hyn := hyn.up hle2
    refine Wl.on0 ?_
    refine Gm.o1 5 ?_
    refine Wl.alloc 4 rfl T.zero104 (fun b8 => ?_)
    refine Wl.on0 ?_
    refine Gm.o1 6 ?_
    refine Wl.ll0 1 [3] ?_
    refine Wl.on0 ?_
    refine Gm.o1 7 ?_
    refine Wl.ll0 1 [4] ?_
    refine Wl.on0 ?_
    refine Gm.fin ?_
    rotate_left
    refine Wl.alloc 4 rfl T.zero104 (fun b8 => ?_)
    refine Wl.on0 ?_
    refine Gm.o1 3 ?_
    refine Wl.k 5 rfl (c179 _ _ _ (by assumption) (by assumption)) (fun v2 G2 Ho2 hle2 hp => ?_)
    obtain ⟨ri2, rfl, hri2, rfl⟩ := hp
    replace hri1 := hri1.up hle2
    replace hx := hx.up hle2
    replace hy := hy.up hle2
    replace hxn := hxn.up hle2
    replace hyn := hyn.up hle2
    refine Wl.on0 ?_
    refine Gm.o1 6 ?_
    refine Wl.ll0 1 [3] ?_
    refine Wl.on0 ?_
    refine Gm.o1 7 ?_
    refine Wl.ll0 1 [4] ?_
    refine Wl.on0 ?_
    refine Gm.fin ?_
    rotate_left
    refine Wl.alloc 3 rfl T.zero104 (fun b7 => ?_)
    refine Wl.on0 ?_
    refine Gm.o2 3 4 ?_ ?_
    refine Wl.k 4 rfl (c179 _ _ _ (by assumption) (by assumption)) (fun v2 G2 Ho2 hle2 hp => ?_)
    obtain ⟨ri2, rfl, hri2, rfl⟩ := hp
    replace hri1 := hri1.up hle2
    replace hx := hx.up hle2
    replace hy := hy.up hle2
    replace hxn := hxn.up hle2
    replace hyn := hyn.up hle2
    refine Wl.on0 ?_
    refine Gm.o1 4 ?_
    refine Wl.alloc 4 rfl T.zero104 (fun b8 => ?_)
    refine Wl.on0 ?_
    refine Gm.o1 6 ?_
    refine Wl.ll0 1 [4] ?_
    refine Wl.on0 ?_
    refine Gm.o1 7 ?_
    refine Wl.ll0 1 [3] ?_
    refine Wl.on0 ?_
    refine Gm.fin ?_
    rotate_left
    refine Wl.alloc 4 rfl T.zero104 (fun b8 => ?_)
    refine Wl.on0 ?_
    refine Gm.o1 3 ?_
    refine Wl.k 5 rfl (c179 _ _ _ (by assumption) (by assumption)) (fun v2 G2 Ho2 hle2 hp => ?_)
    obtain ⟨ri2, rfl, hri2, rfl⟩ := hp
    replace hri1 := hri1.up hle2
    replace hx := hx.up hle2
    replace hy := hy.up hle2
    replace hxn := hxn.up hle2
    replace hyn := hyn.up hle2
    refine Wl.on0 ?_
    refine Gm.o1 6 ?_
    refine Wl.ll0 1 [4] ?_
    refine Wl.on0 ?_
    refine Gm.o1 7 ?_
    refine Wl.ll0 1 [3] ?_
    refine Wl.on0 ?_
    refine Gm.fin ?_
    rotate_left
    refine Wl.alloc 3 rfl T.zero104 (fun b7 => ?_)
    refine Wl.on0 ?_
    refine Gm.o2 1 5 ?_ ?_
    refine Wl.k 4 rfl (c179 _ _ _ (by assumption) (by assumption)) (fun v1 G1 Ho1 hle1 hp => ?_)
    obtain ⟨ri1, rfl, hri1, rfl⟩ := hp
    replace hx := hx.up hle1
    replace hy := hy.up hle1
    replace hxn := hxn.up hle1
    replace hyn := hyn.up hle1
    refine Wl.on0 ?_
    refine Gm.o2 3 5 ?_ ?_
    refine Wl.k 4 rfl (c179 _ _ _ (by assumption) (by assumption)) (fun v2 G2 Ho2 hle2 hp => ?_)
    obtain ⟨ri2, rfl, hri2, rfl⟩ := hp
    replace hri1 := hri1.up hle2
    replace hx := hx.up hle2
    replace hy := hy.up hle2
    replace hxn := hxn.up hle2
    replace hyn := hyn.up hle2
    refine Wl.on0 ?_
    refine Gm.o1 5 ?_
    refine Wl.alloc 4 rfl T.zero104 (fun b8 => ?_)
    refine Wl.on0 ?_
    refine Gm.o1 6 ?_
    refine Wl.ll0 1 [3] ?_
    refine Wl.on0 ?_
    refine Gm.o1 7 ?_
    refine Wl.ll0 1 [4] ?_
    refine Wl.on0 ?_
    refine Gm.fin ?_
    rotate_left
    refine Wl.alloc 4 rfl T.zero104 (fun b8 => ?_)
    refine Wl.on0 ?_
    refine Gm.o1 3 ?_
    refine Wl.k 5 rfl (c179 _ _ _ (by assumption) (by assumption)) (fun v2 G2 Ho2 hle2 hp => ?_)
    obtain ⟨ri2, rfl, hri2, rfl⟩ := hp
    replace hri1 := hri1.up hle2
    replace hx := hx.up hle2
    replace hy := hy.up hle2
    replace hxn := hxn.up hle2
    replace hyn := hyn.up hle2
    refine Wl.on0 ?_
    refine Gm.o1 6 ?_
    refine Wl.ll0 1 [3] ?_
    refine Wl.on0 ?_
    refine Gm.o1 7 ?_
    refine Wl.ll0 1 [4] ?_
    refine Wl.on0 ?_
    refine Gm.fin ?_
    rotate_left
    refine Wl.alloc 4 rfl T.zero104 (fun b8 => ?_)
    refine Wl.on0 ?_
    refine Gm.o1 1 ?_
    refine Wl.k 5 rfl (c179 _ _ _ (by assumption) (by assumption)) (fun v1 G1 Ho1 hle1 hp => ?_)
    obtain ⟨ri1, rfl, hri1, rfl⟩ := hp
    replace hx := hx.up hle1
    replace hy := hy.up hle1
    replace hxn := hxn.up hle1
    replace hyn := hyn.up hle1
    refine Wl.on0 ?_
    refine Gm.o1 3 ?_
    refine Wl.k 5 rfl (c179 _ _ _ (by assumption) (by assumption)) (fun v2 G2 Ho2 hle2 hp => ?_)
    obtain ⟨ri2, rfl, hri2, rfl⟩ := hp
    replace hri1 := hri1.up hle2
    replace hx := hx.up hle2
    replace hy := hy.up hle2
    replace hxn := hxn.up hle2
    replace hyn := hyn.up hle2
    refine Wl.on0 ?_
    refine Gm.o1 6 ?_
    refine Wl.ll0 1 [3] ?_
    refine Wl.on0 ?_
    refine Gm.o1 7 ?_
    refine Wl.ll0 1 [4] ?_
    refine Wl.on0 ?_
    refine Gm.fin ?_
    rotate_left
    refine Wl.alloc 3 rfl T.zero104 (fun b7 => ?_)
    refine Wl.on0 ?_
    refine Gm.o2 1 4 ?_ ?_
    refine Wl.k 4 rfl (c179 _ _ _ (by assumption) (by assumption)) (fun v1 G1 Ho1 hle1 hp => ?_)
    obtain ⟨ri1, rfl, hri1, rfl⟩ := hp
    replace hx := hx.up hle1
    replace hy := hy.up hle1
    replace hxn := hxn.up hle1
    replace hyn := hyn.up hle1
    refine Wl.on0 ?_
    refine Gm.o2 3 4 ?_ ?_
    refine Wl.k 4 rfl (c179 _ _ _ (by assumption) (by assumption)) (fun v2 G2 Ho2 hle2 hp => ?_)
    obtain ⟨ri2, rfl, hri2, rfl⟩ := hp
    replace hri1 := hri1.up hle2
    replace hx := hx.up hle2
    replace hy := hy.up hle2
    replace hxn := hxn.up hle2
    replace hyn := hyn.up hle2
    refine Wl.on0 ?_
    refine Gm.o1 4 ?_
    refine Wl.alloc 4 rfl T.zero104 (fun b8 => ?_)
    refine Wl.on0 ?_
    refine Gm.o1 6 ?_
    refine Wl.ll0 1 [4] ?_
    refine Wl.on0 ?_
    refine Gm.o1 7 ?_
    refine Wl.ll0 1 [3] ?_
    refine Wl.on0 ?_
    refine Gm.fin ?_
    rotate_left
    refine Wl.alloc 4 rfl T.zero104 (fun b8 => ?_)
    refine Wl.on0 ?_
    refine Gm.o1 3 ?_
    refine Wl.k 5 rfl (c179 _ _ _ (by assumption) (by assumption)) (fun v2 G2 Ho2 hle2 hp => ?_)
    obtain ⟨ri2, rfl, hri2, rfl⟩ := hp
    replace hri1 := hri1.up hle2
    replace hx := hx.up hle2
    replace hy := hy.up hle2
    replace hxn := hxn.up hle2
    replace hyn := hyn.up hle2
    refine Wl.on0 ?_
    refine Gm.o1 6 ?_
    refine Wl.ll0 1 [4] ?_
    refine Wl.on0 ?_
    refine Gm.o1 7 ?_
    refine Wl.ll0 1 [3] ?_
    refine Wl.on0 ?_
    refine Gm.fin ?_
    rotate_left
    refine Wl.alloc 4 rfl T.zero104 (fun b8 => ?_)
    refine Wl.on0 ?_
    refine Gm.o1 1 ?_
    refine Wl.k 5 rfl (c179 _ _ _ (by assumption) (by assumption)) (fun v1 G1 Ho1 hle1 hp => ?_)
    obtain ⟨ri1, rfl, hri1, rfl⟩ := hp
    replace hx := hx.up hle1
    replace hy := hy.up hle1
    replace hxn := hxn.up hle1
    replace hyn := hyn.up hle1
    refine Wl.on0 ?_
    refine Gm.o1 3 ?_
    refine Wl.k 5 rfl (c179 _ _ _ (by assumption) (by assumption)) (fun v2 G2 Ho2 hle2 hp => ?_)
    obtain ⟨ri2, rfl, hri2, rfl⟩ := hp
    replace hri1 := hri1.up hle2
    replace hx := hx.up hle2
    replace hy := hy.up hle2
    replace hxn := hxn.up hle2
    replace hyn := hyn.up hle2
    refine Wl.on0 ?_
    refine Gm.o1 6 ?_
    refine Wl.ll0 1 [4] ?_
    refine Wl.on0 ?_
    refine Gm.o1 7 ?_
    refine Wl.ll0 1 [3] ?_
    refine Wl.on0 ?_
    refine Gm.fin ?_
    rotate_left
    all_goals first | (refine Ar.retag 3 60 rfl rfl (Ar.retag 4 61 rfl rfl (Ar.meet (b7, b8, G2, ri1, ri2) ⟨Imm.le_trans hle1 hle2, hri1, hri2⟩ rfl ?_ ?_)) <;> (repeat (first | exact trivial | refine ⟨rfl, ?_⟩)); done) | (refine Ar.retag 4 60 rfl rfl (Ar.retag 3 61 rfl rfl (Ar.meet (b8, b7, G2, ri1, ri2) ⟨Imm.le_trans hle1 hle2, hri1, hri2⟩ rfl ?_ ?_)) <;> (repeat (first | exact trivial | refine ⟨rfl, ?_⟩)); done) | (refine Ar.retag 3 60 rfl rfl (Ar.retag 4 61 rfl rfl (Ar.meet (b8, b7, G2, ri1, ri2) ⟨Imm.le_trans hle1 hle2, hri1, hri2⟩ rfl ?_ ?_)) <;> (repeat (first | exact trivial | refine ⟨rfl, ?_⟩)); done) | (refine Ar.retag 4 60 rfl rfl (Ar.retag 3 61 rfl rfl (Ar.meet (b7, b8, G2, ri1, ri2) ⟨Imm.le_trans hle1 hle2, hri1, hri2⟩ rfl ?_ ?_)) <;> (repeat (first | exact trivial | refine ⟨rfl, ?_⟩)); done)
  obtain ⟨hgx, hra, hrb⟩ := hk
  replace hxn := hxn.up hgx
  replace hyn := hyn.up hgx
  show Wc _ _ _ _ ⟨_, _, _, Gx⟩ _
  refine Wc.seq ?_
  refine Wc.draw [0, 1, 2, 61, 60] [(2, 13)] T.mixed rfl ?_
  refine Gm.c 0 [] [] ?_
  refine Gm.u 1 [0] rfl (Qy.loads 0 T.agg104 rfl rfl rfl rfl) ?_
  refine Gm.c 2 [61] [61] ?_
  refine Gm.c 4 [] [] ?_
  refine Gm.u 5 [1] rfl (Qy.loads 1 T.agg104 rfl rfl rfl rfl) ?_
  refine Gm.c 6 [60] [60] ?_
  refine Gm.c 9 [60] [60] ?_
  refine Gm.c 10 [61] [61] ?_
  refine Gm.o1 3 ?_
  refine Wl.k 62 rfl (v103 _ _ _ _ _ (by assumption) (by assumption) (by assumption) (by assumption)) (fun v1 G1 Ho1 hle1 hp => ?_)
  obtain ⟨ri1, rfl, hri1, rfl⟩ := hp
  replace hra := hra.up hle1
  replace hrb := hrb.up hle1
  replace hxn := hxn.up hle1
  replace hyn := hyn.up hle1
  refine Wl.on0 ?_
  refine Gm.o1 7 ?_
  refine Wl.k 62 rfl (v103 _ _ _ _ _ (by assumption) (by assumption) (by assumption) (by assumption)) (fun v2 G2 Ho2 hle2 hp => ?_)
  obtain ⟨ri2, rfl, hri2, rfl⟩ := hp
  replace hri1 := hri1.up hle2
  replace hra := hra.up hle2
  replace hrb := hrb.up hle2
  replace hxn := hxn.up hle2
  replace hyn := hyn.up hle2
  refine Wl.on0 ?_
  refine Gm.o1 8 ?_
  refine Wl.k 62 rfl (v101 _ _ _ _ _ (by assumption) (by assumption) (by assumption) (by assumption)) (fun v3 G3 Ho3 hle3 hp => ?_)
  obtain ⟨ri3, rfl, hri3, rfl⟩ := hp
  replace hri2 := hri2.up hle3
  replace hri1 := hri1.up hle3
  replace hra := hra.up hle3
  replace hrb := hrb.up hle3
  replace hxn := hxn.up hle3
  replace hyn := hyn.up hle3
  refine Wl.on0 ?_
  refine Gm.o1 11 ?_
  refine Wl.k 62 rfl (v103 _ _ _ _ _ (by assumption) (by assumption) (by assumption) (by assumption)) (fun v4 G4 Ho4 hle4 hp => ?_)
  obtain ⟨ri4, rfl, hri4, rfl⟩ := hp
  replace hri3 := hri3.up hle4
  replace hri2 := hri2.up hle4
  replace hri1 := hri1.up hle4
  replace hra := hra.up hle4
  replace hrb := hrb.up hle4
  replace hxn := hxn.up hle4
  replace hyn := hyn.up hle4
  refine Wl.on0 ?_
  refine Gm.o1 12 ?_
  refine Wl.k 62 rfl (c197 _ _ _ _ _ (by assumption) (by assumption) (by assumption) (by assumption) (by assumption)) (fun v5 G5 Ho5 hle5 hp => ?_)
  obtain ⟨rr5, rfl, hrr5, rfl⟩ := hp
  replace hri4 := hri4.up hle5
  replace hri3 := hri3.up hle5
  replace hri2 := hri2.up hle5
  replace hri1 := hri1.up hle5
  replace hra := hra.up hle5
  replace hrb := hrb.up hle5
  replace hxn := hxn.up hle5
  replace hyn := hyn.up hle5
  refine Wl.on0 ?_
  refine Gm.o1 13 ?_
  refine Wl.ll0 1 [2] ?_
  refine Wl.on0 ?_
  refine Gm.fin ?_
  refine Ar.ga 2 [] ?_
  refine Ar.out1 (.inr rfl) (Ho := Hp.only _ []) rfl (.agg 2 rfl rfl T.agg178) (Hp.sub_only _ _) ?_
  all_goals exact ⟨_, rfl, by assumption, rfl⟩
theorem c167 (G : Imm) (x y : QV) (p q : QZ) (hx : BigQ G x p) (hy : BigQ G y q) (h1 : OkQ 2100 p) (h2 : OkQ 2100 q) :
    Does Tryz.prog 167 [.agg (Cells.enc x).toArray, .agg (Cells.enc y).toArray] G [] (fun v G' Ho => ∃ r : QV, v = .agg (Cells.enc r).toArray ∧ BigQ G' r (subQ p q) ∧ Ho = []) := by
  have h3 : OkQ 2100 (negQ q) := ⟨h2.1.neg, h2.2⟩
  have e3 := h2.1.mono (show 2100 ≤ 100000 by decide)
  refine Does.enter Tryz.func167 rfl Tryz.ntmps167 rfl (fun w => ?_)
  refine Wc.gl 2 [] ?_
  refine Wl.box 0 rfl rfl rfl (fun b1 => ?_)
  refine Wl.box 1 rfl rfl rfl (fun b2 => ?_)
  refine Wl.alloc 2 rfl T.zero178 (fun b3 => ?_)
  refine Wl.gc 3 [] ?_
  refine Wc.draw [0, 1, 2] [(2, 4)] T.mixed rfl ?_
  refine Gm.c 0 [0] [0] ?_
  refine Gm.c 1 [1] [1] ?_
  refine Gm.o1 2 ?_
  refine Wl.k 3 rfl (c163 _ _ _ (by assumption) (by assumption)) (fun v1 G1 Ho1 hle1 hp => ?_)
  obtain ⟨rr1, rfl, hrr1, rfl, rfl⟩ := hp
  replace hx := hx.up hle1
  replace hy := hy.up hle1
  refine Wl.on0 ?_
  refine Gm.o1 3 ?_
  refine Wl.k 3 rfl (c165 _ _ _ _ _ (by assumption) (by assumption) (by assumption) (by assumption)) (fun v2 G2 Ho2 hle2 hp => ?_)
  obtain ⟨rr2, rfl, hrr2, rfl⟩ := hp
  replace hrr1 := hrr1.up hle2
  replace hx := hx.up hle2
  replace hy := hy.up hle2
  refine Wl.on0 ?_
  refine Gm.o1 4 ?_
  refine Wl.ll0 1 [2] ?_
  refine Wl.on0 ?_
  refine Gm.fin ?_
  refine Ar.ga 2 [] ?_
  refine Ar.out1 (.inr rfl) (Ho := Hp.only _ []) rfl (.agg 2 rfl rfl T.agg178) (Hp.sub_only _ _) ?_
  all_goals exact ⟨_, rfl, by assumption, rfl⟩
theorem c169 (G : Imm) (x y : QV) (p q : QZ) (hx : BigQ G x p) (hy : BigQ G y q) (h1 : OkQ 2100 p) (h2 : OkQ 2100 q) :
    Does Tryz.prog 169 [.agg (Cells.enc x).toArray, .agg (Cells.enc y).toArray] G [] (fun v G' Ho => ∃ r : QV, v = .agg (Cells.enc r).toArray ∧ BigQ G' r (mulQ p q) ∧ Ho = []) := by
  have hxn : Big G x.num p.1 := hx.1
  have hyn : Big G y.num q.1 := hy.1
  have a2 := h1.2.1.succ (by decide)
  have b2 := h2.2.1.succ (by decide)
  have c1 := (h1.1.mul h2.1).mono (show 2100 + 2100 ≤ 100000 by decide)
  have d1 := (a2.mul b2).mono (show 2101 + 2101 ≤ 100000 by decide)
  have e1 := h1.1.mono (show 2100 ≤ 100000 by decide)
  have e2 := a2.mono (show 2100 + 1 ≤ 100000 by decide)
  have e3 := h2.1.mono (show 2100 ≤ 100000 by decide)
  have e4 := b2.mono (show 2100 + 1 ≤ 100000 by decide)
  have e7 := h1.2.1.mono (show 2100 ≤ 100000 by decide)
  have e8 := h2.2.1.mono (show 2100 ≤ 100000 by decide)
  have h0 : 0 < (p.2 + 1) * (q.2 + 1) := Int.mul_pos (by have := h1.2.2; omega) (by have := h2.2.2; omega)
  refine Does.enter Tryz.func169 rfl Tryz.ntmps169 rfl (fun w => ?_)
  refine Wc.gl 2 [] ?_
  refine Wl.box 0 rfl rfl rfl (fun b1 => ?_)
  refine Wl.box 1 rfl rfl rfl (fun b3 => ?_)
  refine Wl.alloc 2 rfl T.zero178 (fun b4 => ?_)
  refine Wl.gc 3 [] ?_
  refine Wc.draw [0, 1, 2] [(2, 11)] T.mixed rfl ?_
  refine Gm.c 0 [] [] ?_
  refine Gm.u 1 [0] rfl (Qy.loads 0 T.agg104 rfl rfl rfl rfl) ?_
  refine Gm.c 2 [] [] ?_
  refine Gm.u 3 [1] rfl (Qy.loads 1 T.agg104 rfl rfl rfl rfl) ?_
  refine Gm.c 5 [0] [0] ?_
  refine Gm.c 7 [1] [1] ?_
  refine Gm.o1 4 ?_
  refine Wl.k 3 rfl (v103 _ _ _ _ _ (by assumption) (by assumption) (by assumption) (by assumption)) (fun v1 G1 Ho1 hle1 hp => ?_)
  obtain ⟨ri1, rfl, hri1, rfl⟩ := hp
  replace hx := hx.up hle1
  replace hy := hy.up hle1
  replace hxn := hxn.up hle1
  replace hyn := hyn.up hle1
  refine Wl.on0 ?_
  refine Gm.o1 6 ?_
  refine Wl.k 3 rfl (c179 _ _ _ (by assumption) (by assumption)) (fun v2 G2 Ho2 hle2 hp => ?_)
  obtain ⟨ri2, rfl, hri2, rfl⟩ := hp
  replace hri1 := hri1.up hle2
  replace hx := hx.up hle2
  replace hy := hy.up hle2
  replace hxn := hxn.up hle2
  replace hyn := hyn.up hle2
  refine Wl.on0 ?_
  refine Gm.o1 8 ?_
  refine Wl.k 3 rfl (c179 _ _ _ (by assumption) (by assumption)) (fun v3 G3 Ho3 hle3 hp => ?_)
  obtain ⟨ri3, rfl, hri3, rfl⟩ := hp
  replace hri2 := hri2.up hle3
  replace hri1 := hri1.up hle3
  replace hx := hx.up hle3
  replace hy := hy.up hle3
  replace hxn := hxn.up hle3
  replace hyn := hyn.up hle3
  refine Wl.on0 ?_
  refine Gm.o1 9 ?_
  refine Wl.k 3 rfl (v103 _ _ _ _ _ (by assumption) (by assumption) (by assumption) (by assumption)) (fun v4 G4 Ho4 hle4 hp => ?_)
  obtain ⟨ri4, rfl, hri4, rfl⟩ := hp
  replace hri3 := hri3.up hle4
  replace hri2 := hri2.up hle4
  replace hri1 := hri1.up hle4
  replace hx := hx.up hle4
  replace hy := hy.up hle4
  replace hxn := hxn.up hle4
  replace hyn := hyn.up hle4
  refine Wl.on0 ?_
  refine Gm.o1 10 ?_
  refine Wl.k 3 rfl (c197 _ _ _ _ _ (by assumption) (by assumption) (by assumption) (by assumption) (by assumption)) (fun v5 G5 Ho5 hle5 hp => ?_)
  obtain ⟨rr5, rfl, hrr5, rfl⟩ := hp
  replace hri4 := hri4.up hle5
  replace hri3 := hri3.up hle5
  replace hri2 := hri2.up hle5
  replace hri1 := hri1.up hle5
  replace hx := hx.up hle5
  replace hy := hy.up hle5
  replace hxn := hxn.up hle5
  replace hyn := hyn.up hle5
  refine Wl.on0 ?_
  refine Gm.o1 11 ?_
  refine Wl.ll0 1 [2] ?_
  refine Wl.on0 ?_
  refine Gm.fin ?_
  refine Ar.ga 2 [] ?_
  refine Ar.out1 (.inr rfl) (Ho := Hp.only _ []) rfl (.agg 2 rfl rfl T.agg178) (Hp.sub_only _ _) ?_
  all_goals exact ⟨_, rfl, by assumption, rfl⟩
theorem c198 (G : Imm) (x y : QV) (p q : QZ) (hx : BigQ G x p) (hy : BigQ G y q) (h1 : OkQ 2100 p) (h2 : OkQ 2100 q) (h3 : q.1 ≠ 0) :
    Does Tryz.prog 198 [.agg (Cells.enc x).toArray, .agg (Cells.enc y).toArray] G [] (fun v G' Ho => ∃ r : QV, v = .tuple #[.agg (Cells.enc r).toArray, .int .i64 0] ∧ BigQ G' r (overQ p q) ∧ Ho = []) := by
  have hxn : Big G x.num p.1 := hx.1
  have hyn : Big G y.num q.1 := hy.1
  have a2 := h1.2.1.succ (by decide)
  have b2 := h2.2.1.succ (by decide)
  have c1 := ((h1.1.mono (show 2100 ≤ 2101 by decide)).mul b2).mono (show 2101 + 2101 ≤ 100000 by decide)
  have d1 := (a2.mul (h2.1.mono (show 2100 ≤ 2101 by decide))).mono (show 2101 + 2101 ≤ 100000 by decide)
  have e1 := h1.1.mono (show 2100 ≤ 100000 by decide)
  have e2 := a2.mono (show 2100 + 1 ≤ 100000 by decide)
  have e3 := h2.1.mono (show 2100 ≤ 100000 by decide)
  have e4 := b2.mono (show 2100 + 1 ≤ 100000 by decide)
  have e7 := h1.2.1.mono (show 2100 ≤ 100000 by decide)
  have e8 := h2.2.1.mono (show 2100 ≤ 100000 by decide)
  have h0 : (p.2 + 1) * q.1 ≠ 0 := fun e => by
    rcases Int.mul_eq_zero.1 e with e | e
    · have := h1.2.2; omega
    · exact h3 e
  refine Does.enter Tryz.func198 rfl Tryz.ntmps198 rfl (fun w => ?_)
  refine Wc.gl 2 [] ?_
  refine Wl.box 0 rfl rfl rfl (fun b1 => ?_)
  refine Wl.box 1 rfl rfl rfl (fun b3 => ?_)
  refine Wl.alloc 2 rfl T.zero178 (fun b4 => ?_)
  refine Wl.gc 4 [] ?_
  refine Wc.draw [0, 1, 2] [(2, 13)] T.mixed rfl ?_
  refine Gm.c 0 [] [] ?_
  refine Gm.u 1 [0] rfl (Qy.loads 0 T.agg104 rfl rfl rfl rfl) ?_
  refine Gm.c 2 [1] [1] ?_
  refine Gm.c 5 [0] [0] ?_
  refine Gm.c 7 [] [] ?_
  refine Gm.u 8 [1] rfl (Qy.loads 1 T.agg104 rfl rfl rfl rfl) ?_
  refine Gm.o1 3 ?_
  refine Wl.k 3 rfl (c179 _ _ _ (by assumption) (by assumption)) (fun v1 G1 Ho1 hle1 hp => ?_)
  obtain ⟨ri1, rfl, hri1, rfl⟩ := hp
  replace hx := hx.up hle1
  replace hy := hy.up hle1
  replace hxn := hxn.up hle1
  replace hyn := hyn.up hle1
  refine Wl.on0 ?_
  refine Gm.o1 4 ?_
  refine Wl.k 3 rfl (v103 _ _ _ _ _ (by assumption) (by assumption) (by assumption) (by assumption)) (fun v2 G2 Ho2 hle2 hp => ?_)
  obtain ⟨ri2, rfl, hri2, rfl⟩ := hp
  replace hri1 := hri1.up hle2
  replace hx := hx.up hle2
  replace hy := hy.up hle2
  replace hxn := hxn.up hle2
  replace hyn := hyn.up hle2
  refine Wl.on0 ?_
  refine Gm.o1 6 ?_
  refine Wl.k 3 rfl (c179 _ _ _ (by assumption) (by assumption)) (fun v3 G3 Ho3 hle3 hp => ?_)
  obtain ⟨ri3, rfl, hri3, rfl⟩ := hp
  replace hri2 := hri2.up hle3
  replace hri1 := hri1.up hle3
  replace hx := hx.up hle3
  replace hy := hy.up hle3
  replace hxn := hxn.up hle3
  replace hyn := hyn.up hle3
  refine Wl.on0 ?_
  refine Gm.o1 9 ?_
  refine Wl.k 3 rfl (v103 _ _ _ _ _ (by assumption) (by assumption) (by assumption) (by assumption)) (fun v4 G4 Ho4 hle4 hp => ?_)
  obtain ⟨ri4, rfl, hri4, rfl⟩ := hp
  replace hri3 := hri3.up hle4
  replace hri2 := hri2.up hle4
  replace hri1 := hri1.up hle4
  replace hx := hx.up hle4
  replace hy := hy.up hle4
  replace hxn := hxn.up hle4
  replace hyn := hyn.up hle4
  refine Wl.on0 ?_
  refine Gm.o1 10 ?_
  refine Wl.k 3 rfl (c216 _ _ _ _ _ (by assumption) (by assumption) (by assumption) (by assumption) (by assumption)) (fun v5 G5 Ho5 hle5 hp => ?_)
  obtain ⟨rr5, rfl, hrr5, rfl⟩ := hp
  replace hri4 := hri4.up hle5
  replace hri3 := hri3.up hle5
  replace hri2 := hri2.up hle5
  replace hri1 := hri1.up hle5
  replace hx := hx.up hle5
  replace hy := hy.up hle5
  replace hxn := hxn.up hle5
  replace hyn := hyn.up hle5
  refine Wl.on0 ?_
  refine Gm.c 11 [] [] ?_
  refine Gm.c 12 [] [] ?_
  refine Gm.o1 13 ?_
  refine Wl.ll0 1 [2] ?_
  refine Wl.on0 ?_
  refine Gm.c 14 [] [] ?_
  refine Gm.fin ?_
  refine Ar.ga 2 [] ?_
  refine Ar.out2 (.inr rfl) (Ho := Hp.only _ []) rfl (.agg 2 rfl rfl T.agg178) (.tmp rfl) (Hp.sub_only _ _) ?_
  all_goals exact ⟨_, rfl, by assumption, rfl⟩
theorem c116 (G : Imm) (x y : QV) (p q : QZ) (hx : BigQ G x p) (hy : BigQ G y q) (h1 : OkQ 2100 p) (h2 : OkQ 2100 q) :
    Does Tryz.prog 116 [.agg (Cells.enc x).toArray, .agg (Cells.enc y).toArray] G [] (fun v G' Ho => v = .int .i64 (cmpZ (p.1 * (q.2 + 1)) (q.1 * (p.2 + 1))) ∧ Ho = []) := by
  have hxn : Big G x.num p.1 := hx.1
  have hyn : Big G y.num q.1 := hy.1
  have a2 := h1.2.1.succ (by decide)
  have b2 := h2.2.1.succ (by decide)
  have c1 := ((h1.1.mono (show 2100 ≤ 2101 by decide)).mul b2).mono (show 2101 + 2101 ≤ 100000 by decide)
  have d1 := ((h2.1.mono (show 2100 ≤ 2101 by decide)).mul a2).mono (show 2101 + 2101 ≤ 100000 by decide)
  have e1 := h1.1.mono (show 2100 ≤ 100000 by decide)
  have e2 := a2.mono (show 2100 + 1 ≤ 100000 by decide)
  have e3 := h2.1.mono (show 2100 ≤ 100000 by decide)
  have e4 := b2.mono (show 2100 + 1 ≤ 100000 by decide)
  have e7 := h1.2.1.mono (show 2100 ≤ 100000 by decide)
  have e8 := h2.2.1.mono (show 2100 ≤ 100000 by decide)
  refine Does.enter Tryz.func116 rfl Tryz.ntmps116 rfl (fun w => ?_)
  refine Wc.gl 2 [] ?_
  refine Wl.box 0 rfl rfl rfl (fun b1 => ?_)
  refine Wl.box 1 rfl rfl rfl (fun b3 => ?_)
  refine Wl.gc 4 [] ?_
  refine Wc.draw [0, 1] [] T.mixed rfl ?_
  refine Gm.c 0 [] [] ?_
  refine Gm.u 1 [0] rfl (Qy.loads 0 T.agg104 rfl rfl rfl rfl) ?_
  refine Gm.c 2 [1] [1] ?_
  refine Gm.c 5 [] [] ?_
  refine Gm.u 6 [1] rfl (Qy.loads 1 T.agg104 rfl rfl rfl rfl) ?_
  refine Gm.c 7 [0] [0] ?_
  refine Gm.o1 3 ?_
  refine Wl.k 2 rfl (c179 _ _ _ (by assumption) (by assumption)) (fun v1 G1 Ho1 hle1 hp => ?_)
  obtain ⟨ri1, rfl, hri1, rfl⟩ := hp
  replace hx := hx.up hle1
  replace hy := hy.up hle1
  replace hxn := hxn.up hle1
  replace hyn := hyn.up hle1
  refine Wl.on0 ?_
  refine Gm.o1 4 ?_
  refine Wl.k 2 rfl (v103 _ _ _ _ _ (by assumption) (by assumption) (by assumption) (by assumption)) (fun v2 G2 Ho2 hle2 hp => ?_)
  obtain ⟨ri2, rfl, hri2, rfl⟩ := hp
  replace hri1 := hri1.up hle2
  replace hx := hx.up hle2
  replace hy := hy.up hle2
  replace hxn := hxn.up hle2
  replace hyn := hyn.up hle2
  refine Wl.on0 ?_
  refine Gm.o1 8 ?_
  refine Wl.k 2 rfl (c179 _ _ _ (by assumption) (by assumption)) (fun v3 G3 Ho3 hle3 hp => ?_)
  obtain ⟨ri3, rfl, hri3, rfl⟩ := hp
  replace hri2 := hri2.up hle3
  replace hri1 := hri1.up hle3
  replace hx := hx.up hle3
  replace hy := hy.up hle3
  replace hxn := hxn.up hle3
  replace hyn := hyn.up hle3
  refine Wl.on0 ?_
  refine Gm.o1 9 ?_
  refine Wl.k 2 rfl (v103 _ _ _ _ _ (by assumption) (by assumption) (by assumption) (by assumption)) (fun v4 G4 Ho4 hle4 hp => ?_)
  obtain ⟨ri4, rfl, hri4, rfl⟩ := hp
  replace hri3 := hri3.up hle4
  replace hri2 := hri2.up hle4
  replace hri1 := hri1.up hle4
  replace hx := hx.up hle4
  replace hy := hy.up hle4
  replace hxn := hxn.up hle4
  replace hyn := hyn.up hle4
  refine Wl.on0 ?_
  refine Gm.o1 10 ?_
  refine Wl.k0 rfl (v60 _ _ _ _ _ (by assumption) (by assumption) (by assumption) (by assumption)) ?_
  refine Wl.on0 ?_
  refine Gm.c 11 [] [] ?_
  refine Gm.fin ?_
  refine Ar.ga 2 [] ?_
  refine Ar.e1 ?_
  all_goals exact ⟨rfl, rfl⟩
theorem c171 (G : Imm) (x y : QV) (p q : QZ) (hx : BigQ G x p) (hy : BigQ G y q) (h1 : OkQ 2100 p) (h2 : OkQ 2100 q) (h3 : q.1 ≠ 0) :
    Does Tryz.prog 171 [.agg (Cells.enc x).toArray, .agg (Cells.enc y).toArray] G [] (fun v G' Ho => ∃ r : QV, v = .agg (Cells.enc r).toArray ∧ BigQ G' r (overQ p q) ∧ Ho = []) := by
  refine Does.enter Tryz.func171 rfl Tryz.ntmps171 rfl (fun w => ?_)
  refine Wc.gl 2 [] ?_
  refine Wl.box 0 rfl rfl rfl (fun b1 => ?_)
  refine Wl.box 1 rfl rfl rfl (fun b2 => ?_)
  refine Wl.alloc 2 rfl T.zero178 (fun b3 => ?_)
  refine Wl.gl 6 [0, 1] ?_
  refine Wl.k 3 rfl (c198 _ _ _ _ _ (by assumption) (by assumption) (by assumption) (by assumption) (by assumption)) (fun v1 G1 Ho1 hle1 hp => ?_)
  obtain ⟨rr1, rfl, hrr1, rfl⟩ := hp
  replace hx := hx.up hle1
  replace hy := hy.up hle1
  refine Wl.ll0 3 [] ?_
  refine Wl.alloc 3 rfl T.zero178 (fun b4 => ?_)
  refine Wl.ga 11 [3, 3, 2] ?_
  refine Ar.out1 (.inr rfl) (Ho := Hp.only _ []) rfl (.agg 2 rfl rfl T.agg178) (Hp.sub_only _ _) ?_
  all_goals exact ⟨_, rfl, by assumption, rfl⟩
end Go.Proofs.YtbppmiimeccclaaGreat
set_option maxRecDepth 100000
set_option linter.unusedVariables false
namespace Go.Proofs.YtbppmiimeccclaaGreat
open Go Go.Sl
theorem pb_pow (n : Nat) : pb n = ((2 ^ (32 * n) : Nat) : Int) := by
  unfold pb
  rw [show (4294967296 : Nat) = 2 ^ 32 from rfl, ← Nat.pow_mul]
theorem bits_abs (z : Int) : bitsZ (z.natAbs : Int) = bitsZ z := by
  unfold bitsZ
  rw [Int.natAbs_natCast]
  by_cases h : z = 0
  · rw [if_pos h, if_pos (by omega)]
  · rw [if_neg h, if_neg (by omega)]
theorem bits_top {m : List U32} {n : Nat} (hd : Lims m) (hn : m.length = n + 1) (ht : lg m n ≠ 0) : bitsZ (valB m) = 32 * n + Lib.bitLen (lg m n).toNat := by
  have h1 := valB_take_succ (l := m) (k := n) (by omega)
  rw [show n + 1 = m.length from hn.symm, List.take_length] at h1
  have h1' : valB m = valB (m.take n) + pb n * lg m n := h1
  have h2 := valB_nonneg (hd.take n)
  have h3 := valB_lt (hd.take n)
  rw [List.length_take, Nat.min_eq_left (by omega)] at h3
  have ht2 := lg_lt hd (show n < m.length by omega)
  obtain ⟨t, ht3⟩ : ∃ t : Nat, lg m n = (t : Int) := ⟨(lg m n).toNat, by omega⟩
  rw [ht3] at h1' ht2 ht ⊢
  rw [Int.toNat_natCast]
  have hb := bitAux_bounds 64 t (by omega) (by omega)
  unfold Lib.bitLen
  generalize Lib.bitLenAux 64 t = L at *
  obtain ⟨b1, b2, b3, b4⟩ := hb
  have hp := pb_pow n
  obtain ⟨V, hV⟩ : ∃ V : Nat, valB m = (V : Int) := ⟨(valB m).toNat, by have := valB_nonneg hd; omega⟩
  obtain ⟨R, hR⟩ : ∃ R : Nat, valB (m.take n) = (R : Int) := ⟨(valB (m.take n)).toNat, by omega⟩
  rw [hV, hR, hp] at h1'
  rw [hR, hp] at h3
  have e1 : V = R + 2 ^ (32 * n) * t := by
    have : ((R + 2 ^ (32 * n) * t : Nat) : Int) = (V : Int) := by rw [h1', Int.natCast_add, Int.natCast_mul]
    omega
  have e2 : R < 2 ^ (32 * n) := by omega
  have l1 : 2 ^ (32 * n + (L - 1)) ≤ V := by
    rw [Nat.pow_add, e1]
    exact Nat.le_trans (Nat.mul_le_mul_left _ b3) (Nat.le_add_left _ _)
  have l2 : V < 2 ^ (32 * n + (L - 1) + 1) := by
    rw [show 32 * n + (L - 1) + 1 = 32 * n + L by omega, Nat.pow_add, e1]
    calc R + 2 ^ (32 * n) * t < 2 ^ (32 * n) + 2 ^ (32 * n) * t := by omega
      _ = 2 ^ (32 * n) * (t + 1) := by rw [Nat.mul_add, Nat.mul_one, Nat.add_comm]
      _ ≤ 2 ^ (32 * n) * 2 ^ L := Nat.mul_le_mul_left _ (by omega)
  have hV0 : V ≠ 0 := by
    have := Nat.pow_pos (n := 32 * n + (L - 1)) (show 0 < 2 by decide)
    omega
  have hl : V.log2 = 32 * n + (L - 1) := (Nat.log2_eq_iff hV0).2 ⟨l1, l2⟩
  unfold bitsZ
  rw [hV, if_neg (by omega), Int.natAbs_natCast, hl]
  omega
theorem bits_zero : bitsZ 0 = 0 := rfl
set_option maxHeartbeats 4000000
attribute [local irreducible] valB pb cmpZ lstWp lowQ Lt bitsZ Lib.bitLen
theorem c212 (G : Imm) (x : Int) (h0 : 0 ≤ x) (h1 : x ≤ 4294967295) : Does Tryz.prog 212 [.int .u32 x] G [] (fun v G' Ho => v = .int .i64 (Lib.bitLen x.toNat : Int) ∧ G' = G ∧ Ho = []) :=
  Does.pureCalls fun w => Tryz.bits_Len32 x w h0 h1
theorem c199 (G : Imm) (a : Option Addr) (c : Nat) (l : List U32) (ha : Arr G a l) (hd : Lims l) (h1 : l.length ≤ 1073741824) (hc : l.length ≤ c) :
    Does Tryz.prog 199 [.slice a l.length c] G [] (fun v G' Ho => v = .int .i64 (bitsZ (valB l) : Int) ∧ G' = G ∧ Ho = []) := by
  refine Does.enter Tryz.func199 rfl Tryz.ntmps199 rfl (fun w => ?_)
  refine Wc.gl 8 [] ?_
  refine Wl.k 0 rfl (c161 _ _ _ _ (by assumption) (by omega) (by assumption)) (fun v1 G1 Ho1 hle1 hp => ?_)
  obtain ⟨na1, nm1, rfl, hna1, hne1, hnt1, hnl1, rfl, rfl⟩ := hp
  replace ha := ha.up hle1
  refine Wl.gc 11 [] ?_
  refine Wc.cond rfl (fun hc1 => ?_) (fun hc1 => ?_)
  refine Wc.ga 7 [] ?_
  refine Ar.e1 ?_
  rotate_left
  refine Wc.gl 7 [] ?_
  refine Wl.q rfl (Qy.mul rfl rfl (by omega)) ?_
  refine Wl.ll0 4 [] ?_
  refine Wl.q rfl (Qy.at (α := U32) T.sl76 rfl rfl (by assumption) (by omega)) ?_
  refine Wl.q rfl (Qy.loadG T.one142 rfl (Arr.cell (by assumption) (by omega) 0 rfl rfl)) ?_
  rotate_left
  · have e : valB l = 0 := by
      rw [← trim_val hne1 hnt1, show nm1 = [] from List.eq_nil_of_length_eq_zero (by omega), valB_nil]
    exact ⟨by rw [e, bits_zero]; rfl, rfl, rfl⟩
  · have hdm := trim_lims hne1 hd
    have hlim := hdm.at (m := (nm1.length : Int) - 1) (by omega)
    have hb32 := Lib.bitLen_le (nm1[((nm1.length : Int) - 1).toNat]?.getD default).v.toNat 32 (by omega) (by omega)
    obtain ⟨n, hn⟩ : ∃ n, nm1.length = n + 1 := ⟨nm1.length - 1, by omega⟩
    have hv := trim_val hne1 hnt1
    have htop : lg nm1 n ≠ 0 := by
      rcases hnt1.2.2 with h | h
      · omega
      · unfold lg
        rw [Int.toNat_natCast]
        have e1 : nm1.length - 1 = n := by omega
        rw [e1] at h
        rw [hne1, List.getElem?_take_of_lt (by omega)]
        exact h
    have hbits := bits_top hdm hn htop
    have elg : (nm1[((nm1.length : Int) - 1).toNat]?.getD default).v = lg nm1 n := by
      unfold lg
      rw [show ((nm1.length : Int) - 1) = ((n : Nat) : Int) by omega]
    refine Wl.k 0 rfl (c212 _ _ hlim.1 (by omega)) (fun v1 G2 Ho1 hle2 hp => ?_)
    obtain ⟨rfl, rfl, rfl⟩ := hp
    rw [elg] at hb32 ⊢
    refine Wl.ga 5 [] ?_
    refine Ar.e1 ?_
    refine ⟨?_, rfl, rfl⟩
    rw [← hv, hbits]
    congr 1
    rw [Int.natCast_add, Int.natCast_mul]
    omega
theorem c178 (G : Imm) (x : IV) (z : Int) (hx : Big G x z) (h1 : Lt 100000 z) :
    Does Tryz.prog 178 [.agg (Cells.enc x).toArray] G [] (fun v G' Ho => v = .int .i64 (bitsZ z : Int) ∧ G' = G ∧ Ho = []) := by
  have hn := h1.n hx
  obtain ⟨neg, a, n, c⟩ := x
  obtain ⟨l, rfl, hlc, hA, hI⟩ := hx
  have hd := hI.digs
  have h2 : l.length ≤ 1073741824 := Nat.le_trans hn (by decide)
  have hlc' : l.length ≤ c := hlc
  have hA' : Arr G a l := hA
  have hv := hI.abs
  show Does Tryz.prog 178 [.agg #[.bool neg, .slice a l.length c]] G [] _
  refine Does.enter Tryz.func178 rfl Tryz.ntmps178 rfl (fun w => ?_)
  refine Wc.gl 2 [] ?_
  refine Wl.box 0 rfl rfl rfl (fun b1 => ?_)
  refine Wl.gl 7 [0] ?_
  refine Wl.k0 rfl (c199 _ _ _ _ (by assumption) (by assumption) (by assumption) (by assumption)) ?_
  refine Wl.ga 4 [] ?_
  refine Ar.e1 ?_
  exact ⟨by rw [hv, bits_abs], rfl, rfl⟩
/-- not wide: of so many limbs -/
theorem bits_lt {z : Int} {m : Nat} (h : ¬ 32 * m < bitsZ z) : Lt m z := by
  unfold Lt
  rw [pb_pow]
  unfold bitsZ at h
  by_cases h0 : z = 0
  · subst h0; exact Int.ofNat_lt.2 (Nat.pow_pos (by decide))
  · rw [if_neg h0] at h
    have h1 : z.natAbs ≠ 0 := by omega
    have h2 : z.natAbs < 2 ^ (z.natAbs.log2 + 1) := (Nat.log2_lt h1).1 (by omega)
    have h3 : 2 ^ (z.natAbs.log2 + 1) ≤ 2 ^ (32 * m) := Nat.pow_le_pow_right (by decide) (by omega)
    exact Int.ofNat_lt.2 (Nat.lt_of_lt_of_le h2 h3)
theorem wide_ok {q : QZ} (h : wideQ q = false) (h0 : 0 ≤ q.2) : OkQ 2100 q := by
  unfold wideQ at h
  rw [Bool.or_eq_false_iff] at h
  have h1 := bits_lt (m := 2048) (by have := of_decide_eq_false h.1; omega)
  have h2 := bits_lt (m := 2048) (by have := of_decide_eq_false h.2; omega)
  exact ⟨h1.mono (by decide), Lt.mono (Lt.le h2 (by omega)) (by decide), h0⟩
theorem c111 (G : Imm) (x : QV) (q : QZ) (hx : BigQ G x q) (h1 : Lt 99999 q.1) (h2 : Lt 99999 q.2) :
    Does Tryz.prog 111 [.agg (Cells.enc x).toArray] G [] (fun v G' Ho => v = .bool (wideQ q) ∧ Ho = []) := by
  have hn : Big G x.num q.1 := hx.1
  have h3 : Lt 100000 q.1 := h1.mono (by decide)
  have h4 : Lt 100000 q.2 := h2.mono (by decide)
  have h5 : Lt 100000 (q.2 + 1) := h2.succ (by decide)
  refine Does.enter Tryz.func111 rfl Tryz.ntmps111 rfl (fun w => ?_)
  by_cases hw : (65536 : Int) < (bitsZ q.1 : Int)
  · have e : wideQ q = true := by unfold wideQ; rw [decide_eq_true (show 65536 < bitsZ q.1 by omega)]; rfl
    refine Wc.gl 2 [] ?_
    refine Wl.box 0 rfl rfl rfl (fun b1 => ?_)
    refine Wl.gl 6 [0] ?_
    refine Wl.k0 rfl (c177 _ _) ?_
    refine Wl.k0 rfl (c178 _ _ _ (by assumption) (by assumption)) ?_
    refine Wl.ll0 2 [] ?_
    refine Wl.yes 7 rfl (by first | assumption | omega) ?_
    refine Wl.ga 9 [] ?_
    refine Ar.e1 ?_
    all_goals exact ⟨by rw [e], rfl⟩
  · have e : wideQ q = decide ((65536 : Int) < (bitsZ (q.2 + 1) : Int)) := by
      unfold wideQ
      rw [decide_eq_false (show ¬ 65536 < bitsZ q.1 by omega), Bool.false_or]
      exact decide_eq_decide.2 (by omega)
    refine Wc.gl 2 [] ?_
    refine Wl.box 0 rfl rfl rfl (fun b1 => ?_)
    refine Wl.gl 6 [0] ?_
    refine Wl.k0 rfl (c177 _ _) ?_
    refine Wl.k0 rfl (c178 _ _ _ (by assumption) (by assumption)) ?_
    refine Wl.ll0 2 [] ?_
    refine Wl.no 7 rfl (by first | assumption | omega) ?_
    refine Wl.ll0 3 [0] ?_
    refine Wl.k 1 rfl (c179 _ _ _ (by assumption) (by assumption)) (fun v1 G1 Ho1 hle1 hp => ?_)
    obtain ⟨ri1, rfl, hri1, rfl⟩ := hp
    replace hx := hx.up hle1
    replace hn := hn.up hle1
    refine Wl.ll0 1 [] ?_
    refine Wl.k0 rfl (c178 _ _ _ (by assumption) (by assumption)) ?_
    refine Wl.ga 7 [] ?_
    refine Ar.e1 ?_
    all_goals exact ⟨by rw [e], rfl⟩
end Go.Proofs.YtbppmiimeccclaaGreat
set_option maxRecDepth 100000
set_option linter.unusedVariables false
namespace Go.Proofs.YtbppmiimeccclaaGreat
open Go Go.Sl
set_option maxHeartbeats 4000000
theorem low_pos {n d : Int} (h : 0 < d) : 0 ≤ (lowQ n d).2 := by
  show 0 ≤ d / (Int.gcd n d : Int) - 1
  have h1 : (Int.gcd n d : Int) ∣ d := Int.gcd_dvd_right _ _
  obtain ⟨k, hk⟩ := h1
  have h2 : 0 ≤ (Int.gcd n d : Int) := Int.natCast_nonneg _
  have h0 : (Int.gcd n d : Int) ≠ 0 := fun e => by rw [e, Int.zero_mul] at hk; omega
  have h3 : 0 < k := by
    rcases Int.lt_or_le 0 k with hp | hn
    · exact hp
    · have := Int.mul_nonpos_of_nonneg_of_nonpos h2 hn
      omega
  have h4 : d / (Int.gcd n d : Int) = k := Int.ediv_eq_of_eq_mul_right h0 hk
  omega
theorem make_pos {n d : Int} : 0 ≤ (makeQ n d).2 := by
  unfold makeQ
  split
  · exact Int.le_refl _
  · split
    · exact low_pos (by omega)
    · exact low_pos (by omega)
theorem do_pos {i : Sl.Instr} {a b : QZ} (ha : 0 ≤ a.2) (hb : 0 ≤ b.2) : 0 ≤ (doQ i a b).2 := by
  have hc : ∀ z, 0 ≤ (wholeQ z).2 := fun z => Int.le_refl _
  have hp : ∀ x y : QZ, 0 ≤ x.2 → 0 ≤ y.2 → 0 < (x.2 + 1) * (y.2 + 1) := fun x y h1 h2 => Int.mul_pos (by omega) (by omega)
  unfold doQ
  split
  · exact ha
  · split
    · exact low_pos (hp _ _ ha hb)
    · split
      · exact low_pos (hp _ _ ha hb)
      · split
        · exact low_pos (hp _ _ ha (hc _))
        · split
          · exact make_pos
          · exact ha
theorem whole_ok {z : Int} (h : Lt 2100 z) : OkQ 2100 (wholeQ z) := ⟨h, Lt.mono (m := 0) (show ((0 : Int).natAbs : Int) < pb 0 by decide) (by decide), Int.le_refl _⟩
attribute [local irreducible] valB pb cmpZ lstWp lowQ Lt bitsZ p2 cst
/-- a function that does an instruction, at one place -/
def OpFn (G : Imm) (v : Value) (i : Sl.Instr) : Prop := ∃ (f : Nat) (caps : List Value), v = .func (.func f) #[] caps.toArray ∧ isFn Tryz.prog f ∧ ∀ (G' : Imm) (a b : QV) (p q : QZ), G.le G' → BigQ G' a p → BigQ G' b q → OkQ 2100 p → OkQ 2100 q →
  Does Tryz.prog f ([] ++ [.agg (Cells.enc a).toArray, .agg (Cells.enc b).toArray] ++ caps) G' [] (fun v G'' Ho => ∃ r : QV, v = .agg (Cells.enc r).toArray ∧ BigQ G'' r (doQ i p q) ∧ Ho = [])
theorem OpFn.up {G G' : Imm} {v : Value} {i : Sl.Instr} (h : OpFn G v i) (hl : G.le G') : OpFn G' v i := by
  obtain ⟨f, caps, h1, h2, h3⟩ := h
  exact ⟨f, caps, h1, h2, fun G'' a b p q hg => h3 G'' a b p q (Imm.le_trans hl hg)⟩
theorem c191p (G : Imm) (x : IV) (n : Nat) (hx : Big G x 1) (hn : n ≤ 64) :
    Does Tryz.prog 191 [.agg (Cells.enc x).toArray, .int .i64 (n : Int)] G [] (fun v G' Ho => ∃ r : IV, v = .tuple #[.agg (Cells.enc r).toArray, .int .i64 0] ∧ Big G' r (p2 n) ∧ Ho = []) := by
  have h := c191 G x 1 (n / 32) (n % 32) hx (Nat.le_trans (Big.len hx one_lt) (by decide)) (Nat.mod_lt _ (by decide)) (by omega)
  rw [Nat.div_add_mod] at h
  exact h.mono fun v G' Ho _ ⟨r, e1, e2, e3⟩ => ⟨r, e1, Big.out e2 (by rw [Int.one_mul, p2_def]), e3⟩
theorem c173 (G : Imm) (n : Nat) (hn : n ≤ 64) :
    Does Tryz.prog 173 [.int .i64 (n : Int)] G [] (fun v G' Ho => ∃ r : QV, v = .agg (Cells.enc r).toArray ∧ BigQ G' r (wholeQ (p2 n)) ∧ Ho = []) := by
  refine Does.enter Tryz.func173 rfl Tryz.ntmps173 rfl (fun w => ?_)
  refine Wc.gl 2 [] ?_
  refine Wl.alloc 0 rfl T.zero178 (fun b1 => ?_)
  refine Wl.gl 4 [] ?_
  refine Wl.k 1 rfl (c57 _ _ (by decide)) (fun v1 G1 Ho1 hle1 hp => ?_)
  obtain ⟨ri1, rfl, hri1, rfl⟩ := hp
  refine Wl.ll0 1 [] ?_
  refine Wl.k 1 rfl (c191p _ _ _ (by assumption) (by assumption)) (fun v2 G2 Ho2 hle2 hp => ?_)
  obtain ⟨ri2, rfl, hri2, rfl⟩ := hp
  replace hri1 := hri1.up hle2
  refine Wl.ll0 3 [] ?_
  refine Wl.alloc 1 rfl T.zero104 (fun b2 => ?_)
  refine Wl.gl 7 [1, 1] ?_
  refine Wl.k 2 rfl (c112 _ _ _ (by assumption)) (fun v3 G3 Ho3 hle3 hp => ?_)
  obtain ⟨rr3, rfl, hrr3, rfl, rfl⟩ := hp
  replace hri2 := hri2.up hle3
  replace hri1 := hri1.up hle3
  refine Wl.ga 4 [0] ?_
  refine Ar.out1 (.inr rfl) (Ho := Hp.only _ []) rfl (.agg 0 rfl rfl T.agg178) (Hp.sub_only _ _) ?_
  exact ⟨_, rfl, by assumption, rfl⟩
theorem c162 (G : Imm) (a b : QV) (p q : QZ) (ha : BigQ G a p) (h1 : OkQ 2100 p) : Does Tryz.prog 162 [.agg (Cells.enc a).toArray, .agg (Cells.enc b).toArray] G [] (fun v G' Ho => ∃ r : QV, v = .agg (Cells.enc r).toArray ∧ BigQ G' r (negQ p) ∧ Ho = []) := by
  have e := h1.1.mono (show 2100 ≤ 100000 by decide)
  refine Does.enter Tryz.func162 rfl Tryz.ntmps162 rfl (fun w => ?_)
  refine Wc.gl 2 [] ?_
  refine Wl.box 0 rfl rfl rfl (fun b1 => ?_)
  refine Wl.box 1 rfl rfl rfl (fun b2 => ?_)
  refine Wl.alloc 2 rfl T.zero178 (fun b3 => ?_)
  refine Wl.gl 5 [0] ?_
  refine Wl.k 3 rfl (c163 _ _ _ (by assumption) (by assumption)) (fun v1 G1 Ho1 hle1 hp => ?_)
  obtain ⟨rr1, rfl, hrr1, rfl, rfl⟩ := hp
  replace ha := ha.up hle1
  refine Wl.ga 4 [2] ?_
  refine Ar.out1 (.inr rfl) (Ho := Hp.only _ []) rfl (.agg 2 rfl rfl T.agg178) (Hp.sub_only _ _) ?_
  all_goals exact ⟨_, rfl, by assumption, rfl⟩
theorem c164 (G : Imm) (a b : QV) (p q : QZ) (ha : BigQ G a p) (hb : BigQ G b q) (h1 : OkQ 2100 p) (h2 : OkQ 2100 q) : Does Tryz.prog 164 [.agg (Cells.enc a).toArray, .agg (Cells.enc b).toArray] G [] (fun v G' Ho => ∃ r : QV, v = .agg (Cells.enc r).toArray ∧ BigQ G' r (addQ p q) ∧ Ho = []) := by
  refine Does.enter Tryz.func164 rfl Tryz.ntmps164 rfl (fun w => ?_)
  refine Wc.gl 2 [] ?_
  refine Wl.box 0 rfl rfl rfl (fun b1 => ?_)
  refine Wl.box 1 rfl rfl rfl (fun b2 => ?_)
  refine Wl.alloc 2 rfl T.zero178 (fun b3 => ?_)
  refine Wl.gl 6 [0, 1] ?_
  refine Wl.k 3 rfl (c165 _ _ _ _ _ (by assumption) (by assumption) (by assumption) (by assumption)) (fun v1 G1 Ho1 hle1 hp => ?_)
  obtain ⟨rr1, rfl, hrr1, rfl⟩ := hp
  replace ha := ha.up hle1
  replace hb := hb.up hle1
  refine Wl.ga 4 [2] ?_
  refine Ar.out1 (.inr rfl) (Ho := Hp.only _ []) rfl (.agg 2 rfl rfl T.agg178) (Hp.sub_only _ _) ?_
  all_goals exact ⟨_, rfl, by assumption, rfl⟩
theorem c166 (G : Imm) (a b : QV) (p q : QZ) (ha : BigQ G a p) (hb : BigQ G b q) (h1 : OkQ 2100 p) (h2 : OkQ 2100 q) : Does Tryz.prog 166 [.agg (Cells.enc a).toArray, .agg (Cells.enc b).toArray] G [] (fun v G' Ho => ∃ r : QV, v = .agg (Cells.enc r).toArray ∧ BigQ G' r (subQ p q) ∧ Ho = []) := by
  refine Does.enter Tryz.func166 rfl Tryz.ntmps166 rfl (fun w => ?_)
  refine Wc.gl 2 [] ?_
  refine Wl.box 0 rfl rfl rfl (fun b1 => ?_)
  refine Wl.box 1 rfl rfl rfl (fun b2 => ?_)
  refine Wl.alloc 2 rfl T.zero178 (fun b3 => ?_)
  refine Wl.gl 6 [0, 1] ?_
  refine Wl.k 3 rfl (c167 _ _ _ _ _ (by assumption) (by assumption) (by assumption) (by assumption)) (fun v1 G1 Ho1 hle1 hp => ?_)
  obtain ⟨rr1, rfl, hrr1, rfl⟩ := hp
  replace ha := ha.up hle1
  replace hb := hb.up hle1
  refine Wl.ga 4 [2] ?_
  refine Ar.out1 (.inr rfl) (Ho := Hp.only _ []) rfl (.agg 2 rfl rfl T.agg178) (Hp.sub_only _ _) ?_
  all_goals exact ⟨_, rfl, by assumption, rfl⟩
theorem c175 (G : Imm) (a b : QV) (p : QZ) (ha : BigQ G a p) : Does Tryz.prog 175 [.agg (Cells.enc a).toArray, .agg (Cells.enc b).toArray] G [] (fun v G' Ho => ∃ r : QV, v = .agg (Cells.enc r).toArray ∧ BigQ G' r p ∧ Ho = []) := by
  refine Does.enter Tryz.func175 rfl Tryz.ntmps175 rfl (fun w => ?_)
  refine Wc.gl 2 [] ?_
  refine Wl.box 0 rfl rfl rfl (fun b1 => ?_)
  refine Wl.box 1 rfl rfl rfl (fun b2 => ?_)
  refine Wl.alloc 2 rfl T.zero178 (fun b3 => ?_)
  refine Wl.ga 9 [0, 2] ?_
  refine Ar.out1 (.inr rfl) (Ho := Hp.only _ []) rfl (.agg 2 rfl rfl T.agg178) (Hp.sub_only _ _) ?_
  all_goals exact ⟨_, rfl, by assumption, rfl⟩
theorem c168 (G : Imm) (a b c : QV) (p z : QZ) (bc : Nat) (hc : G bc = some (.cells (Cells.enc c).toArray 178)) (hz : BigQ G c z) (ha : BigQ G a p) (h1 : OkQ 2100 p) (h2 : OkQ 2100 z) : Does Tryz.prog 168 [.agg (Cells.enc a).toArray, .agg (Cells.enc b).toArray, .pointer (some ⟨bc, 0, none⟩)] G [] (fun v G' Ho => ∃ r : QV, v = .agg (Cells.enc r).toArray ∧ BigQ G' r (mulQ p z) ∧ Ho = []) := by
  have hr : G.row bc 0 (Cells.enc c) := row_all hc
  refine Does.enter Tryz.func168 rfl Tryz.ntmps168 rfl (fun w => ?_)
  refine Wc.gl 2 [] ?_
  refine Wl.box 0 rfl rfl rfl (fun b1 => ?_)
  refine Wl.box 1 rfl rfl rfl (fun b2 => ?_)
  refine Wl.alloc 2 rfl T.zero178 (fun b3 => ?_)
  refine Wl.gl 5 [0] ?_
  refine Wl.q rfl (Qy.loadsG T.agg178 rfl (by assumption) rfl) ?_
  refine Wl.k 3 rfl (c169 _ _ _ _ _ (by assumption) (by assumption) (by assumption) (by assumption)) (fun v1 G1 Ho1 hle1 hp => ?_)
  obtain ⟨rr1, rfl, hrr1, rfl⟩ := hp
  replace hz := hz.up hle1
  replace ha := ha.up hle1
  refine Wl.ga 4 [2] ?_
  refine Ar.out1 (.inr rfl) (Ho := Hp.only _ []) rfl (.agg 2 rfl rfl T.agg178) (Hp.sub_only _ _) ?_
  all_goals exact ⟨_, rfl, by assumption, rfl⟩
theorem c170 (G : Imm) (a b c : QV) (p z : QZ) (bc : Nat) (hc : G bc = some (.cells (Cells.enc c).toArray 178)) (hz : BigQ G c z) (ha : BigQ G a p) (h1 : OkQ 2100 p) (h2 : OkQ 2100 z) (h3 : z.1 ≠ 0) : Does Tryz.prog 170 [.agg (Cells.enc a).toArray, .agg (Cells.enc b).toArray, .pointer (some ⟨bc, 0, none⟩)] G [] (fun v G' Ho => ∃ r : QV, v = .agg (Cells.enc r).toArray ∧ BigQ G' r (overQ p z) ∧ Ho = []) := by
  have hr : G.row bc 0 (Cells.enc c) := row_all hc
  refine Does.enter Tryz.func170 rfl Tryz.ntmps170 rfl (fun w => ?_)
  refine Wc.gl 2 [] ?_
  refine Wl.box 0 rfl rfl rfl (fun b1 => ?_)
  refine Wl.box 1 rfl rfl rfl (fun b2 => ?_)
  refine Wl.alloc 2 rfl T.zero178 (fun b3 => ?_)
  refine Wl.gl 5 [0] ?_
  refine Wl.q rfl (Qy.loadsG T.agg178 rfl (by assumption) rfl) ?_
  refine Wl.k 3 rfl (c171 _ _ _ _ _ (by assumption) (by assumption) (by assumption) (by assumption) (by assumption)) (fun v1 G1 Ho1 hle1 hp => ?_)
  obtain ⟨rr1, rfl, hrr1, rfl⟩ := hp
  replace hz := hz.up hle1
  replace ha := ha.up hle1
  refine Wl.ga 4 [2] ?_
  refine Ar.out1 (.inr rfl) (Ho := Hp.only _ []) rfl (.agg 2 rfl rfl T.agg178) (Hp.sub_only _ _) ?_
  all_goals exact ⟨_, rfl, by assumption, rfl⟩
theorem c172 (G : Imm) (a b : QV) (p : QZ) (i : Sl.Instr) (n : Nat) (bi : Nat) (hc : G bi = some (.cells (Cells.enc i).toArray 93)) (hi : i.c = (n : Int)) (hn : n ≤ 64) (ha : BigQ G a p) (h1 : OkQ 2100 p) (h2 : OkQ 2100 (wholeQ (p2 n))) : Does Tryz.prog 172 [.agg (Cells.enc a).toArray, .agg (Cells.enc b).toArray, .pointer (some ⟨bi, 0, none⟩)] G [] (fun v G' Ho => ∃ r : QV, v = .agg (Cells.enc r).toArray ∧ BigQ G' r (mulQ p (wholeQ (p2 n))) ∧ Ho = []) := by
  have hr : G.cell bi (0 + 4) = some (.int .i64 (n : Int)) := cell_oneZ hc 4 (by rw [← hi]; rfl)
  refine Does.enter Tryz.func172 rfl Tryz.ntmps172 rfl (fun w => ?_)
  refine Wc.gl 2 [] ?_
  refine Wl.box 0 rfl rfl rfl (fun b1 => ?_)
  refine Wl.box 1 rfl rfl rfl (fun b2 => ?_)
  refine Wl.alloc 2 rfl T.zero178 (fun b3 => ?_)
  refine Wl.gc 3 [] ?_
  refine Wc.draw [0, 1, 2] [(2, 5)] T.mixed rfl ?_
  refine Gm.c 0 [0] [0] ?_
  refine Gm.c 1 [] [] ?_
  refine Gm.u 2 [] rfl (Qy.loadG T.one3 rfl (by assumption)) ?_
  refine Gm.o1 3 ?_
  refine Wl.k 3 rfl (c173 _ _ (by omega)) (fun v1 G1 Ho1 hle1 hp => ?_)
  obtain ⟨rr1, rfl, hrr1, rfl⟩ := hp
  replace ha := ha.up hle1
  refine Wl.on0 ?_
  refine Gm.o1 4 ?_
  refine Wl.k 3 rfl (c169 _ _ _ _ _ (by assumption) (by assumption) (by assumption) (by assumption)) (fun v2 G2 Ho2 hle2 hp => ?_)
  obtain ⟨rr2, rfl, hrr2, rfl⟩ := hp
  replace hrr1 := hrr1.up hle2
  replace ha := ha.up hle2
  refine Wl.on0 ?_
  refine Gm.o1 5 ?_
  refine Wl.ll0 1 [2] ?_
  refine Wl.on0 ?_
  refine Gm.fin ?_
  refine Ar.ga 2 [] ?_
  refine Ar.out1 (.inr rfl) (Ho := Hp.only _ []) rfl (.agg 2 rfl rfl T.agg178) (Hp.sub_only _ _) ?_
  all_goals exact ⟨_, rfl, by assumption, rfl⟩
theorem c174 (G : Imm) (a b : QV) (p : QZ) (i : Sl.Instr) (n : Nat) (bi : Nat) (hc : G bi = some (.cells (Cells.enc i).toArray 93)) (hi : i.c = (n : Int)) (hn : n ≤ 64) (ha : BigQ G a p) (h1 : OkQ 2100 p) (h2 : OkQ 2100 (wholeQ (p2 n))) (h3 : (wholeQ (p2 n)).1 ≠ 0) : Does Tryz.prog 174 [.agg (Cells.enc a).toArray, .agg (Cells.enc b).toArray, .pointer (some ⟨bi, 0, none⟩)] G [] (fun v G' Ho => ∃ r : QV, v = .agg (Cells.enc r).toArray ∧ BigQ G' r (overQ p (wholeQ (p2 n))) ∧ Ho = []) := by
  have hr : G.cell bi (0 + 4) = some (.int .i64 (n : Int)) := cell_oneZ hc 4 (by rw [← hi]; rfl)
  refine Does.enter Tryz.func174 rfl Tryz.ntmps174 rfl (fun w => ?_)
  refine Wc.gl 2 [] ?_
  refine Wl.box 0 rfl rfl rfl (fun b1 => ?_)
  refine Wl.box 1 rfl rfl rfl (fun b2 => ?_)
  refine Wl.alloc 2 rfl T.zero178 (fun b3 => ?_)
  refine Wl.gc 3 [] ?_
  refine Wc.draw [0, 1, 2] [(2, 5)] T.mixed rfl ?_
  refine Gm.c 0 [0] [0] ?_
  refine Gm.c 1 [] [] ?_
  refine Gm.u 2 [] rfl (Qy.loadG T.one3 rfl (by assumption)) ?_
  refine Gm.o1 3 ?_
  refine Wl.k 3 rfl (c173 _ _ (by omega)) (fun v1 G1 Ho1 hle1 hp => ?_)
  obtain ⟨rr1, rfl, hrr1, rfl⟩ := hp
  replace ha := ha.up hle1
  refine Wl.on0 ?_
  refine Gm.o1 4 ?_
  refine Wl.k 3 rfl (c171 _ _ _ _ _ (by assumption) (by assumption) (by assumption) (by assumption) (by assumption)) (fun v2 G2 Ho2 hle2 hp => ?_)
  obtain ⟨rr2, rfl, hrr2, rfl⟩ := hp
  replace hrr1 := hrr1.up hle2
  replace ha := ha.up hle2
  refine Wl.on0 ?_
  refine Gm.o1 5 ?_
  refine Wl.ll0 1 [2] ?_
  refine Wl.on0 ?_
  refine Gm.fin ?_
  refine Ar.ga 2 [] ?_
  refine Ar.out1 (.inr rfl) (Ho := Hp.only _ []) rfl (.agg 2 rfl rfl T.agg178) (Hp.sub_only _ _) ?_
  all_goals exact ⟨_, rfl, by assumption, rfl⟩
theorem c109 (G : Imm) (i : Sl.Instr) (hop : 1 ≤ i.op ∧ i.op ≤ 8) (hcc : -9223372036854775808 ≤ i.c ∧ i.c ≤ 9223372036854775807) (hk : i.op = 5 ∨ i.op = 6 ∨ i.op = 7 ∨ i.op = 8 → Lt 2100 (cst i) ∧ cst i ≠ 0) (h78 : i.op = 7 ∨ i.op = 8 → 0 ≤ i.c ∧ i.c ≤ 64) :
    Does Tryz.prog 109 [.agg (Cells.enc i).toArray] G [] (fun v G' Ho => OpFn G' v i ∧ Ho = []) := by
  refine Does.enter Tryz.func109 rfl Tryz.ntmps109 rfl (fun w => ?_)
  by_cases h2 : i.op = 2
  · refine Wc.gl 2 [] ?_
    refine Wl.box 0 rfl rfl rfl (fun b1 => ?_)
    refine Wl.gl 7 [0] ?_
    refine Wl.k 1 rfl (c57 _ _ hcc) (fun v1 G1 Ho1 hle1 hp => ?_)
    obtain ⟨ri1, rfl, hri1, rfl⟩ := hp
    refine Wl.k 1 rfl (c112 _ _ _ (by assumption)) (fun v2 G2 Ho2 hle2 hp => ?_)
    obtain ⟨rr2, rfl, hrr2, rfl, rfl⟩ := hp
    replace hri1 := hri1.up hle2
    refine Wl.alloc 1 rfl T.zero178 (fun b2 => ?_)
    refine Wl.ga 26 [1, 0, 1] ?_
    refine Ar.e1 ?_
    exact ⟨⟨162, [], rfl, T.fn162, fun G' a b p q hg ha hb h1 h2' => (c162 G' a b p q ha h1).mono fun v G'' Ho _ ⟨r, e1, e2, e3⟩ => ⟨r, e1, by unfold doQ; rw [if_pos h2]; exact e2, e3⟩⟩, rfl⟩
  by_cases h3 : i.op = 3
  · refine Wc.gl 2 [] ?_
    refine Wl.box 0 rfl rfl rfl (fun b1 => ?_)
    refine Wl.gl 7 [0] ?_
    refine Wl.k 1 rfl (c57 _ _ hcc) (fun v1 G1 Ho1 hle1 hp => ?_)
    obtain ⟨ri1, rfl, hri1, rfl⟩ := hp
    refine Wl.k 1 rfl (c112 _ _ _ (by assumption)) (fun v2 G2 Ho2 hle2 hp => ?_)
    obtain ⟨rr2, rfl, hrr2, rfl, rfl⟩ := hp
    replace hri1 := hri1.up hle2
    refine Wl.alloc 1 rfl T.zero178 (fun b2 => ?_)
    refine Wl.ga 33 [1, 0, 0, 1] ?_
    refine Ar.e1 ?_
    exact ⟨⟨164, [], rfl, T.fn164, fun G' a b p q hg ha hb h1 h2' => (c164 G' a b p q ha hb h1 h2').mono fun v G'' Ho _ ⟨r, e1, e2, e3⟩ => ⟨r, e1, by unfold doQ; rw [if_neg h2, if_pos h3]; exact e2, e3⟩⟩, rfl⟩
  by_cases h4 : i.op = 4
  · refine Wc.gl 2 [] ?_
    refine Wl.box 0 rfl rfl rfl (fun b1 => ?_)
    refine Wl.gl 7 [0] ?_
    refine Wl.k 1 rfl (c57 _ _ hcc) (fun v1 G1 Ho1 hle1 hp => ?_)
    obtain ⟨ri1, rfl, hri1, rfl⟩ := hp
    refine Wl.k 1 rfl (c112 _ _ _ (by assumption)) (fun v2 G2 Ho2 hle2 hp => ?_)
    obtain ⟨rr2, rfl, hrr2, rfl, rfl⟩ := hp
    replace hri1 := hri1.up hle2
    refine Wl.alloc 1 rfl T.zero178 (fun b2 => ?_)
    refine Wl.ga 40 [1, 0, 0, 0, 1] ?_
    refine Ar.e1 ?_
    exact ⟨⟨166, [], rfl, T.fn166, fun G' a b p q hg ha hb h1 h2' => (c166 G' a b p q ha hb h1 h2').mono fun v G'' Ho _ ⟨r, e1, e2, e3⟩ => ⟨r, e1, by unfold doQ; rw [if_neg h2, if_neg h3, if_pos h4]; exact e2, e3⟩⟩, rfl⟩
  by_cases h1 : i.op = 1
  · refine Wc.gl 2 [] ?_
    refine Wl.box 0 rfl rfl rfl (fun b1 => ?_)
    refine Wl.gl 7 [0] ?_
    refine Wl.k 1 rfl (c57 _ _ hcc) (fun v1 G1 Ho1 hle1 hp => ?_)
    obtain ⟨ri1, rfl, hri1, rfl⟩ := hp
    refine Wl.k 1 rfl (c112 _ _ _ (by assumption)) (fun v2 G2 Ho2 hle2 hp => ?_)
    obtain ⟨rr2, rfl, hrr2, rfl, rfl⟩ := hp
    replace hri1 := hri1.up hle2
    refine Wl.alloc 1 rfl T.zero178 (fun b2 => ?_)
    refine Wl.ga 69 [1, 0, 0, 0, 0, 0, 0, 0, 0] ?_
    refine Ar.e1 ?_
    exact ⟨⟨175, [], rfl, T.fn175, fun G' a b p q hg ha hb h1' h2' => (c175 G' a b p ha).mono fun v G'' Ho _ ⟨r, e1, e2, e3⟩ => ⟨r, e1, by unfold doQ; rw [if_neg h2, if_neg h3, if_neg h4, if_neg (by omega), if_neg (by omega)]; exact e2, e3⟩⟩, rfl⟩
  obtain ⟨hk1, hk2⟩ := hk (by omega)
  by_cases h5 : i.op = 5
  · have e5 : cst i = i.c := cst_c (.inl h5)
    rw [e5] at hk1
    refine Wc.gl 2 [] ?_
    refine Wl.box 0 rfl rfl rfl (fun b1 => ?_)
    refine Wl.gl 7 [0] ?_
    refine Wl.k 1 rfl (c57 _ _ hcc) (fun v1 G1 Ho1 hle1 hp => ?_)
    obtain ⟨ri1, rfl, hri1, rfl⟩ := hp
    refine Wl.k 1 rfl (c112 _ _ _ (by assumption)) (fun v2 G2 Ho2 hle2 hp => ?_)
    obtain ⟨rr2, rfl, hrr2, rfl, rfl⟩ := hp
    replace hri1 := hri1.up hle2
    refine Wl.alloc 1 rfl T.zero178 (fun b2 => ?_)
    refine Wl.gl 41 [1, 0, 0, 0, 0, 1] ?_
    refine Wl.q rfl (Qy.makeFunc rfl rfl) ?_
    refine Wl.ga 6 [] ?_
    refine Ar.freeze 1 rfl (fun G3 hle3 hb3 => ?_)
    refine Ar.e1 ?_
    exact ⟨⟨168, [.pointer (some ⟨b2, 0, none⟩)], rfl, T.fn168, fun G' a b p q hg ha hb h1' h2' => (c168 G' a b rr2 p (wholeQ i.c) b2 (hg _ _ hb3) ((hrr2.up hle3).up hg) ha h1' (whole_ok hk1)).mono fun v G'' Ho _ ⟨r, e1, e2, e3⟩ => ⟨r, e1, by unfold doQ; rw [if_neg h2, if_neg h3, if_neg h4, if_pos (.inl h5), e5]; exact e2, e3⟩⟩, rfl⟩
  by_cases h6 : i.op = 6
  · have e5 : cst i = i.c := cst_c (.inr h6)
    rw [e5] at hk1 hk2
    refine Wc.gl 2 [] ?_
    refine Wl.box 0 rfl rfl rfl (fun b1 => ?_)
    refine Wl.gl 7 [0] ?_
    refine Wl.k 1 rfl (c57 _ _ hcc) (fun v1 G1 Ho1 hle1 hp => ?_)
    obtain ⟨ri1, rfl, hri1, rfl⟩ := hp
    refine Wl.k 1 rfl (c112 _ _ _ (by assumption)) (fun v2 G2 Ho2 hle2 hp => ?_)
    obtain ⟨rr2, rfl, hrr2, rfl, rfl⟩ := hp
    replace hri1 := hri1.up hle2
    refine Wl.alloc 1 rfl T.zero178 (fun b2 => ?_)
    refine Wl.gl 48 [1, 0, 0, 0, 0, 0, 1] ?_
    refine Wl.q rfl (Qy.makeFunc rfl rfl) ?_
    refine Wl.ga 6 [] ?_
    refine Ar.freeze 1 rfl (fun G3 hle3 hb3 => ?_)
    refine Ar.e1 ?_
    exact ⟨⟨170, [.pointer (some ⟨b2, 0, none⟩)], rfl, T.fn170, fun G' a b p q hg ha hb h1' h2' => (c170 G' a b rr2 p (wholeQ i.c) b2 (hg _ _ hb3) ((hrr2.up hle3).up hg) ha h1' (whole_ok hk1) hk2).mono fun v G'' Ho _ ⟨r, e1, e2, e3⟩ => ⟨r, e1, by unfold doQ; rw [if_neg h2, if_neg h3, if_neg h4, if_neg (by omega), if_pos (.inl h6), e5]; exact e2, e3⟩⟩, rfl⟩
  have e5 : cst i = p2 i.c.toNat := cst_p (by omega)
  rw [e5] at hk1 hk2
  have hc := h78 (by omega)
  have hn : i.c = (i.c.toNat : Int) := by omega
  by_cases h7 : i.op = 7
  · skip
    refine Wc.gl 2 [] ?_
    refine Wl.box 0 rfl rfl rfl (fun b1 => ?_)
    refine Wl.gl 7 [0] ?_
    refine Wl.k 1 rfl (c57 _ _ hcc) (fun v1 G1 Ho1 hle1 hp => ?_)
    obtain ⟨ri1, rfl, hri1, rfl⟩ := hp
    refine Wl.k 1 rfl (c112 _ _ _ (by assumption)) (fun v2 G2 Ho2 hle2 hp => ?_)
    obtain ⟨rr2, rfl, hrr2, rfl, rfl⟩ := hp
    replace hri1 := hri1.up hle2
    refine Wl.alloc 1 rfl T.zero178 (fun b2 => ?_)
    refine Wl.gl 55 [1, 0, 0, 0, 0, 0, 0, 1] ?_
    refine Wl.q rfl (Qy.makeFunc rfl rfl) ?_
    refine Wl.ga 6 [] ?_
    refine Ar.freeze 0 rfl (fun G3 hle3 hb3 => ?_)
    refine Ar.e1 ?_
    exact ⟨⟨172, [.pointer (some ⟨b1, 0, none⟩)], rfl, T.fn172, fun G' a b p q hg ha hb h1' h2' => (c172 G' a b p i i.c.toNat b1 (hg _ _ hb3) hn (by omega) ha h1' (whole_ok hk1)).mono fun v G'' Ho _ ⟨r, e1, e2, e3⟩ => ⟨r, e1, by unfold doQ; rw [if_neg h2, if_neg h3, if_neg h4, if_pos (.inr h7), e5]; exact e2, e3⟩⟩, rfl⟩
  · have h8 : i.op = 8 := by omega
    refine Wc.gl 2 [] ?_
    refine Wl.box 0 rfl rfl rfl (fun b1 => ?_)
    refine Wl.gl 7 [0] ?_
    refine Wl.k 1 rfl (c57 _ _ hcc) (fun v1 G1 Ho1 hle1 hp => ?_)
    obtain ⟨ri1, rfl, hri1, rfl⟩ := hp
    refine Wl.k 1 rfl (c112 _ _ _ (by assumption)) (fun v2 G2 Ho2 hle2 hp => ?_)
    obtain ⟨rr2, rfl, hrr2, rfl, rfl⟩ := hp
    replace hri1 := hri1.up hle2
    refine Wl.alloc 1 rfl T.zero178 (fun b2 => ?_)
    refine Wl.gl 62 [1, 0, 0, 0, 0, 0, 0, 0, 1] ?_
    refine Wl.q rfl (Qy.makeFunc rfl rfl) ?_
    refine Wl.ga 6 [] ?_
    refine Ar.freeze 0 rfl (fun G3 hle3 hb3 => ?_)
    refine Ar.e1 ?_
    exact ⟨⟨174, [.pointer (some ⟨b1, 0, none⟩)], rfl, T.fn174, fun G' a b p q hg ha hb h1' h2' => (c174 G' a b p i i.c.toNat b1 (hg _ _ hb3) hn (by omega) ha h1' (whole_ok hk1) hk2).mono fun v G'' Ho _ ⟨r, e1, e2, e3⟩ => ⟨r, e1, by unfold doQ; rw [if_neg h2, if_neg h3, if_neg h4, if_neg (by omega), if_pos (.inr h8), e5]; exact e2, e3⟩⟩, rfl⟩
end Go.Proofs.YtbppmiimeccclaaGreat
set_option maxRecDepth 100000
set_option linter.unusedVariables false
namespace Go.Proofs.YtbppmiimeccclaaGreat
open Go Go.Sl
def BigQs (G : Imm) (l : List QV) (qs : List QZ) : Prop := l.length = qs.length ∧ ∀ i : Nat, i < l.length → BigQ G (l[i]?.getD default) (qs[i]?.getD (0, 0))
theorem BigQs.up {G G' : Imm} {l : List QV} {qs : List QZ} (h : BigQs G l qs) (hl : G.le G') : BigQs G' l qs := ⟨h.1, fun i hi => (h.2 i hi).up hl⟩
def QRow (G : Imm) (s : SV) (zs : List QZ) : Prop := ∃ l : List QV, l.length = s.n ∧ s.n ≤ s.c ∧ Arr G s.a l ∧ BigQs G l zs
theorem QRow.up {G G' : Imm} {s : SV} {zs : List QZ} (h : QRow G s zs) (hl : G.le G') : QRow G' s zs := by
  obtain ⟨l, h1, h2, h3, h4⟩ := h
  exact ⟨l, h1, h2, h3.up hl, h4.up hl⟩
def QGrid (G : Imm) (r : List SV) (rs : List (List QZ)) : Prop := r.length = rs.length ∧ ∀ i : Nat, i < r.length → QRow G (r[i]?.getD default) (rs[i]?.getD [])
theorem QGrid.up {G G' : Imm} {r : List SV} {rs : List (List QZ)} (h : QGrid G r rs) (hl : G.le G') : QGrid G' r rs := ⟨h.1, fun i hi => (h.2 i hi).up hl⟩
theorem QGrid.set {G : Imm} {r : List SV} {rs : List (List QZ)} (h : QGrid G r rs) {s : SV} {x : List QZ} (hs : QRow G s x) (k : Nat) : QGrid G (r.set k s) (rs.set k x) := by
  refine ⟨by rw [List.length_set, List.length_set]; exact h.1, fun i hi => ?_⟩
  rw [List.length_set] at hi
  have hrl := h.1
  rw [List.getElem?_set, List.getElem?_set]
  by_cases e : k = i
  · subst e
    rw [if_pos rfl, if_pos rfl, if_pos hi, if_pos (by omega)]
    exact hs
  · rw [if_neg e, if_neg e]
    exact h.2 i hi
def EvenQ (N : Nat) (rs : List (List QZ)) : Prop := ∀ zs ∈ rs, zs.length = N ∧ ∀ q ∈ zs, OkQ 2100 q
theorem EvenQ.at {N : Nat} {rs : List (List QZ)} (h : EvenQ N rs) {k : Nat} (hk : k < rs.length) : (rs[k]?.getD []).length = N ∧ ∀ q ∈ rs[k]?.getD [], OkQ 2100 q := by
  rw [List.getElem?_eq_getElem hk]; exact h _ (List.getElem_mem hk)
theorem EvenQ.set {N : Nat} {rs : List (List QZ)} (h : EvenQ N rs) {z : List QZ} (hz : z.length = N ∧ ∀ q ∈ z, OkQ 2100 q) (k : Nat) : EvenQ N (rs.set k z) := fun zs hm => by
  rcases List.mem_or_eq_of_mem_set hm with h1 | h1
  · exact h zs h1
  · rw [h1]; exact hz
theorem doQ_b {i : Sl.Instr} (h : ¬ (i.op = 3 ∨ i.op = 4)) (x y : QZ) : doQ i x y = doQ i x (0, 0) := by
  have h3 : ¬ i.op = 3 := fun e => h (.inl e)
  have h4 : ¬ i.op = 4 := fun e => h (.inr e)
  unfold doQ
  simp only [h3, h4, if_false]
theorem rowQ_len {i : Sl.Instr} {a b : List QZ} (h : a.length = b.length) : (rowQ i a b).length = a.length := by
  unfold rowQ
  split
  · rw [List.length_zipWith, h, Nat.min_self]
  · rw [List.length_map]
theorem rowQ_at {i : Sl.Instr} {a b : List QZ} (h : a.length = b.length) {t : Nat} (ht : t < a.length) : (rowQ i a b)[t]?.getD (0, 0) = doQ i (a[t]?.getD (0, 0)) (b[t]?.getD (0, 0)) := by
  have e1 : a[t]? = some (a[t]'ht) := List.getElem?_eq_getElem ht
  have e2 : b[t]? = some (b[t]'(by omega)) := List.getElem?_eq_getElem (by omega)
  unfold rowQ
  split
  · rw [List.getElem?_zipWith, e1, e2]; rfl
  · rename_i hn
    rw [List.getElem?_map, e1, e2, doQ_b hn]; rfl
theorem lt_low {m : Nat} {n d : Int} (h1 : Lt m n) (h2 : Lt m d) (h0 : 0 < d) : Lt (m + 1) (lowQ n d).1 ∧ Lt (m + 1) (lowQ n d).2 := by
  have hm : 1 ≤ m + 1 := by omega
  refine ⟨(quot_lt h1).mono (by omega), ?_⟩
  have h3 := low_pos (n := n) h0
  have h4 : Lt m (d / (Int.gcd n d : Int)) := quot_lt h2
  refine Lt.mono (Lt.le h4 ?_) (show m ≤ m + 1 by omega)
  have h5 : (lowQ n d).2 = d / (Int.gcd n d : Int) - 1 := rfl
  rw [h5] at h3 ⊢
  omega
theorem do_lt {i : Sl.Instr} {a b : QZ} (ha : OkQ 2100 a) (hb : OkQ 2100 b) (hk : i.op = 5 ∨ i.op = 6 ∨ i.op = 7 ∨ i.op = 8 → Lt 2100 (cst i)) : Lt 99999 (doQ i a b).1 ∧ Lt 99999 (doQ i a b).2 := by
  have sc := fun {q : QZ} (h : OkQ 2100 q) => (h.2.1.succ (m := 2100) (by decide) : Lt 2101 (q.2 + 1))
  have hp : ∀ x y : QZ, 0 ≤ x.2 → 0 ≤ y.2 → 0 < (x.2 + 1) * (y.2 + 1) := fun x y h1 h2 => Int.mul_pos (by omega) (by omega)
  have hadd : ∀ x y : QZ, OkQ 2100 x → OkQ 2100 y → Lt 99999 (addQ x y).1 ∧ Lt 99999 (addQ x y).2 := fun x y hx hy => by
    have a1 := ((hx.1.mono (show 2100 ≤ 2101 by decide)).mul (sc hy)).add ((hy.1.mono (show 2100 ≤ 2101 by decide)).mul (sc hx))
    have a2 := ((sc hx).mul (sc hy)).mono (show 2101 + 2101 ≤ 2101 + 2101 + 1 by decide)
    have h := lt_low a1 a2 (hp _ _ hx.2.2 hy.2.2)
    exact ⟨h.1.mono (by decide), h.2.mono (by decide)⟩
  have hmul : ∀ x y : QZ, OkQ 2100 x → OkQ 2100 y → Lt 99999 (mulQ x y).1 ∧ Lt 99999 (mulQ x y).2 := fun x y hx hy => by
    have a1 := (hx.1.mul hy.1).mono (show 2100 + 2100 ≤ 2101 + 2101 by decide)
    have a2 := (sc hx).mul (sc hy)
    have h := lt_low a1 a2 (hp _ _ hx.2.2 hy.2.2)
    exact ⟨h.1.mono (by decide), h.2.mono (by decide)⟩
  have hover : ∀ x y : QZ, OkQ 2100 x → OkQ 2100 y → Lt 99999 (overQ x y).1 ∧ Lt 99999 (overQ x y).2 := fun x y hx hy => by
    have a1 := (hx.1.mono (show 2100 ≤ 2101 by decide)).mul (sc hy)
    have a2 := (sc hx).mul (hy.1.mono (show 2100 ≤ 2101 by decide))
    unfold overQ makeQ
    split
    · exact ⟨Lt.mono (m := 0) (show ((0 : Int).natAbs : Int) < pb 0 by decide) (by decide), Lt.mono (m := 0) (show ((0 : Int).natAbs : Int) < pb 0 by decide) (by decide)⟩
    · split
      · have h := lt_low a1.neg a2.neg (by omega)
        exact ⟨h.1.mono (by decide), h.2.mono (by decide)⟩
      · have h := lt_low a1 a2 (by omega)
        exact ⟨h.1.mono (by decide), h.2.mono (by decide)⟩
  have hself : ∀ x : QZ, OkQ 2100 x → Lt 99999 x.1 ∧ Lt 99999 x.2 := fun x hx => ⟨hx.1.mono (by decide), hx.2.1.mono (by decide)⟩
  have hneg : OkQ 2100 (negQ b) := ⟨hb.1.neg, hb.2⟩
  unfold doQ
  split
  · exact hself (negQ a) ⟨ha.1.neg, ha.2⟩
  · split
    · exact hadd _ _ ha hb
    · split
      · exact hadd _ _ ha hneg
      · split
        · rename_i h; exact hmul _ _ ha (whole_ok (hk (by omega)))
        · split
          · rename_i h; exact hover _ _ ha (whole_ok (hk (by omega)))
          · exact hself a ha
end Go.Proofs.YtbppmiimeccclaaGreat
set_option maxRecDepth 100000
set_option linter.unusedVariables false
namespace Go.Proofs.YtbppmiimeccclaaGreat
open Go Go.Sl
set_option maxHeartbeats 4000000
attribute [local irreducible] valB pb cmpZ lstWp lowQ Lt bitsZ p2 cst wideQ doQ
theorem c111d (G : Imm) (x : QV) (q : QZ) (hx : BigQ G x q) (h1 : Lt 99999 q.1) (h2 : Lt 99999 q.2) :
    Does Tryz.prog 111 [.agg (Cells.enc x).toArray] G [] (fun v G' Ho => v = .bool (decide (wideQ q = true)) ∧ Ho = []) := by
  have h := c111 G x q hx h1 h2
  rw [show decide (wideQ q = true) = wideQ q from Bool.decide_eq_true]; exact h
theorem c176 (G : Imm) (a : Option Addr) (c : Nat) (l : List QV) (qs : List QZ) (ha : Arr G a l) (hq : BigQs G l qs) (hlt : ∀ q ∈ qs, Lt 99999 q.1 ∧ Lt 99999 q.2) (hl : l.length ≤ 1048576) :
    Does Tryz.prog 176 [.slice a l.length c, .func (.func 111) #[] #[]] G [] (fun v G' Ho => ∃ k : Int, v = .int .i64 k ∧ (0 ≤ k ↔ qs.any wideQ = true) ∧ Ho = []) := by
  have hlen := hq.1
  refine Does.enter Tryz.func176 rfl Tryz.ntmps176 rfl (fun w => ?_)
  refine Wc.gc 14 [] ?_
  refine Wc.loopG (ι := Nat × Imm) (fun (i, Gx) => ([(8, .int .i64 (i : Int)), (7, Go.Value.int Go.IntKind.i64 (↑(List.length l) : Int)), (0, Go.Value.slice a (List.length l) c), (1, Go.Value.func (Go.Fn.func 111) #[] #[])], [])) (fun (i, Gx) => Gx) (fun (i, Gx) => i ≤ l.length ∧ G.le Gx ∧ ∀ t : Nat, t < i → wideQ (qs[t]?.getD (0, 0)) = false) (fun (i, Gx) => l.length - i) ((0, G)) (⟨Nat.zero_le _, Imm.le_refl _, fun t ht => by omega⟩) rfl ⟨rfl, rfl, rfl, rfl, trivial⟩ trivial (fun ⟨i, Gx⟩ => fun (hk : i ≤ l.length ∧ G.le Gx ∧ ∀ t : Nat, t < i → wideQ (qs[t]?.getD (0, 0)) = false) => ?_)
  obtain ⟨hi0, hgx, hno⟩ := hk
  replace ha := ha.up hgx
  replace hq := hq.up hgx
  rcases Nat.lt_or_ge i l.length with hil | hil
  · have hmem : qs[i]?.getD (0, 0) ∈ qs := by rw [List.getElem?_eq_getElem (by omega)]; exact List.getElem_mem _
    obtain ⟨hl1, hl2⟩ := hlt _ hmem
    have hx : BigQ Gx (l[((i : Nat) : Int).toNat]?.getD default) (qs[i]?.getD (0, 0)) := hq.2 i hil
    by_cases hw : wideQ (qs[i]?.getD (0, 0)) = true
    · refine Wc.gl 22 [1] ?_
      refine Wl.q rfl (Qy.at (α := QV) T.sl122 rfl rfl (by assumption) (by omega)) ?_
      refine Wl.q rfl (Qy.loadsG T.agg178 rfl (Arr.elem (by assumption) (by omega)) rfl) ?_
      refine Wl.callV (fst := []) (cap := []) 0 rfl T.fn111 rfl rfl (c111d _ _ _ (by assumption) (by assumption) (by assumption)) (tags_of trivial) (fun v1 G1 Ho1 hle1 hp => ?_)
      obtain ⟨rfl, rfl⟩ := hp
      replace ha := ha.up hle1
      replace hq := hq.up hle1
      replace hx := hx.up hle1
      refine Wl.ga 15 [1] ?_
      refine Ar.e1 ?_
      refine ⟨(i : Int), rfl, ⟨fun _ => List.any_eq_true.2 ⟨_, hmem, hw⟩, fun _ => by omega⟩, rfl⟩
    · refine Wc.gl 22 [1] ?_
      refine Wl.q rfl (Qy.at (α := QV) T.sl122 rfl rfl (by assumption) (by omega)) ?_
      refine Wl.q rfl (Qy.loadsG T.agg178 rfl (Arr.elem (by assumption) (by omega)) rfl) ?_
      refine Wl.callV (fst := []) (cap := []) 0 rfl T.fn111 rfl rfl (c111d _ _ _ (by assumption) (by assumption) (by assumption)) (tags_of trivial) (fun v1 G1 Ho1 hle1 hp => ?_)
      obtain ⟨rfl, rfl⟩ := hp
      replace ha := ha.up hle1
      replace hq := hq.up hle1
      replace hx := hx.up hle1
      refine Wl.ga 10 [0] ?_
      refine Ar.again ((i + 1, G1)) ?_ ?_ rfl ⟨rfl, rfl, rfl, rfl, trivial⟩ trivial
      · refine ⟨by omega, Imm.le_trans hgx hle1, fun t ht => ?_⟩
        rcases Nat.lt_or_ge t i with h1 | h1
        · exact hno t h1
        · rw [show t = i by omega]; exact Bool.not_eq_true _ ▸ hw
      · show l.length - (i + 1) < l.length - i
        omega
  · refine Wc.ga 18 [0] ?_
    refine Ar.e1 ?_
    refine ⟨-1, rfl, ⟨fun h => absurd h (by decide), fun h => ?_⟩, rfl⟩
    obtain ⟨q, hqm, hqw⟩ := List.any_eq_true.1 h
    obtain ⟨t, ht, rfl⟩ := List.mem_iff_getElem.1 hqm
    have := hno t (by omega)
    rw [List.getElem?_eq_getElem ht] at this
    rw [show (some (qs[t]'ht)).getD (0, 0) = qs[t]'ht from rfl, hqw] at this
    cases this
theorem c110 (G : Imm) (a : Option Addr) (c : Nat) (l : List QV) (qs : List QZ) (ha : Arr G a l) (hq : BigQs G l qs) (hlt : ∀ q ∈ qs, Lt 99999 q.1 ∧ Lt 99999 q.2) (hl : l.length ≤ 1048576) :
    Does Tryz.prog 110 [.slice a l.length c, .func (.func 111) #[] #[]] G [] (fun v G' Ho => v = .bool (decide (qs.any wideQ = true)) ∧ Ho = []) := by
  refine Does.enter Tryz.func110 rfl Tryz.ntmps110 rfl (fun w => ?_)
  refine Wc.gl 9 [] ?_
  refine Wl.k 0 rfl (c176 _ _ _ _ _ (by assumption) (by assumption) (by assumption) (by assumption)) (fun v1 G1 Ho1 hle1 hp => ?_)
  obtain ⟨k1, rfl, hk1, rfl⟩ := hp
  replace ha := ha.up hle1
  replace hq := hq.up hle1
  refine Wl.ga 5 [] ?_
  refine Ar.e1 ?_
  exact ⟨by rw [decide_eq_decide.2 hk1], rfl⟩
theorem c63 (G : Imm) (k : Int) (s : Option Addr) (n c : Nat) : Does Tryz.prog 63 [.int .i64 k, .slice s n c] G [] (fun v G' Ho => v = .bool true ∧ G' = G ∧ Ho = []) := by
  refine Does.enter Tryz.func63 rfl Tryz.ntmps63 rfl (fun w => ?_)
  refine Wc.ga 11 [] ?_
  refine Ar.e1 ?_
  exact ⟨rfl, rfl, rfl⟩
end Go.Proofs.YtbppmiimeccclaaGreat
set_option maxRecDepth 100000
set_option linter.unusedVariables false
namespace Go.Proofs.YtbppmiimeccclaaGreat
open Go Go.Sl
set_option maxHeartbeats 4000000
theorem runG_none {D : Type} [Inhabited D] (st : Sl.Instr → List D → Option D) (l l' : List Sl.Instr) (rs : List D) (h : runG st l rs = none) : runG st (l ++ l') rs = none := by
  induction l generalizing rs with
  | nil => cases h
  | cons i l ih =>
    show (st i rs).bind (fun x => runG st (l ++ l') (rs.set i.to.toNat x)) = none
    have h' : (st i rs).bind (fun x => runG st l (rs.set i.to.toNat x)) = none := h
    cases hs : st i rs with
    | none => rfl
    | some x =>
      rw [hs] at h'
      exact ih _ h'
theorem code_take {l : List Sl.Instr} {i : Nat} (h : i < l.length) : l.take (i + 1) = l.take i ++ [l[((i : Nat) : Int).toNat]?.getD default] := by
  rw [List.take_add_one, Int.toNat_natCast, List.getElem?_eq_getElem h]; rfl
theorem runG_next {D : Type} [Inhabited D] {st : Sl.Instr → List D → Option D} {l : List Sl.Instr} {rs r : List D} {i : Nat} {x : D} (hi : i < l.length) (h : runG st (l.take i) rs = some r) (hx : st (l[((i : Nat) : Int).toNat]?.getD default) r = some x) :
    runG st (l.take (i + 1)) rs = some (r.set (l[((i : Nat) : Int).toNat]?.getD default).to.toNat x) := by
  rw [code_take hi, runG_snoc, h]
  show (st _ r).map _ = _
  rw [hx]; rfl
theorem runG_stop {D : Type} [Inhabited D] {st : Sl.Instr → List D → Option D} {l : List Sl.Instr} {rs r : List D} {i : Nat} (hi : i < l.length) (h : runG st (l.take i) rs = some r) (hx : st (l[((i : Nat) : Int).toNat]?.getD default) r = none) :
    runG st l rs = none := by
  have h1 : runG st (l.take (i + 1)) rs = none := by
    rw [code_take hi, runG_snoc, h]
    show (st _ r).map _ = _
    rw [hx]; rfl
  have h2 := runG_none st (l.take (i + 1)) (l.drop (i + 1)) rs h1
  rwa [List.take_append_drop] at h2
theorem stepQ_def (i : Sl.Instr) (rs : List (List QZ)) : stepQ i rs = if (rowQ i (rs[i.a.toNat]?.getD []) (rs[i.b.toNat]?.getD [])).any wideQ = true then none else some (rowQ i (rs[i.a.toNat]?.getD []) (rs[i.b.toNat]?.getD [])) := rfl
theorem Lt.of {m : Nat} {z : Int} (h : (z.natAbs : Int) < pb m) : Lt m z := h
attribute [local irreducible] valB pb cmpZ lstWp lowQ Lt bitsZ p2 cst wideQ doQ stepQ
theorem c61 (G : Imm) (p : PV) (ac ao : Option Addr) (cc co : Nat) (o : Option Addr) (d : Nat) (r : List SV) (j : List Value) (rs : List (List QZ)) (N : Nat) (hc : Arr G ac p.code) (hob : OwnA o d r j) (hg : QGrid G r rs) (hev : EvenQ N rs) (hN0 : 1 ≤ N) (hN : N ≤ 1048576)
    (hlen : p.code.length ≤ 16384) (hr : (r.length : Int) = p.regs) (hrr : r.length ≤ 128) (hmay : ∀ i ∈ p.code, mayOk i p.regs = true) :
    Does Tryz.prog 61 [.agg #[.int .i64 p.ins, .int .i64 p.regs, .slice ac p.code.length cc, .slice ao p.outs.length co], .slice o r.length d, .func (.func 63) #[] #[]] G [(0, o.map (·.block), Row 122 r j)]
      (fun v G' Ho => (∃ (r' : List SV) (rs' : List (List QZ)), r'.length = r.length ∧ runG stepQ p.code rs = some rs' ∧ v = .tuple #[.slice o r'.length d, .bool true] ∧ OwnA o d r' j ∧ QGrid G' r' rs' ∧ EvenQ N rs' ∧ Ho = [(0, o.map (·.block), Row 122 r' j)]) ∨
        (runG stepQ p.code rs = none ∧ v = .tuple #[.slice none 0 0, .bool false] ∧ Ho = [])) := by
  refine Does.enter Tryz.func61 rfl Tryz.ntmps61 rfl (fun w => ?_)
  refine Wc.gl 2 [] ?_
  refine Wl.box 1 rfl rfl rfl (fun b1 => ?_)
  refine Wl.gc 14 [1] ?_
  refine Wc.loopG (ι := Nat × Imm × List SV × List (List QZ)) (fun (i, Gx, r2, rs2) => ([(18, .int .i64 (i : Int)), (1, .slice o r2.length d), (17, Go.Value.int Go.IntKind.i64 (↑(List.length (Go.Proofs.YtbppmiimeccclaaGreat.PV.code p)) : Int)), (16, Go.Value.slice ac (List.length (Go.Proofs.YtbppmiimeccclaaGreat.PV.code p)) cc), (2, Go.Value.func (Go.Fn.func 63) #[] #[])], [(0, o.map (·.block), Row 122 r2 j), (1, Option.some b1, Go.Obj.cells #[Go.Value.int Go.IntKind.i64 (Go.Proofs.YtbppmiimeccclaaGreat.PV.ins p), Go.Value.int Go.IntKind.i64 (Go.Proofs.YtbppmiimeccclaaGreat.PV.regs p), Go.Value.slice ac (List.length (Go.Proofs.YtbppmiimeccclaaGreat.PV.code p)) cc, Go.Value.slice ao (List.length (Go.Proofs.YtbppmiimeccclaaGreat.PV.outs p)) co] 25)])) (fun (i, Gx, r2, rs2) => Gx) (fun (i, Gx, r2, rs2) => i ≤ p.code.length ∧ G.le Gx ∧ r2.length = r.length ∧ OwnA o d r2 j ∧ QGrid Gx r2 rs2 ∧ EvenQ N rs2 ∧ runG stepQ (p.code.take i) rs = some rs2) (fun (i, Gx, r2, rs2) => p.code.length - i) ((0, G, r, rs)) (⟨Nat.zero_le _, Imm.le_refl _, rfl, hob, hg, hev, rfl⟩) rfl ⟨rfl, rfl, rfl, rfl, rfl, trivial⟩ ⟨rfl, rfl, trivial⟩ (fun ⟨i, Gx, r2, rs2⟩ => fun (hk : i ≤ p.code.length ∧ G.le Gx ∧ r2.length = r.length ∧ OwnA o d r2 j ∧ QGrid Gx r2 rs2 ∧ EvenQ N rs2 ∧ runG stepQ (p.code.take i) rs = some rs2) => ?_)
  obtain ⟨hi0, hgx, hr2, ho2, hg2, hb2, hrun⟩ := hk
  replace hc := hc.up hgx
  have hrl := hg2.1
  rcases Nat.lt_or_ge i p.code.length with hic | hic
  · have hmem : (p.code[((i : Nat) : Int).toNat]?.getD default) ∈ p.code := by
      rw [Int.toNat_natCast, List.getElem?_eq_getElem hic]; exact List.getElem_mem hic
    have hmi := hmay _ hmem
    obtain ⟨m1, m2, m3, m4, m5, m6, m7, m8⟩ := may_facts hmi
    have hbz : (p.code[((i : Nat) : Int).toNat]?.getD default).op = 3 ∨ (p.code[((i : Nat) : Int).toNat]?.getD default).op = 4 ∨ (p.code[((i : Nat) : Int).toNat]?.getD default).b = 0 := by
      unfold mayOk at hmi
      rw [Bool.and_eq_true, Bool.and_eq_true, decide_eq_true_eq] at hmi
      exact hmi.1.1.2.2.2.2
    have hnext := fun (x : List QZ) => runG_next (st := stepQ) (x := x) hic hrun
    have hstop := runG_stop (st := stepQ) hic hrun
    obtain ⟨I, hI⟩ : ∃ I, I = p.code[((i : Nat) : Int).toNat]?.getD default := ⟨_, rfl⟩
    have mb : 0 ≤ I.b ∧ I.b < r2.length := by
      rw [hI]
      rcases hbz with h | h | h
      · have := m4 (.inl h); omega
      · have := m4 (.inr h); omega
      · omega
    rw [← hI] at m1 m2 m3 m4 m5 m6 m7 m8 hnext hstop
    have mt : 0 ≤ I.to ∧ I.to < r2.length := by omega
    have ma : 0 ≤ I.a ∧ I.a < r2.length := by omega
    have hcc : -9223372036854775808 ≤ I.c ∧ I.c ≤ 9223372036854775807 := by
      by_cases h : I.op = 5 ∨ I.op = 6
      · exact m7 h
      · have := m8 h; omega
    have hkc : I.op = 5 ∨ I.op = 6 ∨ I.op = 7 ∨ I.op = 8 → Lt 2100 (cst I) ∧ cst I ≠ 0 := fun h => by
      have h9 := m6 (by omega) (by omega) (by omega) (by omega)
      exact ⟨Lt.mono (Lt.of (m := 3) (Int.lt_of_lt_of_le h9.2 pw5_pb3)) (by decide), h9.1⟩
    have h78 : I.op = 7 ∨ I.op = 8 → 0 ≤ I.c ∧ I.c ≤ 64 := fun h => m8 (by omega)
    obtain ⟨la, ea1, ea2, ea3, ea4⟩ := hg2.2 I.a.toNat (by omega)
    obtain ⟨lb, eb1, eb2, eb3, eb4⟩ := hg2.2 I.b.toNat (by omega)
    obtain ⟨na, ma9⟩ := hb2.at (k := I.a.toNat) (by omega)
    obtain ⟨nb, mb9⟩ := hb2.at (k := I.b.toNat) (by omega)
    have hla : (r2[I.a.toNat]?.getD default).n = N := by rw [← ea1, ea4.1, na]
    have hlb : (r2[I.b.toNat]?.getD default).n = N := by rw [← eb1, eb4.1, nb]
    refine Wc.gl 14 [1] ?_
    refine Wl.q rfl (Qy.at (α := Sl.Instr) T.sl22 rfl rfl (by assumption) (by omega)) ?_
    refine Wl.q rfl (Qy.loadsG T.agg93 rfl (Arr.elem (by assumption) (by omega)) rfl) ?_
    refine Wl.alloc 2 rfl T.zero93 (fun b2 => ?_)
    refine Wl.gl 7 [2, 2] ?_
    rw [← hI]
    refine Wl.k 20 rfl (c109 _ I m1 hcc hkc h78) (fun v1 G1 Ho1 hle1 hp => ?_)
    obtain ⟨⟨fw, caps, rfl, hfn, hF⟩, rfl⟩ := hp
    have hle1' : Gx.le G1 := hle1
    replace hc := hc.up hle1'
    replace hg2 := hg2.up hle1'
    replace ea3 := ea3.up hle1'
    replace ea4 := ea4.up hle1'
    replace eb3 := eb3.up hle1'
    replace eb4 := eb4.up hle1'
    refine Wl.gc 4 [] ?_
    refine Wc.draw [1, 0, 2] [] T.mixed rfl ?_
    refine Gm.c 0 [] [] ?_
    refine Gm.c 1 [] [] ?_
    refine Gm.c 2 [2] [2] ?_
    refine Gm.u 3 [] rfl (Qy.indexAddrO (α := SV) T.sl49 rfl rfl (by assumption) (by omega)) ?_
    refine Gm.u 4 [0] rfl (Qy.loadO 0 0 T.one122 rfl rfl (by assumption) (by omega) rfl rfl) ?_
    refine Gm.c 5 [] [] ?_
    refine Gm.c 6 [] [] ?_
    refine Gm.c 7 [2] [2] ?_
    refine Gm.u 8 [] rfl (Qy.indexAddrO (α := SV) T.sl49 rfl rfl (by assumption) (by omega)) ?_
    refine Gm.u 9 [0] rfl (Qy.loadO 0 0 T.one122 rfl rfl (by assumption) (by omega) rfl rfl) ?_
    refine Gm.c 10 [] [] ?_
    refine Gm.c 11 [] [] ?_
    refine Gm.fin ?_
    refine Ar.gl 5 [] ?_
    refine Wl.make (α := QV) 3 rfl T.sl122 T.el178 rfl rfl (by omega) (by omega) (fun b3 => ?_)
    refine Wl.gc 12 [] ?_
    obtain ⟨A, hA⟩ : ∃ A, A = r2[I.a.toNat]?.getD default := ⟨_, rfl⟩
    obtain ⟨Z, hZ⟩ : ∃ Z, Z = r2[I.b.toNat]?.getD default := ⟨_, rfl⟩
    obtain ⟨qa, hqa⟩ : ∃ qa, qa = rs2[I.a.toNat]?.getD [] := ⟨_, rfl⟩
    obtain ⟨qb, hqb⟩ : ∃ qb, qb = rs2[I.b.toNat]?.getD [] := ⟨_, rfl⟩
    have hstep : stepQ I rs2 = if (rowQ I qa qb).any wideQ = true then none else some (rowQ I qa qb) := by rw [hqa, hqb]; exact stepQ_def I rs2
    rw [← hA, ← hZ]
    rw [← hA] at hla ea1 ea2 ea3
    rw [← hZ] at hlb eb1 eb2 eb3
    rw [← hqa] at ea4 na ma9
    rw [← hqb] at eb4 nb mb9
    refine Wc.re 39 rfl (show _ = Value.int .i64 (N : Int) by rw [List.length_replicate, Int.toNat_natCast, hla]) ?_
    refine Wc.re 11 rfl (show _ = Value.slice A.a la.length A.c by rw [ea1]) ?_
    refine Wc.re 12 rfl (show _ = Value.slice Z.a lb.length Z.c by rw [eb1]) ?_
    refine Wc.re 13 rfl (show _ = Value.slice (some ⟨b3, 0, none⟩) (List.replicate N (default : QV)).length N by rw [Int.toNat_natCast, hla, List.length_replicate]) ?_
    refine Wc.reH 3 (Row 178 (List.replicate N (default : QV)) []) rfl (by rw [Int.toNat_natCast, hla]) ?_
    have hown : ∀ rr : List QV, rr.length = N → OwnA (some ⟨b3, 0, none⟩) N rr [] := fun rr h => .inr ⟨b3, rfl, by rw [h]; rfl, by omega, by simp only [maxLen]; omega⟩
    refine Wc.loopG (ι := Nat × Imm × List QV) (fun (t, Gy, rr) => ([(40, .int .i64 (t : Int)), (17, .int .i64 (p.code.length : Int)), (16, .slice ac p.code.length cc), (13, .slice (some ⟨b3, 0, none⟩) rr.length N), (12, Go.Value.slice (Go.Sl.SV.a Z) (List.length lb) (Go.Sl.SV.c Z)), (11, Go.Value.slice (Go.Sl.SV.a A) (List.length la) (Go.Sl.SV.c A)), (39, Go.Value.int Go.IntKind.i64 (↑N : Int)), (10, Go.Value.func (Go.Fn.func fw) #[] (List.toArray caps)), (8, Go.Value.int Go.IntKind.i64 (↑i : Int)), (9, Go.Value.pointer (Option.some (Go.Addr.mk b2 0 Option.none))), (18, Go.Value.int Go.IntKind.i64 (↑i : Int)), (1, Go.Value.slice o (List.length r2) d), (2, Go.Value.func (Go.Fn.func 63) #[] #[])], [(3, some b3, Row 178 rr []), (2, Option.some b2, Go.Obj.cells (List.toArray (Go.Sl.Cells.enc I)) 93), (0, Option.map (fun x => Go.Addr.block x) o, Go.Sl.Row (α := Go.Sl.SV) 122 (r2) (j)), (1, Option.some b1, Go.Obj.cells #[Go.Value.int Go.IntKind.i64 (Go.Proofs.YtbppmiimeccclaaGreat.PV.ins p), Go.Value.int Go.IntKind.i64 (Go.Proofs.YtbppmiimeccclaaGreat.PV.regs p), Go.Value.slice ac (List.length (Go.Proofs.YtbppmiimeccclaaGreat.PV.code p)) cc, Go.Value.slice ao (List.length (Go.Proofs.YtbppmiimeccclaaGreat.PV.outs p)) co] 25)])) (fun (t, Gy, rr) => Gy) (fun (t, Gy, rr) => t ≤ N ∧ G1.le Gy ∧ rr.length = N ∧ ∀ q : Nat, q < t → BigQ Gy (rr[q]?.getD default) (doQ I (qa[q]?.getD (0, 0)) (qb[q]?.getD (0, 0)))) (fun (t, Gy, rr) => N - t) ((0, G1, List.replicate N (default : QV))) (⟨Nat.zero_le _, Imm.le_refl _, List.length_replicate, fun q hq => by omega⟩) rfl ⟨rfl, rfl, rfl, rfl, rfl, rfl, rfl, rfl, rfl, rfl, rfl, rfl, rfl, trivial⟩ ⟨rfl, rfl, rfl, rfl, trivial⟩ (fun ⟨t, Gy, rr⟩ => fun (hk : t ≤ N ∧ G1.le Gy ∧ rr.length = N ∧ ∀ q : Nat, q < t → BigQ Gy (rr[q]?.getD default) (doQ I (qa[q]?.getD (0, 0)) (qb[q]?.getD (0, 0)))) => ?_)
    obtain ⟨ht0, hgy, hrrN, hdone⟩ := hk
    replace ea3 := ea3.up hgy
    replace ea4 := ea4.up hgy
    replace eb3 := eb3.up hgy
    replace eb4 := eb4.up hgy
    have hor := hown rr hrrN
    rcases Nat.lt_or_ge t N with htN | htN
    · have hxa : BigQ Gy (la[((t : Nat) : Int).toNat]?.getD default) (qa[t]?.getD (0, 0)) := ea4.2 t (by omega)
      have hxb : BigQ Gy (lb[((t : Nat) : Int).toNat]?.getD default) (qb[t]?.getD (0, 0)) := eb4.2 t (by omega)
      have hoa : OkQ 2100 (qa[t]?.getD (0, 0)) := ma9 _ (by rw [List.getElem?_eq_getElem (by omega)]; exact List.getElem_mem _)
      have hoz : OkQ 2100 (qb[t]?.getD (0, 0)) := mb9 _ (by rw [List.getElem?_eq_getElem (by omega)]; exact List.getElem_mem _)
      refine Wc.gc 17 [1] ?_
      refine Wc.draw [1, 0, 2, 3] [(3, 13), (2, 13), (0, 13), (1, 13), (3, 11), (2, 11), (0, 11), (1, 11)] T.mixed rfl ?_
      refine Gm.c 0 [] [] ?_
      refine Gm.c 1 [] [] ?_
      refine Gm.c 2 [] [] ?_
      refine Gm.c 3 [] [] ?_
      refine Gm.c 4 [] [] ?_
      refine Gm.u 5 [] rfl (Qy.at (α := QV) T.sl122 rfl rfl (by assumption) (by omega)) ?_
      refine Gm.u 6 [] rfl (Qy.loadsG T.agg178 rfl (Arr.elem (by assumption) (by omega)) rfl) ?_
      refine Gm.c 7 [] [] ?_
      refine Gm.c 8 [] [] ?_
      refine Gm.u 9 [] rfl (Qy.at (α := QV) T.sl122 rfl rfl (by assumption) (by omega)) ?_
      refine Gm.u 10 [] rfl (Qy.loadsG T.agg178 rfl (Arr.elem (by assumption) (by omega)) rfl) ?_
      refine Gm.o1 11 ?_
      refine Wl.callV (fst := []) (cap := caps) 30 rfl hfn rfl rfl (hF _ _ _ _ _ hgy hxa hxb hoa hoz) (tags_of trivial) (fun v2 G2 Ho2 hle2 hp => ?_)
      obtain ⟨rq, rfl, hrq, rfl⟩ := hp
      have hle2' : Gy.le G2 := hle2
      refine Wl.on0 ?_
      refine Gm.u 12 [] rfl (Qy.indexAddrO (α := QV) T.sl122 rfl rfl (by assumption) (by omega)) ?_
      refine Gm.one 13 trivial (by first | exact Imm.le_refl _ | repeat (first | assumption | refine Imm.le_trans ?_ (by assumption))) (by kernel_rfl) rfl ?_
      refine Wl.setO (z := rq) (m := ((t : Nat) : Int)) 3 T.size178 rfl rfl rfl hor (by omega) rfl (fun ho4 => ?_)
      rw [Int.toNat_natCast] at ho4 ⊢
      refine Wl.on0 ?_
      refine Gm.doneA (by kernel_rfl) trivial (by first | exact Imm.le_refl _ | repeat (first | assumption | refine Imm.le_trans ?_ (by assumption))) ?_
      refine Ar.ga 6 [] ?_
      refine Ar.re 13 rfl (show _ = Value.slice (some ⟨b3, 0, none⟩) (rr.set t rq).length N by rw [List.length_set]) ?_
      refine Ar.again ((t + 1, G2, rr.set t rq)) ?_ ?_ rfl ⟨rfl, rfl, rfl, rfl, rfl, rfl, rfl, rfl, rfl, rfl, rfl, rfl, rfl, trivial⟩ ⟨rfl, rfl, rfl, rfl, trivial⟩
      · refine ⟨by omega, Imm.le_trans hgy hle2', by rw [List.length_set]; exact hrrN, fun q hq => ?_⟩
        rw [List.getElem?_set]
        by_cases e : t = q
        · subst e; rw [if_pos rfl, if_pos (by omega)]; exact hrq
        · rw [if_neg e]; exact (hdone q (by omega)).up hle2'
      · show N - (t + 1) < N - t
        omega
    · have htt : t = N := by omega
      subst htt
      refine Wc.gl 16 [0] ?_
      have hab : qa.length = qb.length := by omega
      have hrl9 := rowQ_len (i := I) hab
      have hlt9 : ∀ q ∈ rowQ I qa qb, Lt 99999 q.1 ∧ Lt 99999 q.2 := fun q hq => by
        obtain ⟨u, hu, rfl⟩ := List.mem_iff_getElem.1 hq
        have e := rowQ_at (i := I) hab (t := u) (by omega)
        rw [List.getElem?_eq_getElem hu] at e
        rw [show (rowQ I qa qb)[u]'hu = _ from e]
        exact do_lt (ma9 _ (by rw [List.getElem?_eq_getElem (by omega)]; exact List.getElem_mem _)) (mb9 _ (by rw [List.getElem?_eq_getElem (by omega)]; exact List.getElem_mem _)) (fun h => (hkc h).1)
      have hnn9 : ∀ q ∈ rowQ I qa qb, 0 ≤ q.2 := fun q hq => by
        obtain ⟨u, hu, rfl⟩ := List.mem_iff_getElem.1 hq
        have e := rowQ_at (i := I) hab (t := u) (by omega)
        rw [List.getElem?_eq_getElem hu] at e
        rw [show (rowQ I qa qb)[u]'hu = _ from e]
        exact do_pos (ma9 _ (by rw [List.getElem?_eq_getElem (by omega)]; exact List.getElem_mem _)).2.2 (mb9 _ (by rw [List.getElem?_eq_getElem (by omega)]; exact List.getElem_mem _)).2.2
      refine Wl.freezeRow 3 rfl hor (fun G3 hle3 hA3 => ?_)
      have hle3' : Gy.le G3 := hle3
      have hBs : BigQs G3 rr (rowQ I qa qb) := ⟨by omega, fun q hq => by rw [rowQ_at hab (by omega)]; exact (hdone q (by omega)).up hle3'⟩
      refine Wl.k 40 rfl (c110 _ _ _ rr _ hA3 hBs hlt9 (by omega)) (fun v3 G4 Ho3 hle4 hp => ?_)
      obtain ⟨rfl, rfl⟩ := hp
      replace hA3 := hA3.up hle4
      replace hBs := hBs.up hle4
      by_cases hw : (rowQ I qa qb).any wideQ = true
      · refine Wl.ll0 1 [] ?_
        refine Wl.yes 59 rfl (by first | assumption | omega) ?_
        refine Wl.ga 22 [1] ?_
        refine Ar.e2 ?_
        exact .inr ⟨hstop (by rw [hstep, if_pos hw]), rfl, rfl⟩
      · have hz := hnext _ (by rw [hstep, if_neg hw])
        refine Wl.ll0 1 [] ?_
        refine Wl.no 59 rfl (by first | assumption | omega) ?_
        refine Wl.ll0 7 [] ?_
        refine Wl.callV (fst := []) (cap := []) 4 rfl T.fn63 rfl rfl (c63 _ _ _ _ _) (tags_of trivial) (fun v2 G2 Ho2 hle2 hp => ?_)
        obtain ⟨rfl, rfl, rfl⟩ := hp
        refine Wl.gl 13 [0, 2] ?_
        refine Wl.q rfl (Qy.indexAddrO (α := SV) T.sl49 rfl rfl (by assumption) (by omega)) ?_
        refine Wl.re 69 rfl (show _ = Value.slice (some ⟨b3, 0, none⟩) t t by rw [hrrN]) ?_
        refine Wl.setO (z := (⟨some ⟨b3, 0, none⟩, t, t⟩ : SV)) (m := I.to) 0 T.size122 rfl rfl rfl ho2 mt rfl (fun ho5 => ?_)
        refine Wl.ga 7 [] ?_
        refine Ar.re 1 rfl (show _ = Value.slice o (r2.set I.to.toNat (⟨some ⟨b3, 0, none⟩, t, t⟩ : SV)).length d by rw [List.length_set]) ?_
        have hle9 : G1.le G2 := Imm.le_trans hgy (Imm.le_trans hle3' hle4)
        have hrow : QRow G2 (⟨some ⟨b3, 0, none⟩, t, t⟩ : SV) (rowQ I qa qb) := ⟨rr, hrrN, Nat.le_refl _, hA3, hBs⟩
        have hok : (rowQ I qa qb).length = t ∧ ∀ q ∈ rowQ I qa qb, OkQ 2100 q := ⟨by omega, fun q hq => wide_ok (by
          cases hq9 : wideQ q with
          | false => rfl
          | true => exact absurd (List.any_eq_true.2 ⟨q, hq, hq9⟩) hw) (hnn9 q hq)⟩
        refine Ar.again ((i + 1, G2, r2.set I.to.toNat (⟨some ⟨b3, 0, none⟩, t, t⟩ : SV), rs2.set I.to.toNat (rowQ I qa qb))) ?_ ?_ rfl ⟨rfl, rfl, rfl, rfl, rfl, trivial⟩ ⟨rfl, rfl, trivial⟩
        · exact ⟨by omega, Imm.le_trans hgx (Imm.le_trans hle1' hle9), by rw [List.length_set]; exact hr2, ho5, (hg2.up hle9).set hrow _, hb2.set hok _, hz⟩
        · show p.code.length - (i + 1) < p.code.length - i
          omega
  · have hii : i = p.code.length := by omega
    subst hii
    rw [List.take_length] at hrun
    refine Wc.ga 20 [0] ?_
    refine Ar.out2 (.inr rfl) (Ho := [(0, o.map (·.block), Row 122 r2 j)]) rfl (.tmp rfl) (.tmp rfl) ⟨rfl, trivial⟩ ?_
    exact .inl ⟨r2, rs2, hr2, hrun, rfl, ho2, hg2, hb2, rfl⟩
end Go.Proofs.YtbppmiimeccclaaGreat
set_option maxRecDepth 100000
set_option linter.unusedVariables false
namespace Go.Proofs.YtbppmiimeccclaaGreat
open Go Go.Sl
set_option maxHeartbeats 4000000
theorem units_at {p : PV} {k : Nat} (h : k < p.regs.toNat) : (unitsQ p)[k]?.getD [] = (List.range p.ins.toNat).map fun j => if k = j then ((1, 0) : QZ) else (0, 0) := by
  unfold unitsQ
  rw [List.getElem?_map, List.getElem?_range h]; rfl
theorem unit_row {p : PV} {k j : Nat} (h : k < p.regs.toNat) (hj : j < p.ins.toNat) : ((unitsQ p)[k]?.getD [])[j]?.getD (0, 0) = if k = j then ((1, 0) : QZ) else (0, 0) := by
  rw [units_at h, List.getElem?_map, List.getElem?_range hj]; rfl
theorem units_even {p : PV} : EvenQ p.ins.toNat (unitsQ p) := fun zs hz => by
  unfold unitsQ at hz
  obtain ⟨k, hk, rfl⟩ := List.mem_map.1 hz
  refine ⟨by rw [List.length_map, List.length_range], fun q hq => ?_⟩
  obtain ⟨j, hj, rfl⟩ := List.mem_map.1 hq
  have h0 : Lt 2100 0 := Lt.mono (m := 0) (show ((0 : Int).natAbs : Int) < pb 0 by decide) (by decide)
  split
  · exact ⟨Lt.one (by decide), h0, Int.le_refl _⟩
  · exact ⟨h0, h0, Int.le_refl _⟩
theorem bigq_zero (G : Imm) : BigQ G (default : QV) (0, 0) := ⟨Big.zero G, Big.zero G⟩
theorem row_zero {G : Imm} {p : PV} {k N : Nat} (hk : k < p.regs.toNat) (hN : p.ins.toNat = N) (hkN : ¬ k < N) : BigQs G (List.replicate N (default : QV)) ((unitsQ p)[k]?.getD []) := by
  refine ⟨by rw [units_at hk, List.length_map, List.length_range, List.length_replicate, hN], fun i hi => ?_⟩
  rw [List.length_replicate] at hi
  rw [unit_row hk (by omega), if_neg (by omega), List.getElem?_replicate, if_pos hi]
  exact bigq_zero G
theorem row_one {G : Imm} {p : PV} {k N : Nat} {x : QV} (hk : k < p.regs.toNat) (hN : p.ins.toNat = N) (hkN : k < N) (hx : BigQ G x (1, 0)) : BigQs G ((List.replicate N (default : QV)).set k x) ((unitsQ p)[k]?.getD []) := by
  refine ⟨by rw [units_at hk, List.length_map, List.length_range, List.length_set, List.length_replicate, hN], fun i hi => ?_⟩
  rw [List.length_set, List.length_replicate] at hi
  rw [unit_row hk (by omega), List.getElem?_set]
  by_cases e : k = i
  · subst e
    rw [if_pos rfl, if_pos rfl, if_pos (by rw [List.length_replicate]; exact hi)]
    exact hx
  · rw [if_neg e, if_neg e, List.getElem?_replicate, if_pos hi]
    exact bigq_zero G
theorem qrow_snoc {G : Imm} {q : List SV} {os : List (List QZ)} {i : Nat} {s : SV} (h : ∀ t : Nat, t < i → QRow G (q[t]?.getD default) (os[t]?.getD [])) (hq : q.length = i) (hs : QRow G s (os[i]?.getD [])) : ∀ t : Nat, t < i + 1 → QRow G ((q ++ [s])[t]?.getD default) (os[t]?.getD []) := fun t ht => by
  rcases Nat.lt_or_ge t i with h1 | h1
  · rw [List.getElem?_append_left (by omega)]; exact h t h1
  · have e : t = i := by omega
    subst e
    rw [List.getElem?_append_right (by omega), hq, Nat.sub_self]; exact hs
attribute [local irreducible] valB pb cmpZ lstWp lowQ Lt bitsZ p2 cst wideQ doQ stepQ unitsQ
theorem c62 (G : Imm) (p : PV) (ac ao : Option Addr) (cc co : Nat) (f1 : 1 ≤ p.ins) (f2 : p.ins ≤ p.regs) (f3 : p.regs ≤ 128) :
    Does Tryz.prog 62 [.agg #[.int .i64 p.ins, .int .i64 p.regs, .slice ac p.code.length cc, .slice ao p.outs.length co]] G []
      (fun v G' Ho => ∃ (o : Option Addr) (r : List SV) (d : Nat) (j : List Value), v = .slice o r.length d ∧ QGrid G' r (unitsQ p) ∧ OwnA o d r j ∧ (r.length : Int) = p.regs ∧ Ho = [(0, o.map (·.block), Row 122 r j)]) := by
  obtain ⟨R, hR⟩ : ∃ R : Nat, p.regs = (R : Int) := ⟨p.regs.toNat, by omega⟩
  obtain ⟨N, hN⟩ : ∃ N : Nat, p.ins = (N : Int) := ⟨p.ins.toNat, by omega⟩
  have hN' : p.ins.toNat = N := by omega
  have hR' : p.regs.toNat = R := by omega
  refine Does.enter Tryz.func62 rfl Tryz.ntmps62 rfl (fun w => ?_)
  rw [hR, hN]
  refine Wc.nilRow 0 (Row 122 ([] : List SV) []) ?_
  refine Wc.gl 2 [] ?_
  refine Wl.box 1 rfl rfl rfl (fun b1 => ?_)
  refine Wl.gc 17 [1] ?_
  refine Wc.loopG (ι := Nat × Imm × List SV × (Option Addr × Nat × List Value)) (fun (k, Gx, q, (o, d, j)) => ([(8, .int .i64 (k : Int)), (3, .slice o q.length d), (7, Go.Value.int Go.IntKind.i64 (↑R : Int)), (2, Go.Value.slice Option.none 0 0), (1, Go.Value.pointer (Option.some (Go.Addr.mk b1 0 Option.none)))], [(0, o.map (·.block), Row 122 q j), (1, Option.some b1, Go.Obj.cells #[Go.Value.int Go.IntKind.i64 (↑N : Int), Go.Value.int Go.IntKind.i64 (↑R : Int), Go.Value.slice ac (List.length (Go.Proofs.YtbppmiimeccclaaGreat.PV.code p)) cc, Go.Value.slice ao (List.length (Go.Proofs.YtbppmiimeccclaaGreat.PV.outs p)) co] 25)])) (fun (k, Gx, q, (o, d, j)) => Gx) (fun (k, Gx, q, (o, d, j)) => k ≤ R ∧ G.le Gx ∧ q.length = k ∧ (∀ t : Nat, t < k → QRow Gx (q[t]?.getD default) ((unitsQ p)[t]?.getD [])) ∧ OwnA o d q j) (fun (k, Gx, q, (o, d, j)) => R - k) ((0, G, [], (none, 0, []))) (⟨Nat.zero_le _, Imm.le_refl _, rfl, fun t ht => by omega, OwnA.nil⟩) rfl ⟨rfl, rfl, rfl, rfl, rfl, trivial⟩ ⟨rfl, rfl, trivial⟩ (fun ⟨k, Gx, q, (o, d, j)⟩ => fun (hk : k ≤ R ∧ G.le Gx ∧ q.length = k ∧ (∀ t : Nat, t < k → QRow Gx (q[t]?.getD default) ((unitsQ p)[t]?.getD [])) ∧ OwnA o d q j) => ?_)
  obtain ⟨hk0, hgx, hqk, hrows, hoq⟩ := hk
  rcases Nat.lt_or_ge k R with hkR | hkR
  · by_cases hkN : k < N
    · refine Wc.gl 21 [1, 1] ?_
      refine Wl.make (α := QV) 2 rfl T.sl122 T.el178 rfl rfl (by omega) (by omega) (fun b2 => ?_)
      refine Wl.gl 16 [1, 1] ?_
      refine Wl.k 3 rfl (v57 _) (fun v1 G1 Ho1 hle1 hp => ?_)
      obtain ⟨ri1, rfl, hri1, rfl⟩ := hp
      refine Wl.k 3 rfl (c112 _ _ _ (by assumption)) (fun v2 G2 Ho2 hle2 hp => ?_)
      obtain ⟨rr2, rfl, hrr2, rfl, rfl⟩ := hp
      replace hri1 := hri1.up hle2
      rw [Int.toNat_natCast, List.length_replicate]
      obtain ⟨r0, hr0⟩ : ∃ r0, r0 = List.replicate N (default : QV) := ⟨_, rfl⟩
      have lr0 : r0.length = N := by rw [hr0, List.length_replicate]
      have hor : OwnA (some ⟨b2, 0, none⟩) N r0 [] := .inr ⟨b2, rfl, by rw [lr0]; rfl, by rw [lr0]; exact Nat.le_refl _, by simp only [maxLen]; omega⟩
      rw [← hr0]
      refine Wl.re 18 rfl (show _ = Value.slice (some ⟨b2, 0, none⟩) r0.length N by rw [lr0]) ?_
      refine Wl.q rfl (Qy.indexAddrO (α := QV) T.sl122 rfl rfl (by assumption) (by omega)) ?_
      refine Wl.setO (z := rr2) (m := ((k : Nat) : Int)) 2 T.size178 rfl rfl rfl hor (by omega) rfl (fun ho4 => ?_)
      rw [Int.toNat_natCast] at ho4 ⊢
      refine Wl.gl 5 [] ?_
      refine Wl.lit (α := SV) 3 [⟨_, _, _⟩] rfl T.sl49 T.el122 rfl rfl rfl rfl rfl (fun b3 => ?_)
      refine Wl.append (α := SV) 0 rfl T.sl49 T.el122 rfl rfl rfl (by first | assumption | exact OwnA.nil | exact OwnA.made (by simp)) (Src.row 3 rfl) (by first | omega | (simp only [List.length_append, List.length_cons, List.length_nil, maxLen]; omega)) (by first | omega | (simp only [List.length_append, List.length_cons, List.length_nil, maxLen]; omega)) (fun a1 c1 junk1 ho1 => ?_)
      refine Wl.ga 8 [] ?_
      refine Ar.freezeRow 2 rfl ho4 (fun G3 hle3 hA3 => ?_)
      refine Ar.again ((k + 1, G3, q ++ [⟨some ⟨b2, 0, none⟩, N, N⟩], (a1, c1, junk1))) ?_ ?_ rfl ⟨rfl, rfl, rfl, rfl, rfl, trivial⟩ ⟨rfl, rfl, trivial⟩
      · have hg3 : Gx.le G3 := Imm.le_trans hle1 hle3
        refine ⟨by omega, Imm.le_trans hgx hg3, by rw [List.length_append, hqk]; rfl, qrow_snoc (fun t ht => (hrows t ht).up hg3) hqk ?_, by assumption⟩
        exact ⟨_, by rw [List.length_set, lr0], Nat.le_refl _, hA3, by rw [hr0]; exact row_one (by omega) hN' hkN (hrr2.up hle3)⟩
      · show R - (k + 1) < R - k
        omega
    · refine Wc.gl 21 [1, 1] ?_
      refine Wl.make (α := QV) 2 rfl T.sl122 T.el178 rfl rfl (by omega) (by omega) (fun b2 => ?_)
      refine Wl.gl 18 [1, 0] ?_
      refine Wl.lit (α := SV) 3 [⟨_, _, _⟩] rfl T.sl49 T.el122 rfl rfl rfl rfl rfl (fun b3 => ?_)
      refine Wl.append (α := SV) 0 rfl T.sl49 T.el122 rfl rfl rfl (by first | assumption | exact OwnA.nil | exact OwnA.made (by simp)) (Src.row 3 rfl) (by first | omega | (simp only [List.length_append, List.length_cons, List.length_nil, maxLen]; omega)) (by first | omega | (simp only [List.length_append, List.length_cons, List.length_nil, maxLen]; omega)) (fun a1 c1 junk1 ho1 => ?_)
      refine Wl.ga 8 [] ?_
      have hor : OwnA (some ⟨b2, 0, none⟩) N (List.replicate N (default : QV)) [] := .inr ⟨b2, rfl, by rw [List.length_replicate]; rfl, by rw [List.length_replicate]; exact Nat.le_refl _, by simp only [maxLen]; omega⟩
      rw [Int.toNat_natCast, List.length_replicate] at ho1 ⊢
      refine Ar.freezeRow 2 rfl hor (fun G3 hle3 hA3 => ?_)
      refine Ar.again ((k + 1, G3, q ++ [⟨some ⟨b2, 0, none⟩, N, N⟩], (a1, c1, junk1))) ?_ ?_ rfl ⟨rfl, rfl, rfl, rfl, rfl, trivial⟩ ⟨rfl, rfl, trivial⟩
      · have hg3 : Gx.le G3 := hle3
        refine ⟨by omega, Imm.le_trans hgx hg3, by rw [List.length_append, hqk]; rfl, qrow_snoc (fun t ht => (hrows t ht).up hg3) hqk ?_, by assumption⟩
        exact ⟨_, List.length_replicate, Nat.le_refl _, hA3, row_zero (by omega) hN' hkN⟩
      · show R - (k + 1) < R - k
        omega
  · have hkk : k = R := by omega
    subst hkk
    have hul : (unitsQ p).length = k := by rw [units_len]; exact hR'
    refine Wc.ga 19 [0] ?_
    refine Ar.out1 (.inr rfl) (Ho := [(0, o.map (·.block), Row 122 q j)]) rfl (.tmp rfl) ⟨rfl, trivial⟩ ?_
    exact ⟨o, q, d, j, rfl, ⟨by omega, fun t ht => hrows t (by omega)⟩, hoq, by omega, rfl⟩
end Go.Proofs.YtbppmiimeccclaaGreat
set_option maxRecDepth 100000
set_option linter.unusedVariables false
namespace Go.Proofs.YtbppmiimeccclaaGreat
open Go Go.Sl
set_option maxHeartbeats 4000000
attribute [local irreducible] valB pb cmpZ lstWp lowQ Lt bitsZ p2 cst wideQ doQ stepQ unitsQ
theorem c113 (G : Imm) (a : Option Addr) (c : Nat) (l : List QV) (ha : Arr G a l) (h0 : 0 < l.length) (hl : l.length ≤ 1048576) :
    Does Tryz.prog 113 [.slice a l.length c] G [] (fun v G' Ho => ∃ s d, v = .slice s l.length d ∧ Arr G' s l ∧ l.length ≤ d ∧ Ho = []) := by
  have hne : ¬ a = none := by rw [ha.addr h0]; exact fun h => by cases h
  refine Does.enter Tryz.func113 rfl Tryz.ntmps113 rfl (fun w => ?_)
  refine Wc.gl 9 [] ?_
  refine Wl.q rfl (Qy.eqlSliceNil T.sl122 rfl rfl) ?_
  refine Wl.gl 7 [0] ?_
  refine Wl.lit0 0 rfl T.sl122 (fun b1 => ?_)
  refine Wl.ll0 1 [] ?_
  refine Wl.reH 0 (Row 178 ([] : List QV) []) rfl rfl ?_
  refine Wl.append (α := QV) (xs := []) (ys := l) (junk := []) 0 rfl T.sl122 T.el178 rfl rfl rfl (.inr ⟨b1, rfl, rfl, Nat.le_refl _, Nat.zero_le _⟩) (Src.arr ha) (by rw [List.length_nil]; omega) (by rw [List.length_nil]; simp only [maxLen]; omega) (fun a1 c1 junk1 ho1 => ?_)
  rw [List.nil_append] at ho1 ⊢
  have hc1 := ho1.le
  refine Wl.ga 4 [] ?_
  refine Ar.freezeRow 0 rfl ho1 (fun G1 hle1 hA1 => ?_)
  refine Ar.e1 ?_
  exact ⟨a1, c1, rfl, hA1, hc1, rfl⟩
def outsQ (p : PV) (rs : List (List QZ)) : List (List QZ) := p.outs.map fun r => rs[r.toNat]?.getD []
theorem outsQ_at {p : PV} {rs : List (List QZ)} {i : Nat} (hi : i < p.outs.length) : (outsQ p rs)[i]?.getD [] = rs[(p.outs[((i : Nat) : Int).toNat]?.getD default).toNat]?.getD [] := by
  unfold outsQ
  rw [List.getElem?_map, Int.toNat_natCast, List.getElem?_eq_getElem hi]; rfl
theorem c64 (G : Imm) (p : PV) (ac ao ra : Option Addr) (cc co rc : Nat) (r : List SV) (rs : List (List QZ)) (N : Nat) (ho : Arr G ao p.outs) (hra : Arr G ra r) (hg : QGrid G r rs) (hev : EvenQ N rs) (hN0 : 1 ≤ N) (hN : N ≤ 1048576) (hr : (r.length : Int) = p.regs)
    (f6 : p.outs.length ≤ 128) (f7 : ∀ x ∈ p.outs, 0 ≤ x ∧ x < p.regs) :
    Does Tryz.prog 64 [.agg #[.int .i64 p.ins, .int .i64 p.regs, .slice ac p.code.length cc, .slice ao p.outs.length co], .slice ra r.length rc] G []
      (fun v G' Ho => ∃ (o : Option Addr) (q : List SV) (d : Nat), v = .slice o q.length d ∧ Arr G' o q ∧ q.length ≤ d ∧ QGrid G' q (outsQ p rs) ∧ Ho = []) := by
  have hrl := hg.1
  refine Does.enter Tryz.func64 rfl Tryz.ntmps64 rfl (fun w => ?_)
  refine Wc.nilRow 0 (Row 122 ([] : List SV) []) ?_
  refine Wc.gl 2 [] ?_
  refine Wl.box 1 rfl rfl rfl (fun b1 => ?_)
  refine Wl.gc 18 [1] ?_
  refine Wc.loopG (ι := Nat × Imm × List SV × (Option Addr × Nat × List Value)) (fun (i, Gx, q, (o, d, j)) => ([(11, .int .i64 (i : Int)), (5, .slice o q.length d), (10, Go.Value.int Go.IntKind.i64 (↑(List.length (Go.Proofs.YtbppmiimeccclaaGreat.PV.outs p)) : Int)), (9, Go.Value.slice ao (List.length (Go.Proofs.YtbppmiimeccclaaGreat.PV.outs p)) co), (4, Go.Value.slice Option.none 0 0), (1, Go.Value.slice ra (List.length r) rc)], [(0, o.map (·.block), Row 122 q j), (1, Option.some b1, Go.Obj.cells #[Go.Value.int Go.IntKind.i64 (Go.Proofs.YtbppmiimeccclaaGreat.PV.ins p), Go.Value.int Go.IntKind.i64 (Go.Proofs.YtbppmiimeccclaaGreat.PV.regs p), Go.Value.slice ac (List.length (Go.Proofs.YtbppmiimeccclaaGreat.PV.code p)) cc, Go.Value.slice ao (List.length (Go.Proofs.YtbppmiimeccclaaGreat.PV.outs p)) co] 25)])) (fun (i, Gx, q, (o, d, j)) => Gx) (fun (i, Gx, q, (o, d, j)) => i ≤ p.outs.length ∧ G.le Gx ∧ q.length = i ∧ (∀ t : Nat, t < i → QRow Gx (q[t]?.getD default) ((outsQ p rs)[t]?.getD [])) ∧ OwnA o d q j) (fun (i, Gx, q, (o, d, j)) => p.outs.length - i) ((0, G, [], (none, 0, []))) (⟨Nat.zero_le _, Imm.le_refl _, rfl, fun t ht => by omega, OwnA.nil⟩) rfl ⟨rfl, rfl, rfl, rfl, rfl, rfl, trivial⟩ ⟨rfl, rfl, trivial⟩ (fun ⟨i, Gx, q, (o, d, j)⟩ => fun (hk : i ≤ p.outs.length ∧ G.le Gx ∧ q.length = i ∧ (∀ t : Nat, t < i → QRow Gx (q[t]?.getD default) ((outsQ p rs)[t]?.getD [])) ∧ OwnA o d q j) => ?_)
  obtain ⟨hi0, hgx, hqi, hrows, hoq⟩ := hk
  replace ho := ho.up hgx
  replace hra := hra.up hgx
  replace hg := hg.up hgx
  rcases Nat.lt_or_ge i p.outs.length with hio | hio
  · have hmem : p.outs[((i : Nat) : Int).toNat]?.getD default ∈ p.outs := by
      rw [Int.toNat_natCast, List.getElem?_eq_getElem hio]; exact List.getElem_mem hio
    have hrg := f7 _ hmem
    obtain ⟨l1, ea1, ea2, ea3, ea4⟩ := hg.2 (p.outs[((i : Nat) : Int).toNat]?.getD default).toNat (by omega)
    have hN1 := (hev.at (k := (p.outs[((i : Nat) : Int).toNat]?.getD default).toNat) (by omega)).1
    have hl1 : l1.length = N := by rw [ea4.1, hN1]
    refine Wc.gl 13 [1] ?_
    refine Wl.q rfl (Qy.at (α := Int) T.sl23 rfl rfl (by assumption) (by omega)) ?_
    refine Wl.q rfl (Qy.loadG T.one3 rfl (Arr.cell (by assumption) (by omega) 0 rfl rfl)) ?_
    refine Wl.gl 7 [] ?_
    refine Wl.q rfl (Qy.at (α := SV) T.sl49 rfl rfl (by assumption) (by omega)) ?_
    refine Wl.q rfl (Qy.loadG T.one122 rfl (Arr.cell (by assumption) (by omega) 0 rfl rfl)) ?_
    refine Wl.re 19 rfl (show _ = Value.slice (r[(p.outs[((i : Nat) : Int).toNat]?.getD default).toNat]?.getD default).a l1.length (r[(p.outs[((i : Nat) : Int).toNat]?.getD default).toNat]?.getD default).c by rw [ea1]) ?_
    refine Wl.k 20 rfl (c113 _ _ _ l1 ea3 (by omega) (by omega)) (fun v1 G2 Ho1 hle2 hp => ?_)
    obtain ⟨s2, d2, rfl, hA2, hd2, rfl⟩ := hp
    have hle2' : Gx.le G2 := hle2
    refine Wl.lit (α := SV) 2 [⟨_, _, _⟩] rfl T.sl49 T.el122 rfl rfl rfl rfl rfl (fun b2 => ?_)
    refine Wl.append (α := SV) 0 rfl T.sl49 T.el122 rfl rfl rfl (by first | assumption | exact OwnA.nil | exact OwnA.made (by simp)) (Src.row 2 rfl) (by first | omega | (simp only [List.length_append, List.length_cons, List.length_nil, maxLen]; omega)) (by first | omega | (simp only [List.length_append, List.length_cons, List.length_nil, maxLen]; omega)) (fun a1 c1 junk1 ho1 => ?_)
    refine Wl.ga 8 [] ?_
    refine Ar.again ((i + 1, G2, q ++ [⟨s2, l1.length, d2⟩], (a1, c1, junk1))) ?_ ?_ rfl ⟨rfl, rfl, rfl, rfl, rfl, rfl, trivial⟩ ⟨rfl, rfl, trivial⟩
    · refine ⟨by omega, Imm.le_trans hgx hle2', by rw [List.length_append, hqi]; rfl, qrow_snoc (fun t ht => (hrows t ht).up hle2') hqi ?_, by assumption⟩
      rw [outsQ_at hio]
      exact ⟨l1, rfl, hd2, hA2, ea4.up hle2'⟩
    · show p.outs.length - (i + 1) < p.outs.length - i
      omega
  · have hii : i = p.outs.length := by omega
    subst hii
    have hqd := hoq.le
    have hol : (outsQ p rs).length = p.outs.length := by unfold outsQ; rw [List.length_map]
    refine Wc.ga 19 [0] ?_
    refine Ar.freezeRow 0 rfl hoq (fun G8 hle8 hA => ?_)
    refine Ar.e1 ?_
    exact ⟨o, q, d, rfl, hA, hqd, ⟨by omega, fun t ht => (hrows t (by omega)).up hle8⟩, rfl⟩
end Go.Proofs.YtbppmiimeccclaaGreat
set_option maxRecDepth 100000
set_option linter.unusedVariables false
namespace Go.Proofs.YtbppmiimeccclaaGreat
open Go Go.Sl
set_option maxHeartbeats 4000000
attribute [local irreducible] valB pb cmpZ lstWp lowQ Lt bitsZ p2 cst wideQ doQ stepQ unitsQ
theorem c115T (G : Imm) (x y : QV) (q : QZ) (hx : BigQ G x q) (hy : BigQ G y q) (h : OkQ 2100 q) :
    Does Tryz.prog 115 [.agg (Cells.enc x).toArray, .agg (Cells.enc y).toArray] G [] (fun v G' Ho => v = .bool true ∧ Ho = []) := by
  have hz := cmpZ_eq (x := q.1 * (q.2 + 1)) rfl
  refine Does.enter Tryz.func115 rfl Tryz.ntmps115 rfl (fun w => ?_)
  refine Wc.gl 2 [] ?_
  refine Wl.box 0 rfl rfl rfl (fun b1 => ?_)
  refine Wl.box 1 rfl rfl rfl (fun b2 => ?_)
  refine Wl.gl 7 [0, 1] ?_
  refine Wl.k 2 rfl (c116 _ _ _ _ _ (by assumption) (by assumption) (by assumption) (by assumption)) (fun v1 G1 Ho1 hle1 hp => ?_)
  obtain ⟨rfl, rfl⟩ := hp
  replace hx := hx.up hle1
  replace hy := hy.up hle1
  refine Wl.ga 5 [] ?_
  refine Ar.e1 ?_
  exact ⟨by rw [hz]; rfl, rfl⟩
theorem c114T (G : Imm) (a b : Option Addr) (ca cb : Nat) (l m : List QV) (qs : List QZ) (ha : Arr G a l) (hb : Arr G b m) (hl : BigQs G l qs) (hm : BigQs G m qs) (hok : ∀ q ∈ qs, OkQ 2100 q) (h1 : l.length ≤ 1048576) :
    Does Tryz.prog 114 [.slice a l.length ca, .slice b m.length cb, .func (.func 115) #[] #[]] G [] (fun v G' Ho => v = .bool true ∧ Ho = []) := by
  have hl1 := hl.1
  have hm1 := hm.1
  refine Does.enter Tryz.func114 rfl Tryz.ntmps114 rfl (fun w => ?_)
  refine Wc.gc 27 [0] ?_
  refine Wc.loopG (ι := Nat × Imm) (fun (i, Gx) => ([(17, .int .i64 (i : Int)), (16, Go.Value.int Go.IntKind.i64 (↑(List.length l) : Int)), (15, Go.Value.slice a (List.length l) ca), (1, Go.Value.slice b (List.length m) cb), (2, Go.Value.func (Go.Fn.func 115) #[] #[])], [])) (fun (i, Gx) => Gx) (fun (i, Gx) => i ≤ l.length ∧ G.le Gx) (fun (i, Gx) => l.length - i) ((0, G)) (⟨Nat.zero_le _, Imm.le_refl _⟩) rfl ⟨rfl, rfl, rfl, rfl, rfl, trivial⟩ trivial (fun ⟨i, Gx⟩ => fun (hk : i ≤ l.length ∧ G.le Gx) => ?_)
  obtain ⟨hi0, hgx⟩ := hk
  replace ha := ha.up hgx
  replace hb := hb.up hgx
  replace hl := hl.up hgx
  replace hm := hm.up hgx
  rcases Nat.lt_or_ge i l.length with hil | hil
  · have hx : BigQ Gx (l[((i : Nat) : Int).toNat]?.getD default) (qs[i]?.getD (0, 0)) := hl.2 i hil
    have hy : BigQ Gx (m[((i : Nat) : Int).toNat]?.getD default) (qs[i]?.getD (0, 0)) := hm.2 i (by omega)
    have hq : OkQ 2100 (qs[i]?.getD (0, 0)) := hok _ (by rw [List.getElem?_eq_getElem (by omega)]; exact List.getElem_mem _)
    refine Wc.gl 14 [1] ?_
    refine Wl.q rfl (Qy.at (α := QV) T.sl122 rfl rfl (by assumption) (by omega)) ?_
    refine Wl.q rfl (Qy.loadsG T.agg178 rfl (Arr.elem (by assumption) (by omega)) rfl) ?_
    refine Wl.alloc 0 rfl T.zero178 (fun b1 => ?_)
    refine Wl.gl 8 [0] ?_
    refine Wl.q rfl (Qy.at (α := QV) T.sl122 rfl rfl (by assumption) (by omega)) ?_
    refine Wl.q rfl (Qy.loadsG T.agg178 rfl (Arr.elem (by assumption) (by omega)) rfl) ?_
    refine Wl.alloc 1 rfl T.zero178 (fun b2 => ?_)
    refine Wl.gl 8 [1, 0, 1] ?_
    refine Wl.callV (fst := []) (cap := []) 2 rfl T.fn115 rfl rfl (c115T _ _ _ _ (by assumption) (by assumption) (by assumption)) (tags_of trivial) (fun v1 G1 Ho1 hle1 hp => ?_)
    obtain ⟨rfl, rfl⟩ := hp
    replace ha := ha.up hle1
    replace hb := hb.up hle1
    replace hl := hl.up hle1
    replace hm := hm.up hle1
    replace hx := hx.up hle1
    replace hy := hy.up hle1
    refine Wl.ga 11 [0] ?_
    refine Ar.again ((i + 1, G1)) ?_ ?_ rfl ⟨rfl, rfl, rfl, rfl, rfl, trivial⟩ trivial
    · exact ⟨by omega, Imm.le_trans hgx hle1⟩
    · show l.length - (i + 1) < l.length - i
      omega
  · refine Wc.ga 18 [0] ?_
    refine Ar.e1 ?_
    exact ⟨rfl, rfl⟩
theorem c66T (G : Imm) (s t : SV) (zs : List QZ) (hs : QRow G s zs) (ht : QRow G t zs) (hok : ∀ q ∈ zs, OkQ 2100 q) (hn : s.n ≤ 1048576) :
    Does Tryz.prog 66 [.slice s.a s.n s.c, .slice t.a t.n t.c] G [] (fun v G' Ho => v = .bool true ∧ Ho = []) := by
  obtain ⟨l, e1, e2, e3, e4⟩ := hs
  obtain ⟨m, g1, g2, g3, g4⟩ := ht
  have h := c114T G s.a t.a s.c t.c l m zs e3 g3 e4 g4 hok (by omega)
  rw [e1, g1] at h
  refine Does.enter Tryz.func66 rfl Tryz.ntmps66 rfl (fun w => ?_)
  refine Wc.gl 9 [] ?_
  refine Wl.k 0 rfl (h) (fun v1 G1 Ho1 hle1 hp => ?_)
  obtain ⟨rfl, rfl⟩ := hp
  replace e3 := e3.up hle1
  replace e4 := e4.up hle1
  replace g3 := g3.up hle1
  replace g4 := g4.up hle1
  refine Wl.ga 4 [] ?_
  refine Ar.e1 ?_
  exact ⟨rfl, rfl⟩
theorem c65T (G : Imm) (a b : Option Addr) (ca cb : Nat) (l m : List SV) (os : List (List QZ)) (N : Nat) (ha : Arr G a l) (hb : Arr G b m) (hl : QGrid G l os) (hm : QGrid G m os) (hev : EvenQ N os) (hN : N ≤ 1048576) (h1 : l.length ≤ 1048576) :
    Does Tryz.prog 65 [.slice a l.length ca, .slice b m.length cb, .func (.func 66) #[] #[]] G [] (fun v G' Ho => v = .bool true ∧ Ho = []) := by
  have hl1 := hl.1
  have hm1 := hm.1
  refine Does.enter Tryz.func65 rfl Tryz.ntmps65 rfl (fun w => ?_)
  refine Wc.gc 27 [0] ?_
  refine Wc.loopG (ι := Nat × Imm) (fun (i, Gx) => ([(17, .int .i64 (i : Int)), (16, Go.Value.int Go.IntKind.i64 (↑(List.length l) : Int)), (15, Go.Value.slice a (List.length l) ca), (1, Go.Value.slice b (List.length m) cb), (2, Go.Value.func (Go.Fn.func 66) #[] #[])], [])) (fun (i, Gx) => Gx) (fun (i, Gx) => i ≤ l.length ∧ G.le Gx) (fun (i, Gx) => l.length - i) ((0, G)) (⟨Nat.zero_le _, Imm.le_refl _⟩) rfl ⟨rfl, rfl, rfl, rfl, rfl, trivial⟩ trivial (fun ⟨i, Gx⟩ => fun (hk : i ≤ l.length ∧ G.le Gx) => ?_)
  obtain ⟨hi0, hgx⟩ := hk
  replace ha := ha.up hgx
  replace hb := hb.up hgx
  replace hl := hl.up hgx
  replace hm := hm.up hgx
  rcases Nat.lt_or_ge i l.length with hil | hil
  · have hx : QRow Gx (l[((i : Nat) : Int).toNat]?.getD default) (os[i]?.getD []) := hl.2 i hil
    have hy : QRow Gx (m[((i : Nat) : Int).toNat]?.getD default) (os[i]?.getD []) := hm.2 i (by omega)
    obtain ⟨hN1, hok⟩ := hev.at (k := i) (by omega)
    have hn : (l[((i : Nat) : Int).toNat]?.getD default).n ≤ 1048576 := by
      obtain ⟨l9, e1, e2, e3, e4⟩ := hx
      rw [← e1, e4.1, hN1]; exact hN
    refine Wc.gl 14 [1] ?_
    refine Wl.q rfl (Qy.at (α := SV) T.sl49 rfl rfl (by assumption) (by omega)) ?_
    refine Wl.q rfl (Qy.loadG T.one122 rfl (Arr.cell (by assumption) (by omega) 0 rfl rfl)) ?_
    refine Wl.gl 8 [] ?_
    refine Wl.q rfl (Qy.at (α := SV) T.sl49 rfl rfl (by assumption) (by omega)) ?_
    refine Wl.q rfl (Qy.loadG T.one122 rfl (Arr.cell (by assumption) (by omega) 0 rfl rfl)) ?_
    refine Wl.gl 8 [] ?_
    refine Wl.callV (fst := []) (cap := []) 0 rfl T.fn66 rfl rfl (c66T _ _ _ _ (by assumption) (by assumption) (by assumption) (by assumption)) (tags_of trivial) (fun v1 G1 Ho1 hle1 hp => ?_)
    obtain ⟨rfl, rfl⟩ := hp
    replace ha := ha.up hle1
    replace hb := hb.up hle1
    replace hl := hl.up hle1
    replace hm := hm.up hle1
    refine Wl.ga 11 [0] ?_
    refine Ar.again ((i + 1, G1)) ?_ ?_ rfl ⟨rfl, rfl, rfl, rfl, rfl, trivial⟩ trivial
    · exact ⟨by omega, Imm.le_trans hgx hle1⟩
    · show l.length - (i + 1) < l.length - i
      omega
  · refine Wc.ga 18 [0] ?_
    refine Ar.e1 ?_
    exact ⟨rfl, rfl⟩
/-- what Rows answers of a program that may be -/
def RowsQPost (p : PV) (v : Value) (G' : Imm) (Ho : Hp) : Prop :=
  Ho = [] ∧ ((∃ os o q d, denP p = some os ∧ v = .tuple #[.slice o (List.length q) d, .int .i64 0] ∧ Arr G' o q ∧ List.length q ≤ d ∧ QGrid G' q os ∧ EvenQ p.ins.toNat os ∧ os.length = p.outs.length) ∨ (denP p = none ∧ v = .tuple #[.slice none 0 0, .int .i64 3]))
theorem c22 (G : Imm) (p : PV) (ac ao : Option Addr) (cc co : Nat) (hc : Arr G ac p.code) (ho : Arr G ao p.outs) (hR : rightP p = true) :
    Does Tryz.prog 22 [.agg #[.int .i64 p.ins, .int .i64 p.regs, .slice ac p.code.length cc, .slice ao p.outs.length co]] G [] (RowsQPost p) := by
  obtain ⟨f1, f2, f3, f4, f5, f6, f7, f8⟩ := right_facts hR
  have h1 : p.code.length ≤ 1099511627776 := by omega
  have h2 : p.outs.length ≤ 1099511627776 := by omega
  refine Does.enter Tryz.func22 rfl Tryz.ntmps22 rfl (fun w => ?_)
  have hden : denP p = (runG stepQ p.code (unitsQ p)).map (outsQ p) := rfl
  refine Wc.gl 2 [] ?_
  refine Wl.box 0 rfl rfl rfl (fun b1 => ?_)
  refine Wl.gl 7 [0] ?_
  refine Wl.k0 rfl (c18R _ p _ _ _ _ (by assumption) (by assumption) h1 h2 hR) ?_
  refine Wl.gc 18 [0] ?_
  refine Wc.draw [0] [(0, 3)] T.mixed rfl ?_
  refine Gm.c 0 [0] [0] ?_
  refine Gm.o1 1 ?_
  refine Wl.ll0 1 [0] ?_
  refine Wl.on0 ?_
  refine Gm.o1 2 ?_
  refine Wl.k 1 rfl (c62 _ p _ _ _ _ f1 f2 f3) (fun v1 G1 Ho1 hle1 hp => ?_)
  obtain ⟨o1, r1, d1, j1, rfl, hg1, hoo1, hrr1, rfl⟩ := hp
  replace hc := hc.up hle1
  replace ho := ho.up hle1
  refine Wl.on0 ?_
  refine Gm.o1 3 ?_
  refine Wl.k 1 rfl (c61 _ p ac ao cc co o1 d1 r1 j1 (unitsQ p) p.ins.toNat hc hoo1 hg1 units_even (by omega) (by omega) f4 hrr1 (by omega) f8) (fun v2 G2 Ho2 hle2 hp => ?_)
  replace ho := ho.up hle2
  rcases hp with ⟨r', rs', e1, e2, rfl, e4, e5, e6, rfl⟩ | ⟨e1, rfl, rfl⟩
  · refine Wl.on0 ?_
    refine Gm.c 4 [] [] ?_
    refine Gm.c 5 [] [] ?_
    refine Gm.c 6 [] [] ?_
    refine Gm.c 7 [] [] ?_
    refine Gm.c 8 [] [] ?_
    refine Gm.doneA (by kernel_rfl) trivial (by first | exact Imm.le_refl _ | repeat (first | assumption | refine Imm.le_trans ?_ (by assumption))) ?_
    refine Ar.gl 15 [0, 0] ?_
    refine Wl.freezeRow 1 rfl e4 (fun G3 hle3 hA3 => ?_)
    refine Wl.k 30 rfl (c64 _ p ac ao o1 cc co d1 r' rs' p.ins.toNat (ho.up hle3) hA3 (e5.up hle3) e6 (by omega) (by omega) (by omega) f6 f7) (fun v4 G4 Ho4 hle4 hp => ?_)
    obtain ⟨o4, q4, d4, rfl, hA4, hd4, hg4, rfl⟩ := hp
    refine Wl.ga 5 [] ?_
    refine Ar.e2 ?_
    refine ⟨rfl, .inl ⟨outsQ p rs', o4, q4, d4, by rw [hden, e2]; rfl, rfl, hA4, hd4, hg4, fun zs hz => ?_, by unfold outsQ; rw [List.length_map]⟩⟩
    unfold outsQ at hz
    obtain ⟨x, hx, rfl⟩ := List.mem_map.1 hz
    have hx7 := f7 x hx
    exact e6.at (k := x.toNat) (by have := e5.1; omega)
  · refine Wl.on0 ?_
    refine Gm.c 4 [] [] ?_
    refine Gm.c 5 [] [] ?_
    refine Gm.c 6 [] [] ?_
    refine Gm.c 7 [] [] ?_
    refine Gm.c 8 [] [] ?_
    refine Gm.doneA (by kernel_rfl) trivial (by first | exact Imm.le_refl _ | repeat (first | assumption | refine Imm.le_trans ?_ (by assumption))) ?_
    refine Ar.ga 17 [1] ?_
    refine Ar.e2 ?_
    exact ⟨rfl, .inr ⟨by rw [hden, e1]; rfl, rfl⟩⟩
theorem c23 (G : Imm) (p q : PV) (ac ao bc bo : Option Addr) (cc co dc do_ : Nat) (hc : Arr G ac p.code) (ho : Arr G ao p.outs) (hc' : Arr G bc q.code) (ho' : Arr G bo q.outs) (hR : rightP p = true) (hR' : rightP q = true) (hi : p.ins = q.ins) (hsame : ∀ os os', denP p = some os → denP q = some os' → os = os') :
    Does Tryz.prog 23 [.agg #[.int .i64 p.ins, .int .i64 p.regs, .slice ac p.code.length cc, .slice ao p.outs.length co], .agg #[.int .i64 q.ins, .int .i64 q.regs, .slice bc q.code.length dc, .slice bo q.outs.length do_]] G []
      (fun v G' Ho => ((denP p ≠ none ∧ denP q ≠ none ∧ v = .tuple #[.bool true, .int .i64 0]) ∨ ((denP p = none ∨ denP q = none) ∧ v = .tuple #[.bool false, .int .i64 3])) ∧ Ho = []) := by
  obtain ⟨f1, f2, f3, f4, f5, f6, f7, f8⟩ := right_facts hR
  obtain ⟨g1, g2, g3, g4, g5, g6, g7, g8⟩ := right_facts hR'
  have hp1 := c18R G p ac ao cc co hc ho (by omega) (by omega) hR
  have hp2 := c18R G q bc bo dc do_ hc' ho' (by omega) (by omega) hR'
  refine Does.enter Tryz.func23 rfl Tryz.ntmps23 rfl (fun w => ?_)
  refine Wc.gl 2 [] ?_
  refine Wl.box 0 rfl rfl rfl (fun b1 => ?_)
  refine Wl.box 1 rfl rfl rfl (fun b2 => ?_)
  refine Wl.gl 7 [0] ?_
  refine Wl.k0 rfl hp1 ?_
  refine Wl.gl 10 [1] ?_
  refine Wl.k0 rfl hp2 ?_
  refine Wl.gl 13 [] ?_
  refine Wl.no 24 rfl (by first | assumption | omega) ?_
  refine Wl.gl 13 [0, 0] ?_
  refine Wl.k 30 rfl (c22 _ p ac ao cc co hc ho hR) (fun v1 G1 Ho1 hle1 hp => ?_)
  obtain ⟨rfl, hp⟩ := hp
  replace hc' := hc'.up hle1
  replace ho' := ho'.up hle1
  rcases hp with ⟨os1, o1, q1, d1, e1, rfl, eA1, ed1, eg1, ev1, el1⟩ | ⟨e1, rfl⟩
  · refine Wl.gl 10 [1] ?_
    refine Wl.k 31 rfl (c22 _ q bc bo dc do_ hc' ho' hR') (fun v2 G2 Ho2 hle2 hp => ?_)
    obtain ⟨rfl, hp⟩ := hp
    rcases hp with ⟨os2, o2, q2, d2, e2, rfl, eA2, ed2, eg2, ev2, el2⟩ | ⟨e2, rfl⟩
    · have hos := hsame _ _ e1 e2
      subst hos
      replace eA1 := eA1.up hle2
      replace eg1 := eg1.up hle2
      have h128 : q1.length ≤ 1048576 := by have := eg1.1; omega
      have hi128 : p.ins.toNat ≤ 1048576 := by omega
      refine Wl.gl 13 [] ?_
      refine Wl.no 40 rfl (by first | assumption | omega) ?_
      refine Wl.gl 18 [0, 0, 1] ?_
      refine Wl.yes 49 rfl (by first | assumption | omega) ?_
      refine Wl.ll0 5 [] ?_
      refine Wl.k 2 rfl (c65T _ _ _ _ _ q1 q2 os1 p.ins.toNat eA1 eA2 eg1 eg2 ev1 hi128 h128) (fun v3 G3 Ho3 hle3 hp => ?_)
      obtain ⟨rfl, rfl⟩ := hp
      replace eA2 := eA2.up hle3
      replace eg2 := eg2.up hle3
      replace eA1 := eA1.up hle3
      replace eg1 := eg1.up hle3
      refine Wl.ga 6 [] ?_
      refine Ar.e2 ?_
      exact ⟨.inl ⟨(fun h => by rw [e1] at h; cases h), (fun h => by rw [e2] at h; cases h), rfl⟩, rfl⟩
    · refine Wl.gl 13 [] ?_
      refine Wl.no 40 rfl (by first | assumption | omega) ?_
      refine Wl.ga 16 [1] ?_
      refine Ar.e2 ?_
      exact ⟨.inr ⟨by first | exact .inl e1 | exact .inr e2, rfl⟩, rfl⟩
  · refine Wl.gl 10 [1] ?_
    refine Wl.k 31 rfl (c22 _ q bc bo dc do_ hc' ho' hR') (fun v2 G2 Ho2 hle2 hp => ?_)
    obtain ⟨rfl, hp⟩ := hp
    rcases hp with ⟨os2, o2, q2, d2, e2, rfl, eA2, ed2, eg2, ev2, el2⟩ | ⟨e2, rfl⟩
    · refine Wl.gl 13 [] ?_
      refine Wl.yes 40 rfl (by first | assumption | omega) ?_
      refine Wl.ga 14 [1] ?_
      refine Ar.e2 ?_
      exact ⟨.inr ⟨by first | exact .inl e1 | exact .inr e2, rfl⟩, rfl⟩
    · refine Wl.gl 13 [] ?_
      refine Wl.yes 40 rfl (by first | assumption | omega) ?_
      refine Wl.ga 14 [1] ?_
      refine Ar.e2 ?_
      exact ⟨.inr ⟨by first | exact .inl e1 | exact .inr e2, rfl⟩, rfl⟩
end Go.Proofs.YtbppmiimeccclaaGreat
