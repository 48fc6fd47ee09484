/- Regions whose order is open: an operation that only looks may be taken first. -/
import Derived.Test.YtfleehgbpgmcnaaSlC
set_option linter.unusedVariables false
namespace Go.Sl
open Go

section gm
variable {P : Program} {ops : Array Oper} {K : Act → World → Prop}
def stp (P : Program) (ops : Array Oper) (i : Nat) (K : Act → World → Prop) (a : Act) (w : World) : Prop :=
  match ops[i]? with
  | none => K a w
  | some o => if Region.wanted o (yielded ops a.tmps) then opWp P o a w K else K (a.put o.dst undef) w
theorem stp_mono {i : Nat} {a : Act} {w : World} {K K' : Act → World → Prop} (h : ∀ a w, K a w → K' a w) (hh : stp P ops i K a w) : stp P ops i K' a w := by
  unfold stp at *
  split
  · rename_i ho; simp only [ho] at hh; exact h _ _ hh
  · rename_i o ho
    simp only [ho] at hh
    split
    · rename_i hw; simp only [hw, if_true] at hh; exact opWp_mono h hh
    · rename_i hw; simp only [hw] at hh; exact h _ _ hh
/-- whatever order is picked from here on; C: what holds of every world on the way, by what is listed -/
def gm (P : Program) (ops : Array Oper) (K : Act → World → Prop) (C : Array Bool → World → Prop) : Nat → Array Bool → Act → World → Prop
  | 0, listed, a, w => C listed w ∧ Region.ready .any ops listed = [] ∧ K a w
  | f + 1, listed, a, w => C listed w ∧ (Region.ready .any ops listed = [] → K a w) ∧
    ∀ i ∈ Region.ready .any ops listed, stp P ops i (gm P ops K C f (listed.setIfInBounds i true)) a w
theorem gm_C {C : Array Bool → World → Prop} {f : Nat} {listed : Array Bool} {a : Act} {w : World} (h : gm P ops K C f listed a w) : C listed w := by cases f <;> exact h.1

theorem stp_sound {i : Nat} {a : Act} {w : World} {K : Act → World → Prop} {Q : Exit → Act → World → Prop} {r : Option Nat} {n : Nat} (hd : ops.toList.all notDefer = true)
    (h : stp P ops i K a w) : wpOpIn (FF r) n P ops Q i K a w := by
  unfold stp at h
  unfold wpOpIn
  split
  · rename_i ho; simp only [ho] at h; exact h
  · rename_i o ho
    simp only [ho] at h
    have hdo : notDefer o = true := by
      have := List.all_eq_true.1 hd o (by rw [Array.mem_toList_iff]; exact Array.mem_of_getElem? ho)
      exact this
    split
    · rename_i hw; simp only [hw, if_true] at h; exact opWp_sound hdo h
    · rename_i hw; simp only [hw] at h; exact ⟨fun _ _ => trivial, h⟩
theorem gm_sound {Q : Exit → Act → World → Prop} {r : Option Nat} {n : Nat} {C : Array Bool → World → Prop} (hd : ops.toList.all notDefer = true) : ∀ (f : Nat) (listed : Array Bool) (a : Act) (w : World),
    gm P ops (Q .normal) C f listed a w → wpAnyIn (FF r) n P .any ops Q f listed a w
  | 0, _, _, _, h => ⟨h.2.1, h.2.2⟩
  | f + 1, _, _, _, h => ⟨h.2.1, fun i hi => stp_sound hd (stp_mono (fun a w h => gm_sound hd f _ a w h) (h.2.2 i hi))⟩

/-- the operation yields v in every world of C -/
def yl (P : Program) (ops : Array Oper) (o : Oper) (a : Act) (C : World → Prop) (v : Value) : Prop :=
  (Region.wanted o (yielded ops a.tmps) = true ∧ ∀ w, C w → (execOp a.eval o).run P w = .ok (.value v) w) ∨ (Region.wanted o (yielded ops a.tmps) = false ∧ v = undef)
theorem yl.stp {i : Nat} {o : Oper} {v : Value} {a : Act} {w : World} {C : World → Prop} {K : Act → World → Prop} (hi : ops[i]? = some o) (hy : yl P ops o a C v) (hC : C w) (h : K (a.put o.dst v) w) : stp P ops i K a w := by
  unfold Go.Sl.stp
  simp only [hi]
  rcases hy with ⟨hw, hv⟩ | ⟨hw, rfl⟩
  · simp only [hw, if_true, opWp, hv w hC]; exact h
  · simp only [hw, Bool.false_eq_true, if_false]; exact h
theorem stp_put {j : Nat} {oi oj : Oper} {v : Value} {C : World → Prop} (hj : ops[j]? = some oj) (hap : oi.apart ops oj = true) (hsi : ∀ cs b, oi.op ≠ .select cs b) (hsj : ∀ cs b, oj.op ≠ .select cs b)
    {K : Act → World → Prop} {a : Act} {w : World} (hy : yl P ops oi a C v) (h : stp P ops j K (a.put oi.dst v) w) :
    stp P ops j (fun a' w' => yl P ops oi a' C v ∧ K (a'.put oi.dst v) w') a w := by
  obtain ⟨h1, h2, h3⟩ := Oper.apart_spec hap
  have keep : ∀ u, yl P ops oi (a.put oj.dst u) C v := fun u => by
    unfold yl at *
    rw [execOp_put oi hsi a oj.dst u h3, wanted_put oi a oj.dst u h3]
    exact hy
  unfold stp at *
  simp only [hj] at *
  rw [wanted_put oj a oi.dst v h1] at h
  split
  · rename_i hw
    simp only [hw, if_true] at h
    unfold opWp at *
    rw [execOp_put oj hsj a oi.dst v h1] at h
    generalize (execOp a.eval oj).run P w = r at *
    cases r with
    | ok x w' =>
      cases x <;> simp only at h ⊢
      case value u => exact ⟨keep u, by rw [← Act.put_comm a v u h2]; exact h⟩
      case skip => exact ⟨keep undef, by rw [← Act.put_comm a v undef h2]; exact h⟩
      case enter f args => exact h.mono fun x w'' ⟨u, hu, hk⟩ => ⟨u, hu, keep u, by rw [← Act.put_comm a v u h2]; exact hk⟩
      case round l f tmps assign body => exact h.mono fun x w'' ⟨u, hu, hk⟩ => ⟨u, hu, keep u, by rw [← Act.put_comm a v u h2]; exact hk⟩
    | halt x w' => exact h
  · rename_i hw
    simp only [hw] at h
    exact ⟨keep undef, by rw [← Act.put_comm a v undef h2]; exact h⟩
theorem gm_first {i : Nat} {oi : Oper} {v : Value} {C : Array Bool → World → Prop} {Wr : List Nat} {Cq : World → Prop} (hi : ops[i]? = some oi) (hsel : Region.noSelect ops = true)
    (hC : ∀ L w, (∀ j ∈ Wr, L.getD j false = false) → C L w → Cq w) (hset : ∀ L w, C (L.setIfInBounds i true) w → C L w)
    (hedge : ∀ j ∈ Wr, ∀ oj, ops[j]? = some oj → ∃ e ∈ oj.after, Region.binds .any e = true ∧ e.on = i) :
    ∀ (f : Nat) (listed : Array Bool) (a : Act) (w : World),
      (∀ j oj, ops[j]? = some oj → j ≠ i → listed.getD j true = false → (∀ e ∈ oj.after, Region.binds .any e = true → e.on ≠ i) → oi.apart ops oj = true) →
      (∀ j ∈ Wr, listed.getD j false = false) → i ∈ Region.ready .any ops listed → yl P ops oi a Cq v →
      gm P ops K C f (listed.setIfInBounds i true) (a.put oi.dst v) w → gm P ops K C (f + 1) listed a w := by
  intro f
  induction f with
  | zero =>
    intro listed a w _ hWr hr hy H
    have hc := hset _ _ H.1
    refine ⟨hc, fun h => (by rw [h] at hr; cases hr), fun j hj => ?_⟩
    by_cases hji : j = i
    · subst hji; exact hy.stp hi (hC _ _ hWr hc) H
    · have := ready_mono hj hji
      rw [H.2.1] at this
      cases this
  | succ f ih =>
    intro listed a w hfree hWr hr hy H
    have hc := hset _ _ H.1
    refine ⟨hc, fun h => (by rw [h] at hr; cases hr), fun j hj => ?_⟩
    by_cases hji : j = i
    · subst hji; exact hy.stp hi (hC _ _ hWr hc) H
    · have h1 := H.2.2 j (ready_mono hj hji)
      obtain ⟨hjun, oj, hoj, hall⟩ := mem_ready.1 hj
      have hnot : ∀ e ∈ oj.after, Region.binds .any e = true → e.on ≠ i := fun e he hb heq => by
        have h1 := hall e he hb
        have h0 := (mem_ready.1 hr).1
        rw [heq] at h1
        rcases Nat.lt_or_ge i listed.size with h' | h'
        · simp [h'] at h0 h1; rw [h0] at h1; cases h1
        · simp [Array.getElem?_eq_none h'] at h1
      have h2 := stp_put hoj (hfree j oj hoj hji hjun hnot) (fun cs b => Region.noSelect_spec hsel i oi cs b hi) (fun cs b => Region.noSelect_spec hsel j oj cs b hoj) hy h1
      have hfree' : ∀ k ok, ops[k]? = some ok → k ≠ i → (listed.setIfInBounds j true).getD k true = false →
          (∀ e ∈ ok.after, Region.binds .any e = true → e.on ≠ i) → oi.apart ops ok = true := fun k ok hk hki hun hno => by
        refine hfree k ok hk hki ?_ hno
        by_cases hjk : j = k
        · subst hjk; exact hjun
        · rw [getD_set_ne true hjk] at hun; exact hun
      have hWr' : ∀ k ∈ Wr, (listed.setIfInBounds j true).getD k false = false := fun k hk => by
        have hjk : j ≠ k := fun e => by
          subst e
          obtain ⟨e, he, hb, hon⟩ := hedge j hk oj hoj
          exact hnot e he hb hon
        rw [getD_set_ne false hjk]; exact hWr k hk
      refine stp_mono (fun a' w' h3 => ?_) h2
      obtain ⟨hy', hg⟩ := h3
      refine ih (listed.setIfInBounds j true) a' w' hfree' hWr' (ready_mono hr (Ne.symm hji)) hy' ?_
      rw [Array.setIfInBounds_comm _ _ hji]; exact hg
end gm

/-! ### by what is known -/
theorem Hp.get_filter (p : Nat → Bool) : ∀ (H : Hp) (t : Nat), Hp.get (H.filter fun x => p x.1) t = if p t then H.get t else none
  | [], t => by simp [Hp.get]
  | (i, x) :: H, t => by
    have ih := Hp.get_filter p H t
    rw [List.filter_cons]
    split
    · rename_i hp
      show Hp.get ((i, x) :: H.filter fun x => p x.1) t = _
      rw [Hp.get_cons, Hp.get_cons, ih]
      by_cases h : i = t
      · subst h; simp [show p i = true from hp]
      · simp [h]
    · rename_i hp
      rw [ih, Hp.get_cons]
      by_cases h : i = t
      · subst h; simp [show ¬ p i = true from hp]
      · simp [h]
/-- the blocks that none of those listed has written; wr: which operation writes which block -/
def Hp.live (wr : List (Nat × Nat)) (L : Array Bool) (H : Hp) : Hp := H.filter fun x => wr.all fun q => !(Nat.beq q.1 x.1 && L.getD q.2 false)
theorem Hp.get_live (wr : List (Nat × Nat)) (L : Array Bool) (H : Hp) (t : Nat) : (H.live wr L).get t = if (wr.all fun q => !(Nat.beq q.1 t && L.getD q.2 false)) then H.get t else none :=
  Hp.get_filter (fun t => wr.all fun q => !(Nat.beq q.1 t && L.getD q.2 false)) H t
/-- the blocks of these tags -/
def Hp.only (H : Hp) : List Nat → Hp
  | [] => []
  | t :: ts => match H.get t with | some x => (t, x) :: Hp.only H ts | none => Hp.only H ts
theorem Hp.sub_only (H : Hp) : ∀ ts, H.sub (H.only ts)
  | [] => trivial
  | t :: ts => by
    unfold Hp.only
    split
    · rename_i x hx; exact ⟨hx, Hp.sub_only H ts⟩
    · exact Hp.sub_only H ts
theorem Hp.mem_only {H : Hp} {ts : List Nat} {p : Nat × Option Nat × Obj} (hp : p ∈ H.only ts) : p.1 ∈ ts := by
  induction ts with
  | nil => simp [Hp.only] at hp
  | cons t ts ih =>
    unfold Hp.only at hp
    split at hp
    · rcases List.mem_cons.1 hp with rfl | hp
      · exact List.mem_cons_self
      · exact List.mem_cons_of_mem _ (ih hp)
    · exact List.mem_cons_of_mem _ (ih hp)
theorem Hp.get_mem : ∀ {L : Hp} {i : Nat} {x : Option Nat × Obj}, L.get i = some x → (i, x) ∈ L
  | [], i, x, h => by simp [Hp.get] at h
  | (j, y) :: L, i, x, h => by
    rw [Hp.get_cons] at h
    split at h
    · rename_i hj; subst hj; cases h; exact List.mem_cons_self
    · exact List.mem_cons_of_mem _ (Hp.get_mem h)
theorem HoldH.part {H H' : Hp} {G G' : Imm} {w : World} (h : HoldH H G w) (hs : ∀ t x, H'.get t = some x → H.get t = some x) (hG : G'.le G) : HoldH H' G' w :=
  ⟨fun t b o x => h.own t b o (hs _ _ x), fun t t' b o o' x y => h.one t t' b o o' (hs _ _ x) (hs _ _ y), fun b o x => h.imm b o (hG b o x), fun t b o x => by
    have h1 := h.off t b o (hs _ _ x)
    cases hg : G' b with
    | none => rfl
    | some y => rw [hG b y hg] at h1; cases h1⟩
/-- closed: operation i may come up now, and may be taken first, where it reads the blocks ts -/
def firstB (ops : Array Oper) (listed : Array Bool) (wr : List (Nat × Nat)) (i : Nat) (ts : List Nat) : Bool :=
  Region.noSelect ops && ops.toList.all notDefer && (Region.ready .any ops listed).contains i && Region.free .any ops listed i &&
    wr.all fun q => !Nat.beq q.2 i && (!(ts.any (Nat.beq q.1)) || (!(listed.getD q.2 false) && (match ops[q.2]? with | some oj => oj.after.any (fun e => Region.binds .any e && e.on == i) | none => true)))
def Cst (wr : List (Nat × Nat)) (H0 : Hp) (G0 : Imm) : Array Bool → World → Prop := fun L w => HoldH (H0.live wr L) G0 w
def Gm (P : Program) (ops : Array Oper) (f : Nat) (listed : Array Bool) (wr : List (Nat × Nat)) (H0 : Hp) (G0 : Imm) (B : Bs) (S : St) (K : Act → World → Prop) : Prop := ∀ a w, Hold B S a w → gm P ops K (Cst wr H0 G0) f listed a w
section
variable {P : Program} {ops : Array Oper} {B : Bs} {e : Env} {D : List Deferred} {H H0 : Hp} {G G0 : Imm} {K : Act → World → Prop} {f : Nat} {listed : Array Bool} {wr : List (Nat × Nat)}
  {ty : TypeId} {pos : String} {after : Array Edge} {d : Nat}
theorem HoldH.sub {H H' : Hp} {w : World} (h : HoldH H G w) (hs : H.sub H') : HoldH H' G w := h.part (Hp.sub_get hs) (Imm.le_refl _)
theorem Wc.draw {r : Option Nat} {id : Nat} {l : List Oper} {Q : Exit → Act → World → Prop} (ts : List Nat) (wr : List (Nat × Nat)) (hm : P.follows .mixedOrders = true) (hd : l.all notDefer = true)
    (h : Gm P l.toArray l.length (Array.replicate l.length false) wr (H.only ts) G B ⟨e, D, H, G⟩ (Q .normal)) : Wc r P (.region id l.toArray true) B ⟨e, D, H, G⟩ Q := fun a w hh => by
  have := gm_sound (r := r) (n := 0) (by simpa using hd) _ _ _ _ (h a _ hh.drew)
  exact wpIn_region_any hm (by simpa using this)
theorem first_of {l : List Oper} {o : Oper} {v : Value} {i : Nat} {ts : List Nat} (hB : firstB l.toArray listed wr i ts = true) (ho : l[i]? = some o) {a : Act} {w : World}
    (hy : yl P l.toArray o a (fun w => HoldH (H0.only ts) G0 w) v) (h : gm P l.toArray K (Cst wr H0 G0) f (listed.setIfInBounds i true) (a.put o.dst v) w) : gm P l.toArray K (Cst wr H0 G0) (f + 1) listed a w := by
  simp only [firstB, Bool.and_eq_true] at hB
  obtain ⟨⟨⟨⟨h1, h2⟩, h3⟩, h4⟩, h5⟩ := hB
  have ho' : l.toArray[i]? = some o := by simpa using ho
  have hq : ∀ q ∈ wr, q.2 ≠ i ∧ (q.1 ∈ ts → listed.getD q.2 false = false ∧ ∀ oj, l.toArray[q.2]? = some oj → ∃ e ∈ oj.after, Region.binds .any e = true ∧ e.on = i) := fun q hq => by
    have := List.all_eq_true.1 h5 q hq
    simp only [Bool.and_eq_true, Bool.or_eq_true, Bool.not_eq_true'] at this
    obtain ⟨g1, g2⟩ := this
    refine ⟨fun e => by rw [e] at g1; simp at g1, fun hm => ?_⟩
    rcases g2 with g2 | ⟨g2, g3⟩
    · have : (ts.any (Nat.beq q.1)) = true := List.any_eq_true.2 ⟨q.1, hm, by simp⟩
      rw [this] at g2; cases g2
    · refine ⟨g2, fun oj hoj => ?_⟩
      rw [hoj] at g3
      obtain ⟨e, he, hb⟩ := Array.any_eq_true'.1 g3
      simp only [Bool.and_eq_true, beq_iff_eq] at hb
      exact ⟨e, he, hb⟩
  refine gm_first (Wr := (wr.filter fun q => decide (q.1 ∈ ts)).map (·.2)) (Cq := fun w => HoldH (H0.only ts) G0 w) ho' h1 ?_ ?_ ?_ f listed a w (Region.free_spec ho' h4) ?_ (by simpa using h3) hy h
  · intro L w hL hc
    refine HoldH.part hc (fun t x hx => ?_) (Imm.le_refl _)
    have hm := Hp.mem_only (Hp.get_mem hx)
    have hx' := Hp.sub_get (Hp.sub_only H0 ts) t x hx
    rw [Hp.get_live, if_pos ?_]; exact hx'
    rw [List.all_eq_true]
    intro q hqm
    by_cases he : q.1 = t
    · have hm' : q.1 ∈ ts := by rw [he]; exact hm
      have := hL q.2 (List.mem_map.2 ⟨q, List.mem_filter.2 ⟨hqm, by simpa using hm'⟩, rfl⟩)
      rw [this]; simp
    · have : Nat.beq q.1 t = false := by cases hb : Nat.beq q.1 t with | false => rfl | true => exact absurd (Nat.eq_of_beq_eq_true hb) he
      simp [this]
  · intro L w hc
    refine HoldH.part hc (fun t x hx => ?_) (Imm.le_refl _)
    rw [Hp.get_live] at hx ⊢
    have e : (wr.all fun q => !(Nat.beq q.1 t && (L.setIfInBounds i true).getD q.2 false)) = (wr.all fun q => !(Nat.beq q.1 t && L.getD q.2 false)) := by
      rw [Bool.eq_iff_iff, List.all_eq_true, List.all_eq_true]
      constructor
      · intro h q hqm
        have h' := h q hqm
        rw [getD_set_ne false (Ne.symm (hq q hqm).1)] at h'
        exact h'
      · intro h q hqm
        rw [getD_set_ne false (Ne.symm (hq q hqm).1)]
        exact h q hqm
    rw [e]; exact hx
  · intro j hj oj hoj
    obtain ⟨q, hqm, rfl⟩ := List.mem_map.1 hj
    obtain ⟨hqm, hts⟩ := List.mem_filter.1 hqm
    exact ((hq q hqm).2 (by simpa using hts)).2 oj hoj
  · intro j hj
    obtain ⟨q, hqm, rfl⟩ := List.mem_map.1 hj
    obtain ⟨hqm, hts⟩ := List.mem_filter.1 hqm
    exact ((hq q hqm).2 (by simpa using hts)).1
/-- an operation that looks at blocks that nobody has written yet, and at what stays, is taken first -/
theorem Gm.q {l : List Oper} {o : Op} {v : Value} (i : Nat) (ts : List Nat) (hB : firstB l.toArray listed wr i ts = true) (ho : l[i]? = some ⟨some d, o, ty, pos, after, none⟩) (hn : Nat.ble (d + 1) B.n = true)
    (hq : Qy P o ty e (H0.only ts) G0 v) (h : Gm P l.toArray f (listed.setIfInBounds i true) wr H0 G0 B ⟨(d, v) :: e, D, H, G⟩ K) : Gm P l.toArray (f + 1) listed wr H0 G0 B ⟨e, D, H, G⟩ K := fun a w hh =>
  first_of hB ho (.inl ⟨by simp [Region.wanted], fun w' hw' => hq a w' _ _ _ _ ⟨hh.env, hw'⟩⟩) (h _ _ (hh.put hn v))
theorem yielded_of {j : Nat} {t : Nat} {b : Bool} {a : Act} {w : World} (hh : Hold B ⟨e, D, H, G⟩ a w) (hj : (ops[j]?).bind (·.dst) = some t) (he : e.get t = some (.bool b)) : yielded ops a.tmps j = some b := by
  simp [yielded, hj, hh.env t _ he]
/-- .. guarded, the guard saying yes -/
theorem Gm.qYes {l : List Oper} {o : Op} {v : Value} {j : Nat} {want : Bool} {t : Nat} (i : Nat) (ts : List Nat) (hB : firstB l.toArray listed wr i ts = true) (ho : l[i]? = some ⟨some d, o, ty, pos, after, some (j, want)⟩)
    (hj : (l[j]?).bind (·.dst) = some t) (he : e.get t = some (.bool want)) (hn : Nat.ble (d + 1) B.n = true)
    (hq : Qy P o ty e (H0.only ts) G0 v) (h : Gm P l.toArray f (listed.setIfInBounds i true) wr H0 G0 B ⟨(d, v) :: e, D, H, G⟩ K) : Gm P l.toArray (f + 1) listed wr H0 G0 B ⟨e, D, H, G⟩ K := fun a w hh =>
  first_of hB ho (.inl ⟨by simp [Region.wanted, yielded_of hh (ops := l.toArray) (by simpa using hj) he], fun w' hw' => hq a w' _ _ _ _ ⟨hh.env, hw'⟩⟩) (h _ _ (hh.put hn v))
/-- .. the guard saying no -/
theorem Gm.qNo {l : List Oper} {o : Op} {j : Nat} {want : Bool} {t : Nat} (i : Nat) (hB : firstB l.toArray listed wr i [] = true) (ho : l[i]? = some ⟨some d, o, ty, pos, after, some (j, want)⟩)
    (hj : (l[j]?).bind (·.dst) = some t) (he : e.get t = some (.bool (!want))) (hn : Nat.ble (d + 1) B.n = true)
    (h : Gm P l.toArray f (listed.setIfInBounds i true) wr H0 G0 B ⟨(d, undef) :: e, D, H, G⟩ K) : Gm P l.toArray (f + 1) listed wr H0 G0 B ⟨e, D, H, G⟩ K := fun a w hh =>
  first_of hB ho (.inr ⟨by simp [Region.wanted, yielded_of hh (ops := l.toArray) (by simpa using hj) he], rfl⟩) (h _ _ (hh.put hn undef))
/-- .. or having been passed over itself -/
theorem Gm.qNoU {l : List Oper} {o : Op} {j : Nat} {want : Bool} {t : Nat} (i : Nat) (hB : firstB l.toArray listed wr i [] = true) (ho : l[i]? = some ⟨some d, o, ty, pos, after, some (j, want)⟩)
    (hj : (l[j]?).bind (·.dst) = some t) (he : e.get t = some undef) (hn : Nat.ble (d + 1) B.n = true)
    (h : Gm P l.toArray f (listed.setIfInBounds i true) wr H0 G0 B ⟨(d, undef) :: e, D, H, G⟩ K) : Gm P l.toArray (f + 1) listed wr H0 G0 B ⟨e, D, H, G⟩ K := fun a w hh => by
  have hj' : (l.toArray[j]?).bind (·.dst) = some t := by simpa using hj
  have hy : yielded l.toArray a.tmps j = none := by unfold yielded; rw [hj']; simp [hh.env t _ he, undef]
  exact first_of hB ho (.inr ⟨by simp [Region.wanted, hy], rfl⟩) (h _ _ (hh.put hn undef))
/-- what the region's rest asks behind one operation -/
def gmOn (P : Program) (ops : Array Oper) (f : Nat) (listed : Array Bool) (wr : List (Nat × Nat)) (H0 : Hp) (G0 : Imm) (K : Act → World → Prop) (a : Act) (w : World) : Prop := gm P ops K (Cst wr H0 G0) f listed a w
theorem Hold.cst (hH : H.sub (H0.live wr listed)) (hG : G0.le G) {a : Act} {w : World} (hh : Hold B ⟨e, D, H, G⟩ a w) : Cst wr H0 G0 listed w := hh.mem.part (Hp.sub_get hH) hG
/-- whichever comes next -/
theorem Gm.any (hH : H.sub (H0.live wr listed)) (hG : G0.le G) (l : List Nat) (hr : Region.ready .any ops listed = l) (hne : l.isEmpty = false)
    (h : ∀ i ∈ l, ∀ o, ops[i]? = some o → Wl P ops [o] B ⟨e, D, H, G⟩ (gmOn P ops f (listed.setIfInBounds i true) wr H0 G0 K)) : Gm P ops (f + 1) listed wr H0 G0 B ⟨e, D, H, G⟩ K := fun a w hh => by
  refine ⟨hh.cst hH hG, fun h => ?_, fun i hi => ?_⟩
  · rw [hr] at h; subst h; simp at hne
  · rw [hr] at hi
    obtain ⟨_, o, ho, _⟩ := mem_ready.1 (show i ∈ Region.ready .any ops listed by rw [hr]; exact hi)
    have h1 := h i hi o ho a w hh
    unfold stp
    simp only [ho]
    unfold lstWp at h1
    split
    · rename_i hw; rw [if_pos hw] at h1; exact h1
    · rename_i hw; rw [if_neg hw] at h1; exact h1
/-- the one operation that can come next -/
theorem Gm.one {l : List Oper} {o : Oper} (i : Nat) (hH : H.sub (H0.live wr listed)) (hG : G0.le G) (hr : Region.ready .any l.toArray listed = [i]) (ho : l[i]? = some o)
    (h : Wl P l.toArray [o] B ⟨e, D, H, G⟩ (gmOn P l.toArray f (listed.setIfInBounds i true) wr H0 G0 K)) : Gm P l.toArray (f + 1) listed wr H0 G0 B ⟨e, D, H, G⟩ K :=
  Gm.any hH hG [i] hr rfl fun j hj o' ho' => by
    simp only [List.mem_singleton] at hj; subst hj
    have : l[j]? = some o' := by simpa using ho'
    rw [ho] at this; cases this; exact h
/-- one of two -/
theorem Gm.two {l : List Oper} {o1 o2 : Oper} (i j : Nat) (hH : H.sub (H0.live wr listed)) (hG : G0.le G) (hr : Region.ready .any l.toArray listed = [i, j]) (h1 : l[i]? = some o1) (h2 : l[j]? = some o2)
    (g1 : Wl P l.toArray [o1] B ⟨e, D, H, G⟩ (gmOn P l.toArray f (listed.setIfInBounds i true) wr H0 G0 K)) (g2 : Wl P l.toArray [o2] B ⟨e, D, H, G⟩ (gmOn P l.toArray f (listed.setIfInBounds j true) wr H0 G0 K)) :
    Gm P l.toArray (f + 1) listed wr H0 G0 B ⟨e, D, H, G⟩ K :=
  Gm.any hH hG [i, j] hr rfl fun k hk o' ho' => by
    have ho : l[k]? = some o' := by simpa using ho'
    simp only [List.mem_cons, List.not_mem_nil, or_false] at hk
    rcases hk with rfl | rfl
    · rw [h1] at ho; cases ho; exact g1
    · rw [h2] at ho; cases ho; exact g2
theorem Gm.three {l : List Oper} {o1 o2 o3 : Oper} (i j k : Nat) (hH : H.sub (H0.live wr listed)) (hG : G0.le G) (hr : Region.ready .any l.toArray listed = [i, j, k]) (h1 : l[i]? = some o1) (h2 : l[j]? = some o2) (h3 : l[k]? = some o3)
    (g1 : Wl P l.toArray [o1] B ⟨e, D, H, G⟩ (gmOn P l.toArray f (listed.setIfInBounds i true) wr H0 G0 K)) (g2 : Wl P l.toArray [o2] B ⟨e, D, H, G⟩ (gmOn P l.toArray f (listed.setIfInBounds j true) wr H0 G0 K))
    (g3 : Wl P l.toArray [o3] B ⟨e, D, H, G⟩ (gmOn P l.toArray f (listed.setIfInBounds k true) wr H0 G0 K)) :
    Gm P l.toArray (f + 1) listed wr H0 G0 B ⟨e, D, H, G⟩ K :=
  Gm.any hH hG [i, j, k] hr rfl fun m hk o' ho' => by
    have ho : l[m]? = some o' := by simpa using ho'
    simp only [List.mem_cons, List.not_mem_nil, or_false] at hk
    rcases hk with rfl | rfl | rfl
    · rw [h1] at ho; cases ho; exact g1
    · rw [h2] at ho; cases ho; exact g2
    · rw [h3] at ho; cases ho; exact g3
/-- on with the region's rest -/
theorem Wl.on0 (h : Gm P ops f listed wr H0 G0 B ⟨e, D, H, G⟩ K) : Wl P ops [] B ⟨e, D, H, G⟩ (gmOn P ops f listed wr H0 G0 K) := h
/-- the region's end -/
theorem Gm.doneA {Q : Exit → Act → World → Prop} {x : Exit} (hr : Region.ready .any ops listed = []) (hH : H.sub (H0.live wr listed)) (hG : G0.le G) (h : Ar Q x B ⟨e, D, H, G⟩) : Gm P ops 0 listed wr H0 G0 B ⟨e, D, H, G⟩ (Q x) :=
  fun a w hh => ⟨hh.cst hH hG, hr, h a w hh⟩
end
end Go.Sl
