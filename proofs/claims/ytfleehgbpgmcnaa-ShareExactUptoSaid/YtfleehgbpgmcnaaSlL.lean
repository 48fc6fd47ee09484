/- From a function's contract to a row: the arguments are read, nothing that was there turns, the answer is true. -/
import Derived.Test.YtfleehgbpgmcnaaSlK
import Derived.JoinedCond
import Derived.Carry
import Derived.ChangeSame
import Derived.ChangeShapes
import Derived.RowKit
import Derived.Deep.Slices
set_option linter.unusedVariables false
namespace Go.Sl
open Go Go.ChangeShapes Go.WideShapes Go.RowKit

/-! ### what a world holds, as blocks that stay -/
def heapG (W : World) : Imm := fun b => W.heap[b]?
theorem holdG (W : World) : HoldH [] (heapG W) W :=
  ⟨fun t b o h => by simp [Hp.get] at h, fun t t' b o o' h => by simp [Hp.get] at h, fun b o h => h, fun t b o h => by simp [Hp.get] at h⟩
theorem upd_below {W W' : World} (h : Upd (Hp.has []) W W') : Below W.heap.size W W' :=
  ⟨h.os, h.tape, h.output, h.size, fun k hk => h.same k hk (fun ⟨t, o, hx⟩ => by simp [Hp.get] at hx)⟩

section
variable {H : Type} {enc : TypeId × Value → H} {P : Program}
theorem trodAll_stays (hl : laidOutB P = true) {W W' : World} {sp' : Nat → Bool} : ∀ {ts : List TypeId} {vs : List Value} {ds : List (DataW H)} {ps : List MemPlace}, (ts.all fun t => P.readableRec t && decide (t < P.types.size)) = true →
    DataW.TrodAll enc P W 0 (fun _ => true) true ts vs ds ps → (∀ p ∈ ps, W.sameAt W' p) → (∀ p ∈ ps, sp' p.block = true) → DataW.TrodAll enc P W' 0 sp' true ts vs ds ps
  | [], _, _, _, _, h, _, _ => by
    obtain ⟨rfl, rfl, rfl⟩ := trodAll_nil h
    exact trodAll_mk0
  | t :: ts, _, _, _, hr, h, hs, hp => by
    obtain ⟨v, vs, d, ds, p, q, rfl, rfl, rfl, h1, h2⟩ := trodAll_cons h
    simp only [List.all_cons, Bool.and_eq_true, decide_eq_true_eq] at hr
    exact ⟨p, q, WideElems.Trod_stays hl hr.1.1 hr.1.2 h1 (fun x hx => hs x (by simp [hx])) (fun x hx => hp x (by simp [hx])),
      trodAll_stays hl hr.2 h2 (fun x hx => hs x (by simp [hx])) (fun x hx => hp x (by simp [hx])), rfl⟩
theorem trodAll_len {w : World} {base : Nat} {sp : Nat → Bool} {hd : Bool} : ∀ {ts : List TypeId} {vs : List Value} {ds : List (DataW H)} {ps : List MemPlace}, DataW.TrodAll enc P w base sp hd ts vs ds ps → ds.length = ts.length
  | [], _, _, _, h => by obtain ⟨rfl, rfl, rfl⟩ := trodAll_nil h; rfl
  | t :: ts, _, _, _, h => by
    obtain ⟨v, vs, d, ds, p, q, rfl, rfl, rfl, h1, h2⟩ := trodAll_cons h
    simp [trodAll_len h2]

/-- a law's row out of its function's contract -/
theorem law_calls {f : Func} {n : FuncId} {s : ChangeSpec} {tb : TypeId} {apart fresh handsOn again : Bool} (hl : laidOutB P = true) (hr : (f.params.toList.all fun t => P.readableRec t && decide (t < P.types.size)) = true) (hres : f.resultTypes = #[tb]) (hb : P.underlying tb = some .bool)
    (hv : s.vars = []) (hs : ∀ ds : List (DataW H), ds.length = f.params.toList.length → s.fn H ds = { results := [.lit (.bool true)], args := ds }) {W : World} {args : Array Value} {ds gs : List (DataW H)} {before : List MemPlace}
    (hW : DataW.Whole enc P f.params.toList s.vars apart W args.toList ds gs before) (hd : Does P n args.toList (heapG W) [] (fun v _ _ => v = .bool true)) :
    Calls P n args W fun e W' => ∃ v, e = .returned v ∧ s.post enc P f apart fresh handsOn again W args v W' := by
  refine (hd W (holdG W)).mono fun e W' ⟨v, G', Ho, he, q1, q2, q3, q4, q5, hvv⟩ => ⟨v, he, ?_⟩
  subst hvv
  have hbel := upd_below q3
  have hW' := hW
  have hlt := hW.lt
  obtain ⟨p, q, hA, hV, rfl, hz, hn⟩ := hW
  rw [hv] at hV
  obtain ⟨rfl, rfl⟩ := trodVars_none hV
  simp only [List.append_nil] at hW' hlt hz hn
  have hlen := trodAll_len hA
  have hspec := hs ds hlen
  have hres' : ∀ (b : Nat) (sp : Nat → Bool) (hd : Bool), DataW.TrodAll enc P W' b sp hd f.resultTypes.toList ((Value.bool true).resultList f.resultTypes.size) (s.fn H (ds ++ [])).results [] := fun b sp hd => by
    rw [List.append_nil, hspec, hres]
    exact ⟨[], [], shut_bool hb _, trodAll_mk0, rfl⟩
  have hargs : ∀ sp : Nat → Bool, (∀ x ∈ p, sp x.block = true) → DataW.TrodAll enc P W' 0 sp true f.params.toList args.toList (s.fn H (ds ++ [])).args p := fun sp hsp => by
    rw [List.append_nil, hspec]
    exact trodAll_stays hl hr hA (fun x hx => hbel.same (hlt x hx)) hsp
  have hvars : ∀ sp : Nat → Bool, DataW.TrodVars enc P W' sp s.vars (s.fn H (ds ++ [])).vars [] := fun sp => by
    rw [List.append_nil, hspec, hv]; exact rfl
  have hold : ∀ x ∈ p, (fun b => decide (b < W.heap.size)) x.block = true := fun x hx => by simpa using hlt x hx
  refine ⟨ds, [], p, [], p, [], by simpa using hW', hres' _ _ _, hargs _ hold, hvars _, World.keptBut_mono (fun x hx => ⟨hx, .inr (by simpa using hx)⟩) (hbel.frame _), fun _ => ?_⟩
  refine ⟨ok_one hres rfl (okWide_bool_mk hb _), _, _, ([] ++ p) ++ [], ⟨[] ++ p, [], trodAll_append (hargs _ (fun _ _ => rfl)) (hres' _ _ _), hvars _, rfl, ?_, ?_⟩, ?_⟩
  · intro b off hp
    have hp' : MemPlace.cell b off ∈ p := by simpa using hp
    rw [hbel.frozen (by exact hlt _ hp')]
    exact hz b off hp'
  · intro ha
    simpa using hn ha
  · intro x hx _
    simpa using hx
end

/-! ### slices, read -/
theorem cell_heapG {W : World} {b o : Nat} {v : Value} (h : W.cell? ⟨b, o, none⟩ = some v) : (heapG W).cell b o = some v := by
  unfold World.cell? at h
  unfold Imm.cell heapG
  split at h
  · rename_i c t fz hb
    rw [show W.heap[b]? = some (.cells c t fz) from hb]
    exact h
  · cases h
theorem cell_spot {W : World} {a : Addr} {v : Value} (h : W.cell? a = some v) : a.spot = none := by
  unfold World.cell? at h
  split at h
  · cases hs : a.spot with
    | none => rfl
    | some x => simp [hs] at h
  · cases h
theorem add_spot {a : Addr} {i : Nat} (h : (a.add i).spot = none) (ha : i = 0 ∨ True) : a.add i = ⟨a.block, a.off + i, none⟩ := by
  unfold Addr.add at h ⊢
  split
  · rename_i h0
    subst h0
    rw [if_pos rfl] at h
    cases a
    simp_all
  · rfl
section
variable {H : Type} {enc : TypeId × Value → H} {P : Program} {α : Type} [Cells α] [Inhabited α]
/-- a reading of an element says which thing stands there -/
def Dec (enc : TypeId × Value → H) (P : Program) (W : World) (E : TypeId) (Good : α → DataW H → Prop) : Prop :=
  ∀ (n : Nat) (cs : List Value) (x : DataW H × List MemPlace), DataW.trod enc P W 0 (fun _ => true) true n E cs = some x → ∃ y : α, cs = Cells.enc y ∧ Good y x.1
theorem row_of_cells {W : World} {b o : Nat} {xs : List α} (h : ∀ i, i < xs.length → ∀ j, j < Cells.sz α → W.cell? ⟨b, o + (i * Cells.sz α + j), none⟩ = (Cells.enc (xs[i]?.getD default))[j]?) (h0 : 0 < Cells.sz α) : (heapG W).row b o (flat xs) := by
  intro q v hq
  have hlt : q < (flat xs).length := (List.getElem?_eq_some_iff.1 hq).1
  rw [flat_length] at hlt
  have h1 : q = (q / Cells.sz α) * Cells.sz α + q % Cells.sz α := by rw [Nat.mul_comm]; exact (Nat.div_add_mod q _).symm
  have h2 : q % Cells.sz α < Cells.sz α := Nat.mod_lt _ h0
  have h3 : q / Cells.sz α < xs.length := (Nat.div_lt_iff_lt_mul h0).2 hlt
  have h4 := flat_get xs _ _ h3 h2
  rw [← h1, hq] at h4
  have h5 := h _ h3 _ h2
  rw [← h1, ← h4] at h5
  exact cell_heapG h5
theorem open_arr {W : World} {T E : TypeId} {Good : α → DataW H → Prop} {fuel : Nat} {cs : List Value} {x : DataW H × List MemPlace} (ht : P.underlying T = some (.slice E)) (hsz : P.cellsOf E = Cells.sz α) (h0 : 0 < Cells.sz α)
    (dec : Dec (α := α) enc P W E Good) (h : DataW.trod enc P W 0 (fun _ => true) true fuel T cs = some x) :
    ∃ (a : Option Addr) (cap : Nat) (xs : List α), cs = [.slice a xs.length cap] ∧ Arr (heapG W) a xs ∧ xs.length ≤ cap ∧
      ((x.1 = .nil ∧ xs = []) ∨ ∃ l r, x.1 = .slice l r ∧ l.length = xs.length ∧ ∀ i, i < xs.length → ∃ d, l[i]? = some d ∧ Good (xs[i]?.getD default) d) := by
  rcases Deep.open_slice ht h with ⟨rfl, rfl⟩ | ⟨a, len, cap, m, n, D, Pl, rfl, hb, hlc, hm, hmm, rfl, hx⟩
  · exact ⟨none, 0, [], rfl, Arr.nil _, Nat.le_refl _, .inl ⟨rfl, rfl⟩⟩
  · have hml : m = cap := by rw [hmm]; simp
    have hel : ∀ i, i < len → ∃ y : α, W.cells? 0 (a.add (i * Cells.sz α)) (Cells.sz α) = some (Cells.enc y) ∧ Good y (D i) := fun i hi => by
      obtain ⟨cs', h1, h2⟩ := hx i (by omega)
      obtain ⟨y, rfl, hg⟩ := dec _ _ _ h2
      rw [hsz] at h1
      exact ⟨y, h1, hg⟩
    obtain ⟨Y, hY⟩ := Deep.choose_lt hel
    have hlen : ((List.range len).map Y).length = len := by simp
    have hget : ∀ i, i < len → ((List.range len).map Y)[i]?.getD default = Y i := fun i hi => by simp [hi]
    refine ⟨some a, cap, (List.range len).map Y, by rw [hlen], ⟨flat_length _, ?_⟩, by rw [hlen]; exact hlc, .inr ⟨_, _, rfl, by simp, fun i hi => ?_⟩⟩
    · rw [hlen]
      rcases Nat.eq_zero_or_pos len with h00 | hpos
      · exact .inl h00
      · refine .inr ⟨a.block, a.off, ?_, ?_⟩
        · have h1 := (World.cells?_some (hY 0 hpos).1).2.2 0 h0
          rw [Nat.zero_mul] at h1
          have h2 : ∃ v, (Cells.enc (Y 0))[0]? = some v := ⟨_, List.getElem?_eq_getElem (by rw [Cells.len]; exact h0)⟩
          obtain ⟨v, hv⟩ := h2
          rw [hv] at h1
          have h3 := cell_spot h1
          cases a
          simp only [Addr.add] at h3
          simp_all
        · refine row_of_cells (fun i hi j hj => ?_) h0
          rw [hlen] at hi
          rw [hget i hi]
          have h1 := (World.cells?_some (hY i hi).1).2.2 j hj
          have h2 : ∃ v, (Cells.enc (Y i))[j]? = some v := ⟨_, List.getElem?_eq_getElem (by rw [Cells.len]; exact hj)⟩
          obtain ⟨v, hv⟩ := h2
          rw [hv] at h1 ⊢
          rw [Deep.add_add] at h1
          have h3 := cell_spot h1
          rw [add_spot h3 (.inr trivial)] at h1
          exact h1
    · rw [hlen] at hi
      rw [hget i hi]
      exact ⟨D i, by simp [hi], (hY i hi).2⟩
theorem dec_int {W : World} {E : TypeId} (he : P.underlying E = some (.int .i64)) : Dec (α := Int) enc P W E (fun y d => d = .lit (.int .i64 y) ∧ (Lit.int .i64 y).wf = true) := fun n cs x h => by
  obtain ⟨k, rfl, rfl, hw⟩ := DataW.trod_int he h
  exact ⟨k, rfl, rfl, hw⟩
theorem dec_instr {W : World} {E Ti : TypeId} {f0 f1 f2 f3 f4 : Field} (hi : P.underlying Ti = some (.int .i64)) (hs : P.underlying E = some (.struct #[f0, f1, f2, f3, f4]))
    (h0 : f0.type = Ti ∧ f0.offset = 0) (h1 : f1.type = Ti ∧ f1.offset = 1) (h2 : f2.type = Ti ∧ f2.offset = 2) (h3 : f3.type = Ti ∧ f3.offset = 3) (h4 : f4.type = Ti ∧ f4.offset = 4) (hc : P.cellsOf Ti = 1) (hcE : P.cellsOf E = 5) :
    Dec (α := Instr) enc P W E (fun _ _ => True) := fun n cs x h => by
  obtain ⟨xs, m, _, _, hl, hxl, hf⟩ := DataW.trod_struct hs h
  rw [hcE] at hl
  match cs, hl with
  | [v0, v1, v2, v3, v4], _ =>
    have hxl' : xs.length = 5 := hxl
    match xs, hxl' with
    | [y0, y1, y2, y3, y4], _ =>
      have k0 := hf 0 f0 rfl; have k1 := hf 1 f1 rfl; have k2 := hf 2 f2 rfl; have k3 := hf 3 f3 rfl; have k4 := hf 4 f4 rfl
      rw [h0.1, h0.2, hc] at k0; rw [h1.1, h1.2, hc] at k1; rw [h2.1, h2.2, hc] at k2; rw [h3.1, h3.2, hc] at k3; rw [h4.1, h4.2, hc] at k4
      obtain ⟨a0, e0, _, _⟩ := DataW.trod_int hi k0
      obtain ⟨a1, e1, _, _⟩ := DataW.trod_int hi k1
      obtain ⟨a2, e2, _, _⟩ := DataW.trod_int hi k2
      obtain ⟨a3, e3, _, _⟩ := DataW.trod_int hi k3
      obtain ⟨a4, e4, _, _⟩ := DataW.trod_int hi k4
      simp at e0 e1 e2 e3 e4
      exact ⟨⟨a0, a1, a2, a3, a4⟩, by rw [e0, e1, e2, e3, e4]; rfl, trivial⟩
end
end Go.Sl
