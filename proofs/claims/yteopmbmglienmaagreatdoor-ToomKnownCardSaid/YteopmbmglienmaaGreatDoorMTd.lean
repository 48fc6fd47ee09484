/- Parts of the proof (part 4): what the rows' text needs of the texts that lead to it. -/
import Derived.Test.YteopmbmglienmaaGreatDoorMTc
set_option linter.unusedVariables false
set_option linter.unusedSimpArgs false
set_option linter.unusedSectionVars false
set_option linter.unusedVariables false
namespace Go.Sl.Ev
open Go Go.Sl
noncomputable def rdo : Operand → Gt
  | .tmp t => gt (Nat.succ t) t
  | .const v => Option.rec (motive := fun _ => Gt) ⟨fun _ => none⟩ (fun c => ⟨fun _ => some c⟩) (ofV v)
  | .func f => ⟨fun _ => some (.fn f .nil .nil)⟩
  | .global _ => ⟨fun _ => none⟩
theorem rdo_eq (x : Operand) (E : Tr CV) : (rdo x).run E = evo E x := by
  cases x with
  | tmp t => exact gt_eq _ _ _ (Nat.lt_succ_self t)
  | const v =>
    show (Option.rec (motive := fun _ => Gt) ⟨fun _ => none⟩ (fun c => ⟨fun _ => some c⟩) (ofV v) : Gt).run E = ofV v
    cases ofV v <;> rfl
  | func f => rfl
  | global g => rfl
noncomputable def puto (n : Nat) : Option Nat → Option St
  | none => some ⟨fun _ E => E⟩
  | some d => bif Nat.ble (Nat.succ d) n then some (st Fit d) else none
theorem puto_eq {n : Nat} {d : Option Nat} {p : St} (h : puto n d = some p) (E : Tr CV) (v : CV) : putE E n d v = some (p.run v E) := by
  cases d with
  | none => cases h; rfl
  | some d =>
    have h' : (bif Nat.ble (Nat.succ d) n then some (st Fit d) else none) = some p := h
    rcases bif_cases h' with ⟨h1, h2⟩ | ⟨_, h2⟩
    · cases h2
      show (bif Nat.ble (Nat.succ d) n then some (E.set (some v) Fit d) else none) = _
      rw [h1, st_eq]; rfl
    · cases h2
structure Bi where
  run : IntKind → Int → Int → Option CV
noncomputable def bsel : BinOp → Bi
  | .add => ⟨fun k m n => bo .add k m n⟩
  | o => ⟨fun k m n => bo o k m n⟩
/-- what a quiet operation yields: the place it goes to is made ready -/
noncomputable def quick (P : Program) (pr : Prims) (o : Oper) (n : Nat) (p : St) (f : Tr CV → Tr CB → Option CV) : Co :=
  ⟨fun ih E h nx k => Option.rec (motive := fun _ => Res) ((gen P pr o n).run ih E h nx k) (fun c => k (p.run c E) h nx) (f E h)⟩
/-- what an operation that turns memory comes to -/
noncomputable def quickW (P : Program) (pr : Prims) (o : Oper) (n : Nat) (p : St) (f : Tr CV → Tr CB → Nat → Ro) : Co :=
  ⟨fun ih E h nx k => Ro.rec (motive := fun _ => Res) ((gen P pr o n).run ih E h nx k) (fun c h nx => k (p.run c E) h nx) (fun h nx => match o.dst with | none => k E h nx | some _ => .bad 10 []) (f E h nx)⟩
/-- a call -/
noncomputable def quickC (o : Oper) (n : Nat) : Co :=
  ⟨fun ih E h nx k => match callQ ih E n h nx o.dst o.op with | .ok _ E h nx => k E h nx | .ret _ _ _ => .bad 70 [] | .bad w a => .bad w a⟩
noncomputable def withI (a b : Option CV) (f : IntKind → Int → Int → Option CV) : Option CV :=
  Option.rec (motive := fun _ => Option CV) none (fun a => match a with
    | .int k m => Option.rec (motive := fun _ => Option CV) none (fun b => match b with | .int k' n => bif ikB k k' then f k m n else none | _ => none) b
    | _ => none) a
noncomputable def cop (P : Program) (pr : Prims) (o : Oper) (n : Nat) : Co := match puto n o.dst with
  | some p => match o.op with
    | .move x => quick P pr o n p (fun E _ => (rdo x).run E)
    | .assign x => quick P pr o n p (fun E _ => (rdo x).run E)
    | .extract x i => quick P pr o n p (fun E _ => match (rdo x).run E with | some (.tup l) => nthC l i | _ => none)
    | .nilCheck x => quick P pr o n p (fun E _ => match (rdo x).run E with | some (.ptr t o) => some (.ptr t o) | _ => none)
    | .fieldAddr s x f => (match foQ P s f with
      | some j => quick P pr o n p (fun E _ => match (rdo x).run E with | some (.ptr t o) => some (.ptr t (Nat.add o j)) | _ => none)
      | none => gen P pr o n)
    | .load T x => bif oneB P T then quick P pr o n p (fun E h => match (rdo x).run E with | some (.ptr t o) => (match h.get t with | some (.cells l _ _ _) => nthR l o | _ => none) | _ => none) else gen P pr o n
    | .pick c x y => quick P pr o n p (fun E _ => match (rdo c).run E with | some (.bool b) => Bool.rec (motive := fun _ => Option CV) ((rdo y).run E) ((rdo x).run E) b | _ => none)
    | .unOp .not _ x => quick P pr o n p (fun E _ => match (rdo x).run E with | some (.bool b) => some (.bool (not b)) | _ => none)
    | .convert s t x => (match P.underlying t with
      | some (.int k') => (match P.underlying s with
        | some _ => quick P pr o n p (fun E _ => match (rdo x).run E with | some (.int _ m) => some (.int k' (wr k' m)) | _ => none)
        | none => gen P pr o n)
      | _ => gen P pr o n)
    | .indexAddr T x i => (match slQ P T with
      | some (_, sz') => quick P pr o n p (fun E _ => match (rdo i).run E with
        | some (.int _ m) => (match (rdo x).run E with | some (.sl t o n sz _) => bif Nat.beq sz sz' && (ile 0 m && not (ile n m)) then some (.ptr t (Nat.add o (Nat.mul m.toNat sz'))) else none | _ => none)
        | _ => none)
      | none => gen P pr o n)
    | .call ⟨.builtin .len, ⟨[x]⟩, ⟨[T]⟩⟩ => (match slQ P T with
      | some _ => quick P pr o n p (fun E _ => match (rdo x).run E with | some (.sl _ _ n _ _) => some (.int .i64 n) | some .nils => some (.int .i64 0) | _ => none)
      | none => gen P pr o n)
    | .alloc T => quickW P pr o n p (fun E h nx => wv0 P E h nx T)
    | .box T x => quickW P pr o n p (fun E h nx => wv1 P E h nx T x)
    | .store T x y => quickW P pr o n p (fun E h nx => wv2 P E h nx T x y)
    | .buildSlice T m ⟨parts⟩ => quickW P pr o n p (fun E h nx => wv3 P E h nx T m parts)
    | .makeSlice T x y => quickW P pr o n p (fun E h nx => wv4 P E h nx T x y)
    | .call ⟨.builtin .append, ⟨[s, x]⟩, ⟨[T, tx]⟩⟩ => quickW P pr o n p (fun E h nx => apC P E h nx T tx s x)
    | .call ⟨.value f, args, ats⟩ => bif escO P f then gen P pr o n else quickC o n
    | .binOp b t x y _ => (match b with
      | .shl => gen P pr o n
      | .shr => gen P pr o n
      | b => quick P pr o n p (fun E _ => withI ((rdo x).run E) ((rdo y).run E) (bsel b).run))
    | _ => gen P pr o n
  | none => gen P pr o n
section
variable {P : Program} {Φ : Imm → Prop} {pr : Prims}
theorem one_quiet {o : Oper} {n : Nat} {E : Tr CV} {h : Tr CB} {nx : Nat} {c : CV} {E' : Tr CV} (hq : qv P E h o.op = some c) (hp : putE E n o.dst c = some E') : Does1 P Φ (.one o n E h nx) (.ok .normal E' h nx) := by
  have H := step_one (pr := []) (bad_tru (P := P) (Φ := Φ)) o n E h nx
  have e : step P [] (fun _ => .bad 0 []) (.one o n E h nx) = Res.ok .normal E' h nx := by
    show step3 P [] _ o n E h nx = _
    unfold step3
    simp only [hq, hp]
  rw [e] at H
  exact H
theorem quick_ok {o : Oper} {n : Nat} {p : St} {f : Tr CV → Tr CB → Option CV} (hp : puto n o.dst = some p) (hf : ∀ E h c, f E h = some c → qv P E h o.op = some c) : CoOk P Φ (quick P pr o n p f) o n := fun ih H E h nx => by
  show TotO (fun k => Option.rec (motive := fun _ => Res) ((gen P pr o n).run ih E h nx k) (fun c => k (p.run c E) h nx) (f E h)) _
  cases hc : f E h with
  | none => exact gen_ok o n ih H E h nx
  | some c => exact .inr ⟨p.run c E, h, nx, fun k => rfl, one_quiet (hf E h c hc) (puto_eq hp E c)⟩
theorem quickW_ok {o : Oper} {n : Nat} {p : St} {f : Tr CV → Tr CB → Nat → Ro} (hp : puto n o.dst = some p) (hq : ∀ E h, qv P E h o.op = none) (hw : ∀ E h nx, wv P E h nx o.op = f E h nx) : CoOk P Φ (quickW P pr o n p f) o n := fun ih H E h nx => by
  show TotO (fun k => Ro.rec (motive := fun _ => Res) ((gen P pr o n).run ih E h nx k) (fun c h nx => k (p.run c E) h nx) (fun h nx => match o.dst with | none => k E h nx | some _ => .bad 10 []) (f E h nx)) _
  have hs := step_one (pr := []) (bad_tru (P := P) (Φ := Φ)) o n E h nx
  have hwm : f E h nx ≠ .bad → wm P E h nx o.op = f E h nx := fun hb => by
    unfold wm
    rw [hw]
    cases hf : f E h nx with
    | bad => exact absurd hf hb
    | val c h' nx' => rfl
    | unit h' nx' => rfl
  cases hf : f E h nx with
  | bad => exact gen_ok o n ih H E h nx
  | val c h' nx' =>
    have e := hwm (by rw [hf]; intro h; cases h)
    rw [hf] at e
    have e2 : step P [] (fun _ => .bad 0 []) (.one o n E h nx) = Res.ok .normal (p.run c E) h' nx' := by
      show step3 P [] _ o n E h nx = _
      unfold step3
      simp only [hq, e, puto_eq hp]
    rw [e2] at hs
    exact .inr ⟨p.run c E, h', nx', fun k => rfl, hs⟩
  | unit h' nx' =>
    have e := hwm (by rw [hf]; intro h; cases h)
    rw [hf] at e
    cases hd : o.dst with
    | some d => exact .inl ⟨10, [], fun k => by simp only [hd]⟩
    | none =>
      have e2 : step P [] (fun _ => .bad 0 []) (.one o n E h nx) = Res.ok .normal E h' nx' := by
        show step3 P [] _ o n E h nx = _
        unfold step3
        simp only [hq, e, hd]
      rw [e2] at hs
      exact .inr ⟨E, h', nx', fun k => by simp only [hd], hs⟩
theorem quickC_ok {o : Oper} {n : Nat} (hq : ∀ E h, qv P E h o.op = none) (hw : ∀ E h nx, wm P E h nx o.op = .bad) : CoOk P Φ (quickC o n) o n := fun ih H E h nx => by
  have hs := step_one (pr := []) H o n E h nx
  have e2 : step P [] ih (.one o n E h nx) = callQ ih E n h nx o.dst o.op := by
    show step3 P [] _ o n E h nx = _
    unfold step3
    simp only [hq, hw]
  rw [e2] at hs
  show TotO (fun k => match callQ ih E n h nx o.dst o.op with | .ok _ E h nx => k E h nx | .ret _ _ _ => .bad 70 [] | .bad w a => .bad w a) _
  generalize callQ ih E n h nx o.dst o.op = q at hs
  cases q with
  | bad w a => exact .inl ⟨w, a, fun k => rfl⟩
  | ret v h' nx' => exact .inl ⟨70, [], fun k => rfl⟩
  | ok x E' h' nx' =>
    have hx : x = .normal := hs.1
    subst hx
    exact .inr ⟨E', h', nx', fun k => rfl, hs⟩
theorem bsel_eq (b : BinOp) (k : IntKind) (m n : Int) : (bsel b).run k m n = bo b k m n := by cases b <;> rfl
theorem withI_ok {a b : Option CV} {f : IntKind → Int → Int → Option CV} {c : CV} (h : withI a b f = some c) : ∃ k m n, a = some (.int k m) ∧ ∃ k', b = some (.int k' n) ∧ ikB k k' = true ∧ f k m n = some c := by
  cases a with
  | none => cases h
  | some a =>
    cases a with
    | int k m =>
      cases b with
      | none => cases h
      | some b =>
        cases b with
        | int k' n =>
          have h' : (bif ikB k k' then f k m n else none) = some c := h
          rcases bif_cases h' with ⟨h1, h2⟩ | ⟨_, h2⟩
          · exact ⟨k, m, n, rfl, k', rfl, h1, h2⟩
          · cases h2
        | _ => cases h
    | _ => cases h
theorem cop_ok (o : Oper) (n : Nat) : CoOk P Φ (cop P pr o n) o n := by
  unfold cop
  split
  · rename_i p hp
    split
    · rename_i x hop
      exact quick_ok hp fun E h c hc => by rw [hop]; rw [rdo_eq] at hc; exact hc
    · rename_i x hop
      exact quick_ok hp fun E h c hc => by rw [hop]; rw [rdo_eq] at hc; exact hc
    · rename_i x i hop
      exact quick_ok hp fun E h c hc => by rw [hop]; rw [rdo_eq] at hc; exact hc
    · rename_i x hop
      refine quick_ok hp fun E h c hc => ?_
      rw [hop]
      rw [rdo_eq] at hc
      split at hc
      · rename_i t o' hx
        cases hc
        show qv8 P E h x = _
        unfold qv8
        rw [hx]
      · cases hc
    · rename_i s x f hop
      split
      · rename_i j hj
        refine quick_ok hp fun E h c hc => ?_
        rw [hop]
        rw [rdo_eq] at hc
        split at hc
        · rename_i t o' hx
          cases hc
          show qv9 P E h s x f = _
          unfold qv9
          rw [hx]
          simp only [hj]
        · cases hc
      · exact gen_ok o n
    · rename_i T x hop
      refine bif_val (fun c => CoOk P Φ c o n) (fun h1 => ?_) fun _ => gen_ok o n
      refine quick_ok hp fun E h c hc => ?_
      rw [hop]
      rw [rdo_eq] at hc
      split at hc
      · rename_i t o' hx
        split at hc
        · rename_i l ty op st hb
          show qv11 P E h T x = _
          unfold qv11
          rw [hx]
          simp only [hb, h1, cond_true]
          exact hc
        · cases hc
      · cases hc
    · rename_i c x y hop
      refine quick_ok hp fun E h c' hc => ?_
      rw [hop]
      simp only [rdo_eq] at hc
      split at hc
      · rename_i b hb
        show qv2 P E h c x y = _
        unfold qv2
        rw [hb]
        cases b <;> exact hc
      · cases hc
    · rename_i tt x hop
      refine quick_ok hp fun E h c hc => ?_
      rw [hop]
      rw [rdo_eq] at hc
      exact hc
    · rename_i s t x hop
      split
      · rename_i k' ht
        split
        · rename_i d hd
          refine quick_ok hp fun E h c hc => ?_
          rw [hop]
          rw [rdo_eq] at hc
          show qv6 P E h s t x = _
          unfold qv6
          rw [ht]
          simp only [hd]
          exact hc
        · exact gen_ok o n
      · exact gen_ok o n
    · rename_i T x i hop
      split
      · rename_i e' sz' hT
        refine quick_ok hp fun E h c hc => ?_
        rw [hop]
        simp only [rdo_eq] at hc
        split at hc
        · rename_i k m hi
          split at hc
          · rename_i t o' N sz cc hx
            show qv13 P E h T x i = _
            unfold qv13
            rw [hi]
            simp only [hx, hT]
            exact hc
          · cases hc
        · cases hc
      · exact gen_ok o n
    · rename_i x T hop
      split
      · rename_i e' hT
        refine quick_ok hp fun E h c hc => ?_
        rw [hop]
        rw [rdo_eq] at hc
        split at hc
        · rename_i t o' N sz cc hx
          show qv18 P E h x T = _
          unfold qv18
          rw [hx]
          simp only [hT]
          exact hc
        · rename_i hx
          show qv18 P E h x T = _
          unfold qv18
          rw [hx]
          simp only [hT]
          exact hc
        · cases hc
      · exact gen_ok o n
    · rename_i T hop
      exact quickW_ok hp (fun E h => by rw [hop]; rfl) fun E h nx => by rw [hop]; rfl
    · rename_i T x hop
      exact quickW_ok hp (fun E h => by rw [hop]; rfl) fun E h nx => by rw [hop]; rfl
    · rename_i T x y hop
      exact quickW_ok hp (fun E h => by rw [hop]; rfl) fun E h nx => by rw [hop]; rfl
    · rename_i T m parts hop
      exact quickW_ok hp (fun E h => by rw [hop]; rfl) fun E h nx => by rw [hop]; rfl
    · rename_i T x y hop
      exact quickW_ok hp (fun E h => by rw [hop]; rfl) fun E h nx => by rw [hop]; rfl
    · rename_i s x T tx hop
      exact quickW_ok hp (fun E h => by rw [hop]; rfl) fun E h nx => by rw [hop]; rfl
    · rename_i f args ats hop
      refine bif_val (fun c => CoOk P Φ c o n) (fun _ => gen_ok o n) fun hf => ?_
      exact quickC_ok (fun E h => by rw [hop]; rfl) fun E h nx => by rw [hop]; exact wm_call hf
    · rename_i b t x y tt hop
      split
      · exact gen_ok o n
      · exact gen_ok o n
      · rename_i hb1 hb2
        refine quick_ok hp fun E h c hc => ?_
        rw [hop]
        rw [rdo_eq, rdo_eq] at hc
        obtain ⟨k, m, m', e1, k', e2, e3, e4⟩ := withI_ok hc
        rw [bsel_eq] at e4
        show qv5 P E h b t x y = _
        unfold qv5
        rw [e1]
        simp only [e2]
        have e5 : sh b k m m' = none := by
          cases b <;> first | rfl | exact absurd rfl hb1 | exact absurd rfl hb2
        rw [e5]
        simp only [e3, cond_true]
        exact e4
    · exact gen_ok o n
  · exact gen_ok o n
noncomputable def rops (l : List Co) : (Cmd → Res) → Tr CV → Tr CB → Nat → Kt → Res :=
  List.rec (motive := fun _ => (Cmd → Res) → Tr CV → Tr CB → Nat → Kt → Res) (fun _ E h nx k => k E h nx) (fun a _ r ih E h nx k => a.run ih E h nx (fun E h nx => r ih E h nx k)) l
noncomputable def cops (P : Program) (pr : Prims) (n : Nat) (l : List Oper) : List Co := List.rec (motive := fun _ => List Co) [] (fun o _ ih => cop P pr o n :: ih) l
noncomputable def plainL (l : List Oper) : Bool := List.rec (motive := fun _ => Bool) true (fun o _ ih => (match o.guard with | none => true | some _ => false) && ih) l
noncomputable def orc1 (c1 : Cmd) (r1 : Res) : Cmd → Res := fun c => open Classical in if c = c1 then r1 else .bad 0 []
theorem orc1_tru {c1 : Cmd} {r1 : Res} (H : Does1 P Φ c1 r1) : Tru P Φ (orc1 c1 r1) := fun c => by
  unfold orc1
  split
  · rename_i e; subst e; exact H
  · exact does_bad c 0 []
theorem orc1_eq (c1 : Cmd) (r1 : Res) : orc1 c1 r1 c1 = r1 := by unfold orc1; rw [if_pos rfl]
noncomputable def orc2 (c1 : Cmd) (r1 : Res) (c2 : Cmd) (r2 : Res) : Cmd → Res := fun c => open Classical in if c = c1 then r1 else if c = c2 then r2 else .bad 0 []
theorem orc2_tru {c1 c2 : Cmd} {r1 r2 : Res} (H1 : Does1 P Φ c1 r1) (H2 : Does1 P Φ c2 r2) : Tru P Φ (orc2 c1 r1 c2 r2) := fun c => by
  unfold orc2
  split
  · rename_i e; subst e; exact H1
  · split
    · rename_i e; subst e; exact H2
    · exact does_bad c 0 []
theorem orc2_1 (c1 : Cmd) (r1 : Res) (c2 : Cmd) (r2 : Res) : orc2 c1 r1 c2 r2 c1 = r1 := by unfold orc2; rw [if_pos rfl]
theorem orc2_2 {c1 c2 : Cmd} (h : c2 ≠ c1) (r1 r2 : Res) : orc2 c1 r1 c2 r2 c2 = r2 := by unfold orc2; rw [if_neg h, if_pos rfl]
theorem ops_rule {all rest : List Oper} {o : Oper} {n : Nat} {E E1 E2 : Tr CV} {h h1 h2 : Tr CB} {nx nx1 nx2 : Nat} (hg : o.guard = none) (H1 : Does1 P Φ (.one o n E h nx) (.ok .normal E1 h1 nx1)) (H2 : Does1 P Φ (.ops all rest n E1 h1 nx1) (.ok .normal E2 h2 nx2)) : Does1 P Φ (.ops all (o :: rest) n E h nx) (.ok .normal E2 h2 nx2) := by
  have H := step_ops (pr := []) (orc2_tru H1 H2) all (o :: rest) n E h nx
  have e : step P [] (orc2 (.one o n E h nx) (.ok .normal E1 h1 nx1) (.ops all rest n E1 h1 nx1) (.ok .normal E2 h2 nx2)) (.ops all (o :: rest) n E h nx) = Res.ok .normal E2 h2 nx2 := by
    show step2 P [] _ all (o :: rest) n E h nx = _
    unfold step2
    simp only [hg, orc2_1]
    exact orc2_2 (by intro h; cases h) _ _
  rw [e] at H
  exact H
theorem ops_nil (all : List Oper) (n : Nat) (E : Tr CV) (h : Tr CB) (nx : Nat) : Does1 P Φ (.ops all [] n E h nx) (.ok .normal E h nx) := step_ops (pr := []) (bad_tru (P := P) (Φ := Φ)) all [] n E h nx
theorem rops_ok {ih : Cmd → Res} (H : Tru P Φ ih) (all : List Oper) (n : Nat) : ∀ (l : List Oper) (E : Tr CV) (h : Tr CB) (nx : Nat), plainL l = true → TotO (rops (cops P pr n l) ih E h nx) (fun E' h' nx' => Does1 P Φ (.ops all l n E h nx) (.ok .normal E' h' nx'))
  | [], E, h, nx, _ => .inr ⟨E, h, nx, fun k => rfl, ops_nil all n E h nx⟩
  | o :: l, E, h, nx, hl => by
    have hl' : ((match o.guard with | none => true | some _ => false) && plainL l) = true := hl
    rw [Bool.and_eq_true] at hl'
    have hg : o.guard = none := by cases hgg : o.guard with | none => rfl | some x => rw [hgg] at hl'; cases hl'.1
    have H1 := cop_ok (pr := pr) o n ih H E h nx
    show TotO (fun k => (cop P pr o n).run ih E h nx (fun E h nx => rops (cops P pr n l) ih E h nx k)) _
    rcases H1 with ⟨w, a, hb⟩ | ⟨E1, h1, nx1, hk, hd⟩
    · exact .inl ⟨w, a, fun k => hb _⟩
    · rcases rops_ok H all n l E1 h1 nx1 hl'.2 with ⟨w, a, hb⟩ | ⟨E2, h2, nx2, hk2, hd2⟩
      · exact .inl ⟨w, a, fun k => (hk _).trans (hb k)⟩
      · exact .inr ⟨E2, h2, nx2, fun k => (hk _).trans (hk2 k), ops_rule hg hd hd2⟩
end
end Go.Sl.Ev
set_option linter.unusedVariables false
namespace Go.Sl.Ev
open Go Go.Sl
abbrev Pd := List (Nat × Nat × Nat)
structure Cr where
  run : (Cmd → Res) → Pd → Tr CV → Tr CB → Nat → Kt → Res
noncomputable def pendL (o : Oper) (i nx : Nat) (E : Tr CV) (pend : Pd) : Pd := match rdT E o.op with | some t => (t, i, nx) :: pend | none => pend
noncomputable def creg (P : Program) (pr : Prims) (n : Nat) (l : List Oper) (plan : List (Nat × Pk)) : Cr := List.rec (motive := fun _ => Cr) ⟨fun _ _ E h nx k => k E h nx⟩ (fun x _ r => match nth l x.1 with
  | some o => (match o.guard with
    | none => (match puto n o.dst with
      | some p => (match x.2 with
        | .look => ⟨fun ih pend E h nx k => Option.rec (motive := fun _ => Res) (.bad 26 [o]) (fun c => r.run ih (pendL o x.1 nx E pend) (p.run c E) h nx k) (qv P E h o.op)⟩
        | .only => ⟨fun ih pend E h nx k => (cop P pr o n).run ih E h nx (fun E h nx => bif keepP h (dropP o pend) then r.run ih (dropP o pend) E h nx k else .bad 28 [o])⟩
        | .race R => ⟨fun ih pend E h nx k => bif raceQ P l R n (killE l R E) h nx then (cop P pr o n).run ih (killE l R E) h nx (fun E h nx => bif keepP h (dropP o pend) then r.run ih (dropP o pend) E h nx k else .bad 28 [o]) else .bad 32 [o]⟩
        | .make R => ⟨fun ih pend E h nx k => bif raceQ P l R n (killE l R E) h nx then (match wm P (killE l R E) h nx o.op with | .val c h nx => r.run ih (dropP o pend) (p.run c (killE l R E)) h nx k | _ => .bad 34 [o]) else .bad 35 [o]⟩)
      | none => ⟨fun _ _ _ _ _ _ => .bad 25 [o]⟩)
    | some _ => ⟨fun _ _ _ _ _ _ => .bad 30 [o]⟩)
  | none => ⟨fun _ _ _ _ _ _ => .bad 31 []⟩) plan
section
variable {P : Program} {Φ : Imm → Prop} {pr : Prims}
theorem reg_orc {c' : Cmd} {r r' : Res} (H : Does1 P Φ c' r) (l : List Oper) (plan : List (Nat × Pk)) (pend : Pd) (n : Nat) (E : Tr CV) (h : Tr CB) (nx : Nat) (e : step P [] (orc1 c' r) (.reg l plan pend n E h nx) = r') : Does1 P Φ (.reg l plan pend n E h nx) r' := by
  rw [← e]; exact step_reg (orc1_tru H) l plan pend n E h nx
theorem gd_none {l : List Oper} {E : Tr CV} {o : Oper} (h : o.guard = none) : gdQ l E o = some true := by unfold gdQ; rw [h]
theorem reg_look {l : List Oper} {plan : List (Nat × Pk)} {pend : Pd} {n i : Nat} {E E' : Tr CV} {h : Tr CB} {nx : Nat} {o : Oper} {c : CV} {r : Res} (hl : nth l i = some o) (hg : o.guard = none) (hq : qv P E h o.op = some c) (hp : putE E n o.dst c = some E')
    (H : Does1 P Φ (.reg l plan (pendL o i nx E pend) n E' h nx) r) : Does1 P Φ (.reg l ((i, .look) :: plan) pend n E h nx) r := by
  refine reg_orc H l _ pend n E h nx ?_
  show step4 P [] _ l ((i, .look) :: plan) pend n E h nx = _
  unfold step4
  simp only [hl, gd_none hg, cond_true, hq, hp]
  exact orc1_eq _ _
theorem reg_write {l : List Oper} {plan : List (Nat × Pk)} {pend : Pd} {n i : Nat} {E E' : Tr CV} {h h' : Tr CB} {nx nx' : Nat} {o : Oper} {r : Res} (hl : nth l i = some o) (hg : o.guard = none) (H1 : Does1 P Φ (.one o n E h nx) (.ok .normal E' h' nx')) (hk : keepP h' (dropP o pend) = true)
    (H2 : Does1 P Φ (.reg l plan (dropP o pend) n E' h' nx') r) : Does1 P Φ (.reg l ((i, .only) :: plan) pend n E h nx) r := by
  have H := step_reg (pr := []) (orc2_tru H1 H2) l ((i, .only) :: plan) pend n E h nx
  have e : step P [] (orc2 (.one o n E h nx) (.ok .normal E' h' nx') (.reg l plan (dropP o pend) n E' h' nx') r) (.reg l ((i, .only) :: plan) pend n E h nx) = r := by
    show step4 P [] _ l ((i, .only) :: plan) pend n E h nx = _
    unfold step4
    simp only [hl, gd_none hg, cond_true, cond_false, orc2_1, hk]
    exact orc2_2 (by intro h; cases h) _ _
  rw [e] at H
  exact H
theorem reg_race {l : List Oper} {plan : List (Nat × Pk)} {R : List Nat} {pend : Pd} {n i : Nat} {E E' : Tr CV} {h h' : Tr CB} {nx nx' : Nat} {o : Oper} {r : Res} (hl : nth l i = some o) (hq : raceQ P l R n (killE l R E) h nx = true) (H1 : Does1 P Φ (.one o n (killE l R E) h nx) (.ok .normal E' h' nx')) (hk : keepP h' (dropP o pend) = true)
    (H2 : Does1 P Φ (.reg l plan (dropP o pend) n E' h' nx') r) : Does1 P Φ (.reg l ((i, .race R) :: plan) pend n E h nx) r := by
  have H := step_reg (pr := []) (orc2_tru H1 H2) l ((i, .race R) :: plan) pend n E h nx
  have e : step P [] (orc2 (.one o n (killE l R E) h nx) (.ok .normal E' h' nx') (.reg l plan (dropP o pend) n E' h' nx') r) (.reg l ((i, .race R) :: plan) pend n E h nx) = r := by
    show step4 P [] _ l ((i, .race R) :: plan) pend n E h nx = _
    unfold step4
    simp only [hl, hq, cond_true, orc2_1, hk]
    exact orc2_2 (by intro h; cases h) _ _
  rw [e] at H
  exact H
theorem reg_make {l : List Oper} {plan : List (Nat × Pk)} {R : List Nat} {pend : Pd} {n i : Nat} {E E' : Tr CV} {h h' : Tr CB} {nx nx' : Nat} {o : Oper} {c : CV} {r : Res} (hl : nth l i = some o) (hq : raceQ P l R n (killE l R E) h nx = true) (hw : wm P (killE l R E) h nx o.op = .val c h' nx') (hp : putE (killE l R E) n o.dst c = some E')
    (H : Does1 P Φ (.reg l plan (dropP o pend) n E' h' nx') r) : Does1 P Φ (.reg l ((i, .make R) :: plan) pend n E h nx) r := by
  refine reg_orc H l _ pend n E h nx ?_
  show step4 P [] _ l ((i, .make R) :: plan) pend n E h nx = _
  unfold step4
  simp only [hl, hq, cond_true, hw, hp]
  exact orc1_eq _ _
theorem creg_ok {ih : Cmd → Res} (H : Tru P Φ ih) (l : List Oper) (n : Nat) : ∀ (plan : List (Nat × Pk)) (pend : Pd) (E : Tr CV) (h : Tr CB) (nx : Nat), TotO ((creg P pr n l plan).run ih pend E h nx) (fun E' h' nx' => Does1 P Φ (.reg l plan pend n E h nx) (.ok .normal E' h' nx'))
  | [], pend, E, h, nx => .inr ⟨E, h, nx, fun k => rfl, step_reg (pr := []) (bad_tru (P := P) (Φ := Φ)) l [] pend n E h nx⟩
  | (i, lk) :: plan, pend, E, h, nx => by
    show TotO ((match nth l i with
      | some o => (match o.guard with
        | none => (match puto n o.dst with
          | some p => ((match lk with
            | .look => ⟨fun ih pend E h nx k => Option.rec (motive := fun _ => Res) (.bad 26 [o]) (fun c => (creg P pr n l plan).run ih (pendL o i nx E pend) (p.run c E) h nx k) (qv P E h o.op)⟩
            | .only => ⟨fun ih pend E h nx k => (cop P pr o n).run ih E h nx (fun E h nx => bif keepP h (dropP o pend) then (creg P pr n l plan).run ih (dropP o pend) E h nx k else .bad 28 [o])⟩
            | .race R => ⟨fun ih pend E h nx k => bif raceQ P l R n (killE l R E) h nx then (cop P pr o n).run ih (killE l R E) h nx (fun E h nx => bif keepP h (dropP o pend) then (creg P pr n l plan).run ih (dropP o pend) E h nx k else .bad 28 [o]) else .bad 32 [o]⟩
            | .make R => ⟨fun ih pend E h nx k => bif raceQ P l R n (killE l R E) h nx then (match wm P (killE l R E) h nx o.op with | .val c h nx => (creg P pr n l plan).run ih (dropP o pend) (p.run c (killE l R E)) h nx k | _ => .bad 34 [o]) else .bad 35 [o]⟩) : Cr)
          | none => ⟨fun _ _ _ _ _ _ => .bad 25 [o]⟩)
        | some _ => ⟨fun _ _ _ _ _ _ => .bad 30 [o]⟩)
      | none => ⟨fun _ _ _ _ _ _ => .bad 31 []⟩).run ih pend E h nx) _
    cases hl : nth l i with
    | none => exact .inl ⟨31, [], fun k => rfl⟩
    | some o =>
      simp only
      cases hg : o.guard with
      | some g => exact .inl ⟨30, [o], fun k => rfl⟩
      | none =>
        simp only
        cases hp : puto n o.dst with
        | none => exact .inl ⟨25, [o], fun k => rfl⟩
        | some p =>
          simp only
          cases lk with
          | look =>
            show TotO (fun k => Option.rec (motive := fun _ => Res) (.bad 26 [o]) (fun c => (creg P pr n l plan).run ih (pendL o i nx E pend) (p.run c E) h nx k) (qv P E h o.op)) _
            cases hq : qv P E h o.op with
            | none => exact .inl ⟨26, [o], fun k => rfl⟩
            | some c =>
              rcases creg_ok H l n plan (pendL o i nx E pend) (p.run c E) h nx with ⟨w, a, hb⟩ | ⟨E2, h2, nx2, hk, hd⟩
              · exact .inl ⟨w, a, fun k => hb k⟩
              · exact .inr ⟨E2, h2, nx2, fun k => hk k, reg_look hl hg hq (puto_eq hp E c) hd⟩
          | only =>
            show TotO (fun k => (cop P pr o n).run ih E h nx (fun E h nx => bif keepP h (dropP o pend) then (creg P pr n l plan).run ih (dropP o pend) E h nx k else .bad 28 [o])) _
            rcases cop_ok (pr := pr) o n ih H E h nx with ⟨w, a, hb⟩ | ⟨E1, h1, nx1, hk1, hd1⟩
            · exact .inl ⟨w, a, fun k => hb _⟩
            · cases hkp : keepP h1 (dropP o pend) with
              | false => exact .inl ⟨28, [o], fun k => (hk1 _).trans (by rw [hkp]; rfl)⟩
              | true =>
                rcases creg_ok H l n plan (dropP o pend) E1 h1 nx1 with ⟨w, a, hb⟩ | ⟨E2, h2, nx2, hk, hd⟩
                · exact .inl ⟨w, a, fun k => (hk1 _).trans (by rw [hkp]; exact hb k)⟩
                · exact .inr ⟨E2, h2, nx2, fun k => (hk1 _).trans (by rw [hkp]; exact hk k), reg_write hl hg hd1 hkp hd⟩
          | race R =>
            show TotO (fun k => bif raceQ P l R n (killE l R E) h nx then (cop P pr o n).run ih (killE l R E) h nx (fun E h nx => bif keepP h (dropP o pend) then (creg P pr n l plan).run ih (dropP o pend) E h nx k else .bad 28 [o]) else .bad 32 [o]) _
            cases hq : raceQ P l R n (killE l R E) h nx with
            | false => exact .inl ⟨32, [o], fun k => rfl⟩
            | true =>
              simp only [cond_true]
              rcases cop_ok (pr := pr) o n ih H (killE l R E) h nx with ⟨w, a, hb⟩ | ⟨E1, h1, nx1, hk1, hd1⟩
              · exact .inl ⟨w, a, fun k => hb _⟩
              · cases hkp : keepP h1 (dropP o pend) with
                | false => exact .inl ⟨28, [o], fun k => (hk1 _).trans (by rw [hkp]; rfl)⟩
                | true =>
                  rcases creg_ok H l n plan (dropP o pend) E1 h1 nx1 with ⟨w, a, hb⟩ | ⟨E2, h2, nx2, hk, hd⟩
                  · exact .inl ⟨w, a, fun k => (hk1 _).trans (by rw [hkp]; exact hb k)⟩
                  · exact .inr ⟨E2, h2, nx2, fun k => (hk1 _).trans (by rw [hkp]; exact hk k), reg_race hl hq hd1 hkp hd⟩
          | make R =>
            show TotO (fun k => bif raceQ P l R n (killE l R E) h nx then (match wm P (killE l R E) h nx o.op with | .val c h nx => (creg P pr n l plan).run ih (dropP o pend) (p.run c (killE l R E)) h nx k | _ => .bad 34 [o]) else .bad 35 [o]) _
            cases hq : raceQ P l R n (killE l R E) h nx with
            | false => exact .inl ⟨35, [o], fun k => rfl⟩
            | true =>
              simp only [cond_true]
              cases hw : wm P (killE l R E) h nx o.op with
              | bad => exact .inl ⟨34, [o], fun k => rfl⟩
              | unit _ _ => exact .inl ⟨34, [o], fun k => rfl⟩
              | val c h1 nx1 =>
                rcases creg_ok H l n plan (dropP o pend) (p.run c (killE l R E)) h1 nx1 with ⟨w, a, hb⟩ | ⟨E2, h2, nx2, hk, hd⟩
                · exact .inl ⟨w, a, fun k => hb k⟩
                · exact .inr ⟨E2, h2, nx2, fun k => hk k, reg_make hl hq hw (puto_eq hp _ c) hd⟩
end
end Go.Sl.Ev
set_option linter.unusedVariables false
namespace Go.Sl.Ev
open Go Go.Sl
noncomputable def lpC (c : Cd) (F : Nat) : (Cmd → Res) → Tr CV → Tr CB → Nat → Kx → Res :=
  Nat.rec (motive := fun _ => (Cmd → Res) → Tr CV → Tr CB → Nat → Kx → Res) (fun _ _ _ _ _ => .bad 0 []) (fun _ r ih E h nx k => c.run ih E h nx (fun x E h nx => match x with | .normal => r ih E h nx k | x => k x E h nx)) F
noncomputable def ccode (P : Program) (pr : Prims) (LF : Nat) (n : Nat) (c : Code) : Cd := Code.rec (motive := fun _ => Cd) ⟨fun _ E h nx k => k .normal E h nx⟩
  (fun id ops draw => bif not draw && (ops.toList.all notDefer && plainL ops.toList) then ⟨fun ih E h nx k => rops (cops P pr n ops.toList) ih E h nx (fun E h nx => k .normal E h nx)⟩ else bif draw && (P.follows .mixedOrders && plainL ops.toList) then (match planQ ops.toList with | some p => ⟨fun ih E h nx k => (creg P pr n ops.toList p).run ih [] E h nx (fun E h nx => k .normal E h nx)⟩ | none => genC P pr (.region id ops draw) n) else genC P pr (.region id ops draw) n)
  (fun _ _ a b => ⟨fun ih E h nx k => a.run ih E h nx (fun x E h nx => match x with | .normal => b.run ih E h nx k | x => k x E h nx)⟩)
  (fun c _ _ a b => ⟨fun ih E h nx k => match (rdo c).run E with | some (.bool t) => bif t then a.run ih E h nx k else b.run ih E h nx k | _ => .bad 1 []⟩)
  (fun id _ c => ⟨fun ih E h nx k => c.run ih E h nx (fun x E h nx => match x with | .exit id' => bif Nat.beq id' id then k .normal E h nx else k (.exit id') E h nx | x => k x E h nx)⟩)
  (fun _ c => ⟨fun ih E h nx k => lpC c LF ih E h nx k⟩)
  (fun g ps asg body _ _ => genC P pr (.rangeFunc g ps asg body) n)
  (fun id => ⟨fun _ E h nx k => k (.exit id) E h nx⟩)
  (fun _ c => ⟨fun ih E h nx k => c.run ih E h nx (fun x E h nx => match x with | .normal => k .normal E h nx | .ret => k .ret E h nx | .exit id => k (.exit id) E h nx | _ => .bad 22 [])⟩)
  (fun _ => ⟨fun _ E h nx k => k .normal E h nx⟩)
  (fun l => genC P pr (.goto l) n)
  ⟨fun _ E h nx k => k .ret E h nx⟩
  (fun s => genC P pr (.refuse s) n) c
section
variable {P : Program} {Φ : Imm → Prop} {pr : Prims}
noncomputable def blkR (id : Nat) (x : Exit) (E : Tr CV) (h : Tr CB) (nx : Nat) : Res := match x with | .exit id' => bif Nat.beq id' id then .ok .normal E h nx else .ok (.exit id') E h nx | x => .ok x E h nx
noncomputable def scpR (x : Exit) (E : Tr CV) (h : Tr CB) (nx : Nat) : Res := match x with | .normal => .ok .normal E h nx | .ret => .ok .ret E h nx | .exit id => .ok (.exit id) E h nx | _ => .bad 22 []
section rules
variable {a b c : Code} {n : Nat} {E E1 E2 : Tr CV} {h h1 h2 : Tr CB} {nx nx1 nx2 : Nat} {x : Exit} {r : Res}
theorem seq_rule (H1 : Does1 P Φ (.code a n E h nx) (.ok .normal E1 h1 nx1)) (H2 : Does1 P Φ (.code b n E1 h1 nx1) (.ok x E2 h2 nx2)) : Does1 P Φ (.code (.seq a b) n E h nx) (.ok x E2 h2 nx2) := by
  intro r ρ w0 ac w hR hf hn hrr Q hQ
  refine wpIn_seq (H1 r ρ w0 ac w hR hf hn (hrr.imp id fun q => (Bool.and_eq_true _ _ ▸ (show (noR a && noR b) = true from q)).1) _ fun ρ' a' w' e1 e2 => ?_)
  exact H2 r ρ' w0 a' w' e2 e1.fit hn (hrr.imp id fun q => (Bool.and_eq_true _ _ ▸ (show (noR a && noR b) = true from q)).2) Q fun ρ2 a2 w2 f1 f2 => hQ ρ2 a2 w2 (e1.trans hR.mem f1) f2
theorem code_orc {c' : Cmd} (H : Does1 P Φ c' r) (n : Nat) (E : Tr CV) (h : Tr CB) (nx : Nat) (c : Code) (r' : Res) (e : step P [] (orc1 c' r) (.code c n E h nx) = r') : Does1 P Φ (.code c n E h nx) r' := by
  rw [← e]; exact step_code (orc1_tru H) c n E h nx
theorem seq_pass (hx : x ≠ .normal) (H1 : Does1 P Φ (.code a n E h nx) (.ok x E1 h1 nx1)) : Does1 P Φ (.code (.seq a b) n E h nx) (.ok x E1 h1 nx1) := by
  refine code_orc H1 n E h nx _ _ ?_
  show stC4 P _ n E h nx a b = _
  unfold stC4
  rw [orc1_eq]
  cases x <;> first | exact absurd rfl hx | rfl
theorem region_rule {id : Nat} {l : List Oper} (hd : l.all notDefer = true) (H1 : Does1 P Φ (.ops l l n E h nx) r) : Does1 P Φ (.code (.region id ⟨l⟩ false) n E h nx) r := by
  refine code_orc H1 n E h nx _ _ ?_
  show (bif l.all notDefer then orc1 (.ops l l n E h nx) r (.ops l l n E h nx) else Res.bad 2 []) = _
  rw [hd]
  exact orc1_eq _ _
theorem open_rule {id : Nat} {l : List Oper} {p : List (Nat × Pk)} (hf : P.follows .mixedOrders = true) (hp : planQ l = some p) (H1 : Does1 P Φ (.reg l p [] n E h nx) r) : Does1 P Φ (.code (.region id ⟨l⟩ true) n E h nx) r := by
  refine code_orc H1 n E h nx _ _ ?_
  show stC10 P _ n E h nx l = _
  unfold stC10
  rw [hf, hp]
  exact orc1_eq _ _
theorem cond_rule {o : Operand} {t : Bool} (ht : evo E o = some (.bool t)) (H1 : Does1 P Φ (.code (bif t then a else b) n E h nx) r) : Does1 P Φ (.code (.cond o a b) n E h nx) r := by
  refine code_orc H1 n E h nx _ _ ?_
  show (match evo E o with
    | some (.bool t) => orc1 _ r (.code (bif t then a else b) n E h nx)
    | _ => Res.bad 1 []) = _
  rw [ht]
  exact orc1_eq _ _
theorem block_rule {id : Nat} (H1 : Does1 P Φ (.code c n E h nx) (.ok x E1 h1 nx1)) : Does1 P Φ (.code (.block id c) n E h nx) (blkR id x E1 h1 nx1) := by
  refine code_orc H1 n E h nx _ _ ?_
  show stC6 P _ n E h nx id c = _
  unfold stC6
  rw [orc1_eq]
  cases x <;> rfl
theorem scope_rule (H1 : Does1 P Φ (.code c n E h nx) (.ok x E1 h1 nx1)) : Does1 P Φ (.code (.scope c) n E h nx) (scpR x E1 h1 nx1) := by
  refine code_orc H1 n E h nx _ _ ?_
  show stC7 P _ n E h nx c = _
  unfold stC7
  rw [orc1_eq]
  cases x <;> rfl
theorem loop_code (H1 : Does1 P Φ (.loop c n E h nx) r) : Does1 P Φ (.code (.loop c) n E h nx) r := code_orc H1 n E h nx _ _ (orc1_eq _ _)
theorem loop_more (H1 : Does1 P Φ (.code c n E h nx) (.ok .normal E1 h1 nx1)) (H2 : Does1 P Φ (.loop c n E1 h1 nx1) r) : Does1 P Φ (.loop c n E h nx) r := by
  have H := step_loop (pr := []) (orc2_tru H1 H2) c n E h nx
  have e : step P [] (orc2 (.code c n E h nx) (.ok .normal E1 h1 nx1) (.loop c n E1 h1 nx1) r) (.loop c n E h nx) = r := by
    show step1 P [] _ c n E h nx = _
    unfold step1
    rw [orc2_1]
    exact orc2_2 (by intro h; cases h) _ _
  rw [e] at H
  exact H
theorem loop_end (hx : x ≠ .normal) (H1 : Does1 P Φ (.code c n E h nx) (.ok x E1 h1 nx1)) : Does1 P Φ (.loop c n E h nx) (.ok x E1 h1 nx1) := by
  have H := step_loop (pr := []) (orc1_tru H1) c n E h nx
  have e : step P [] (orc1 (.code c n E h nx) (.ok x E1 h1 nx1)) (.loop c n E h nx) = .ok x E1 h1 nx1 := by
    show step1 P [] _ c n E h nx = _
    unfold step1
    rw [orc1_eq]
    cases x <;> first | exact absurd rfl hx | rfl
  rw [e] at H
  exact H
end rules
theorem lpC_ok {cd : Cd} {c : Code} {n : Nat} (H : CdOk P Φ cd c n) {ih : Cmd → Res} (hi : Tru P Φ ih) : ∀ (F : Nat) (E : Tr CV) (h : Tr CB) (nx : Nat), TotX (lpC cd F ih E h nx) (fun x E' h' nx' => Does1 P Φ (.loop c n E h nx) (.ok x E' h' nx'))
  | 0, E, h, nx => .inl ⟨0, [], fun k => rfl⟩
  | F + 1, E, h, nx => by
    show TotX (fun k => cd.run ih E h nx (fun x E h nx => match x with | .normal => lpC cd F ih E h nx k | x => k x E h nx)) _
    rcases H ih hi E h nx with ⟨w, a, hb⟩ | ⟨x, E1, h1, nx1, hk, hd⟩
    · exact .inl ⟨w, a, fun k => hb _⟩
    · have pass : x ≠ .normal → TotX (fun k => cd.run ih E h nx (fun x E h nx => match x with | .normal => lpC cd F ih E h nx k | x => k x E h nx)) (fun x E' h' nx' => Does1 P Φ (.loop c n E h nx) (.ok x E' h' nx')) := fun hx =>
        .inr ⟨x, E1, h1, nx1, fun k => (hk _).trans (by cases x <;> first | exact absurd rfl hx | rfl), loop_end hx hd⟩
      cases x with
      | normal =>
        rcases lpC_ok H hi F E1 h1 nx1 with ⟨w, a, hb⟩ | ⟨x2, E2, h2, nx2, hk2, hd2⟩
        · exact .inl ⟨w, a, fun k => (hk _).trans (hb k)⟩
        · exact .inr ⟨x2, E2, h2, nx2, fun k => (hk _).trans (hk2 k), loop_more hd hd2⟩
      | _ => exact pass (by intro h; cases h)
theorem ccode_ok (hpr : PrimOk P Φ pr) (LF n : Nat) (c : Code) : CdOk P Φ (ccode P pr LF n c) c n := by
  induction c with
  | skip => exact fun ih H E h nx => .inr ⟨.normal, E, h, nx, fun k => rfl, step_code (pr := []) (bad_tru (P := P) (Φ := Φ)) .skip n E h nx⟩
  | label l => exact fun ih H E h nx => .inr ⟨.normal, E, h, nx, fun k => rfl, step_code (pr := []) (bad_tru (P := P) (Φ := Φ)) (.label l) n E h nx⟩
  | exit id => exact fun ih H E h nx => .inr ⟨.exit id, E, h, nx, fun k => rfl, step_code (pr := []) (bad_tru (P := P) (Φ := Φ)) (.exit id) n E h nx⟩
  | ret => exact fun ih H E h nx => .inr ⟨.ret, E, h, nx, fun k => rfl, step_code (pr := []) (bad_tru (P := P) (Φ := Φ)) .ret n E h nx⟩
  | goto l => exact genC_ok hpr (.goto l) n
  | refuse s => exact genC_ok hpr (.refuse s) n
  | rangeFunc g ps asg body _ _ => exact genC_ok hpr (.rangeFunc g ps asg body) n
  | region id ops draw =>
    show CdOk P Φ (bif not draw && (ops.toList.all notDefer && plainL ops.toList) then ⟨fun ih E h nx k => rops (cops P pr n ops.toList) ih E h nx (fun E h nx => k .normal E h nx)⟩ else bif draw && (P.follows .mixedOrders && plainL ops.toList) then (match planQ ops.toList with | some p => ⟨fun ih E h nx k => (creg P pr n ops.toList p).run ih [] E h nx (fun E h nx => k .normal E h nx)⟩ | none => genC P pr (.region id ops draw) n) else genC P pr (.region id ops draw) n) (.region id ops draw) n
    refine bif_val (fun d => CdOk P Φ d (.region id ops draw) n) (fun hb => ?_) fun _ => bif_val (fun d => CdOk P Φ d (.region id ops draw) n) (fun hb => ?_) fun _ => genC_ok hpr (.region id ops draw) n
    rotate_left
    · simp only [Bool.and_eq_true] at hb
      obtain ⟨hb1, hb2, hb3⟩ := hb
      obtain ⟨l⟩ := ops
      cases draw with
      | false => cases hb1
      | true =>
        split
        · rename_i p hp
          intro ih H E h nx
          rcases creg_ok H l n p [] E h nx with ⟨w, a, hb⟩ | ⟨E2, h2, nx2, hk, hd⟩
          · exact .inl ⟨w, a, fun k => hb _⟩
          · exact .inr ⟨.normal, E2, h2, nx2, fun k => hk _, open_rule hb2 hp hd⟩
        · exact genC_ok hpr (.region id ⟨l⟩ true) n
    simp only [Bool.and_eq_true] at hb
    obtain ⟨hb1, hb2, hb3⟩ := hb
    intro ih H E h nx
    obtain ⟨l⟩ := ops
    cases draw with
    | true => cases hb1
    | false =>
      rcases rops_ok H l n l E h nx hb3 with ⟨w, a, hb⟩ | ⟨E2, h2, nx2, hk, hd⟩
      · exact .inl ⟨w, a, fun k => hb _⟩
      · exact .inr ⟨.normal, E2, h2, nx2, fun k => hk _, region_rule hb2 hd⟩
  | seq a b iha ihb =>
    intro ih H E h nx
    show TotX (fun k => (ccode P pr LF n a).run ih E h nx (fun x E h nx => match x with | .normal => (ccode P pr LF n b).run ih E h nx k | x => k x E h nx)) _
    rcases iha ih H E h nx with ⟨w, ac, hb⟩ | ⟨x, E1, h1, nx1, hk, hd⟩
    · exact .inl ⟨w, ac, fun k => hb _⟩
    · have pass : x ≠ .normal → TotX (fun k => (ccode P pr LF n a).run ih E h nx (fun x E h nx => match x with | .normal => (ccode P pr LF n b).run ih E h nx k | x => k x E h nx)) (fun x E' h' nx' => Does1 P Φ (.code (.seq a b) n E h nx) (.ok x E' h' nx')) := fun hx =>
        .inr ⟨x, E1, h1, nx1, fun k => (hk _).trans (by cases x <;> first | exact absurd rfl hx | rfl), seq_pass hx hd⟩
      cases x with
      | normal =>
        rcases ihb ih H E1 h1 nx1 with ⟨w, ac, hb⟩ | ⟨x2, E2, h2, nx2, hk2, hd2⟩
        · exact .inl ⟨w, ac, fun k => (hk _).trans (hb k)⟩
        · exact .inr ⟨x2, E2, h2, nx2, fun k => (hk _).trans (hk2 k), seq_rule hd hd2⟩
      | _ => exact pass (by intro h; cases h)
  | cond o a b iha ihb =>
    intro ih H E h nx
    show TotX (fun k => match (rdo o).run E with | some (.bool t) => bif t then (ccode P pr LF n a).run ih E h nx k else (ccode P pr LF n b).run ih E h nx k | _ => .bad 1 []) _
    rw [rdo_eq]
    split
    · rename_i t ht
      cases t with
      | true =>
        rcases iha ih H E h nx with ⟨w, ac, hb⟩ | ⟨x2, E2, h2, nx2, hk2, hd2⟩
        · exact .inl ⟨w, ac, fun k => hb k⟩
        · exact .inr ⟨x2, E2, h2, nx2, fun k => hk2 k, cond_rule ht hd2⟩
      | false =>
        rcases ihb ih H E h nx with ⟨w, ac, hb⟩ | ⟨x2, E2, h2, nx2, hk2, hd2⟩
        · exact .inl ⟨w, ac, fun k => hb k⟩
        · exact .inr ⟨x2, E2, h2, nx2, fun k => hk2 k, cond_rule ht hd2⟩
    · exact .inl ⟨1, [], fun k => rfl⟩
  | block id c ihc =>
    intro ih H E h nx
    show TotX (fun k => (ccode P pr LF n c).run ih E h nx (fun x E h nx => match x with | .exit id' => bif Nat.beq id' id then k .normal E h nx else k (.exit id') E h nx | x => k x E h nx)) _
    rcases ihc ih H E h nx with ⟨w, ac, hb⟩ | ⟨x, E1, h1, nx1, hk, hd⟩
    · exact .inl ⟨w, ac, fun k => hb _⟩
    · have hr := block_rule (id := id) hd
      cases x with
      | exit id' =>
        cases hbq : Nat.beq id' id with
        | true =>
          simp only [blkR, hbq, cond_true] at hr
          exact .inr ⟨.normal, E1, h1, nx1, fun k => (hk _).trans (by simp only [hbq, cond_true]), hr⟩
        | false =>
          simp only [blkR, hbq, cond_false] at hr
          exact .inr ⟨.exit id', E1, h1, nx1, fun k => (hk _).trans (by simp only [hbq, cond_false]), hr⟩
      | normal => exact .inr ⟨_, E1, h1, nx1, fun k => hk _, hr⟩
      | ret => exact .inr ⟨_, E1, h1, nx1, fun k => hk _, hr⟩
      | goto l => exact .inr ⟨_, E1, h1, nx1, fun k => hk _, hr⟩
      | panic ch => exact .inr ⟨_, E1, h1, nx1, fun k => hk _, hr⟩
      | outgrown => exact .inr ⟨_, E1, h1, nx1, fun k => hk _, hr⟩
  | scope c ihc =>
    intro ih H E h nx
    show TotX (fun k => (ccode P pr LF n c).run ih E h nx (fun x E h nx => match x with | .normal => k .normal E h nx | .ret => k .ret E h nx | .exit id => k (.exit id) E h nx | _ => .bad 22 [])) _
    rcases ihc ih H E h nx with ⟨w, ac, hb⟩ | ⟨x, E1, h1, nx1, hk, hd⟩
    · exact .inl ⟨w, ac, fun k => hb _⟩
    · have hr := scope_rule hd
      cases x with
      | normal => exact .inr ⟨_, E1, h1, nx1, fun k => hk _, hr⟩
      | ret => exact .inr ⟨_, E1, h1, nx1, fun k => hk _, hr⟩
      | exit id => exact .inr ⟨_, E1, h1, nx1, fun k => hk _, hr⟩
      | _ => exact .inl ⟨22, [], fun k => hk _⟩
  | loop c ihc =>
    intro ih H E h nx
    show TotX (fun k => lpC (ccode P pr LF n c) LF ih E h nx k) _
    rcases lpC_ok ihc H LF E h nx with ⟨w, ac, hb⟩ | ⟨x, E1, h1, nx1, hk, hd⟩
    · exact .inl ⟨w, ac, fun k => hb k⟩
    · exact .inr ⟨x, E1, h1, nx1, fun k => hk k, loop_code hd⟩
noncomputable def dirC (P : Program) (pr : Prims) (LF : Nat) (ih : Cmd → Res) : Cmd → Res
  | .code c n E h nx => (ccode P pr LF n c).run ih E h nx (fun x E h nx => .ok x E h nx)
  | c => ih c
theorem dirC_tru (hpr : PrimOk P Φ pr) (LF : Nat) {ih : Cmd → Res} (H : Tru P Φ ih) : Tru P Φ (dirC P pr LF ih) := fun c => by
  cases c with
  | code c n E h nx =>
    show Does1 P Φ _ ((ccode P pr LF n c).run ih E h nx (fun x E h nx => .ok x E h nx))
    rcases ccode_ok hpr LF n c ih H E h nx with ⟨w, ac, hb⟩ | ⟨x, E1, h1, nx1, hk, hd⟩
    · rw [hb]; exact does_bad _ _ _
    · rw [hk]; exact hd
  | _ => exact H _
end
end Go.Sl.Ev
set_option linter.unusedVariables false
namespace Go.Sl.Ev
open Go Go.Sl
noncomputable def oNe (a b : Option Nat) : Bool := match a with
  | none => (match b with | none => true | some _ => false)
  | some x => (match b with | none => false | some y => Nat.beq x y)
theorem oNe_ok {a b : Option Nat} (h : oNe a b = true) : a = b := by
  cases a <;> cases b <;> first | rfl | (cases h; done) | (exact congrArg some (Nat.eq_of_beq_eq_true h))
noncomputable def eqV (a : CV) : CV → Bool := CV.rec (motive := fun _ => CV → Bool)
  (fun k n b => match b with | .int k' n' => ikB k k' && ieq n n' | _ => false)
  (fun x b => match b with | .bool y => eqB x y | _ => false)
  (fun _ ih b => match b with | .str s => ih s | _ => false)
  (fun t o b => match b with | .ptr t' o' => Nat.beq t t' && Nat.beq o o' | _ => false)
  (fun b => match b with | .nilp => true | _ => false)
  (fun t o n sz c b => match b with | .sl t' o' n' sz' c' => Nat.beq t t' && (Nat.beq o o' && (Nat.beq n n' && (Nat.beq sz sz' && oNe c c'))) | _ => false)
  (fun b => match b with | .nils => true | _ => false)
  (fun b => match b with | .sle => true | _ => false)
  (fun t b => match b with | .mp t' => Nat.beq t t' | _ => false)
  (fun b => match b with | .nilm => true | _ => false)
  (fun f _ _ i1 i2 b => match b with | .fn f' x y => Nat.beq f f' && (i1 x && i2 y) | _ => false)
  (fun b => match b with | .nilf => true | _ => false)
  (fun t b => match b with | .yl t' => Nat.beq t t' | _ => false)
  (fun _ ih b => match b with | .agg l => ih l | _ => false)
  (fun _ ih b => match b with | .tup l => ih l | _ => false)
  (fun b => match b with | .nil => true | _ => false)
  (fun _ _ i1 i2 b => match b with | .cons x y => i1 x && i2 y | _ => false) a
theorem beqN {a b : Nat} (h : Nat.beq a b = true) : a = b := Nat.eq_of_beq_eq_true h
theorem eqB_ok {a b : Bool} (h : eqB a b = true) : a = b := by cases a <;> cases b <;> first | rfl | cases h
theorem eqV_ok : ∀ {a b : CV}, eqV a b = true → a = b := by
  intro a
  induction a with
  | int k n =>
    intro b h
    cases b <;> first | (cases h; done) | skip
    rename_i k' n'
    have h' : (ikB k k' && ieq n n') = true := h
    rw [Bool.and_eq_true] at h'
    rw [ikB_eq h'.1, of_decide_eq_true ((ieq_eq n n').symm.trans h'.2)]
  | bool x => intro b h; cases b <;> first | (cases h; done) | (exact congrArg _ (eqB_ok h))
  | str s ih => intro b h; cases b <;> first | (cases h; done) | (exact congrArg _ (ih h))
  | ptr t o =>
    intro b h
    cases b <;> first | (cases h; done) | skip
    rename_i t' o'
    have h' : (Nat.beq t t' && Nat.beq o o') = true := h
    rw [Bool.and_eq_true] at h'
    rw [beqN h'.1, beqN h'.2]
  | nilp => intro b h; cases b <;> first | rfl | cases h
  | sl t o n sz c =>
    intro b h
    cases b <;> first | (cases h; done) | skip
    rename_i t' o' n' sz' c'
    have h' : (Nat.beq t t' && (Nat.beq o o' && (Nat.beq n n' && (Nat.beq sz sz' && oNe c c')))) = true := h
    simp only [Bool.and_eq_true] at h'
    rw [beqN h'.1, beqN h'.2.1, beqN h'.2.2.1, beqN h'.2.2.2.1, oNe_ok h'.2.2.2.2]
  | nils => intro b h; cases b <;> first | rfl | cases h
  | sle => intro b h; cases b <;> first | rfl | cases h
  | mp t => intro b h; cases b <;> first | (cases h; done) | (exact congrArg _ (beqN h))
  | nilm => intro b h; cases b <;> first | rfl | cases h
  | fn f x y i1 i2 =>
    intro b h
    cases b <;> first | (cases h; done) | skip
    rename_i f' x' y'
    have h' : (Nat.beq f f' && (eqV x x' && eqV y y')) = true := h
    simp only [Bool.and_eq_true] at h'
    rw [beqN h'.1, i1 h'.2.1, i2 h'.2.2]
  | nilf => intro b h; cases b <;> first | rfl | cases h
  | yl t => intro b h; cases b <;> first | (cases h; done) | (exact congrArg _ (beqN h))
  | agg l ih => intro b h; cases b <;> first | (cases h; done) | (exact congrArg _ (ih h))
  | tup l ih => intro b h; cases b <;> first | (cases h; done) | (exact congrArg _ (ih h))
  | nil => intro b h; cases b <;> first | rfl | cases h
  | cons x y i1 i2 =>
    intro b h
    cases b <;> first | (cases h; done) | skip
    rename_i x' y'
    have h' : (eqV x x' && eqV y y') = true := h
    rw [Bool.and_eq_true] at h'
    rw [i1 h'.1, i2 h'.2]
structure EB where
  t : Nat
  l : CV
  ty : Nat
  op : Bool
  ro : Bool
  st : Nat
noncomputable def EB.cb (x : EB) : CB := bif x.ro then .ro (ofR x.l) x.ty x.st else .cells (ofR x.l) x.ty x.op x.st
noncomputable def addEB (h : Tr CB) (l : List EB) : Tr CB := List.rec h (fun x _ ih => ih.set (some x.cb) Fit x.t) l
/-- h has this block; g: with this stamp -/
noncomputable def hasEB (g : Bool) (h : Tr CB) (x : EB) : Bool := match h.get x.t with
  | some (.cells l ty op st) => not x.ro && (Nat.beq l.n (lenC x.l) && (eqV (sliceR l 0 l.n) x.l && (Nat.beq ty x.ty && (eqB op x.op && (not g || Nat.beq st x.st)))))
  | some (.ro l ty st) => x.ro && (Nat.beq l.n (lenC x.l) && (eqV (sliceR l 0 l.n) x.l && (Nat.beq ty x.ty && (not g || Nat.beq st x.st))))
  | _ => false
theorem stEB (x : EB) : stB x.cb = x.st := by
  unfold EB.cb
  cases x.ro <;> rfl
theorem hasEB_ok {g : Bool} {h : Tr CB} {x : EB} (hx : hasEB g h x = true) : ∃ b, h.get x.t = some b ∧ (g = true → stB b = x.st) ∧ ∀ (nx : Nat) (ρ : Pl) (s : Nat) (o : Obj), DB nx ρ s b o → DB nx ρ s x.cb o := by
  unfold hasEB at hx
  have key : ∀ {l : Rw}, Nat.beq l.n (lenC x.l) = true → eqV (sliceR l 0 l.n) x.l = true → ∀ {nx : Nat} {ρ : Pl} {vs : List Value}, RL nx ρ l vs → RL nx ρ (ofR x.l) vs := fun {l} h1 h2 {nx ρ vs} hr => by
    have e1 := eqV_ok h2
    have e2 := beqN h1
    have hl : lenC (sliceR l 0 l.n) = l.n := by rw [e1, ← e2]
    have hk := sliceR_ok hr hl
    rw [e1, hr.1] at hk
    simp only [List.drop_zero, List.take_length] at hk
    exact ofR_ok hk
  split at hx
  · rename_i l ty op st hb
    simp only [Bool.and_eq_true, Bool.not_eq_true'] at hx
    obtain ⟨h1, h2, h3, h4, h5, h6⟩ := hx
    refine ⟨_, hb, fun hg => ?_, fun nx ρ s o hd => ?_⟩
    · subst hg; show st = x.st; simpa using h6
    · unfold EB.cb
      rw [h1]
      obtain ⟨vs, junk, k1, k2, k3, k4⟩ := hd
      refine ⟨vs, junk, key h2 h3 k1, by rw [← beqN h4]; exact k2, k3, fun ho => k4 (by rw [eqB_ok h5]; exact ho)⟩
  · rename_i l ty st hb
    simp only [Bool.and_eq_true] at hx
    obtain ⟨h1, h2, h3, h4, h6⟩ := hx
    refine ⟨_, hb, fun hg => ?_, fun nx ρ s o hd => ?_⟩
    · subst hg; show st = x.st; simpa using h6
    · unfold EB.cb
      rw [h1]
      obtain ⟨vs, fz, k1, k2⟩ := hd
      exact ⟨vs, fz, key h2 h3 k1, by rw [← beqN h4]; exact k2⟩
  · cases hx
theorem addEB_get (h : Tr CB) : ∀ {l : List EB}, (∀ x ∈ l, x.t < Fit) → ∀ {t : Nat} {b : CB}, (addEB h l).get t = some b → (∃ x ∈ l, x.t = t ∧ x.cb = b) ∨ ((∀ x ∈ l, x.t ≠ t) ∧ h.get t = some b)
  | [], _, t, b, hg => .inr ⟨fun x hx => (by cases hx), hg⟩
  | x :: l, hl, t, b, hg => by
    have hg' : ((addEB h l).set (some x.cb) Fit x.t).get t = some b := hg
    rw [Tr.get_set _ _ _ _ _ (hl x (List.mem_cons_self ..))] at hg'
    by_cases e : t = x.t
    · rw [if_pos e] at hg'
      cases hg'
      exact .inl ⟨x, List.mem_cons_self .., e.symm, rfl⟩
    · rw [if_neg e] at hg'
      rcases addEB_get h (fun y hy => hl y (List.mem_cons_of_mem _ hy)) hg' with ⟨y, h1, h2⟩ | ⟨h1, h2⟩
      · exact .inl ⟨y, List.mem_cons_of_mem _ h1, h2⟩
      · refine .inr ⟨fun y hy => ?_, h2⟩
        rcases List.mem_cons.1 hy with rfl | hy
        · exact fun e2 => e e2.symm
        · exact h1 y hy
theorem addEB_has (h : Tr CB) : ∀ {l : List EB}, (∀ x ∈ l, x.t < Fit) → ∀ {t : Nat}, ((∃ x ∈ l, x.t = t) ∨ (∃ b, h.get t = some b)) → ∃ b, (addEB h l).get t = some b
  | [], _, t, hg => hg.elim (fun ⟨x, hx, _⟩ => by cases hx) id
  | x :: l, hl, t, hg => by
    show ∃ b, ((addEB h l).set (some x.cb) Fit x.t).get t = some b
    rw [Tr.get_set _ _ _ _ _ (hl x (List.mem_cons_self ..))]
    by_cases e : t = x.t
    · exact ⟨_, if_pos e⟩
    · rw [if_neg e]
      refine addEB_has h (fun y hy => hl y (List.mem_cons_of_mem _ hy)) (hg.imp ?_ id)
      rintro ⟨y, hy, h2⟩
      rcases List.mem_cons.1 hy with rfl | hy
      · exact absurd h2.symm e
      · exact ⟨y, hy, h2⟩
structure Ent where
  f : Nat
  nx : Nat
  args : CV
  hs : List EB
  v : CV
  news : List EB
  nx' : Nat
noncomputable def lookE (mm : List Ent) (f : Nat) (args : CV) (h : Tr CB) (nx : Nat) : Option Ent :=
  List.rec none (fun e _ ih => bif Nat.beq e.f f && (Nat.beq e.nx nx && (eqV e.args args && allB (hasEB false h) e.hs)) then some e else ih) mm
noncomputable def memo (mm : List Ent) (c : Cmd) (r : Res) : Res := match c with
  | .call f args h nx => (match lookE mm f args h nx with | some e => .ret e.v (addEB h e.news) e.nx' | none => r)
  | _ => r
/-- numbers in order -/
noncomputable def entB (e : Ent) : Bool := Nat.ble e.nx e.nx' && (Nat.ble e.nx' Fit && (allB (fun x => Nat.ble (Nat.succ x.t) e.nx && Nat.ble (Nat.succ x.st) e.nx) e.hs && allB (fun x => Nat.ble e.nx x.t && (Nat.ble (Nat.succ x.t) e.nx' && (Nat.ble e.nx x.st && Nat.ble (Nat.succ x.st) e.nx'))) e.news))
def EntOk (P : Program) (Φ : Imm → Prop) (e : Ent) : Prop := entB e = true ∧ Does1 P Φ (.call e.f e.args (addEB .e e.hs) e.nx) (.ret e.v (addEB (addEB .e e.hs) e.news) e.nx')
def MemoOk (P : Program) (Φ : Imm → Prop) (mm : List Ent) : Prop := ∀ e ∈ mm, EntOk P Φ e
section
variable {P : Program} {Φ : Imm → Prop} {pr : Prims}
theorem entB_ok {e : Ent} (h : entB e = true) : e.nx ≤ e.nx' ∧ e.nx' ≤ Fit ∧ (∀ x ∈ e.hs, x.t < e.nx ∧ x.st < e.nx) ∧ ∀ x ∈ e.news, e.nx ≤ x.t ∧ x.t < e.nx' ∧ e.nx ≤ x.st ∧ x.st < e.nx' := by
  unfold entB at h
  simp only [Bool.and_eq_true] at h
  refine ⟨le_ble h.1, le_ble h.2.1, fun x hx => ?_, fun x hx => ?_⟩
  · have := allB_iff.1 h.2.2.1 x hx
    rw [Bool.and_eq_true] at this
    exact ⟨le_ble this.1, le_ble this.2⟩
  · have := allB_iff.1 h.2.2.2 x hx
    simp only [Bool.and_eq_true] at this
    exact ⟨le_ble this.1, le_ble this.2.1, le_ble this.2.2.1, le_ble this.2.2.2⟩
theorem lookE_ok {mm : List Ent} {f nx : Nat} {args : CV} {h : Tr CB} {e : Ent} (hl : lookE mm f args h nx = some e) : e ∈ mm ∧ e.f = f ∧ e.nx = nx ∧ e.args = args ∧ ∀ x ∈ e.hs, hasEB false h x = true := by
  induction mm with
  | nil => cases hl
  | cons a mm ih =>
    have hl' : (bif Nat.beq a.f f && (Nat.beq a.nx nx && (eqV a.args args && allB (hasEB false h) a.hs)) then some a else lookE mm f args h nx) = some e := hl
    rcases bif_cases hl' with ⟨h1, h2⟩ | ⟨_, h2⟩
    · cases h2
      simp only [Bool.and_eq_true] at h1
      exact ⟨List.mem_cons_self .., beqN h1.1, beqN h1.2.1, eqV_ok h1.2.2.1, fun x hx => allB_iff.1 h1.2.2.2 x hx⟩
    · obtain ⟨k1, k2⟩ := ih h2
      exact ⟨List.mem_cons_of_mem _ k1, k2⟩
/-- blocks that h has, alone -/
theorem Mem.part {ρ : Pl} {w0 : Bas Φ} {h : Tr CB} {nx : Nat} {w : World} {hs : List EB} (hm : Mem ρ w0 h nx w) (hlt : ∀ x ∈ hs, x.t < Fit) (hst : ∀ x ∈ hs, x.st < nx) (hhas : ∀ x ∈ hs, hasEB false h x = true) : Mem ρ w0 (addEB .e hs) nx w := by
  have key : ∀ {t b}, (addEB .e hs).get t = some b → ∃ x ∈ hs, x.t = t ∧ x.cb = b := fun hb => (addEB_get .e hlt hb).elim id fun h => by cases h.2
  have old : ∀ {t b}, (addEB .e hs).get t = some b → ∃ c, h.get t = some c := fun hb => by
    obtain ⟨x, hx, rfl, _⟩ := key hb
    obtain ⟨c, h1, _⟩ := hasEB_ok (hhas x hx)
    exact ⟨c, h1⟩
  refine ⟨hm.upd, fun t b hb => ?_, fun t t' b b' h1 h2 he => ?_, hm.imm, hm.nod, fun c hc => ⟨(hm.kept c hc).1, (hm.kept c hc).2.1, fun t b hb => ?_⟩⟩
  · obtain ⟨x, hx, rfl, rfl⟩ := key hb
    obtain ⟨c, h1, _, h3⟩ := hasEB_ok (hhas x hx)
    obtain ⟨q1, q2, q3, o, q4, q5⟩ := hm.own _ _ h1
    exact ⟨q1, by rw [stEB]; exact hst x hx, q3, o, q4, h3 _ _ _ _ q5⟩
  · obtain ⟨c, k1⟩ := old h1
    obtain ⟨c', k2⟩ := old h2
    exact hm.one _ _ _ _ k1 k2 he
  · obtain ⟨c', k1⟩ := old hb
    exact (hm.kept c hc).2.2 _ _ k1
theorem memo_ok {mm : List Ent} (hmm : MemoOk P Φ mm) {c : Cmd} {r : Res} (hr : Does1 P Φ c r) : Does1 P Φ c (memo mm c r) := by
  cases c with
  | call f args h nx =>
    show Does1 P Φ _ (match lookE mm f args h nx with | some e => .ret e.v (addEB h e.news) e.nx' | none => r)
    split
    · rename_i e he
      obtain ⟨h1, rfl, rfl, rfl, h2⟩ := lookE_ok he
      obtain ⟨hb, hf, hd⟩ := hmm e h1
      obtain ⟨b1, b2, b3, b4⟩ := entB_ok hb
      refine ⟨hf, fun ρ w0 w vs hm hk hfit => ?_⟩
      have hlt : ∀ x ∈ e.hs, x.t < Fit := fun x hx => Nat.lt_of_lt_of_le (b3 x hx).1 (Nat.le_trans b1 b2)
      have hlt' : ∀ x ∈ e.news, x.t < Fit := fun x hx => Nat.lt_of_lt_of_le (b4 x hx).2.1 b2
      have m0 := hm.part hlt (fun x hx => (b3 x hx).2) h2
      refine (hd ρ w0 w vs m0 hk hfit).mono fun ex w' ⟨u, ρ', e1, e2, e3, e4⟩ => ⟨u, ρ', e1, ?_, e3, ?_⟩
      all_goals
        have g0 : ∀ {t b}, (addEB .e e.hs).get t = some b → ∃ c, h.get t = some c ∧ t < e.nx := fun hb => by
          obtain ⟨x, hx, rfl, _⟩ := (addEB_get .e hlt hb).elim id fun h => by cases h.2
          obtain ⟨c, k1, _⟩ := hasEB_ok (h2 x hx)
          exact ⟨c, k1, (b3 x hx).1⟩
        have unl : ∀ {t b}, h.get t = some b → (∀ x ∈ e.hs, x.t ≠ t) → w'.heap[(ρ t).1]? = w.heap[(ρ t).1]? := fun {t b} hb hn => by
          refine e2.old.fr _ (hm.lt hb) (fun t' b' hb' he' => ?_) id
          obtain ⟨x, hx, rfl, _⟩ := (addEB_get .e hlt hb').elim id fun h => by cases h.2
          obtain ⟨c, k1, _⟩ := g0 hb'
          exact hn x hx (hm.one _ _ _ _ k1 hb he')
        have same : ∀ {t b}, h.get t = some b → w'.heap[(ρ t).1]? = w.heap[(ρ t).1]? := fun {t b} hb => by
          by_cases hin : ∃ x ∈ e.hs, x.t = t
          · obtain ⟨b0, hb0⟩ := addEB_has (.e : Tr CB) hlt (.inl hin)
            obtain ⟨b1', hb1⟩ := addEB_has (addEB .e e.hs) hlt' (.inr ⟨b0, hb0⟩)
            have htn : t < e.nx := (hm.own t b hb).1
            rcases addEB_get (addEB .e e.hs) hlt' hb1 with ⟨y, hy, hyt, _⟩ | ⟨_, k2⟩
            · have := (b4 y hy).1; omega
            · obtain ⟨x, hx, hxt, hxc⟩ := (addEB_get .e hlt k2).elim id fun h => by cases h.2
              exact (e2.old.old t b1' hb1 (by rw [← hxc, stEB]; exact (b3 x hx).2)).2
          · exact unl hb fun x hx hxt => hin ⟨x, hx, hxt⟩
        have cases2 : ∀ {t b}, (addEB h e.news).get t = some b → (e.nx ≤ t ∧ (addEB (addEB .e e.hs) e.news).get t = some b ∧ e.nx ≤ stB b ∧ stB b < e.nx') ∨ (t < e.nx ∧ h.get t = some b) := fun {t b} hb => by
          rcases addEB_get h hlt' hb with ⟨x, hx, hxt, hxc⟩ | ⟨_, k2⟩
          · refine .inl ⟨by rw [← hxt]; exact (b4 x hx).1, ?_, by rw [← hxc, stEB]; exact (b4 x hx).2.2⟩
            have hn0 : (addEB .e e.hs).get t = none := by
              cases hg : (addEB (.e : Tr CB) e.hs).get t with
              | none => rfl
              | some c => obtain ⟨_, _, q⟩ := g0 hg; have := (b4 x hx).1; omega
            -- the same list on another memory
            have gen : ∀ (l : List EB), (∀ x ∈ l, x.t < Fit) → ∀ {b}, (addEB h l).get t = some b → (∃ x ∈ l, x.t = t) → (addEB (addEB .e e.hs) l).get t = some b := fun l => by
              induction l with
              | nil => intro _ b _ hx; obtain ⟨x, hx, _⟩ := hx; cases hx
              | cons y l ih =>
                intro hl b hb hx
                have hb' : ((addEB h l).set (some y.cb) Fit y.t).get t = some b := hb
                show ((addEB (addEB .e e.hs) l).set (some y.cb) Fit y.t).get t = some b
                rw [Tr.get_set _ _ _ _ _ (hl y (List.mem_cons_self ..))] at hb' ⊢
                by_cases e : t = y.t
                · rw [if_pos e] at hb' ⊢; exact hb'
                · rw [if_neg e] at hb' ⊢
                  obtain ⟨x, hx, hxt⟩ := hx
                  rcases List.mem_cons.1 hx with rfl | hx
                  · exact absurd hxt.symm e
                  · exact ih (fun z hz => hl z (List.mem_cons_of_mem _ hz)) hb' ⟨x, hx, hxt⟩
            exact gen e.news hlt' hb ⟨x, hx, hxt⟩
          · exact .inr ⟨(hm.own t b k2).1, k2⟩
      · refine ⟨e2.le, e2.fit, e2.ext, fun t b hb hs => ?_, fun p hp hun hx => e2.old.fr p hp (fun t b hb he' => ?_) hx, fun t b hb => ?_, e2.old.sz⟩
        · rcases cases2 hb with ⟨_, _, k3, _⟩ | ⟨_, k2⟩
          · omega
          · exact ⟨k2, same k2⟩
        · obtain ⟨c, k1, _⟩ := g0 hb
          exact hun t c k1 he'
        · rcases cases2 hb with ⟨_, k2, _⟩ | ⟨k1, k2⟩
          · rcases e2.old.nw t b k2 with k3 | ⟨t', b', k3, k4⟩
            · exact .inl k3
            · obtain ⟨c, k5, _⟩ := g0 k3
              exact .inr ⟨t', c, k5, k4⟩
          · exact .inr ⟨t, b, k2, by rw [e2.ext t k1]⟩
      · have place : ∀ {t b}, (addEB (addEB .e e.hs) e.news).get t = some b → e.nx ≤ t → ∀ t' b', h.get t' = some b' → (ρ' t).1 ≠ (ρ t').1 := fun {t b} hb htn t' b' hb' he' => by
          rcases e2.old.nw t b hb with k3 | ⟨t2, b2, k3, k4⟩
          · have := hm.lt hb'; omega
          · obtain ⟨c, k5, k6⟩ := g0 k3
            obtain ⟨b3', k7⟩ := addEB_has (addEB .e e.hs) hlt' (.inr ⟨b2, k3⟩)
            have := e4.one t t2 _ _ hb k7 (by rw [e2.ext t2 k6]; exact k4.symm)
            omega
        refine ⟨e4.upd, fun t b hb => ?_, fun t t' b b' hb hb' he' => ?_, e4.imm, e4.nod, fun c hc => ⟨(e4.kept c hc).1, (e4.kept c hc).2.1, fun t b hb => ?_⟩⟩
        · rcases cases2 hb with ⟨_, k2, _⟩ | ⟨k1, k2⟩
          · exact e4.own t b k2
          · obtain ⟨q1, q2, q3, o, q4, q5⟩ := hm.own t b k2
            rw [e2.ext t k1]
            exact ⟨Nat.lt_of_lt_of_le q1 e2.le, Nat.lt_of_lt_of_le q2 e2.le, q3, o, (same k2).trans q4, q5.up e2.le e2.ext⟩
        · rcases cases2 hb with ⟨j1, k2, _⟩ | ⟨k1, k2⟩ <;> rcases cases2 hb' with ⟨j1', k2', _⟩ | ⟨k1', k2'⟩
          · exact e4.one t t' b b' k2 k2' he'
          · rw [e2.ext t' k1'] at he'
            exact absurd he' (place k2 j1 t' b' k2')
          · rw [e2.ext t k1] at he'
            exact absurd he'.symm (place k2' j1' t b k2)
          · rw [e2.ext t k1, e2.ext t' k1'] at he'
            exact hm.one t t' b b' k2 k2' he'
        · rcases cases2 hb with ⟨_, k2, _⟩ | ⟨k1, k2⟩
          · exact (e4.kept c hc).2.2 t b k2
          · rw [e2.ext t k1]; exact (hm.kept c hc).2.2 t b k2
    · exact hr
  | _ => exact hr
/-- the machine that knows calls run before -/
noncomputable def runM (P : Program) (pr : Prims) (mm : List Ent) (F : Nat) : Cmd → Res := Nat.rec (motive := fun _ => Cmd → Res) (fun _ => .bad 0 []) (fun _ r c => memo mm c (step P pr (dirC P pr 1000000 r) c)) F
theorem runM_tru (hpr : PrimOk P Φ pr) {mm : List Ent} (hmm : MemoOk P Φ mm) (F : Nat) : Tru P Φ (runM P pr mm F) := by
  induction F with
  | zero => exact fun c => does_bad c 0 []
  | succ F r => exact fun c => memo_ok hmm (step_tru hpr (dirC_tru hpr _ r) c)
/-- the call itself is not looked up -/
noncomputable def runE (P : Program) (pr : Prims) (mm : List Ent) (F : Nat) (c : Cmd) : Res := step P pr (dirC P pr 1000000 (runM P pr mm F)) c
noncomputable def chkE (e : Ent) (r : Res) : Bool := entB e && (match r with
  | .ret v h nx => eqV v e.v && (Nat.beq nx e.nx' && (allB (hasEB true h) e.hs && allB (hasEB false h) e.news))
  | _ => false)
theorem entry_ok (hpr : PrimOk P Φ pr) {mm : List Ent} (hmm : MemoOk P Φ mm) (F : Nat) (e : Ent) (h : chkE e (runE P pr mm F (.call e.f e.args (addEB .e e.hs) e.nx)) = true) : EntOk P Φ e := by
  have H : Does1 P Φ (.call e.f e.args (addEB .e e.hs) e.nx) (runE P pr mm F (.call e.f e.args (addEB .e e.hs) e.nx)) := step_tru hpr (dirC_tru hpr _ (runM_tru hpr hmm F)) _
  unfold chkE at h
  rw [Bool.and_eq_true] at h
  obtain ⟨hb, h⟩ := h
  refine ⟨hb, ?_⟩
  obtain ⟨b1, b2, b3, b4⟩ := entB_ok hb
  revert H h
  generalize runE P pr mm F (.call e.f e.args (addEB .e e.hs) e.nx) = r
  intro H h
  cases r with
  | bad => cases h
  | ok => cases h
  | ret v h' nx' =>
    simp only [Bool.and_eq_true] at h
    obtain ⟨h1, h2, h3, h4⟩ := h
    have e1 := eqV_ok h1
    have e2 := beqN h2
    subst e1 e2
    refine ⟨H.1, fun ρ w0 w vs hm hk hfit => (H.2 ρ w0 w vs hm hk hfit).mono fun ex w' ⟨u, ρ', k1, k2, k3, k4⟩ => ⟨u, ρ', k1, ?_, k3, ?_⟩⟩
    all_goals
      have hlt : ∀ x ∈ e.hs, x.t < Fit := fun x hx => Nat.lt_of_lt_of_le (b3 x hx).1 (Nat.le_trans b1 b2)
      have hlt' : ∀ x ∈ e.news, x.t < Fit := fun x hx => Nat.lt_of_lt_of_le (b4 x hx).2.1 b2
      have key : ∀ {t b}, (addEB (addEB .e e.hs) e.news).get t = some b → ∃ x : EB, x.t = t ∧ x.cb = b ∧ ((x ∈ e.news ∧ hasEB false h' x = true) ∨ (x ∈ e.hs ∧ hasEB true h' x = true ∧ (addEB .e e.hs).get t = some b)) := fun {t b} hb => by
        rcases addEB_get (addEB .e e.hs) hlt' hb with ⟨x, hx, hxt, hxc⟩ | ⟨_, q⟩
        · exact ⟨x, hxt, hxc, .inl ⟨hx, allB_iff.1 h4 x hx⟩⟩
        · obtain ⟨x, hx, hxt, hxc⟩ := (addEB_get .e hlt q).elim id fun h => by cases h.2
          exact ⟨x, hxt, hxc, .inr ⟨hx, allB_iff.1 h3 x hx, q⟩⟩
      have has : ∀ {t b}, (addEB (addEB .e e.hs) e.news).get t = some b → ∃ c, h'.get t = some c ∧ ∀ (s : Nat) (o : Obj), DB e.nx' ρ' s c o → DB e.nx' ρ' s b o := fun {t b} hb => by
        obtain ⟨x, rfl, rfl, q⟩ := key hb
        rcases q with ⟨_, q⟩ | ⟨_, q, _⟩
        · obtain ⟨c, q1, _, q2⟩ := hasEB_ok q; exact ⟨c, q1, q2 _ _⟩
        · obtain ⟨c, q1, _, q2⟩ := hasEB_ok q; exact ⟨c, q1, q2 _ _⟩
    · refine ⟨k2.le, k2.fit, k2.ext, fun t b hb hs => ?_, k2.old.fr, fun t b hb => ?_, k2.old.sz⟩
      · obtain ⟨x, rfl, rfl, q⟩ := key hb
        rw [stEB] at hs
        rcases q with ⟨q, _⟩ | ⟨q0, q, q3⟩
        · have := (b4 x q).2.2.1; omega
        · obtain ⟨c, q1, q2, _⟩ := hasEB_ok q
          exact ⟨q3, (k2.old.old x.t c q1 (by rw [q2 rfl]; exact hs)).2⟩
      · obtain ⟨c, q1, _⟩ := has hb
        exact k2.old.nw t c q1
    · refine ⟨k4.upd, fun t b hb => ?_, fun t t' b b' hb hb' he' => ?_, k4.imm, k4.nod, fun c hc => ⟨(k4.kept c hc).1, (k4.kept c hc).2.1, fun t b hb => ?_⟩⟩
      · obtain ⟨c, q1, q2⟩ := has hb
        obtain ⟨g1, g2, g3, o, g4, g5⟩ := k4.own t c q1
        refine ⟨g1, ?_, g3, o, g4, q2 _ _ g5⟩
        obtain ⟨x, rfl, rfl, q⟩ := key hb
        rw [stEB]
        rcases q with ⟨q, _⟩ | ⟨q, _⟩
        · exact (b4 x q).2.2.2
        · have := (b3 x q).2; omega
      · obtain ⟨c, q1, _⟩ := has hb
        obtain ⟨c', q1', _⟩ := has hb'
        exact k4.one t t' c c' q1 q1' he'
      · obtain ⟨c', q1, _⟩ := has hb
        exact (k4.kept c hc).2.2 t c' q1
theorem MemoOk.nil : MemoOk P Φ [] := fun e h => by cases h
theorem MemoOk.cons {e : Ent} {mm : List Ent} (h : EntOk P Φ e) (k : MemoOk P Φ mm) : MemoOk P Φ (e :: mm) := fun x hx => by
  rcases List.mem_cons.1 hx with rfl | hx
  · exact h
  · exact k x hx
/-- A CLOSED CALL THAT IS CALCULATED TO ANSWER TRUE, by calls that were run before. -/
theorem does_trueM {f : Nat} (pr : Prims) (hpr : PrimOk P Φ pr) {mm : List Ent} (hmm : MemoOk P Φ mm) (F : Nat) (h : isTrue (runM P pr mm F (.call f .nil .e 0)) = true) (G : Imm) (hG : Φ G) : Does P f [] G [] (fun v G' Ho => v = .bool true ∧ G' = G ∧ Ho = []) :=
  true_does (runM_tru hpr hmm F _) h G hG
end
end Go.Sl.Ev
namespace Go.Proofs.YteopmbmglienmaaGreatDoor
open Go Go.Sl Go.Sl.Ev
set_option linter.unusedVariables false
set_option maxRecDepth 1000000
noncomputable def tzF (l : CV) : Option CV := match l with
  | .cons (.int .u64 c) .nil => bif ieq (powC c) 0 then none else some (.int .i64 (powC c))
  | _ => none
noncomputable def tzP : Prims := [(194, tzF)]
theorem tz_ok : PrimOk Tryz.prog TabOk tzP := by
  intro f g h
  have h' : (bif Nat.beq 194 f then some tzF else none) = some g := h
  rcases bif_cases h' with ⟨h1, h2⟩ | ⟨_, h2⟩
  · have := Nat.eq_of_beq_eq_true h1
    subst this
    cases h2
    refine ⟨T.fn194, fun args v hv G hG nx ρ vs hk => ?_⟩
    unfold tzF at hv
    split at hv
    · rename_i c
      rcases bif_cases hv with ⟨_, h2⟩ | ⟨h1, h2⟩
      · cases h2
      · cases h2
        rw [ieq_eq, decide_eq_false_iff_not] at h1
        obtain ⟨u, r, rfl, k1, k2⟩ := DL.cons.1 hk.2
        have e1 := DV.int.1 k1
        have e2 := DL.nil.1 k2
        subst e1 e2
        exact ⟨_, kn_int, c194 G hG c h1⟩
    · cases hv
  · cases h2
end Go.Proofs.YteopmbmglienmaaGreatDoor
