/- Parts of the proof (part 2): what the rows' text needs of the texts that lead to it. -/
import Derived.Test.YtbppmiimeccclaaGreatDoorMDa
set_option linter.unusedVariables false
set_option linter.unusedSimpArgs false
set_option linter.unusedSectionVars false
set_option linter.unusedVariables false
namespace Go.Sl
open Go
def AllFa (P : Program) : List (Nat × Nat × Nat) → Prop
  | [] => True
  | x :: l => FieldAt P x.1 x.2.1 x.2.2 ∧ AllFa P l
def AllSl (P : Program) : List Nat → Prop
  | [] => True
  | x :: l => (∃ E sz, isSlice P x E sz) ∧ AllSl P l
def AllOne (P : Program) : List Nat → Prop
  | [] => True
  | x :: l => oneB P x = true ∧ AllOne P l
def AllAgg (P : Program) : List (Nat × Nat) → Prop
  | [] => True
  | x :: l => (aggB P x.1 x.2 = true ∧ (P.info? x.1).map (·.size) = some x.2) ∧ AllAgg P l
def AllFn (P : Program) : List Nat → Prop
  | [] => True
  | x :: l => isFn P x ∧ AllFn P l
class Tab (P : Program) where
  fn : List Nat
  fnP : AllFn P fn
  one : List Nat
  agg : List (Nat × Nat)
  sl : List Nat
  fa : List (Nat × Nat × Nat)
  oneP : AllOne P one
  aggP : AllAgg P agg
  slP : AllSl P sl
  faP : AllFa P fa
def memN : List Nat → Nat → Bool
  | [], _ => false
  | x :: l, t => bif Nat.beq x t then true else memN l t
def lookN : List (Nat × Nat) → Nat → Option Nat
  | [], _ => none
  | (x, y) :: l, t => bif Nat.beq x t then some y else lookN l t
def lookF : List (Nat × Nat × Nat) → Nat → Nat → Option Nat
  | [], _, _ => none
  | (x, y, z) :: l, s, f => bif Nat.beq x s && Nat.beq y f then some z else lookF l s f
theorem bif_cases {α : Type} {b : Bool} {x y z : α} (h : (bif b then x else y) = z) : (b = true ∧ x = z) ∨ (b = false ∧ y = z) := by cases b <;> simp_all
theorem memN_one {P : Program} : ∀ {l : List Nat} {t : Nat}, AllOne P l → memN l t = true → oneB P t = true
  | [], t, _, h => by cases h
  | x :: l, t, ha, h => by
    rcases bif_cases h with ⟨h1, _⟩ | ⟨_, h2⟩
    · have := Nat.eq_of_beq_eq_true h1; subst this; exact ha.1
    · exact memN_one ha.2 h2
theorem memN_fn {P : Program} : ∀ {l : List Nat} {t : Nat}, AllFn P l → memN l t = true → isFn P t
  | [], t, _, h => by cases h
  | x :: l, t, ha, h => by
    rcases bif_cases h with ⟨h1, _⟩ | ⟨_, h2⟩
    · have := Nat.eq_of_beq_eq_true h1; subst this; exact ha.1
    · exact memN_fn ha.2 h2
theorem memN_sl {P : Program} : ∀ {l : List Nat} {t : Nat}, AllSl P l → memN l t = true → ∃ E sz, isSlice P t E sz
  | [], t, _, h => by cases h
  | x :: l, t, ha, h => by
    rcases bif_cases h with ⟨h1, _⟩ | ⟨_, h2⟩
    · have := Nat.eq_of_beq_eq_true h1; subst this; exact ha.1
    · exact memN_sl ha.2 h2
theorem lookN_agg {P : Program} : ∀ {l : List (Nat × Nat)} {t k : Nat}, AllAgg P l → lookN l t = some k → aggB P t k = true ∧ (P.info? t).map (·.size) = some k
  | [], t, k, _, h => by cases h
  | (x, y) :: l, t, k, ha, h => by
    rcases bif_cases h with ⟨h1, h2⟩ | ⟨_, h2⟩
    · have := Nat.eq_of_beq_eq_true h1; subst this; cases h2; exact ha.1
    · exact lookN_agg ha.2 h2
theorem lookF_fa {P : Program} : ∀ {l : List (Nat × Nat × Nat)} {s f k : Nat}, AllFa P l → lookF l s f = some k → FieldAt P s f k
  | [], s, f, k, _, h => by cases h
  | (x, y, z) :: l, s, f, k, ha, h => by
    rcases bif_cases h with ⟨h1, h2⟩ | ⟨_, h2⟩
    · simp only [Bool.and_eq_true] at h1
      have h3 := Nat.eq_of_beq_eq_true h1.1
      have h4 := Nat.eq_of_beq_eq_true h1.2
      subst h3; subst h4; cases h2; exact ha.1
    · exact lookF_fa ha.2 h2
def ikB : IntKind → IntKind → Bool
  | .i8, .i8 | .i16, .i16 | .i32, .i32 | .i64, .i64 | .u8, .u8 | .u16, .u16 | .u32, .u32 | .u64, .u64 => true
  | _, _ => false
theorem ikB_eq {a b : IntKind} (h : ikB a b = true) : a = b := by cases a <;> cases b <;> first | rfl | cases h
def nth {α : Type} : List α → Nat → Option α
  | [], _ => none
  | x :: l, n => bif Nat.beq n 0 then some x else nth l (Nat.pred n)
theorem nth_eq {α : Type} : ∀ (l : List α) (n : Nat), nth l n = l[n]?
  | [], n => by simp [nth]
  | x :: l, n => by
    unfold nth
    cases n with
    | zero => rfl
    | succ n => simp only [Nat.beq, cond_false, Nat.pred_succ, nth_eq l n, List.getElem?_cons_succ]
/-- what is known of a value: a value, the hints that are left, what must be shown -/
abbrev Rz := Value × List Nat × Prop
inductive IOp | eql | neq | lss | leq | gtr | geq | add | sub
def iop : BinOp → Option IOp
  | .eql => some .eql | .neq => some .neq | .lss => some .lss | .leq => some .leq | .gtr => some .gtr | .geq => some .geq | .add => some .add | .sub => some .sub
  | _ => none
def iev (o : IOp) (k : IntKind) (m n : Int) (hs : List Nat) : Option Rz :=
  match o with
  | .eql => some (.bool (decide (m = n)), hs, True)
  | .neq => some (.bool (decide (m ≠ n)), hs, True)
  | .lss => some (.bool (decide (m < n)), hs, True)
  | .leq => some (.bool (decide (m ≤ n)), hs, True)
  | .gtr => some (.bool (decide (n < m)), hs, True)
  | .geq => some (.bool (decide (n ≤ m)), hs, True)
  | .add => bif ikB k .i64 then some (.int .i64 (m + n), hs, -9223372036854775808 ≤ m + n ∧ m + n ≤ 9223372036854775807) else none
  | .sub => bif ikB k .i64 then some (.int .i64 (m - n), hs, -9223372036854775808 ≤ m - n ∧ m - n ≤ 9223372036854775807) else none
def qev (P : Program) [Tab P] (e : Env) (H : Hp) (hs : List Nat) : Op → Option Rz
  | .move x => match e.ev x with | some v => some (v, hs, True) | none => none
  | .assign x => match e.ev x with | some v => some (v, hs, True) | none => none
  | .pick c x y => match e.ev c with
    | some (.bool b) => match e.ev (bif b then x else y) with | some v => some (v, hs, True) | none => none
    | _ => none
  | .unOp .not _ x => match e.ev x with | some (.bool b) => some (.bool (!b), hs, True) | _ => none
  | .binOp o _ x y _ => match iop o with
    | some o => match e.ev x with
      | some (.int k m) => match e.ev y with
        | some (.int k' n) => bif ikB k k' then iev o k m n hs else none
        | _ => none
      | _ => none
    | none => none
  | .extract x i => match e.ev x with
    | some (.tuple ⟨vs⟩) => match nth vs i with | some v => some (v, hs, True) | none => none
    | _ => none
  | .nilCheck x => match e.ev x with
    | some (.pointer (some ad)) => some (.pointer (some ad), hs, True)
    | _ => none
  | .fieldAddr s x f => match lookF (Tab.fa P) s f with
    | some k => match e.ev x with
      | some (.pointer (some ⟨b, o, none⟩)) => some (.pointer (some ⟨b, o + k, none⟩), hs, True)
      | _ => none
    | none => none
  | .load T x => match hs with
    | t :: hs => match e.ev x with
      | some (.pointer (some ⟨b, off, none⟩)) => match H.get t with
        | some (some b', .cells ⟨cs⟩ _ _) => match memN (Tab.one P) T with
          | true => match nth cs off with | some v => some (v, hs, b = b') | none => none
          | false => match lookN (Tab.agg P) T with
            | some k => bif Nat.beq off 0 && Nat.beq cs.length k then some (.agg cs.toArray, hs, b = b') else none
            | none => none
        | _ => none
      | _ => none
    | [] => none
  | .call ⟨.builtin .len, ⟨[x]⟩, ⟨[T]⟩⟩ => match memN (Tab.sl P) T with
    | true => match e.ev x with | some (.slice _ n _) => some (.int .i64 n, hs, True) | _ => none
    | false => none
  | _ => none
theorem iev_ok {P : Program} {e : Env} {H : Hp} {G : Imm} {ty t t' : TypeId} {hs hs' : List Nat} {bo : BinOp} {o : IOp} {x y : Operand} {k : IntKind} {m n : Int} {v : Value} {ob : Prop} (ho : iop bo = some o) (hx : e.ev x = some (.int k m)) (hy : e.ev y = some (.int k n))
    (h : iev o k m n hs = some (v, hs', ob)) (hob : ob) : Qy P (.binOp bo t x y t') ty e H G v := by
  cases bo <;> first | (cases ho; done) | skip
  all_goals
    cases ho
    unfold iev at h
    first
      | (cases h; first | exact Qy.eql hx hy | exact Qy.neq hx hy | exact Qy.lss hx hy | exact Qy.leq hx hy | exact Qy.gtr hx hy | exact Qy.geq hx hy)
      | (rcases bif_cases h with ⟨hk, h⟩ | ⟨_, h⟩
         · have := ikB_eq hk
           subst this
           cases h
           first | exact Qy.add hx hy hob | exact Qy.sub hx hy hob
         · cases h)
theorem qev_ok {P : Program} [T : Tab P] {e : Env} {H : Hp} {G : Imm} {ty : TypeId} {hs hs' : List Nat} {o : Op} {v : Value} {ob : Prop} (h : qev P e H hs o = some (v, hs', ob)) (hob : ob) : Qy P o ty e H G v := by
  unfold qev at h
  split at h
  · split at h
    · rename_i hx; cases h; exact Qy.move hx
    · cases h
  · split at h
    · rename_i hx; cases h; exact Qy.assign hx
    · cases h
  · split at h
    · rename_i hc
      split at h
      · rename_i hv; cases h; exact Qy.pick hc hv
      · cases h
    · cases h
  · split at h
    · rename_i hx; cases h; exact Qy.not hx
    · cases h
  · split at h
    · rename_i o' ho
      split at h
      · rename_i k m hx
        split at h
        · rename_i k' n hy
          rcases bif_cases h with ⟨hk, h9⟩ | ⟨_, h9⟩
          · have h8 := ikB_eq hk
            subst h8
            exact iev_ok ho hx hy h9 hob
          · cases h9
        · cases h
      · cases h
    · cases h
  · split at h
    · rename_i hx
      split at h
      · rename_i hv; cases h; rw [nth_eq] at hv; exact Qy.extract hx hv
      · cases h
    · cases h
  · split at h
    · rename_i hx; cases h; exact Qy.nilCheck hx
    · cases h
  · split at h
    · rename_i k hk
      split at h
      · rename_i hx; cases h; exact Qy.fieldAddr (lookF_fa T.faP hk) hx
      · cases h
    · cases h
  · split at h
    · split at h
      · rename_i hx
        split at h
        · rename_i hH
          split at h
          · rename_i h1
            split at h
            · rename_i hv
              cases h
              subst hob
              rw [nth_eq] at hv
              exact Qy.load _ (memN_one T.oneP h1) hx hH hv
            · cases h
          · split at h
            · rename_i k hk
              rcases bif_cases h with ⟨hc, h⟩ | ⟨_, h⟩
              · cases h
                subst hob
                simp only [Bool.and_eq_true] at hc
                have h0 := Nat.eq_of_beq_eq_true hc.1
                subst h0
                exact Qy.loadAll _ (lookN_agg T.aggP hk).1 hx hH (Nat.eq_of_beq_eq_true hc.2)
              · cases h
            · cases h
        · cases h
      · cases h
    · cases h
  · split at h
    · rename_i h1
      split at h
      · rename_i hx
        cases h
        obtain ⟨E, sz, hT⟩ := memN_sl T.slP h1
        exact Qy.len hT hx
      · cases h
    · cases h
  · cases h
inductive Fr where
  | seq (y : Code)
  | thn (K : Act → World → Prop)
  | blk (id : Nat)
def den (P : Program) (r : Option Nat) (Q0 : Exit → Act → World → Prop) : List Fr → Exit → Act → World → Prop
  | [] => Q0
  | .seq y :: k => Exit.then (y.wpIn (FF r) 0 P (den P r Q0 k)) (den P r Q0 k)
  | .thn K :: k => Exit.then K (den P r Q0 k)
  | .blk id :: k => Exit.inBlock id (den P r Q0 k)
def Reify (P : Program) (r : Option Nat) (Q : Exit → Act → World → Prop) (k : List Fr) (Q0 : Exit → Act → World → Prop) : Prop := Q = den P r Q0 k
theorem Reify.seq {P : Program} {r : Option Nat} {Q Q0 : Exit → Act → World → Prop} {k : List Fr} {y : Code} (h : Reify P r Q k Q0) : Reify P r (Exit.then (y.wpIn (FF r) 0 P Q) Q) (.seq y :: k) Q0 := by
  unfold Reify at *; subst h; rfl
theorem Reify.thn {P : Program} {r : Option Nat} {Q Q0 : Exit → Act → World → Prop} {k : List Fr} {K : Act → World → Prop} (h : Reify P r Q k Q0) : Reify P r (Exit.then K Q) (.thn K :: k) Q0 := by
  unfold Reify at *; subst h; rfl
theorem Reify.blk {P : Program} {r : Option Nat} {Q Q0 : Exit → Act → World → Prop} {k : List Fr} {id : Nat} (h : Reify P r Q k Q0) : Reify P r (Exit.inBlock id Q) (.blk id :: k) Q0 := by
  unfold Reify at *; subst h; rfl
theorem Reify.dnil {P : Program} {r r' : Option Nat} {Q0 Q1 : Exit → Act → World → Prop} {k : List Fr} (h : Reify P r Q0 k Q1) : Reify P r (den P r' Q0 []) k Q1 := h
theorem Reify.dseq {P : Program} {r : Option Nat} {Q0 Q1 : Exit → Act → World → Prop} {k k' : List Fr} {y : Code} (h : Reify P r (den P r Q0 k) k' Q1) : Reify P r (den P r Q0 (.seq y :: k)) (.seq y :: k') Q1 := Reify.seq h
theorem Reify.dthn {P : Program} {r : Option Nat} {Q0 Q1 : Exit → Act → World → Prop} {k k' : List Fr} {K : Act → World → Prop} (h : Reify P r (den P r Q0 k) k' Q1) : Reify P r (den P r Q0 (.thn K :: k)) (.thn K :: k') Q1 := Reify.thn h
theorem Reify.dblk {P : Program} {r : Option Nat} {Q0 Q1 : Exit → Act → World → Prop} {k k' : List Fr} {id : Nat} (h : Reify P r (den P r Q0 k) k' Q1) : Reify P r (den P r Q0 (.blk id :: k)) (.blk id :: k') Q1 := Reify.blk h
theorem Reify.none {P : Program} {Q : Exit → Act → World → Prop} : Reify P .none Q [] Q := rfl
theorem Reify.any {P : Program} {r : Option Nat} {Q : Exit → Act → World → Prop} : Reify P r Q [] Q := rfl
inductive Fo where
  | c (c : Code)
  | l (ops : Array Oper) (l : List Oper)
  | a (x : Exit)
def dstN : List Oper → Nat → Option Nat
  | [], _ => none
  | x :: l, n => bif Nat.beq n 0 then x.dst else dstN l (Nat.pred n)
theorem dstN_eq : ∀ (l : List Oper) (n : Nat), dstN l n = (l[n]?).bind (·.dst)
  | [], n => by simp [dstN]
  | x :: l, n => by
    unfold dstN
    cases n with
    | zero => rfl
    | succ n => simp only [Nat.beq, cond_false, Nat.pred_succ, dstN_eq l n, List.getElem?_cons_succ]
abbrev Cf := Fo × List Fr × Env × Hp × List Nat
def opStp (P : Program) [Tab P] (n : Nat) (ops : Array Oper) (k : List Fr) (e : Env) (H : Hp) (hs : List Nat) (rest : List Oper) : Oper → Option (Cf × Prop)
  | ⟨some d, o, _, _, _, none⟩ => match Nat.ble (d + 1) n with
    | true => match qev P e H hs o with
      | some (v, hs, ob) => some ((.l ops rest, k, (d, v) :: e, H, hs), ob)
      | none => none
    | false => none
  | ⟨none, .store T x y, _, _, _, none⟩ => match hs with
    | t :: hs => match e.ev x with
      | some (.pointer (some ⟨b, off, none⟩)) => match H.get t with
        | some (some b', .cells ⟨cs⟩ bt (0, 0)) => match e.ev y with
          | some v => match memN (Tab.one P) T with
            | true => bif v.oneCell' && Nat.ble (off + 1) cs.length then some ((.l ops rest, k, e, (t, some b', .cells (cs.set off v).toArray bt (0, 0)) :: H, hs), b = b') else none
            | false => match lookN (Tab.agg P) T with
              | some m => match v with
                | .agg ⟨vs⟩ => bif Nat.beq off 0 && (Nat.beq vs.length m && (Nat.beq vs.length cs.length && vs.all (·.oneCell'))) then some ((.l ops rest, k, e, (t, some b', .cells vs.toArray bt (0, 0)) :: H, hs), b = b') else none
                | _ => none
              | none => none
          | none => none
        | _ => none
      | _ => none
    | [] => none
  | ⟨dst, o, ty, pos, after, some (j, w)⟩ => match dstN ops.toList j with
    | some t => match e.get t with
      | some (.bool b) => bif (match b, w with | true, true => true | false, false => true | _, _ => false) then some ((.l ops (⟨dst, o, ty, pos, after, none⟩ :: rest), k, e, H, hs), True)
        else match dst with
          | some d => bif Nat.ble (d + 1) n then some ((.l ops rest, k, (d, undef) :: e, H, hs), True) else none
          | none => none
      | _ => none
    | none => none
  | _ => none
def stq (P : Program) [Tab P] (n : Nat) : Fo → List Fr → Env → Hp → List Nat → Option (Cf × Prop)
  | .c (.seq x y), k, e, H, hs => some ((.c x, .seq y :: k, e, H, hs), True)
  | .c .skip, k, e, H, hs => some ((.a .normal, k, e, H, hs), True)
  | .c (.label _), k, e, H, hs => some ((.a .normal, k, e, H, hs), True)
  | .c (.exit id), k, e, H, hs => some ((.a (.exit id), k, e, H, hs), True)
  | .c .ret, k, e, H, hs => some ((.a .ret, k, e, H, hs), True)
  | .c (.block id c), k, e, H, hs => some ((.c c, .blk id :: k, e, H, hs), True)
  | .c (.region _ ⟨l⟩ false), k, e, H, hs => bif l.all notDefer then some ((.l l.toArray l, k, e, H, hs), True) else none
  | .c (.cond c x y), k, e, H, h :: hs => match e.ev c with
    | some (.bool b) => bif Nat.beq h 1 then some ((.c x, k, e, H, hs), b = true) else some ((.c y, k, e, H, hs), b = false)
    | _ => none
  | .a .normal, .seq y :: k, e, H, hs => some ((.c y, k, e, H, hs), True)
  | .a .normal, .blk _ :: k, e, H, hs => some ((.a .normal, k, e, H, hs), True)
  | .a (.exit id), .blk j :: k, e, H, hs => bif Nat.beq id j then some ((.a .normal, k, e, H, hs), True) else some ((.a (.exit id), k, e, H, hs), True)
  | .a (.exit id), _ :: k, e, H, hs => some ((.a (.exit id), k, e, H, hs), True)
  | .a .ret, _ :: k, e, H, hs => some ((.a .ret, k, e, H, hs), True)
  | .l _ [], k, e, H, hs => some ((.a .normal, k, e, H, hs), True)
  | .l ops (o :: rest), k, e, H, hs => opStp P n ops k e H hs rest o
  | _, _, _, _, _ => none
def run (P : Program) [Tab P] (n : Nat) : Nat → Fo → List Fr → Env → Hp → List Nat → Option (Cf × Prop)
  | 0, f, k, e, H, hs => some ((f, k, e, H, hs), True)
  | m + 1, f, k, e, H, hs => match stq P n f k e H hs with
    | some ((f, k, e, H, hs), ob) => match run P n m f k e H hs with
      | some (c, obs) => some (c, ob ∧ obs)
      | none => none
    | none => none
section
variable {P : Program} {r : Option Nat} {B : Bs} {D : List Deferred} {G : Imm} {Q0 : Exit → Act → World → Prop}
def Cf.goal (P : Program) (r : Option Nat) (B : Bs) (D : List Deferred) (G : Imm) (Q0 : Exit → Act → World → Prop) : Cf → Prop
  | (.c c, k, e, H, _) => Wc r P c B ⟨e, D, H, G⟩ (den P r Q0 k)
  | (.l ops l, k, e, H, _) => Wl P ops l B ⟨e, D, H, G⟩ (den P r Q0 k .normal)
  | (.a x, k, e, H, _) => Ar (den P r Q0 k) x B ⟨e, D, H, G⟩
theorem opStp_ok [T : Tab P] {ops : Array Oper} {k : List Fr} {e : Env} {H : Hp} {hs : List Nat} {rest : List Oper} {o : Oper} {c : Cf} {ob : Prop} (h : opStp P B.n ops k e H hs rest o = some (c, ob)) (hob : ob) (hg : Cf.goal P r B D G Q0 c) :
    Cf.goal P r B D G Q0 (.l ops (o :: rest), k, e, H, hs) := by
  unfold opStp at h
  split at h
  · split at h
    · rename_i hn
      split at h
      · rename_i hq; cases h; exact Wl.q hn (qev_ok hq hob) hg
      · cases h
    · cases h
  · split at h
    · split at h
      · rename_i hx
        split at h
        · rename_i hH
          split at h
          · rename_i v hy
            split at h
            · rename_i h1
              rcases bif_cases h with ⟨hc, h⟩ | ⟨_, h⟩
              · cases h
                subst hob
                simp only [Bool.and_eq_true] at hc
                exact Wl.store _ (memN_one T.oneP h1) hx hy hc.1 hH hc.2 hg
              · cases h
            · split at h
              · rename_i m hm
                split at h
                · rename_i vs
                  rcases bif_cases h with ⟨hc, h⟩ | ⟨_, h⟩
                  · cases h
                    subst hob
                    simp only [Bool.and_eq_true] at hc
                    have h0 := Nat.eq_of_beq_eq_true hc.1
                    subst h0
                    exact Wl.storeAll _ (lookN_agg T.aggP hm).2 hx hy (Nat.eq_of_beq_eq_true hc.2.1) hc.2.2.2 hH hc.2.2.1 hg
                  · cases h
                · cases h
              · cases h
          · cases h
        · cases h
      · cases h
    · cases h
  · split at h
    · rename_i t ht
      rw [dstN_eq] at ht
      split at h
      · rename_i b hb
        rcases bif_cases h with ⟨hw, h⟩ | ⟨hw, h⟩
        · cases h
          refine Wl.want (t := t) (by simpa using ht) (hb.trans ?_) hg
          split at hw <;> first | rfl | cases hw
        · split at h
          · rcases bif_cases h with ⟨hn, h⟩ | ⟨_, h⟩
            · cases h
              refine Wl.pass (t := t) (by simpa using ht) (hb.trans ?_) hn hg
              rename_i w _ _ _ _ _
              cases b <;> cases w <;> first | rfl | cases hw
            · cases h
          · cases h
      · cases h
    · cases h
  · cases h
theorem stq_ok [T : Tab P] {f : Fo} {k : List Fr} {e : Env} {H : Hp} {hs : List Nat} {c : Cf} {ob : Prop} (h : stq P B.n f k e H hs = some (c, ob)) (hob : ob) (hg : Cf.goal P r B D G Q0 c) :
    Cf.goal P r B D G Q0 (f, k, e, H, hs) := by
  unfold stq at h
  split at h
  · cases h; exact Wc.seq hg
  · cases h; exact Wc.skip hg
  · cases h; exact Wc.label hg
  · cases h; exact Wc.exit hg
  · cases h; exact Wc.ret hg
  · cases h; exact Wc.block hg
  · rcases bif_cases h with ⟨hd, h⟩ | ⟨_, h⟩
    · cases h; exact Wc.region hd hg
    · cases h
  · split at h
    · rename_i b hb
      rcases bif_cases h with ⟨_, h⟩ | ⟨_, h⟩
      · cases h; subst hob; exact Wc.condT hb hg
      · cases h; subst hob; exact Wc.condF hb hg
    · cases h
  · cases h; exact Ar.next hg
  · cases h; exact Ar.outNormal hg
  · rcases bif_cases h with ⟨hd, h9⟩ | ⟨hd, h9⟩
    · have h8 := Nat.eq_of_beq_eq_true hd
      subst h8
      cases h9; exact Ar.here hg
    · cases h9; exact Ar.outExit hd hg
  · rename_i id fr k hne
    cases h
    cases fr with
    | seq y => exact Ar.passExit hg
    | thn K => exact Ar.passExit hg
    | blk j => exact (hne j rfl).elim
  · rename_i fr k
    cases h
    cases fr with
    | seq y => exact Ar.passRet hg
    | thn K => exact Ar.passRet hg
    | blk j => exact Ar.outRet hg
  · cases h; exact Wl.done hg
  · exact opStp_ok h hob hg
  · cases h
theorem run_ok [T : Tab P] : ∀ {m : Nat} {f : Fo} {k : List Fr} {e : Env} {H : Hp} {hs : List Nat} {c : Cf} {ob : Prop}, run P B.n m f k e H hs = some (c, ob) → ob → Cf.goal P r B D G Q0 c → Cf.goal P r B D G Q0 (f, k, e, H, hs)
  | 0, f, k, e, H, hs, c, ob, h, hob, hg => by cases h; exact hg
  | m + 1, f, k, e, H, hs, c, ob, h, hob, hg => by
    unfold run at h
    split at h
    · rename_i h1
      split at h
      · rename_i h2
        cases h
        exact stq_ok h1 hob.1 (run_ok h2 hob.2 hg)
      · cases h
    · cases h
end
section
variable {P : Program} [Tab P] {r : Option Nat} {B : Bs} {D : List Deferred} {G : Imm} {Q Q0 : Exit → Act → World → Prop} {k k' : List Fr} {e e' : Env} {H H' : Hp} {hs' : List Nat} {ob : Prop} {c c' : Code} {l l' : List Oper} {ops ops' : Array Oper} {x x' : Exit}
theorem Wc.gc (n : Nat) (hs : List Nat) (hg : Wc r P c' B ⟨e', D, H', G⟩ (den P r Q0 k')) (hr : Reify P r Q k Q0 := by (repeat with_reducible (first | apply Reify.dnil | apply Reify.dseq | apply Reify.dblk | apply Reify.dthn | apply Reify.seq | apply Reify.blk | apply Reify.thn)); first | exact Reify.none | exact Reify.any) (h : run P B.n n (.c c) k e H hs = some ((.c c', k', e', H', hs'), ob) := by exact rfl) (hob : ob := by (repeat refine And.intro (by first | exact trivial | with_reducible rfl | assumption | exact decide_eq_true (by first | assumption | omega) | exact decide_eq_false (by first | assumption | omega) | omega | rfl) ?_); exact trivial) : Wc r P c B ⟨e, D, H, G⟩ Q := by
  unfold Reify at hr; subst hr
  exact run_ok h hob hg
theorem Wc.gl (n : Nat) (hs : List Nat) (hg : Wl P ops' l' B ⟨e', D, H', G⟩ (den P r Q0 k' .normal)) (hr : Reify P r Q k Q0 := by (repeat with_reducible (first | apply Reify.dnil | apply Reify.dseq | apply Reify.dblk | apply Reify.dthn | apply Reify.seq | apply Reify.blk | apply Reify.thn)); first | exact Reify.none | exact Reify.any) (h : run P B.n n (.c c) k e H hs = some ((.l ops' l', k', e', H', hs'), ob) := by exact rfl) (hob : ob := by (repeat refine And.intro (by first | exact trivial | with_reducible rfl | assumption | exact decide_eq_true (by first | assumption | omega) | exact decide_eq_false (by first | assumption | omega) | omega | rfl) ?_); exact trivial) : Wc r P c B ⟨e, D, H, G⟩ Q := by
  unfold Reify at hr; subst hr
  exact run_ok h hob hg
theorem Wc.ga (n : Nat) (hs : List Nat) (hg : Ar (den P r Q0 k') x' B ⟨e', D, H', G⟩) (hr : Reify P r Q k Q0 := by (repeat with_reducible (first | apply Reify.dnil | apply Reify.dseq | apply Reify.dblk | apply Reify.dthn | apply Reify.seq | apply Reify.blk | apply Reify.thn)); first | exact Reify.none | exact Reify.any) (h : run P B.n n (.c c) k e H hs = some ((.a x', k', e', H', hs'), ob) := by exact rfl) (hob : ob := by (repeat refine And.intro (by first | exact trivial | with_reducible rfl | assumption | exact decide_eq_true (by first | assumption | omega) | exact decide_eq_false (by first | assumption | omega) | omega | rfl) ?_); exact trivial) : Wc r P c B ⟨e, D, H, G⟩ Q := by
  unfold Reify at hr; subst hr
  exact run_ok h hob hg
theorem Wl.gc (n : Nat) (hs : List Nat) (hg : Wc r P c' B ⟨e', D, H', G⟩ (den P r Q0 k')) (hr : Reify P r Q k Q0 := by (repeat with_reducible (first | apply Reify.dnil | apply Reify.dseq | apply Reify.dblk | apply Reify.dthn | apply Reify.seq | apply Reify.blk | apply Reify.thn)); first | exact Reify.none | exact Reify.any) (h : run P B.n n (.l ops l) k e H hs = some ((.c c', k', e', H', hs'), ob) := by exact rfl) (hob : ob := by (repeat refine And.intro (by first | exact trivial | with_reducible rfl | assumption | exact decide_eq_true (by first | assumption | omega) | exact decide_eq_false (by first | assumption | omega) | omega | rfl) ?_); exact trivial) : Wl P ops l B ⟨e, D, H, G⟩ (Q .normal) := by
  unfold Reify at hr; subst hr
  exact run_ok h hob hg
theorem Wl.gl (n : Nat) (hs : List Nat) (hg : Wl P ops' l' B ⟨e', D, H', G⟩ (den P r Q0 k' .normal)) (hr : Reify P r Q k Q0 := by (repeat with_reducible (first | apply Reify.dnil | apply Reify.dseq | apply Reify.dblk | apply Reify.dthn | apply Reify.seq | apply Reify.blk | apply Reify.thn)); first | exact Reify.none | exact Reify.any) (h : run P B.n n (.l ops l) k e H hs = some ((.l ops' l', k', e', H', hs'), ob) := by exact rfl) (hob : ob := by (repeat refine And.intro (by first | exact trivial | with_reducible rfl | assumption | exact decide_eq_true (by first | assumption | omega) | exact decide_eq_false (by first | assumption | omega) | omega | rfl) ?_); exact trivial) : Wl P ops l B ⟨e, D, H, G⟩ (Q .normal) := by
  unfold Reify at hr; subst hr
  exact run_ok h hob hg
theorem Wl.ga (n : Nat) (hs : List Nat) (hg : Ar (den P r Q0 k') x' B ⟨e', D, H', G⟩) (hr : Reify P r Q k Q0 := by (repeat with_reducible (first | apply Reify.dnil | apply Reify.dseq | apply Reify.dblk | apply Reify.dthn | apply Reify.seq | apply Reify.blk | apply Reify.thn)); first | exact Reify.none | exact Reify.any) (h : run P B.n n (.l ops l) k e H hs = some ((.a x', k', e', H', hs'), ob) := by exact rfl) (hob : ob := by (repeat refine And.intro (by first | exact trivial | with_reducible rfl | assumption | exact decide_eq_true (by first | assumption | omega) | exact decide_eq_false (by first | assumption | omega) | omega | rfl) ?_); exact trivial) : Wl P ops l B ⟨e, D, H, G⟩ (Q .normal) := by
  unfold Reify at hr; subst hr
  exact run_ok h hob hg
theorem Ar.gc (n : Nat) (hs : List Nat) (hg : Wc r P c' B ⟨e', D, H', G⟩ (den P r Q0 k')) (hr : Reify P r Q k Q0 := by (repeat with_reducible (first | apply Reify.dnil | apply Reify.dseq | apply Reify.dblk | apply Reify.dthn | apply Reify.seq | apply Reify.blk | apply Reify.thn)); first | exact Reify.none | exact Reify.any) (h : run P B.n n (.a x) k e H hs = some ((.c c', k', e', H', hs'), ob) := by exact rfl) (hob : ob := by (repeat refine And.intro (by first | exact trivial | with_reducible rfl | assumption | exact decide_eq_true (by first | assumption | omega) | exact decide_eq_false (by first | assumption | omega) | omega | rfl) ?_); exact trivial) : Ar Q x B ⟨e, D, H, G⟩ := by
  unfold Reify at hr; subst hr
  exact run_ok h hob hg
theorem Ar.gl (n : Nat) (hs : List Nat) (hg : Wl P ops' l' B ⟨e', D, H', G⟩ (den P r Q0 k' .normal)) (hr : Reify P r Q k Q0 := by (repeat with_reducible (first | apply Reify.dnil | apply Reify.dseq | apply Reify.dblk | apply Reify.dthn | apply Reify.seq | apply Reify.blk | apply Reify.thn)); first | exact Reify.none | exact Reify.any) (h : run P B.n n (.a x) k e H hs = some ((.l ops' l', k', e', H', hs'), ob) := by exact rfl) (hob : ob := by (repeat refine And.intro (by first | exact trivial | with_reducible rfl | assumption | exact decide_eq_true (by first | assumption | omega) | exact decide_eq_false (by first | assumption | omega) | omega | rfl) ?_); exact trivial) : Ar Q x B ⟨e, D, H, G⟩ := by
  unfold Reify at hr; subst hr
  exact run_ok h hob hg
theorem Ar.ga (n : Nat) (hs : List Nat) (hg : Ar (den P r Q0 k') x' B ⟨e', D, H', G⟩) (hr : Reify P r Q k Q0 := by (repeat with_reducible (first | apply Reify.dnil | apply Reify.dseq | apply Reify.dblk | apply Reify.dthn | apply Reify.seq | apply Reify.blk | apply Reify.thn)); first | exact Reify.none | exact Reify.any) (h : run P B.n n (.a x) k e H hs = some ((.a x', k', e', H', hs'), ob) := by exact rfl) (hob : ob := by (repeat refine And.intro (by first | exact trivial | with_reducible rfl | assumption | exact decide_eq_true (by first | assumption | omega) | exact decide_eq_false (by first | assumption | omega) | omega | rfl) ?_); exact trivial) : Ar Q x B ⟨e, D, H, G⟩ := by
  unfold Reify at hr; subst hr
  exact run_ok h hob hg
theorem Wl.ll0 {K : Act → World → Prop} (n : Nat) (hs : List Nat) (hg : Wl P ops' l' B ⟨e', D, H', G⟩ K) (h : run P B.n n (.l ops l) [] e H hs = some ((.l ops' l', [], e', H', hs'), ob) := by exact rfl) (hob : ob := by (repeat refine And.intro (by first | exact trivial | with_reducible rfl | assumption | exact decide_eq_true (by first | assumption | omega) | exact decide_eq_false (by first | assumption | omega) | omega | rfl) ?_); exact trivial) : Wl P ops l B ⟨e, D, H, G⟩ K :=
  run_ok (r := none) (Q0 := fun _ => K) h hob hg
end
section
variable {P : Program} {B : Bs} {e : Env} {D : List Deferred} {H H0 : Hp} {G G0 : Imm} {K : Act → World → Prop} {ops : Array Oper} {l rest : List Oper} {f : Nat} {listed : Array Bool} {wr : List (Nat × Nat)} {ty : TypeId} {pos : String} {after : Array Edge} {d : Nat}
theorem Gm.o1 {o : Oper} (i : Nat) (h : Wl P l.toArray [o] B ⟨e, D, H, G⟩ (gmOn P l.toArray f (listed.setIfInBounds i true) wr H0 G0 K)) (hH : H.sub (H0.live wr listed) := by repeat (first | exact trivial | refine ⟨rfl, ?_⟩)) (hG : G0.le G := by first | exact Imm.le_refl _ | repeat (first | assumption | refine Imm.le_trans ?_ (by assumption))) (hr : Region.ready .any l.toArray listed = [i] := by kernel_rfl) (ho : l[i]? = some o := by exact rfl) :
    Gm P l.toArray (f + 1) listed wr H0 G0 B ⟨e, D, H, G⟩ K := Gm.one i hH hG hr ho h
theorem Gm.o2 {o1 o2 : Oper} (i j : Nat) (g1 : Wl P l.toArray [o1] B ⟨e, D, H, G⟩ (gmOn P l.toArray f (listed.setIfInBounds i true) wr H0 G0 K)) (g2 : Wl P l.toArray [o2] B ⟨e, D, H, G⟩ (gmOn P l.toArray f (listed.setIfInBounds j true) wr H0 G0 K))
    (hH : H.sub (H0.live wr listed) := by repeat (first | exact trivial | refine ⟨rfl, ?_⟩)) (hG : G0.le G := by first | exact Imm.le_refl _ | repeat (first | assumption | refine Imm.le_trans ?_ (by assumption))) (hr : Region.ready .any l.toArray listed = [i, j] := by kernel_rfl) (h1 : l[i]? = some o1 := by exact rfl) (h2 : l[j]? = some o2 := by exact rfl) :
    Gm P l.toArray (f + 1) listed wr H0 G0 B ⟨e, D, H, G⟩ K := Gm.two i j hH hG hr h1 h2 g1 g2
theorem Gm.o3 {o1 o2 o3 : Oper} (i j k : Nat) (g1 : Wl P l.toArray [o1] B ⟨e, D, H, G⟩ (gmOn P l.toArray f (listed.setIfInBounds i true) wr H0 G0 K)) (g2 : Wl P l.toArray [o2] B ⟨e, D, H, G⟩ (gmOn P l.toArray f (listed.setIfInBounds j true) wr H0 G0 K)) (g3 : Wl P l.toArray [o3] B ⟨e, D, H, G⟩ (gmOn P l.toArray f (listed.setIfInBounds k true) wr H0 G0 K))
    (hH : H.sub (H0.live wr listed) := by repeat (first | exact trivial | refine ⟨rfl, ?_⟩)) (hG : G0.le G := by first | exact Imm.le_refl _ | repeat (first | assumption | refine Imm.le_trans ?_ (by assumption))) (hr : Region.ready .any l.toArray listed = [i, j, k] := by kernel_rfl) (h1 : l[i]? = some o1 := by exact rfl) (h2 : l[j]? = some o2 := by exact rfl) (h3 : l[k]? = some o3 := by exact rfl) :
    Gm P l.toArray (f + 1) listed wr H0 G0 B ⟨e, D, H, G⟩ K := Gm.three i j k hH hG hr h1 h2 h3 g1 g2 g3
theorem Gm.fin {Q : Exit → Act → World → Prop} {x : Exit} (h : Ar Q x B ⟨e, D, H, G⟩) (hr : Region.ready .any ops listed = [] := by kernel_rfl) (hH : H.sub (H0.live wr listed) := by repeat (first | exact trivial | refine ⟨rfl, ?_⟩)) (hG : G0.le G := by first | exact Imm.le_refl _ | repeat (first | assumption | refine Imm.le_trans ?_ (by assumption))) : Gm P ops 0 listed wr H0 G0 B ⟨e, D, H, G⟩ (Q x) :=
  Gm.doneA hr hH hG h
/-- an operation by calculation -/
theorem Gm.c [T : Tab P] {o : Op} {v : Value} {hs' : List Nat} {ob : Prop} (i : Nat) (ts hs : List Nat) (h : Gm P l.toArray f (listed.setIfInBounds i true) wr H0 G0 B ⟨(d, v) :: e, D, H, G⟩ K) (ho : l[i]? = some ⟨some d, o, ty, pos, after, none⟩ := by exact rfl) (hv : qev P e (H0.only ts) hs o = some (v, hs', ob) := by exact rfl)
    (hob : ob := by first | exact trivial | with_reducible rfl | assumption | omega | rfl) (hn : Nat.ble (d + 1) B.n = true := by exact rfl) (hB : firstB l.toArray listed wr i ts = true := by kernel_rfl) : Gm P l.toArray (f + 1) listed wr H0 G0 B ⟨e, D, H, G⟩ K :=
  Gm.q i ts hB ho hn (qev_ok hv hob) h
/-- .. any other one that looks -/
theorem Gm.u {o : Op} {v : Value} (i : Nat) (ts : List Nat) (ho : l[i]? = some ⟨some d, o, ty, pos, after, none⟩) (hq : Qy P o ty e (H0.only ts) G0 v) (h : Gm P l.toArray f (listed.setIfInBounds i true) wr H0 G0 B ⟨(d, v) :: e, D, H, G⟩ K)
    (hn : Nat.ble (d + 1) B.n = true := by exact rfl) (hB : firstB l.toArray listed wr i ts = true := by kernel_rfl) : Gm P l.toArray (f + 1) listed wr H0 G0 B ⟨e, D, H, G⟩ K :=
  Gm.q i ts hB ho hn hq h
theorem Wl.k [T : Tab P] {f : FuncId} {xs : Array Operand} {ats : Array TypeId} {vs : List Value} {Hi : Hp} {post : Value → Imm → Hp → Prop} (k : Nat) (hx : e.evs xs.toList = some vs) (hF : Does P f vs G Hi post) (h : ∀ v G' Ho, G.le G' → post v G' Ho → Wl P ops rest B ⟨(d, v) :: e, D, Ho.shift k ++ (Hi.kill k ++ H), G'⟩ K)
    (hn : Nat.ble (d + 1) B.n = true := by exact rfl) (hf : memN (Tab.fn P) f = true := by exact rfl) (hHi : ∀ t x, Hi.get t = some x → H.get (k + t) = some x := by first | exact tags_of trivial | exact tags_of ⟨rfl, trivial⟩ | exact tags_of ⟨rfl, rfl, trivial⟩ | exact tags_of ⟨rfl, rfl, rfl, trivial⟩) :
    Wl P ops (⟨some d, .call { callee := .value (.func f), args := xs, argTypes := ats }, ty, pos, after, none⟩ :: rest) B ⟨e, D, H, G⟩ K := Wl.call k hn (memN_fn T.fnP hf) hx hF hHi h
theorem Wl.k0 [T : Tab P] {f : FuncId} {xs : Array Operand} {ats : Array TypeId} {vs : List Value} {r : Value} (hx : e.evs xs.toList = some vs) (hF : Does P f vs G [] (fun v G' Ho => v = r ∧ G' = G ∧ Ho = [])) (h : Wl P ops rest B ⟨(d, r) :: e, D, H, G⟩ K)
    (hn : Nat.ble (d + 1) B.n = true := by exact rfl) (hf : memN (Tab.fn P) f = true := by exact rfl) :
    Wl P ops (⟨some d, .call { callee := .value (.func f), args := xs, argTypes := ats }, ty, pos, after, none⟩ :: rest) B ⟨e, D, H, G⟩ K := Wl.call0 hn (memN_fn T.fnP hf) hx hF h
end
section
variable {P : Program} {fn : Func} {G0 : Imm} {Hi : Hp} {w0 : World} {post : Value → Imm → Hp → Prop} {n : Nat} {e : Env} {H : Hp} {G : Imm} {x : Exit} {t1 t2 t3 : Nat} {v1 v2 v3 : Value}
theorem Ar.e1 (hp : post v1 G (H.only [])) (hx : x = .normal ∨ x = .ret := by exact .inr rfl) (hres : fn.results = #[.tmp t1] := by exact rfl) (h1 : e.get t1 = some v1 := by exact rfl) : Ar (Out P fn G0 Hi w0 post) x ⟨n, w0, Hi.has, G0⟩ ⟨e, [], H, G⟩ :=
  Ar.out1 hx hres (.tmp h1) (Hp.sub_only _ _) hp
theorem Ar.e2 (hp : post (.tuple #[v1, v2]) G (H.only [])) (hx : x = .normal ∨ x = .ret := by exact .inr rfl) (hres : fn.results = #[.tmp t1, .tmp t2] := by exact rfl) (h1 : e.get t1 = some v1 := by exact rfl) (h2 : e.get t2 = some v2 := by exact rfl) : Ar (Out P fn G0 Hi w0 post) x ⟨n, w0, Hi.has, G0⟩ ⟨e, [], H, G⟩ :=
  Ar.out2 hx hres (.tmp h1) (.tmp h2) (Hp.sub_only _ _) hp
theorem Ar.e3 (hp : post (.tuple #[v1, v2, v3]) G (H.only [])) (hx : x = .normal ∨ x = .ret := by exact .inr rfl) (hres : fn.results = #[.tmp t1, .tmp t2, .tmp t3] := by exact rfl) (h1 : e.get t1 = some v1 := by exact rfl) (h2 : e.get t2 = some v2 := by exact rfl) (h3 : e.get t3 = some v3 := by exact rfl) :
    Ar (Out P fn G0 Hi w0 post) x ⟨n, w0, Hi.has, G0⟩ ⟨e, [], H, G⟩ := Ar.out3 hx hres (.tmp h1) (.tmp h2) (.tmp h3) (Hp.sub_only _ _) hp
end
section
variable {P : Program} {B : Bs} {e : Env} {D : List Deferred} {H : Hp} {G : Imm}
/-- ways meet again, what stays having grown -/
theorem Wc.meetG {ι : Type} {r : Option Nat} {x y : Code} {Q : Exit → Act → World → Prop} (I : ι → Env × Hp) (J : ι → Imm) (φ : ι → Prop)
    (h1 : Wc r P x B ⟨e, D, H, G⟩ (Exit.then (Meet B (fun i => ⟨(I i).1, D, (I i).2, J i⟩) φ) Q)) (h2 : ∀ i, φ i → Wc r P y B ⟨(I i).1, D, (I i).2, J i⟩ Q) : Wc r P (.seq x y) B ⟨e, D, H, G⟩ Q := by
  refine Wc.seq fun a w hh b k cs hro hb hr => ?_
  obtain ⟨ex, a', w', hq, ha⟩ := h1 a w hh b k cs hro hb hr
  refine ⟨ex, a', w', ?_, ha⟩
  cases ex with
  | normal => obtain ⟨j, hj, hI⟩ := hq; exact h2 j hj a' w' hI
  | _ => exact hq
end
end Go.Sl
set_option maxRecDepth 100000
namespace Go.Proofs.YtbppmiimeccclaaGreatDoor
open Go Go.Sl
instance : Tab Tryz.prog where
  fn := [4, 5, 6, 7, 8, 9, 10, 11, 16, 20, 21, 23, 24, 25, 26, 28, 31, 37, 38, 40, 41, 43, 45, 61, 62, 64, 65, 66, 67, 70, 72, 74, 75, 76, 77, 78, 82, 84, 86, 88, 90, 92, 95, 96, 97, 99, 104, 105, 106, 107, 113, 114, 115]
  fnP := ⟨T.fn4, T.fn5, T.fn6, T.fn7, T.fn8, T.fn9, T.fn10, T.fn11, T.fn16, T.fn20, T.fn21, T.fn23, T.fn24, T.fn25, T.fn26, T.fn28, T.fn31, T.fn37, T.fn38, T.fn40, T.fn41, T.fn43, T.fn45, T.fn61, T.fn62, T.fn64, T.fn65, T.fn66, T.fn67, T.fn70, T.fn72, T.fn74, T.fn75, T.fn76, T.fn77, T.fn78, T.fn82, T.fn84, T.fn86, T.fn88, T.fn90, T.fn92, T.fn95, T.fn96, T.fn97, T.fn99, T.fn104, T.fn105, T.fn106, T.fn107, T.fn113, T.fn114, T.fn115, trivial⟩
  one := [3, 4, 22, 23, 36, 61, 68, 69, 70, 71]
  agg := [(25, 4), (46, 5), (63, 2), (73, 5), (92, 4)]
  sl := [22, 23, 26, 34, 35, 36, 55, 59, 61]
  fa := [(25, 0, 0), (25, 1, 1), (25, 2, 2), (25, 3, 3), (46, 0, 0), (46, 1, 1), (46, 2, 2), (46, 3, 3), (46, 4, 4), (63, 0, 0), (63, 1, 1), (73, 0, 0), (73, 1, 1), (73, 2, 2), (73, 3, 3), (73, 4, 4), (92, 0, 0), (92, 1, 2)]
  oneP := ⟨T.one3, T.one4, T.one22, T.one23, T.one36, T.one61, T.one68, T.one69, T.one70, T.one71, trivial⟩
  aggP := ⟨⟨T.agg25, T.size25⟩, ⟨T.agg46, T.size46⟩, ⟨T.agg63, T.size63⟩, ⟨T.agg73, T.size73⟩, ⟨T.agg92, T.size92⟩, trivial⟩
  slP := ⟨⟨_, _, T.sl22⟩, ⟨_, _, T.sl23⟩, ⟨_, _, T.sl26⟩, ⟨_, _, T.sl34⟩, ⟨_, _, T.sl35⟩, ⟨_, _, T.sl36⟩, ⟨_, _, T.sl55⟩, ⟨_, _, T.sl59⟩, ⟨_, _, T.sl61⟩, trivial⟩
  faP := ⟨T.fa25_0, T.fa25_1, T.fa25_2, T.fa25_3, T.fa46_0, T.fa46_1, T.fa46_2, T.fa46_3, T.fa46_4, T.fa63_0, T.fa63_1, T.fa73_0, T.fa73_1, T.fa73_2, T.fa73_3, T.fa73_4, T.fa92_0, T.fa92_1, trivial⟩
end Go.Proofs.YtbppmiimeccclaaGreatDoor
namespace Go.Proofs.YtbppmiimeccclaaGreatDoor
open Go Go.Sl
set_option maxRecDepth 100000
theorem c56 (G : Imm) (op : Int) : Does Tryz.prog 56 [.int .i64 op] G [] (fun v G' Ho => v = .bool (decide (op = 3 ∨ op = 4)) ∧ G' = G ∧ Ho = []) := by
  refine Does.enter Tryz.func56 rfl Tryz.ntmps56 rfl (fun w => ?_)
  refine Wc.gl 10 [] ?_
  apply Wl.joinOr 3 5 8 rfl
  intro hg1
  refine Wl.ll0 5 [] ?_
  exact Wl.back 3 0 rfl rfl rfl rfl rfl
  intro hg1
  refine Wl.ll0 3 [] ?_
  exact Wl.back 3 0 rfl rfl rfl rfl rfl
  refine Wl.ga 4 [] ?_
  refine Ar.out1 (.inr rfl) (Ho := Hp.only _ []) rfl (.tmp rfl) (Hp.sub_only _ _) ?_
  exact ⟨by simp, rfl, rfl⟩
def constOk (op c : Int) : Bool :=
  if op = 5 ∨ op = 6 then decide (c ≠ 0 ∧ -512 ≤ c ∧ c ≤ 512) else if op = 7 ∨ op = 8 then decide (1 ≤ c ∧ c ≤ 64) else decide (c = 0)
theorem c57 (G : Imm) (i : Sl.Instr) : Does Tryz.prog 57 [.agg (Cells.enc i).toArray] G [] (fun v G' Ho => v = .bool (decide (constOk i.op i.c = true)) ∧ G' = G ∧ Ho = []) := by
  refine Does.enter Tryz.func57 rfl Tryz.ntmps57 rfl (fun w => ?_)
  refine Wc.gl 2 [] ?_
  refine Wl.box 0 rfl rfl rfl (fun b1 => ?_)
  refine Wl.gc 18 [0] ?_
  refine Wc.cond rfl (fun hc1 => ?_) (fun hc1 => ?_)
  refine Wc.gl 9 [1, 0] ?_
  apply Wl.joinAnd 4 11 15 rfl
  intro hg1
  refine Wl.ll0 7 [0] ?_
  exact Wl.back 4 0 rfl rfl rfl rfl rfl
  intro hg1
  refine Wl.ll0 4 [] ?_
  exact Wl.back 4 0 rfl rfl rfl rfl rfl
  refine Wl.q rfl (Qy.move rfl) ?_
  apply Wl.joinAnd 4 16 20 rfl
  intro hg1
  refine Wl.ll0 7 [0] ?_
  exact Wl.back 4 0 rfl rfl rfl rfl rfl
  intro hg1
  refine Wl.ll0 4 [] ?_
  exact Wl.back 4 0 rfl rfl rfl rfl rfl
  refine Wl.ga 6 [] ?_
  refine Ar.out1 (.inr rfl) (Ho := Hp.only _ []) rfl (.tmp rfl) (Hp.sub_only _ _) ?_
  rotate_left
  refine Wc.gc 5 [] ?_
  refine Wc.cond rfl (fun hc2 => ?_) (fun hc2 => ?_)
  refine Wc.gl 6 [0] ?_
  apply Wl.joinAnd 4 11 15 rfl
  intro hg1
  refine Wl.ll0 7 [0] ?_
  exact Wl.back 4 0 rfl rfl rfl rfl rfl
  intro hg1
  refine Wl.ll0 4 [] ?_
  exact Wl.back 4 0 rfl rfl rfl rfl rfl
  refine Wl.q rfl (Qy.move rfl) ?_
  apply Wl.joinAnd 4 16 20 rfl
  intro hg1
  refine Wl.ll0 7 [0] ?_
  exact Wl.back 4 0 rfl rfl rfl rfl rfl
  intro hg1
  refine Wl.ll0 4 [] ?_
  exact Wl.back 4 0 rfl rfl rfl rfl rfl
  refine Wl.ga 6 [] ?_
  refine Ar.out1 (.inr rfl) (Ho := Hp.only _ []) rfl (.tmp rfl) (Hp.sub_only _ _) ?_
  rotate_left
  refine Wc.gc 7 [] ?_
  refine Wc.cond rfl (fun hc3 => ?_) (fun hc3 => ?_)
  refine Wc.gl 9 [1, 0] ?_
  apply Wl.joinAnd 4 27 31 rfl
  intro hg1
  refine Wl.ll0 7 [0] ?_
  exact Wl.back 4 0 rfl rfl rfl rfl rfl
  intro hg1
  refine Wl.ll0 4 [] ?_
  exact Wl.back 4 0 rfl rfl rfl rfl rfl
  refine Wl.ga 6 [] ?_
  refine Ar.out1 (.inr rfl) (Ho := Hp.only _ []) rfl (.tmp rfl) (Hp.sub_only _ _) ?_
  rotate_left
  refine Wc.gc 5 [] ?_
  refine Wc.cond rfl (fun hc4 => ?_) (fun hc4 => ?_)
  refine Wc.gl 6 [0] ?_
  apply Wl.joinAnd 4 27 31 rfl
  intro hg1
  refine Wl.ll0 7 [0] ?_
  exact Wl.back 4 0 rfl rfl rfl rfl rfl
  intro hg1
  refine Wl.ll0 4 [] ?_
  exact Wl.back 4 0 rfl rfl rfl rfl rfl
  refine Wl.ga 6 [] ?_
  refine Ar.out1 (.inr rfl) (Ho := Hp.only _ []) rfl (.tmp rfl) (Hp.sub_only _ _) ?_
  rotate_left
  refine Wc.ga 12 [0] ?_
  refine Ar.out1 (.inr rfl) (Ho := Hp.only _ []) rfl (.tmp rfl) (Hp.sub_only _ _) ?_
  rotate_left
  all_goals refine ⟨?_, rfl, rfl⟩
  all_goals simp [constOk, *]
  all_goals first | (split <;> first | rfl | omega) | omega | (simp only [Bool.and_assoc]; rfl) | (simp only [Bool.and_assoc]) | skip
def asks (i : Sl.Instr) : List Int := if i.op = 3 ∨ i.op = 4 then [i.a, i.b] else if 1 ≤ i.op ∧ i.op ≤ 8 then [i.a] else []
theorem c58 (G : Imm) (i : Sl.Instr) : Does Tryz.prog 58 [.agg (Cells.enc i).toArray] G [] (fun v G' Ho => ∃ a c junk, v = .slice a (asks i).length c ∧ OwnA a c (asks i) junk ∧ Ho = [(1, a.map (·.block), Row 3 (asks i) junk)] ∧ G' = G) := by
  refine Does.enter Tryz.func58 rfl Tryz.ntmps58 rfl (fun w => ?_)
  refine Wc.gl 2 [] ?_
  refine Wl.box 0 rfl rfl rfl (fun b1 => ?_)
  refine Wl.gc 18 [0] ?_
  refine Wc.cond rfl (fun hc1 => ?_) (fun hc1 => ?_)
  refine Wc.gl 9 [1, 0, 0] ?_
  refine Wl.lit (α := Int) 1 [(Go.Sl.Instr.a i), (Go.Sl.Instr.b i)] rfl T.sl23 T.el3 rfl rfl rfl rfl rfl (fun b2 => ?_)
  refine Wl.ga 6 [] ?_
  rotate_left
  refine Wc.gc 5 [] ?_
  refine Wc.cond rfl (fun hc2 => ?_) (fun hc2 => ?_)
  refine Wc.gl 6 [0, 0] ?_
  refine Wl.lit (α := Int) 1 [(Go.Sl.Instr.a i), (Go.Sl.Instr.b i)] rfl T.sl23 T.el3 rfl rfl rfl rfl rfl (fun b2 => ?_)
  refine Wl.ga 6 [] ?_
  rotate_left
  refine Wc.gc 7 [] ?_
  refine Wc.cond rfl (fun hc3 => ?_) (fun hc3 => ?_)
  refine Wc.gl 7 [1, 0] ?_
  refine Wl.lit (α := Int) 1 [(Go.Sl.Instr.a i)] rfl T.sl23 T.el3 rfl rfl rfl rfl rfl (fun b2 => ?_)
  refine Wl.ga 6 [] ?_
  rotate_left
  refine Wc.gc 6 [] ?_
  refine Wc.cond rfl (fun hc4 => ?_) (fun hc4 => ?_)
  refine Wc.gl 7 [1, 0] ?_
  refine Wl.lit (α := Int) 1 [(Go.Sl.Instr.a i)] rfl T.sl23 T.el3 rfl rfl rfl rfl rfl (fun b2 => ?_)
  refine Wl.ga 6 [] ?_
  rotate_left
  refine Wc.gc 6 [] ?_
  refine Wc.cond rfl (fun hc5 => ?_) (fun hc5 => ?_)
  refine Wc.gl 7 [1, 0] ?_
  refine Wl.lit (α := Int) 1 [(Go.Sl.Instr.a i)] rfl T.sl23 T.el3 rfl rfl rfl rfl rfl (fun b2 => ?_)
  refine Wl.ga 6 [] ?_
  rotate_left
  refine Wc.gc 6 [] ?_
  refine Wc.cond rfl (fun hc6 => ?_) (fun hc6 => ?_)
  refine Wc.gl 7 [1, 0] ?_
  refine Wl.lit (α := Int) 1 [(Go.Sl.Instr.a i)] rfl T.sl23 T.el3 rfl rfl rfl rfl rfl (fun b2 => ?_)
  refine Wl.ga 6 [] ?_
  rotate_left
  refine Wc.gc 6 [] ?_
  refine Wc.cond rfl (fun hc7 => ?_) (fun hc7 => ?_)
  refine Wc.gl 7 [1, 0] ?_
  refine Wl.lit (α := Int) 1 [(Go.Sl.Instr.a i)] rfl T.sl23 T.el3 rfl rfl rfl rfl rfl (fun b2 => ?_)
  refine Wl.ga 6 [] ?_
  rotate_left
  refine Wc.gc 5 [] ?_
  refine Wc.cond rfl (fun hc8 => ?_) (fun hc8 => ?_)
  refine Wc.gl 4 [0] ?_
  refine Wl.lit (α := Int) 1 [(Go.Sl.Instr.a i)] rfl T.sl23 T.el3 rfl rfl rfl rfl rfl (fun b2 => ?_)
  refine Wl.ga 6 [] ?_
  rotate_left
  refine Wc.ga 9 [] ?_
  rotate_left
  rotate_right
  · have h : asks i = [] := by unfold asks; rw [if_neg (by omega), if_neg (by omega)]
    refine Ar.nilRow 1 (Row 3 ([] : List Int) []) ?_
    refine Ar.out1 (.inr rfl) (Ho := Hp.only _ [1]) rfl (.tmp rfl) (Hp.sub_only _ _) ?_
    rw [h]; exact ⟨_, _, _, rfl, OwnA.nil, rfl, rfl⟩
  all_goals first | refine Ar.out1 (.inr rfl) (Ho := Hp.only _ [1]) rfl (.tmp rfl) (Hp.sub_only _ _) ?_
  all_goals first
    | (have h : asks i = [i.a, i.b] := by unfold asks; rw [if_pos (by omega)]
       rw [h]; exact ⟨_, _, _, rfl, OwnA.made (by simp [maxLen]), rfl, rfl⟩)
    | (have h : asks i = [i.a] := by unfold asks; rw [if_neg (by omega), if_pos (by omega)]
       rw [h]; exact ⟨_, _, _, rfl, OwnA.made (by simp [maxLen]), rfl, rfl⟩)
    | skip
def mayOk (i : Sl.Instr) (regs : Int) : Bool :=
  decide (1 ≤ i.op ∧ i.op ≤ 8 ∧ 0 ≤ i.to ∧ i.to < regs ∧ (i.op = 3 ∨ i.op = 4 ∨ i.b = 0)) && constOk i.op i.c && (asks i).all fun r => decide (0 ≤ r ∧ r < regs)
theorem all_step {α : Type} [Inhabited α] (p : α → Bool) {l : List α} {k : Nat} (h : k < l.length) : (l.take (k + 1)).all p = ((l.take k).all p && p (l[((k : Nat) : Int).toNat]?.getD default)) := by
  have : l.take (k + 1) = l.take k ++ [l[((k : Nat) : Int).toNat]?.getD default] := by
    rw [List.take_add_one, Int.toNat_natCast, List.getElem?_eq_getElem h]; rfl
  rw [this, List.all_append]; simp
theorem c33 (G : Imm) (i : Sl.Instr) (regs : Int) : Does Tryz.prog 33 [.agg (Cells.enc i).toArray, .int .i64 regs] G [] (fun v G' Ho => v = .bool (decide (mayOk i regs = true)) ∧ G' = G ∧ Ho = []) := by
  refine Does.enter Tryz.func33 rfl Tryz.ntmps33 rfl (fun w => ?_)
  refine Wc.gl 2 [] ?_
  refine Wl.box 0 rfl rfl rfl (fun b1 => ?_)
  refine Wl.gl 10 [0] ?_
  apply Wl.joinOr 4 10 14 rfl
  intro hg1
  refine Wl.ll0 7 [0] ?_
  exact Wl.back 4 0 rfl rfl rfl rfl rfl
  intro hg1
  refine Wl.ll0 4 [] ?_
  exact Wl.back 4 0 rfl rfl rfl rfl rfl
  refine Wl.q rfl (Qy.move rfl) ?_
  apply Wl.joinOr 4 15 19 rfl
  intro hg1
  refine Wl.ll0 7 [0] ?_
  exact Wl.back 4 0 rfl rfl rfl rfl rfl
  intro hg1
  refine Wl.ll0 4 [] ?_
  exact Wl.back 4 0 rfl rfl rfl rfl rfl
  refine Wl.q rfl (Qy.move rfl) ?_
  apply Wl.joinOr 5 20 25 rfl
  intro hg1
  refine Wl.ll0 9 [0] ?_
  exact Wl.back 5 0 rfl rfl rfl rfl rfl
  intro hg1
  refine Wl.ll0 5 [] ?_
  exact Wl.back 5 0 rfl rfl rfl rfl rfl
  refine Wl.q rfl (Qy.move rfl) ?_
  apply Wl.joinOr 10 26 36 rfl
  intro hg1
  refine Wl.ll0 5 [0] ?_
  refine Wl.call0 rfl T.fn56 rfl (c56 _ _) ?_
  refine Wl.want rfl rfl ?_
  refine Wl.q rfl (Qy.notD rfl) ?_
  refine Wl.ll0 2 [] ?_
  apply Wl.joinAnd 4 31 35 rfl
  intro hg1
  refine Wl.ll0 8 [0] ?_
  exact Wl.back 4 0 rfl rfl rfl rfl rfl
  intro hg1
  refine Wl.ll0 5 [] ?_
  exact Wl.back 4 0 rfl rfl rfl rfl rfl
  refine Wl.q rfl (Qy.pick rfl rfl) ?_
  exact Wl.back 7 0 rfl rfl rfl rfl rfl
  intro hg1
  refine Wl.ll0 5 [] ?_
  refine Wl.passU rfl rfl rfl ?_
  refine Wl.passU rfl rfl rfl ?_
  refine Wl.passU rfl rfl rfl ?_
  refine Wl.ll0 2 [] ?_
  exact Wl.back 10 0 rfl rfl rfl rfl rfl
  refine Wl.q rfl (Qy.move rfl) ?_
  apply Wl.joinOr 4 37 41 rfl
  intro hg1
  refine Wl.ll0 3 [0] ?_
  refine Wl.call0 rfl T.fn57 rfl (c57 _ _) ?_
  refine Wl.want rfl rfl ?_
  refine Wl.q rfl (Qy.notD rfl) ?_
  refine Wl.q rfl (Qy.pick rfl rfl) ?_
  exact Wl.back 4 0 rfl rfl rfl rfl rfl
  intro hg1
  refine Wl.ll0 4 [] ?_
  exact Wl.back 4 0 rfl rfl rfl rfl rfl
  refine Wl.gc 2 [] ?_
  refine Wc.cond rfl (fun hc1 => ?_) (fun hc1 => ?_)
  refine Wc.ga 7 [] ?_
  refine Ar.out1 (.inr rfl) (Ho := Hp.only _ []) rfl (.tmp rfl) (Hp.sub_only _ _) ?_
  rotate_left
  refine Wc.gl 6 [0] ?_
  refine Wl.call 1 rfl T.fn58 rfl (c58 _ _) (tags_of trivial) (fun v1 G1 Ho1 hle1 hp => ?_)
  obtain ⟨ad1, cd1, junk1, rfl, hoa1, rfl, rfl⟩ := hp
  refine Wl.gc 5 [] ?_
  rotate_left
  · refine ⟨?_, rfl, rfl⟩
    have : mayOk i regs = false := by
      unfold mayOk
      rcases hc1 with ((((h | h) | h) | h) | h) | h
      all_goals first | (rw [decide_eq_false (by omega)]; rfl) | simp [h]
    simp [this]
  · have hasks : (asks i).length ≤ 2 := by unfold asks; split <;> (try split) <;> simp
    refine Wc.loop (ι := Nat) (fun k => ([(45, .int .i64 (k : Int)), (44, Go.Value.int Go.IntKind.i64 (↑(List.length (Go.Proofs.YtbppmiimeccclaaGreatDoor.asks i)) : Int)), (43, Go.Value.slice ad1 (List.length (Go.Proofs.YtbppmiimeccclaaGreatDoor.asks i)) cd1), (1, Go.Value.int Go.IntKind.i64 regs)], [(2, Option.map (fun x => Go.Addr.block x) ad1, Go.Sl.Row (α := Int) 3 (Go.Proofs.YtbppmiimeccclaaGreatDoor.asks i) (junk1)), (0, Option.some b1, Go.Obj.cells (List.toArray (Go.Sl.Cells.enc i)) 46)])) (fun k => k ≤ (asks i).length ∧ ((asks i).take k).all (fun r => decide (0 ≤ r ∧ r < regs)) = true) (fun k => (asks i).length - k) (0) (⟨Nat.zero_le _, rfl⟩) ⟨rfl, rfl, rfl, rfl, trivial⟩ ⟨rfl, rfl, trivial⟩ (fun k => fun (hk : k ≤ (asks i).length ∧ ((asks i).take k).all (fun r => decide (0 ≤ r ∧ r < regs)) = true) => ?_)
    obtain ⟨hk1, hk2⟩ := hk
    refine Wc.gc 6 [] ?_
    refine Wc.cond rfl (fun hc2 => ?_) (fun hc2 => ?_)
    refine Wc.gl 6 [] ?_
    refine Wl.q rfl (Qy.indexAddrO (α := Int) T.sl23 rfl rfl (by assumption) (by omega)) ?_
    refine Wl.q rfl (Qy.loadO 2 0 T.one3 rfl rfl (by assumption) (by omega) rfl rfl) ?_
    refine Wl.gl 8 [] ?_
    apply Wl.joinOr 4 51 55 rfl
    intro hg1
    refine Wl.ll0 7 [] ?_
    exact Wl.back 4 0 rfl rfl rfl rfl rfl
    intro hg1
    refine Wl.ll0 4 [] ?_
    exact Wl.back 4 0 rfl rfl rfl rfl rfl
    refine Wl.gc 2 [] ?_
    refine Wc.cond rfl (fun hc3 => ?_) (fun hc3 => ?_)
    refine Wc.ga 11 [] ?_
    refine Ar.out1 (.inr rfl) (Ho := Hp.only _ []) rfl (.tmp rfl) (Hp.sub_only _ _) ?_
    rotate_left
    refine Wc.ga 7 [] ?_
    rotate_left
    refine Wc.ga 11 [] ?_
    refine Ar.out1 (.inr rfl) (Ho := Hp.only _ []) rfl (.tmp rfl) (Hp.sub_only _ _) ?_
    rotate_left
    · refine ⟨?_, rfl, rfl⟩
      have hl : k < (asks i).length := by omega
      have hx : (asks i)[((k : Nat) : Int).toNat]?.getD default ∈ asks i := by rw [Int.toNat_natCast, List.getElem?_eq_getElem hl]; simp
      have hf : ((asks i).all fun r => decide (0 ≤ r ∧ r < regs)) = false := by
        rw [List.all_eq_false]
        exact ⟨_, hx, by simp only [decide_eq_true_eq]; omega⟩
      have : mayOk i regs = false := by unfold mayOk; rw [hf]; simp
      simp [this]
    · refine Ar.again (k + 1) ?_ ?_ rfl ⟨rfl, rfl, rfl, rfl, trivial⟩ ⟨rfl, rfl, trivial⟩
      · refine ⟨by omega, ?_⟩
        rw [all_step _ (by omega), hk2]
        simp only [Bool.true_and, decide_eq_true_eq]
        omega
      · omega
    · refine ⟨?_, rfl, rfl⟩
      have hk : k = (asks i).length := by omega
      subst hk
      rw [List.take_length] at hk2
      have : mayOk i regs = true := by
        unfold mayOk
        rw [hk2]
        simp only [not_or] at hc1
        simp only [Bool.and_true, Bool.and_eq_true, decide_eq_true_eq]
        refine ⟨by omega, ?_⟩
        have := hc1.2
        simpa using this
      simp [this]
structure PV where
  ins : Int
  regs : Int
  code : List Sl.Instr
  outs : List Int
def headOk (p : PV) : Bool := decide (1 ≤ p.ins ∧ p.ins ≤ p.regs ∧ p.regs ≤ 128 ∧ p.code.length ≤ 16384 ∧ 1 ≤ p.outs.length ∧ p.outs.length ≤ 128) && p.outs.all fun r => decide (0 ≤ r ∧ r < p.regs)
def badAt (p : PV) : Option Nat := p.code.findIdx? fun i => !mayOk i p.regs
/-- which instruction is the first that may not be, and whether there is one -/
def checkP (p : PV) : Int × Bool := if headOk p = false then (-1, true) else match badAt p with | some k => (k, true) | none => (0, false)
theorem find_bad {α : Type} [Inhabited α] {p : α → Bool} {l : List α} {k : Nat} (h : k < l.length) (h1 : (l.take k).all p = true) (h2 : ¬ p (l[((k : Nat) : Int).toNat]?.getD default) = true) : l.findIdx? (fun i => !p i) = some k := by
  rw [List.findIdx?_eq_some_iff_getElem]
  rw [Int.toNat_natCast, List.getElem?_eq_getElem h, Option.getD_some] at h2
  refine ⟨h, by simpa using h2, fun j hj => ?_⟩
  have hm : l[j]'(by omega) ∈ l.take k := by rw [List.mem_take_iff_getElem]; exact ⟨j, by omega, rfl⟩
  have := List.all_eq_true.1 h1 _ hm
  simpa using this
theorem find_none {α : Type} {p : α → Bool} {l : List α} (h1 : l.all p = true) : l.findIdx? (fun i => !p i) = none := by
  rw [List.findIdx?_eq_none_iff]
  intro x hx
  simpa using List.all_eq_true.1 h1 x hx
theorem c16 (G : Imm) (p : PV) (ac ao : Option Addr) (cc co : Nat) (hc : Arr G ac p.code) (ho : Arr G ao p.outs) (h1 : p.code.length ≤ 1099511627776) (h2 : p.outs.length ≤ 1099511627776) :
    Does Tryz.prog 16 [.agg #[.int .i64 p.ins, .int .i64 p.regs, .slice ac p.code.length cc, .slice ao p.outs.length co]] G [] (fun v G' Ho => v = .tuple #[.int .i64 (checkP p).1, .int .i64 (if (checkP p).2 then 80 else 0)] ∧ G' = G ∧ Ho = []) := by
  refine Does.enter Tryz.func16 rfl Tryz.ntmps16 rfl (fun w => ?_)
  refine Wc.gl 2 [] ?_
  refine Wl.box 0 rfl rfl rfl (fun b1 => ?_)
  refine Wl.gl 11 [0] ?_
  apply Wl.joinOr 6 11 17 rfl
  intro hg1
  refine Wl.ll0 11 [0, 0] ?_
  exact Wl.back 6 0 rfl rfl rfl rfl rfl
  intro hg1
  refine Wl.ll0 6 [] ?_
  exact Wl.back 6 0 rfl rfl rfl rfl rfl
  refine Wl.q rfl (Qy.move rfl) ?_
  apply Wl.joinOr 4 18 22 rfl
  intro hg1
  refine Wl.ll0 7 [0] ?_
  exact Wl.back 4 0 rfl rfl rfl rfl rfl
  intro hg1
  refine Wl.ll0 4 [] ?_
  exact Wl.back 4 0 rfl rfl rfl rfl rfl
  refine Wl.q rfl (Qy.move rfl) ?_
  apply Wl.joinOr 5 23 28 rfl
  intro hg1
  refine Wl.ll0 9 [0] ?_
  exact Wl.back 5 0 rfl rfl rfl rfl rfl
  intro hg1
  refine Wl.ll0 5 [] ?_
  exact Wl.back 5 0 rfl rfl rfl rfl rfl
  refine Wl.q rfl (Qy.move rfl) ?_
  apply Wl.joinOr 5 29 34 rfl
  intro hg1
  refine Wl.ll0 9 [0] ?_
  exact Wl.back 5 0 rfl rfl rfl rfl rfl
  intro hg1
  refine Wl.ll0 5 [] ?_
  exact Wl.back 5 0 rfl rfl rfl rfl rfl
  refine Wl.q rfl (Qy.move rfl) ?_
  apply Wl.joinOr 5 35 40 rfl
  intro hg1
  refine Wl.ll0 9 [0] ?_
  exact Wl.back 5 0 rfl rfl rfl rfl rfl
  intro hg1
  refine Wl.ll0 5 [] ?_
  exact Wl.back 5 0 rfl rfl rfl rfl rfl
  refine Wl.gc 2 [] ?_
  refine Wc.cond rfl (fun hc1 => ?_) (fun hc1 => ?_)
  refine Wc.ga 8 [] ?_
  refine Ar.out2 (.inr rfl) (Ho := Hp.only _ []) rfl (.tmp rfl) (.tmp rfl) (Hp.sub_only _ _) ?_
  rotate_left
  refine Wc.gc 12 [0] ?_
  rotate_left
  · refine ⟨?_, rfl, rfl⟩
    have : headOk p = false := by unfold headOk; rw [decide_eq_false (by omega)]; rfl
    simp [checkP, this]
  · refine Wc.loop (ι := Nat) (fun k => ([(44, .int .i64 (k : Int)), (43, Go.Value.int Go.IntKind.i64 (↑(List.length (Go.Proofs.YtbppmiimeccclaaGreatDoor.PV.outs p)) : Int)), (42, Go.Value.slice ao (List.length (Go.Proofs.YtbppmiimeccclaaGreatDoor.PV.outs p)) co), (1, Go.Value.pointer (Option.some (Go.Addr.mk b1 0 Option.none)))], [(0, Option.some b1, Go.Obj.cells #[Go.Value.int Go.IntKind.i64 (Go.Proofs.YtbppmiimeccclaaGreatDoor.PV.ins p), Go.Value.int Go.IntKind.i64 (Go.Proofs.YtbppmiimeccclaaGreatDoor.PV.regs p), Go.Value.slice ac (List.length (Go.Proofs.YtbppmiimeccclaaGreatDoor.PV.code p)) cc, Go.Value.slice ao (List.length (Go.Proofs.YtbppmiimeccclaaGreatDoor.PV.outs p)) co] 25)])) (fun k => k ≤ p.outs.length ∧ (p.outs.take k).all (fun r => decide (0 ≤ r ∧ r < p.regs)) = true) (fun k => p.outs.length - k) (0) (⟨Nat.zero_le _, rfl⟩) ⟨rfl, rfl, rfl, rfl, trivial⟩ ⟨rfl, trivial⟩ (fun k => fun (hk : k ≤ p.outs.length ∧ (p.outs.take k).all (fun r => decide (0 ≤ r ∧ r < p.regs)) = true) => ?_)
    obtain ⟨hk1, hk2⟩ := hk
    refine Wc.gc 6 [] ?_
    refine Wc.cond rfl (fun hc2 => ?_) (fun hc2 => ?_)
    refine Wc.gl 6 [] ?_
    refine Wl.q rfl (Qy.at (α := Int) T.sl23 rfl rfl (by assumption) (by omega)) ?_
    refine Wl.q rfl (Qy.loadG T.one3 rfl (Arr.cell (by assumption) (by omega) 0 rfl rfl)) ?_
    refine Wl.gl 8 [] ?_
    apply Wl.joinOr 5 50 55 rfl
    intro hg1
    refine Wl.ll0 9 [0] ?_
    exact Wl.back 5 0 rfl rfl rfl rfl rfl
    intro hg1
    refine Wl.ll0 5 [] ?_
    exact Wl.back 5 0 rfl rfl rfl rfl rfl
    refine Wl.gc 2 [] ?_
    refine Wc.cond rfl (fun hc3 => ?_) (fun hc3 => ?_)
    refine Wc.ga 12 [] ?_
    refine Ar.out2 (.inr rfl) (Ho := Hp.only _ []) rfl (.tmp rfl) (.tmp rfl) (Hp.sub_only _ _) ?_
    rotate_left
    refine Wc.ga 7 [] ?_
    rotate_left
    refine Wc.gc 15 [0] ?_
    rotate_left
    · refine ⟨?_, rfl, rfl⟩
      have hl : k < p.outs.length := by omega
      have hx : p.outs[((k : Nat) : Int).toNat]?.getD default ∈ p.outs := by rw [Int.toNat_natCast, List.getElem?_eq_getElem hl]; simp
      have hf : (p.outs.all fun r => decide (0 ≤ r ∧ r < p.regs)) = false := by
        rw [List.all_eq_false]
        exact ⟨_, hx, by simp only [decide_eq_true_eq]; omega⟩
      have : headOk p = false := by unfold headOk; rw [hf, Bool.and_false]
      simp [checkP, this]
    · refine Ar.again (k + 1) ?_ ?_ rfl ⟨rfl, rfl, rfl, rfl, trivial⟩ ⟨rfl, trivial⟩
      · refine ⟨by omega, ?_⟩
        rw [all_step _ (by omega), hk2]
        simp only [Bool.true_and, decide_eq_true_eq]
        omega
      · omega
    · have hk : k = p.outs.length := by omega
      subst hk
      rw [List.take_length] at hk2
      have hh : headOk p = true := by
        unfold headOk
        rw [hk2, Bool.and_true, decide_eq_true_eq]
        omega
      clear hk1 hk2 hc2
      refine Wc.loop (ι := Nat) (fun k => ([(60, .int .i64 (k : Int)), (59, Go.Value.int Go.IntKind.i64 (↑(List.length (Go.Proofs.YtbppmiimeccclaaGreatDoor.PV.code p)) : Int)), (58, Go.Value.slice ac (List.length (Go.Proofs.YtbppmiimeccclaaGreatDoor.PV.code p)) cc), (1, Go.Value.pointer (Option.some (Go.Addr.mk b1 0 Option.none)))], [(0, Option.some b1, Go.Obj.cells #[Go.Value.int Go.IntKind.i64 (Go.Proofs.YtbppmiimeccclaaGreatDoor.PV.ins p), Go.Value.int Go.IntKind.i64 (Go.Proofs.YtbppmiimeccclaaGreatDoor.PV.regs p), Go.Value.slice ac (List.length (Go.Proofs.YtbppmiimeccclaaGreatDoor.PV.code p)) cc, Go.Value.slice ao (List.length (Go.Proofs.YtbppmiimeccclaaGreatDoor.PV.outs p)) co] 25)])) (fun k => k ≤ p.code.length ∧ (p.code.take k).all (fun i => mayOk i p.regs) = true) (fun k => p.code.length - k) (0) (⟨Nat.zero_le _, rfl⟩) ⟨rfl, rfl, rfl, rfl, trivial⟩ ⟨rfl, trivial⟩ (fun k => fun (hk : k ≤ p.code.length ∧ (p.code.take k).all (fun i => mayOk i p.regs) = true) => ?_)
      obtain ⟨hk1, hk2⟩ := hk
      refine Wc.gc 6 [] ?_
      refine Wc.cond rfl (fun hc2 => ?_) (fun hc2 => ?_)
      refine Wc.gl 7 [] ?_
      refine Wl.q rfl (Qy.at (α := Instr) T.sl22 rfl rfl (by assumption) (by omega)) ?_
      refine Wl.q rfl (Qy.loadsG T.agg46 rfl (Arr.elem (by assumption) (by omega)) rfl) ?_
      refine Wl.alloc 1 rfl T.zero46 (fun b2 => ?_)
      refine Wl.gl 9 [1, 1, 0] ?_
      refine Wl.call0 rfl T.fn33 rfl (c33 _ _ _) ?_
      refine Wl.q rfl (Qy.notD rfl) ?_
      refine Wl.gc 2 [] ?_
      refine Wc.cond rfl (fun hc3 => ?_) (fun hc3 => ?_)
      refine Wc.ga 13 [] ?_
      refine Ar.out2 (.inr rfl) (Ho := Hp.only _ []) rfl (.tmp rfl) (.tmp rfl) (Hp.sub_only _ _) ?_
      rotate_left
      refine Wc.ga 7 [] ?_
      rotate_left
      refine Wc.ga 12 [] ?_
      refine Ar.out2 (.inr rfl) (Ho := Hp.only _ []) rfl (.tmp rfl) (.tmp rfl) (Hp.sub_only _ _) ?_
      rotate_left
      · refine ⟨?_, rfl, rfl⟩
        have hl : k < p.code.length := by omega
        have : badAt p = some k := find_bad hl hk2 hc3
        simp [checkP, hh, this]
      · refine Ar.again (k + 1) ?_ ?_ rfl ⟨rfl, rfl, rfl, rfl, trivial⟩ ⟨rfl, trivial⟩
        · refine ⟨by omega, ?_⟩
          rw [all_step _ (by omega), hk2]
          simpa using hc3
        · omega
      · refine ⟨?_, rfl, rfl⟩
        have hk : k = p.code.length := by omega
        subst hk
        rw [List.take_length] at hk2
        have : badAt p = none := find_none hk2
        simp [checkP, hh, this]
def rightP (p : PV) : Bool := !(checkP p).2
theorem mayOk_iff (i : Sl.Instr) (regs : Int) : mayOk i regs = true ↔ (1 ≤ i.op ∧ i.op ≤ 8 ∧ 0 ≤ i.to ∧ i.to < regs ∧ 0 ≤ i.a ∧ i.a < regs) ∧
    (if i.op = 3 ∨ i.op = 4 then 0 ≤ i.b ∧ i.b < regs ∧ i.c = 0 else i.b = 0 ∧ (if i.op = 5 ∨ i.op = 6 then i.c ≠ 0 ∧ -512 ≤ i.c ∧ i.c ≤ 512 else if i.op = 7 ∨ i.op = 8 then 1 ≤ i.c ∧ i.c ≤ 64 else i.c = 0)) := by
  unfold mayOk constOk asks
  by_cases h3 : i.op = 3 ∨ i.op = 4
  · have h5 : ¬ (i.op = 5 ∨ i.op = 6) := by omega
    have h7 : ¬ (i.op = 7 ∨ i.op = 8) := by omega
    simp only [if_pos h3, if_neg h5, if_neg h7, List.all_cons, List.all_nil, Bool.and_true, Bool.and_eq_true, decide_eq_true_eq]
    omega
  · by_cases h1 : 1 ≤ i.op ∧ i.op ≤ 8
    · simp only [if_neg h3, if_pos h1, List.all_cons, List.all_nil, Bool.and_true, Bool.and_eq_true, decide_eq_true_eq]
      by_cases h5 : i.op = 5 ∨ i.op = 6
      · simp only [if_pos h5, decide_eq_true_eq]; omega
      · by_cases h7 : i.op = 7 ∨ i.op = 8
        · simp only [if_neg h5, if_pos h7, decide_eq_true_eq]; omega
        · simp only [if_neg h5, if_neg h7, decide_eq_true_eq]; omega
    · simp only [if_neg h3, if_neg h1, List.all_nil, Bool.and_true, Bool.and_eq_true, decide_eq_true_eq]
      constructor <;> (intro h; omega)
end Go.Proofs.YtbppmiimeccclaaGreatDoor
namespace Go.Proofs.YtbppmiimeccclaaGreatDoor
open Go Go.Sl Go.ChangeShapes Go.WideShapes Go.RowKit Go.Joins
set_option linter.unusedVariables false
set_option maxRecDepth 100000
theorem bulk_one {H : Type} (d : DataW H) : 1 ≤ Rows.uptoBulk d := by
  cases d with
  | lit l => cases l <;> simp [Rows.uptoBulk]
  | nil => simp [Rows.uptoBulk]
  | ptr d => simp [Rows.uptoBulk]
  | slice elems spare => simp [Rows.uptoBulk]
  | agg parts => simp [Rows.uptoBulk]
  | iface t d => simp [Rows.uptoBulk]
  | map entries => simp [Rows.uptoBulk]
  | held h => simp [Rows.uptoBulk]
theorem bulk_len {H : Type} (l : List (DataW H)) : l.length ≤ Rows.uptoBulkAll l := by
  induction l with
  | nil => simp [Rows.uptoBulkAll]
  | cons x r ih => have := bulk_one x; simp only [Rows.uptoBulkAll, List.length_cons]; omega
theorem bulk_slice {H : Type} (l r : List (DataW H)) : l.length ≤ Rows.uptoBulk (.slice l r) := by
  have := bulk_len l
  simp only [Rows.uptoBulk]; omega
theorem und3 : Tryz.prog.underlying 3 = some (.int .i64) := by kernel_rfl
theorem und4 : Tryz.prog.underlying 4 = some .bool := by kernel_rfl
theorem laidOut : laidOutB Tryz.prog = true := by kernel_rfl
theorem cells3 : Tryz.prog.cellsOf 3 = 1 := by kernel_rfl
theorem cells25 : Tryz.prog.cellsOf 25 = 4 := by kernel_rfl
theorem cells72 : Tryz.prog.cellsOf 46 = 5 := by kernel_rfl
theorem fields25 : Deep.oneCellFields Tryz.prog #[{ name := "Ins", type := 3, offset := 0, embedded := false, tag := "", pkgPath := "", byteOffset := 0 },
        { name := "Regs", type := 3, offset := 1, embedded := false, tag := "", pkgPath := "", byteOffset := 8 },
        { name := "Code", type := 22, offset := 2, embedded := false, tag := "", pkgPath := "", byteOffset := 16 },
        { name := "Outs", type := 23, offset := 3, embedded := false, tag := "", pkgPath := "", byteOffset := 40 }] = true := by kernel_rfl
section
variable {H : Type} {enc : TypeId × Value → H}
theorem open_prog {W : World} {r : Reach} {b0 : Nat} {v : Value} {d : DataW H} {ps : List MemPlace} (hv : Value.okWide Tryz.prog W r b0 25 v) (h : DataW.Trod enc Tryz.prog W 0 (fun _ => true) true 25 v d ps) :
    ∃ (p : PV) (ac ao : Option Addr) (cc co : Nat), v = .agg #[.int .i64 p.ins, .int .i64 p.regs, .slice ac p.code.length cc, .slice ao p.outs.length co] ∧ Arr (heapG W) ac p.code ∧ Arr (heapG W) ao p.outs ∧
      p.code.length + p.outs.length ≤ Rows.uptoBulk d := by
  obtain ⟨v0, v1, v2, v3, y0, y1, y2, y3, n, rfl, rfl, rfl, h0, h1, h2, h3⟩ := open_agg4 Tryz.underlying25 fields25 cells25 hv h
  obtain ⟨k0, e0, _, _⟩ := DataW.trod_int und3 h0
  obtain ⟨k1, e1, _, _⟩ := DataW.trod_int und3 h1
  obtain ⟨a2, c2, xs, e2, ha2, hl2, hd2⟩ := open_arr (α := Sl.Instr) Tryz.underlying22 cells72 (by decide) (dec_instr und3 Tryz.underlying46 ⟨rfl, rfl⟩ ⟨rfl, rfl⟩ ⟨rfl, rfl⟩ ⟨rfl, rfl⟩ ⟨rfl, rfl⟩ cells3 cells72) h2
  obtain ⟨a3, c3, ys, e3, ha3, hl3, hd3⟩ := open_arr (α := Int) Tryz.underlying23 cells3 (by decide) (dec_int und3) h3
  simp only [List.cons.injEq, and_true] at e0 e1 e2 e3
  subst e0 e1 e2 e3
  refine ⟨⟨k0, k1, xs, ys⟩, a2, a3, c2, c3, rfl, ha2, ha3, ?_⟩
  have b2 : xs.length ≤ Rows.uptoBulk y2.1 := by
    rcases hd2 with ⟨_, rfl⟩ | ⟨l, r, e, hl, _⟩
    · exact Nat.zero_le _
    · rw [e, ← hl]; exact bulk_slice l r
  have b3 : ys.length ≤ Rows.uptoBulk y3.1 := by
    rcases hd3 with ⟨_, rfl⟩ | ⟨l, r, e, hl, _⟩
    · exact Nat.zero_le _
    · rw [e, ← hl]; exact bulk_slice l r
  simp only [Rows.uptoBulk, Rows.uptoBulkAll]
  omega
theorem und2 : Tryz.prog.underlying 2 = some (.int .i64) := by kernel_rfl
theorem cells2 : Tryz.prog.cellsOf 2 = 1 := by kernel_rfl
end
theorem own : ownKnob Tryz.prog.godebug = none := by kernel_rfl
end Go.Proofs.YtbppmiimeccclaaGreatDoor
set_option linter.unusedVariables false
namespace Go.Sl
open Go
theorem HoldH.freezeRow {α : Type} [Cells α] {H : Hp} {G : Imm} {w : World} (hh : HoldH H G w) {t : Nat} {ad : Option Addr} {c : Nat} {E : TypeId} {xs : List α} {junk : List Value} (ht : H.get t = some (ad.map (·.block), Row E xs junk)) (ho : OwnA ad c xs junk) :
    ∃ G', G.le G' ∧ Arr G' ad xs ∧ HoldH ((t, none, default) :: H) G' w ∧ ∀ b, G' b ≠ none → G b = none → ∃ o, H.get t = some (some b, o) := by
  have hB : Hold ⟨0, w, fun b => H.has b, G⟩ ⟨[], [], H, G⟩ { tmps := #[], defers := [] } w :=
    ⟨rfl, rfl, fun i v h => by simp [Env.get] at h, hh, Upd.refl _ _, fun t b o h => .inr ⟨t, o, h⟩, Imm.le_refl _, fun b h h0 => (h h0).elim⟩
  rcases ho with ⟨rfl, rfl, rfl, _⟩ | ⟨b, rfl, hrest⟩
  · exact ⟨G, Imm.le_refl _, Arr.nil G, (hB.noBlock t default).mem, fun b h h0 => (h h0).elim⟩
  · have ht' : H.get t = some (some b, Row E xs junk) := ht
    obtain ⟨h1, h2⟩ := hB.freeze ht'
    refine ⟨_, h2, row_arr (E := E) (junk := junk) (by simp [Imm.with]), h1.mem, fun b' hb h0 => ?_⟩
    have hb' : (if b' = b then some (Row E xs junk) else G b') ≠ none := hb
    split at hb'
    · rename_i h; subst h; exact ⟨_, ht'⟩
    · exact (hb' h0).elim
theorem Does.frz2 {α β : Type} [Cells α] [Cells β] {P : Program} {f : FuncId} {args : List Value} {G : Imm} {E E' : TypeId} {q : Value → Option Addr → Nat → List α → Option Addr → Nat → List β → Prop}
    (h : Does P f args G [] (fun v G' Ho => ∃ (a : Option Addr) (c : Nat) (xs : List α) (j : List Value) (b : Option Addr) (d : Nat) (ys : List β) (j' : List Value), q v a c xs b d ys ∧ OwnA a c xs j ∧ OwnA b d ys j' ∧ Ho = [(0, a.map (·.block), Row E xs j), (1, b.map (·.block), Row E' ys j')] ∧ G' = G)) :
    Does P f args G [] (fun v G' Ho => ∃ (a : Option Addr) (c : Nat) (xs : List α) (b : Option Addr) (d : Nat) (ys : List β), q v a c xs b d ys ∧ Arr G' a xs ∧ Arr G' b ys ∧ Ho = []) := by
  intro w hw
  refine (h w hw).mono fun x w' ⟨v, G', Ho, h1, h2, h3, h4, h5, h6, a, c, xs, j, b, d, ys, j', hq, ho, ho', hHo, hG⟩ => ?_
  subst hHo hG
  obtain ⟨G1, g1, g2, g3, g4⟩ := h2.freezeRow (t := 0) rfl ho
  obtain ⟨G2, k1, k2, k3, k4⟩ := g3.freezeRow (t := 1) (ad := b) (E := E') (xs := ys) (junk := j') rfl ho'
  have hnil : ∀ t b o, Hp.get [] t = some (some b, o) → False := fun t b o hx => by simp [Hp.get] at hx
  refine ⟨v, G2, [], h1, ⟨fun t b o hx => (hnil t b o hx).elim, fun t t' b o o' hx => (hnil t b o hx).elim, k3.imm, fun t b o hx => (hnil t b o hx).elim⟩, Imm.le_trans g1 k1, h4, fun bb hb h0 => ?_, fun t b o hx => (hnil t b o hx).elim, a, c, xs, b, d, ys, hq, g2.up k1, k2, rfl⟩
  by_cases hg1 : G1 bb = none
  · obtain ⟨o, ho2⟩ := k4 bb hb hg1
    have ho3 : Hp.get [(0, a.map (·.block), Row E xs j), (1, b.map (·.block), Row E' ys j')] 1 = some (some bb, o) := by
      rw [Hp.get_cons, if_neg (by decide)] at ho2; exact ho2
    exact h6 1 bb o ho3
  · obtain ⟨o, ho2⟩ := g4 bb hg1 h0
    exact h6 0 bb o ho2
end Go.Sl
namespace Go.Proofs.YtbppmiimeccclaaGreatDoor
open Go Go.Sl
set_option maxRecDepth 100000
instance : DecidableEq PV := fun a b => by
  cases a; cases b; simp only [PV.mk.injEq]; infer_instance
theorem take_eq_step {α : Type} [Inhabited α] {l m : List α} {k : Nat} (hl : k < l.length) (hm : k < m.length) (h : l.take k = m.take k)
    (he : l[((k : Nat) : Int).toNat]?.getD default = m[((k : Nat) : Int).toNat]?.getD default) : l.take (k + 1) = m.take (k + 1) := by
  rw [Int.toNat_natCast, List.getElem?_eq_getElem hl, List.getElem?_eq_getElem hm] at he
  rw [List.take_add_one, List.take_add_one, h, List.getElem?_eq_getElem hl, List.getElem?_eq_getElem hm]
  simp only [Option.getD_some] at he
  rw [he]
theorem c15 (G : Imm) (p q : PV) (ac ao bc bo : Option Addr) (cc co dc do_ : Nat) (hc : Arr G ac p.code) (ho : Arr G ao p.outs) (hc' : Arr G bc q.code) (ho' : Arr G bo q.outs) (h1 : p.code.length ≤ 1099511627776) (h2 : p.outs.length ≤ 1099511627776) :
    Does Tryz.prog 15 [.agg #[.int .i64 p.ins, .int .i64 p.regs, .slice ac p.code.length cc, .slice ao p.outs.length co], .agg #[.int .i64 q.ins, .int .i64 q.regs, .slice bc q.code.length dc, .slice bo q.outs.length do_]] G []
      (fun v G' Ho => v = .bool (decide (p = q)) ∧ G' = G ∧ Ho = []) := by
  refine Does.enter Tryz.func15 rfl Tryz.ntmps15 rfl (fun w => ?_)
  refine Wc.gl 2 [] ?_
  refine Wl.box 0 rfl rfl rfl (fun b1 => ?_)
  refine Wl.box 1 rfl rfl rfl (fun b2 => ?_)
  refine Wl.gl 12 [0, 1] ?_
  apply Wl.joinOr 6 12 18 rfl
  intro hg1
  refine Wl.ll0 11 [0, 1] ?_
  exact Wl.back 6 0 rfl rfl rfl rfl rfl
  intro hg1
  refine Wl.ll0 6 [] ?_
  exact Wl.back 6 0 rfl rfl rfl rfl rfl
  refine Wl.q rfl (Qy.move rfl) ?_
  apply Wl.joinOr 8 19 27 rfl
  intro hg1
  refine Wl.ll0 15 [0, 1] ?_
  exact Wl.back 8 0 rfl rfl rfl rfl rfl
  intro hg1
  refine Wl.ll0 8 [] ?_
  exact Wl.back 8 0 rfl rfl rfl rfl rfl
  refine Wl.q rfl (Qy.move rfl) ?_
  apply Wl.joinOr 8 28 36 rfl
  intro hg1
  refine Wl.ll0 15 [0, 1] ?_
  exact Wl.back 8 0 rfl rfl rfl rfl rfl
  intro hg1
  refine Wl.ll0 8 [] ?_
  exact Wl.back 8 0 rfl rfl rfl rfl rfl
  refine Wl.gc 2 [] ?_
  refine Wc.cond rfl (fun hc1 => ?_) (fun hc1 => ?_)
  refine Wc.ga 7 [] ?_
  refine Ar.out1 (.inr rfl) (Ho := Hp.only _ []) rfl (.tmp rfl) (Hp.sub_only _ _) ?_
  rotate_left
  refine Wc.gc 9 [] ?_
  rotate_left
  · refine ⟨?_, rfl, rfl⟩
    have : p ≠ q := by rintro rfl; omega
    simp [this]
  · simp only [not_or, ne_eq, Decidable.not_not] at hc1
    obtain ⟨⟨⟨e1, e2⟩, e3⟩, e4⟩ := hc1
    refine Wc.loop (ι := Nat) (fun k => ([(5, .int .i64 (k : Int)), (3, Go.Value.pointer (Option.some (Go.Addr.mk b2 0 Option.none))), (2, Go.Value.pointer (Option.some (Go.Addr.mk b1 0 Option.none)))], [(1, Option.some b2, Go.Obj.cells #[Go.Value.int Go.IntKind.i64 (Go.Proofs.YtbppmiimeccclaaGreatDoor.PV.ins q), Go.Value.int Go.IntKind.i64 (Go.Proofs.YtbppmiimeccclaaGreatDoor.PV.regs q), Go.Value.slice bc (List.length (Go.Proofs.YtbppmiimeccclaaGreatDoor.PV.code q)) dc, Go.Value.slice bo (List.length (Go.Proofs.YtbppmiimeccclaaGreatDoor.PV.outs q)) do_] 25), (0, Option.some b1, Go.Obj.cells #[Go.Value.int Go.IntKind.i64 (Go.Proofs.YtbppmiimeccclaaGreatDoor.PV.ins p), Go.Value.int Go.IntKind.i64 (Go.Proofs.YtbppmiimeccclaaGreatDoor.PV.regs p), Go.Value.slice ac (List.length (Go.Proofs.YtbppmiimeccclaaGreatDoor.PV.code p)) cc, Go.Value.slice ao (List.length (Go.Proofs.YtbppmiimeccclaaGreatDoor.PV.outs p)) co] 25)])) (fun k => k ≤ p.code.length ∧ p.code.take k = q.code.take k) (fun k => p.code.length - k) (0) (⟨Nat.zero_le _, rfl⟩) ⟨rfl, rfl, rfl, trivial⟩ ⟨rfl, rfl, trivial⟩ (fun k => fun (hk : k ≤ p.code.length ∧ p.code.take k = q.code.take k) => ?_)
    obtain ⟨hk1, hk2⟩ := hk
    refine Wc.gc 10 [0] ?_
    refine Wc.cond rfl (fun hc1 => ?_) (fun hc1 => ?_)
    refine Wc.gc 5 [] ?_
    refine Wc.draw [0, 1] [] T.mixed rfl ?_
    refine Gm.q 0 [] (by kernel_rfl) rfl rfl (Qy.fieldAddr T.fa25_2 rfl) ?_
    refine Gm.q 1 [0] (by kernel_rfl) rfl rfl (Qy.load 0 T.one22 rfl rfl rfl) ?_
    refine Gm.q 2 [] (by kernel_rfl) rfl rfl (Qy.move rfl) ?_
    refine Gm.q 3 [] (by kernel_rfl) rfl rfl (Qy.at (α := Instr) T.sl22 rfl rfl (by assumption) (by omega)) ?_
    refine Gm.q 4 [] (by kernel_rfl) rfl rfl (Qy.loadsG T.agg46 rfl (Arr.elem (by assumption) (by omega)) rfl) ?_
    refine Gm.q 5 [] (by kernel_rfl) rfl rfl (Qy.fieldAddr T.fa25_2 rfl) ?_
    refine Gm.q 6 [1] (by kernel_rfl) rfl rfl (Qy.load 1 T.one22 rfl rfl rfl) ?_
    refine Gm.q 7 [] (by kernel_rfl) rfl rfl (Qy.move rfl) ?_
    refine Gm.q 8 [] (by kernel_rfl) rfl rfl (Qy.at (α := Instr) T.sl22 rfl rfl (by assumption) (by omega)) ?_
    refine Gm.q 9 [] (by kernel_rfl) rfl rfl (Qy.loadsG T.agg46 rfl (Arr.elem (by assumption) (by omega)) rfl) ?_
    refine Gm.q 10 [] (by kernel_rfl) rfl rfl (Qy.neqInstr T.ai46 rfl rfl) ?_
    refine Gm.doneA (by kernel_rfl) ⟨rfl, rfl, trivial⟩ (by first | exact Imm.le_refl _ | assumption | (refine Imm.le_trans ?_ (by assumption); first | assumption | (refine Imm.le_trans ?_ (by assumption); assumption))) ?_
    refine Ar.next ?_
    refine Wc.cond rfl (fun hc2 => ?_) (fun hc2 => ?_)
    refine Wc.ga 11 [] ?_
    refine Ar.out1 (.inr rfl) (Ho := Hp.only _ []) rfl (.tmp rfl) (Hp.sub_only _ _) ?_
    rotate_left
    refine Wc.ga 8 [] ?_
    rotate_left
    refine Wc.gc 12 [] ?_
    rotate_left
    · refine ⟨?_, rfl, rfl⟩
      have : p ≠ q := by rintro rfl; exact hc2 rfl
      simp [this]
    · refine Ar.again (k + 1) ?_ ?_ rfl ⟨rfl, rfl, rfl, trivial⟩ ⟨rfl, rfl, trivial⟩
      · exact ⟨by omega, take_eq_step (by omega) (by omega) hk2 (Decidable.not_not.1 hc2)⟩
      · omega
    · have hcode : p.code = q.code := by
        have : k = p.code.length := by omega
        subst this
        rw [List.take_length, List.take_of_length_le (by omega)] at hk2
        exact hk2
      clear hk1 hk2 hc1
      refine Wc.loop (ι := Nat) (fun k => ([(6, .int .i64 (k : Int)), (3, Go.Value.pointer (Option.some (Go.Addr.mk b2 0 Option.none))), (2, Go.Value.pointer (Option.some (Go.Addr.mk b1 0 Option.none)))], [(1, Option.some b2, Go.Obj.cells #[Go.Value.int Go.IntKind.i64 (Go.Proofs.YtbppmiimeccclaaGreatDoor.PV.ins q), Go.Value.int Go.IntKind.i64 (Go.Proofs.YtbppmiimeccclaaGreatDoor.PV.regs q), Go.Value.slice bc (List.length (Go.Proofs.YtbppmiimeccclaaGreatDoor.PV.code q)) dc, Go.Value.slice bo (List.length (Go.Proofs.YtbppmiimeccclaaGreatDoor.PV.outs q)) do_] 25), (0, Option.some b1, Go.Obj.cells #[Go.Value.int Go.IntKind.i64 (Go.Proofs.YtbppmiimeccclaaGreatDoor.PV.ins p), Go.Value.int Go.IntKind.i64 (Go.Proofs.YtbppmiimeccclaaGreatDoor.PV.regs p), Go.Value.slice ac (List.length (Go.Proofs.YtbppmiimeccclaaGreatDoor.PV.code p)) cc, Go.Value.slice ao (List.length (Go.Proofs.YtbppmiimeccclaaGreatDoor.PV.outs p)) co] 25)])) (fun k => k ≤ p.outs.length ∧ p.outs.take k = q.outs.take k) (fun k => p.outs.length - k) (0) (⟨Nat.zero_le _, rfl⟩) ⟨rfl, rfl, rfl, trivial⟩ ⟨rfl, rfl, trivial⟩ (fun k => fun (hk : k ≤ p.outs.length ∧ p.outs.take k = q.outs.take k) => ?_)
      obtain ⟨hk1, hk2⟩ := hk
      refine Wc.gc 10 [0] ?_
      refine Wc.cond rfl (fun hc1 => ?_) (fun hc1 => ?_)
      refine Wc.gc 5 [] ?_
      refine Wc.draw [0, 1] [] T.mixed rfl ?_
      refine Gm.q 0 [] (by kernel_rfl) rfl rfl (Qy.fieldAddr T.fa25_3 rfl) ?_
      refine Gm.q 1 [0] (by kernel_rfl) rfl rfl (Qy.load 0 T.one23 rfl rfl rfl) ?_
      refine Gm.q 2 [] (by kernel_rfl) rfl rfl (Qy.move rfl) ?_
      refine Gm.q 3 [] (by kernel_rfl) rfl rfl (Qy.at (α := Int) T.sl23 rfl rfl (by assumption) (by omega)) ?_
      refine Gm.q 4 [0] (by kernel_rfl) rfl rfl (Qy.loadG T.one3 rfl (Arr.cell (by assumption) (by omega) 0 rfl rfl)) ?_
      refine Gm.q 5 [] (by kernel_rfl) rfl rfl (Qy.fieldAddr T.fa25_3 rfl) ?_
      refine Gm.q 6 [1] (by kernel_rfl) rfl rfl (Qy.load 1 T.one23 rfl rfl rfl) ?_
      refine Gm.q 7 [] (by kernel_rfl) rfl rfl (Qy.move rfl) ?_
      refine Gm.q 8 [] (by kernel_rfl) rfl rfl (Qy.at (α := Int) T.sl23 rfl rfl (by assumption) (by omega)) ?_
      refine Gm.q 9 [0] (by kernel_rfl) rfl rfl (Qy.loadG T.one3 rfl (Arr.cell (by assumption) (by omega) 0 rfl rfl)) ?_
      refine Gm.q 10 [] (by kernel_rfl) rfl rfl (Qy.neq rfl rfl) ?_
      refine Gm.doneA (by kernel_rfl) ⟨rfl, rfl, trivial⟩ (by first | exact Imm.le_refl _ | assumption | (refine Imm.le_trans ?_ (by assumption); first | assumption | (refine Imm.le_trans ?_ (by assumption); assumption))) ?_
      refine Ar.next ?_
      refine Wc.cond rfl (fun hc2 => ?_) (fun hc2 => ?_)
      refine Wc.ga 11 [] ?_
      refine Ar.out1 (.inr rfl) (Ho := Hp.only _ []) rfl (.tmp rfl) (Hp.sub_only _ _) ?_
      rotate_left
      refine Wc.ga 8 [] ?_
      rotate_left
      refine Wc.ga 11 [] ?_
      refine Ar.out1 (.inr rfl) (Ho := Hp.only _ []) rfl (.tmp rfl) (Hp.sub_only _ _) ?_
      rotate_left
      · refine ⟨?_, rfl, rfl⟩
        have : p ≠ q := by rintro rfl; exact hc2 rfl
        simp [this]
      · refine Ar.again (k + 1) ?_ ?_ rfl ⟨rfl, rfl, rfl, trivial⟩ ⟨rfl, rfl, trivial⟩
        · exact ⟨by omega, take_eq_step (by omega) (by omega) hk2 (Decidable.not_not.1 hc2)⟩
        · omega
      · refine ⟨?_, rfl, rfl⟩
        have houts : p.outs = q.outs := by
          have : k = p.outs.length := by omega
          subst this
          rw [List.take_length, List.take_of_length_le (by omega)] at hk2
          exact hk2
        have : p = q := by cases p; cases q; simp_all
        simp [this]
/-- the table: what registers hold, what is known, who was first, the next value -/
structure Tab where
  held : List Int
  known : List (K4 × Int)
  first : List (K4 × Int)
  next : Int
end Go.Proofs.YtbppmiimeccclaaGreatDoor
namespace Go.Proofs.YtbppmiimeccclaaGreatDoor
open Go Go.Sl
set_option maxRecDepth 100000
set_option linter.unusedVariables false
set_option maxHeartbeats 2000000
theorem c19 (G : Imm) (a : Option Addr) (c : Nat) (xs : List Int) (hx : Arr G a xs) (hl : xs.length ≤ 1099511627776) :
    Does Tryz.prog 19 [.slice a xs.length c] G [] (fun v G' Ho => ∃ b d j, v = .slice b xs.length d ∧ OwnA b d xs j ∧ Ho = [(0, b.map (·.block), Row 3 xs j)] ∧ G' = G) := by
  refine Does.enter Tryz.func19 rfl Tryz.ntmps19 rfl (fun w => ?_)
  refine Wc.seq ?_
  refine Wc.region rfl ?_
  refine Wl.q rfl (Qy.assign rfl) ?_
  refine Wl.done ?_
  refine Ar.next ?_
  refine Wc.seq ?_
  refine Wc.seq ?_
  refine Wc.region rfl ?_
  refine Wl.q rfl (Qy.move rfl) ?_
  refine Wl.q rfl (Qy.eqlSliceNil T.sl23 rfl rfl) ?_
  refine Wl.done ?_
  refine Ar.next ?_
  refine Wc.cond rfl (fun hc1 => ?_) (fun hc1 => ?_)
  refine Wc.seq ?_
  refine Wc.region rfl ?_
  refine Wl.q rfl (Qy.assign rfl) ?_
  refine Wl.done ?_
  refine Ar.next ?_
  refine Wc.ret ?_
  refine Ar.passRet ?_
  rotate_left
  refine Wc.skip ?_
  refine Ar.next ?_
  refine Wc.seq ?_
  refine Wc.region rfl ?_
  refine Wl.lit0 0 rfl T.sl23 (fun b1 => ?_)
  refine Wl.q rfl (Qy.move rfl) ?_
  rotate_left
  · subst hc1
    have hn : xs = [] := by
      rcases hx.2 with h | ⟨b, o, h, _⟩
      · exact List.eq_nil_of_length_eq_zero h
      · cases h
    subst hn
    refine Ar.nilRow 0 (Row 3 ([] : List Int) []) ?_
    refine Ar.out1 (.inr rfl) (Ho := Hp.only _ [0]) rfl (.tmp rfl) (Hp.sub_only _ _) ?_
    exact ⟨none, 0, [], rfl, OwnA.nil, rfl, rfl⟩
  · refine Wl.reH 0 (Row 3 ([] : List Int) []) rfl rfl ?_
    refine Wl.append (α := Int) 0 rfl T.sl23 T.el3 rfl rfl rfl (OwnA.made (by simp)) (Src.arr (by assumption)) (by simp only [List.length_nil]; omega) (by simp only [List.length_nil, maxLen]; omega) (fun a1 c1 junk1 ho1 => ?_)
    refine Wl.q rfl (Qy.assign rfl) ?_
    refine Wl.done ?_
    refine Ar.next ?_
    refine Wc.ret ?_
    refine Ar.out1 (.inr rfl) (Ho := Hp.only _ [0]) rfl (.tmp rfl) (Hp.sub_only _ _) ?_
    exact ⟨_, _, _, rfl, ho1, rfl, rfl⟩
end Go.Proofs.YtbppmiimeccclaaGreatDoor
set_option maxRecDepth 100000
namespace Go.Proofs.YtbppmiimeccclaaGreatDoor.T
open Go Go.Sl
theorem ar139 : ArrayOf Tryz.prog 139 64 1 (List.replicate 64 (.int .u8 0)) := ArrayOf.of 5 (by kernel_rfl) (by kernel_rfl) (by kernel_rfl)
end Go.Proofs.YtbppmiimeccclaaGreatDoor.T
namespace Go.Proofs.YtbppmiimeccclaaGreatDoor
open Go Go.Sl
set_option maxRecDepth 100000
set_option maxHeartbeats 2000000
/-- the m of 2 to the m, m above 0; else 0 (of what may be a constant) -/
def powC (c : Int) : Int := if c = 2 then 1 else if c = 4 then 2 else if c = 8 then 3 else if c = 16 then 4 else if c = 32 then 5 else if c = 64 then 6 else if c = 128 then 7 else if c = 256 then 8 else if c = 512 then 9 else 0
def tab64 : List Value := [0, 1, 56, 2, 57, 49, 28, 3, 61, 58, 42, 50, 38, 29, 17, 4, 62, 47, 59, 36, 45, 43, 51, 22, 53, 39, 33, 30, 24, 18, 12, 5, 63, 55, 48, 27, 60, 41, 37, 16, 46, 35, 44, 21, 52, 32, 23, 11, 54, 26, 40, 15, 34, 20, 31, 10, 25, 14, 19, 9, 13, 8, 7, 6].map fun n => .int .u8 n
/-- the table lies there as the text lays it -/
def TabOk (G : Imm) : Prop := ∀ k v, tab64[k]? = some v → G.cell 1 k = some v
theorem TabOk.up {G G' : Imm} (h : TabOk G) (hl : G.le G') : TabOk G' := fun k v hv => Imm.cell_le hl (h k v hv)
theorem TabOk.cell {G : Imm} (h : TabOk G) (k : Nat) (v : Value) (hv : tab64[k]? = some v) : G.cell 1 k = some v := h k v hv
theorem pow_cases {c : Int} (h : powC c ≠ 0) : c = 2 ∨ c = 4 ∨ c = 8 ∨ c = 16 ∨ c = 32 ∨ c = 64 ∨ c = 128 ∨ c = 256 ∨ c = 512 := by
  unfold powC at h
  repeat' split at h
  all_goals omega
theorem pow_bits : ∀ k : Fin 511, (bits .and .i64 ((k.val : Int) + 2) ((k.val : Int) + 2 - 1) = 0) ↔ powC ((k.val : Int) + 2) ≠ 0 := by decide +kernel
theorem pow_bits' {c : Int} (h : 2 ≤ c ∧ c ≤ 512) : bits .and .i64 c (c - 1) = 0 ↔ powC c ≠ 0 := by
  have := pow_bits ⟨(c - 2).toNat, by omega⟩
  have e : (((c - 2).toNat : Nat) : Int) + 2 = c := by omega
  simpa only [e] using this
theorem pow_small {c : Int} (h : c < 2) : powC c = 0 := by
  unfold powC
  repeat' split
  all_goals omega
theorem c80 (G : Imm) (hT : TabOk G) (c : Int) (h : powC c ≠ 0) : Does Tryz.prog 80 [.int .u64 c] G [] (fun v G' Ho => v = .int .i64 (powC c) ∧ G' = G ∧ Ho = []) := by
  refine Does.enter Tryz.func80 rfl Tryz.ntmps80 rfl (fun w => ?_)
  rcases pow_cases h with rfl | rfl | rfl | rfl | rfl | rfl | rfl | rfl | rfl
  · have hcell := hT.cell 1 (.int .u8 1) rfl
    refine Wc.seq ?_
    refine Wc.region rfl ?_
    refine Wl.q rfl (Qy.assign rfl) ?_
    refine Wl.done ?_
    refine Ar.next ?_
    refine Wc.seq ?_
    refine Wc.seq ?_
    refine Wc.region rfl ?_
    refine Wl.q rfl (Qy.move rfl) ?_
    refine Wl.q rfl (Qy.eql rfl rfl) ?_
    refine Wl.done ?_
    refine Ar.next ?_
    refine Wc.condN rfl (by first | assumption | omega) ?_
    refine Wc.skip ?_
    refine Ar.next ?_
    refine Wc.seq ?_
    refine Wc.region rfl ?_
    refine Wl.q rfl (Qy.move rfl) ?_
    refine Wl.q rfl (Qy.move rfl) ?_
    refine Wl.q rfl (Qy.negW rfl) ?_
    refine Wl.q rfl (Qy.andW rfl rfl) ?_
    refine Wl.q rfl (Qy.mulW rfl rfl) ?_
    refine Wl.q rfl (Qy.shr rfl rfl (by omega)) ?_
    refine Wl.re 10 rfl (show _ = Value.int .u64 1 by kernel_rfl) ?_
    refine Wl.q rfl (Qy.indexAddrA 1 T.ar139 rfl rfl rfl rfl) ?_
    refine Wl.q rfl (Qy.loadG T.one5 rfl (by assumption)) ?_
    refine Wl.q rfl (Qy.conv rfl T.u3 rfl) ?_
    refine Wl.q rfl (Qy.assign rfl) ?_
    refine Wl.done ?_
    refine Ar.next ?_
    refine Wc.ret ?_
    refine Ar.out1 (.inr rfl) (Ho := Hp.only _ []) rfl (.tmp rfl) (Hp.sub_only _ _) ?_
    exact ⟨rfl, rfl, rfl⟩
  · have hcell := hT.cell 3 (.int .u8 2) rfl
    refine Wc.seq ?_
    refine Wc.region rfl ?_
    refine Wl.q rfl (Qy.assign rfl) ?_
    refine Wl.done ?_
    refine Ar.next ?_
    refine Wc.seq ?_
    refine Wc.seq ?_
    refine Wc.region rfl ?_
    refine Wl.q rfl (Qy.move rfl) ?_
    refine Wl.q rfl (Qy.eql rfl rfl) ?_
    refine Wl.done ?_
    refine Ar.next ?_
    refine Wc.condN rfl (by first | assumption | omega) ?_
    refine Wc.skip ?_
    refine Ar.next ?_
    refine Wc.seq ?_
    refine Wc.region rfl ?_
    refine Wl.q rfl (Qy.move rfl) ?_
    refine Wl.q rfl (Qy.move rfl) ?_
    refine Wl.q rfl (Qy.negW rfl) ?_
    refine Wl.q rfl (Qy.andW rfl rfl) ?_
    refine Wl.q rfl (Qy.mulW rfl rfl) ?_
    refine Wl.q rfl (Qy.shr rfl rfl (by omega)) ?_
    refine Wl.re 10 rfl (show _ = Value.int .u64 3 by kernel_rfl) ?_
    refine Wl.q rfl (Qy.indexAddrA 3 T.ar139 rfl rfl rfl rfl) ?_
    refine Wl.q rfl (Qy.loadG T.one5 rfl (by assumption)) ?_
    refine Wl.q rfl (Qy.conv rfl T.u3 rfl) ?_
    refine Wl.q rfl (Qy.assign rfl) ?_
    refine Wl.done ?_
    refine Ar.next ?_
    refine Wc.ret ?_
    refine Ar.out1 (.inr rfl) (Ho := Hp.only _ []) rfl (.tmp rfl) (Hp.sub_only _ _) ?_
    exact ⟨rfl, rfl, rfl⟩
  · have hcell := hT.cell 7 (.int .u8 3) rfl
    refine Wc.seq ?_
    refine Wc.region rfl ?_
    refine Wl.q rfl (Qy.assign rfl) ?_
    refine Wl.done ?_
    refine Ar.next ?_
    refine Wc.seq ?_
    refine Wc.seq ?_
    refine Wc.region rfl ?_
    refine Wl.q rfl (Qy.move rfl) ?_
    refine Wl.q rfl (Qy.eql rfl rfl) ?_
    refine Wl.done ?_
    refine Ar.next ?_
    refine Wc.condN rfl (by first | assumption | omega) ?_
    refine Wc.skip ?_
    refine Ar.next ?_
    refine Wc.seq ?_
    refine Wc.region rfl ?_
    refine Wl.q rfl (Qy.move rfl) ?_
    refine Wl.q rfl (Qy.move rfl) ?_
    refine Wl.q rfl (Qy.negW rfl) ?_
    refine Wl.q rfl (Qy.andW rfl rfl) ?_
    refine Wl.q rfl (Qy.mulW rfl rfl) ?_
    refine Wl.q rfl (Qy.shr rfl rfl (by omega)) ?_
    refine Wl.re 10 rfl (show _ = Value.int .u64 7 by kernel_rfl) ?_
    refine Wl.q rfl (Qy.indexAddrA 7 T.ar139 rfl rfl rfl rfl) ?_
    refine Wl.q rfl (Qy.loadG T.one5 rfl (by assumption)) ?_
    refine Wl.q rfl (Qy.conv rfl T.u3 rfl) ?_
    refine Wl.q rfl (Qy.assign rfl) ?_
    refine Wl.done ?_
    refine Ar.next ?_
    refine Wc.ret ?_
    refine Ar.out1 (.inr rfl) (Ho := Hp.only _ []) rfl (.tmp rfl) (Hp.sub_only _ _) ?_
    exact ⟨rfl, rfl, rfl⟩
  · have hcell := hT.cell 15 (.int .u8 4) rfl
    refine Wc.seq ?_
    refine Wc.region rfl ?_
    refine Wl.q rfl (Qy.assign rfl) ?_
    refine Wl.done ?_
    refine Ar.next ?_
    refine Wc.seq ?_
    refine Wc.seq ?_
    refine Wc.region rfl ?_
    refine Wl.q rfl (Qy.move rfl) ?_
    refine Wl.q rfl (Qy.eql rfl rfl) ?_
    refine Wl.done ?_
    refine Ar.next ?_
    refine Wc.condN rfl (by first | assumption | omega) ?_
    refine Wc.skip ?_
    refine Ar.next ?_
    refine Wc.seq ?_
    refine Wc.region rfl ?_
    refine Wl.q rfl (Qy.move rfl) ?_
    refine Wl.q rfl (Qy.move rfl) ?_
    refine Wl.q rfl (Qy.negW rfl) ?_
    refine Wl.q rfl (Qy.andW rfl rfl) ?_
    refine Wl.q rfl (Qy.mulW rfl rfl) ?_
    refine Wl.q rfl (Qy.shr rfl rfl (by omega)) ?_
    refine Wl.re 10 rfl (show _ = Value.int .u64 15 by kernel_rfl) ?_
    refine Wl.q rfl (Qy.indexAddrA 15 T.ar139 rfl rfl rfl rfl) ?_
    refine Wl.q rfl (Qy.loadG T.one5 rfl (by assumption)) ?_
    refine Wl.q rfl (Qy.conv rfl T.u3 rfl) ?_
    refine Wl.q rfl (Qy.assign rfl) ?_
    refine Wl.done ?_
    refine Ar.next ?_
    refine Wc.ret ?_
    refine Ar.out1 (.inr rfl) (Ho := Hp.only _ []) rfl (.tmp rfl) (Hp.sub_only _ _) ?_
    exact ⟨rfl, rfl, rfl⟩
  · have hcell := hT.cell 31 (.int .u8 5) rfl
    refine Wc.seq ?_
    refine Wc.region rfl ?_
    refine Wl.q rfl (Qy.assign rfl) ?_
    refine Wl.done ?_
    refine Ar.next ?_
    refine Wc.seq ?_
    refine Wc.seq ?_
    refine Wc.region rfl ?_
    refine Wl.q rfl (Qy.move rfl) ?_
    refine Wl.q rfl (Qy.eql rfl rfl) ?_
    refine Wl.done ?_
    refine Ar.next ?_
    refine Wc.condN rfl (by first | assumption | omega) ?_
    refine Wc.skip ?_
    refine Ar.next ?_
    refine Wc.seq ?_
    refine Wc.region rfl ?_
    refine Wl.q rfl (Qy.move rfl) ?_
    refine Wl.q rfl (Qy.move rfl) ?_
    refine Wl.q rfl (Qy.negW rfl) ?_
    refine Wl.q rfl (Qy.andW rfl rfl) ?_
    refine Wl.q rfl (Qy.mulW rfl rfl) ?_
    refine Wl.q rfl (Qy.shr rfl rfl (by omega)) ?_
    refine Wl.re 10 rfl (show _ = Value.int .u64 31 by kernel_rfl) ?_
    refine Wl.q rfl (Qy.indexAddrA 31 T.ar139 rfl rfl rfl rfl) ?_
    refine Wl.q rfl (Qy.loadG T.one5 rfl (by assumption)) ?_
    refine Wl.q rfl (Qy.conv rfl T.u3 rfl) ?_
    refine Wl.q rfl (Qy.assign rfl) ?_
    refine Wl.done ?_
    refine Ar.next ?_
    refine Wc.ret ?_
    refine Ar.out1 (.inr rfl) (Ho := Hp.only _ []) rfl (.tmp rfl) (Hp.sub_only _ _) ?_
    exact ⟨rfl, rfl, rfl⟩
  · have hcell := hT.cell 63 (.int .u8 6) rfl
    refine Wc.seq ?_
    refine Wc.region rfl ?_
    refine Wl.q rfl (Qy.assign rfl) ?_
    refine Wl.done ?_
    refine Ar.next ?_
    refine Wc.seq ?_
    refine Wc.seq ?_
    refine Wc.region rfl ?_
    refine Wl.q rfl (Qy.move rfl) ?_
    refine Wl.q rfl (Qy.eql rfl rfl) ?_
    refine Wl.done ?_
    refine Ar.next ?_
    refine Wc.condN rfl (by first | assumption | omega) ?_
    refine Wc.skip ?_
    refine Ar.next ?_
    refine Wc.seq ?_
    refine Wc.region rfl ?_
    refine Wl.q rfl (Qy.move rfl) ?_
    refine Wl.q rfl (Qy.move rfl) ?_
    refine Wl.q rfl (Qy.negW rfl) ?_
    refine Wl.q rfl (Qy.andW rfl rfl) ?_
    refine Wl.q rfl (Qy.mulW rfl rfl) ?_
    refine Wl.q rfl (Qy.shr rfl rfl (by omega)) ?_
    refine Wl.re 10 rfl (show _ = Value.int .u64 63 by kernel_rfl) ?_
    refine Wl.q rfl (Qy.indexAddrA 63 T.ar139 rfl rfl rfl rfl) ?_
    refine Wl.q rfl (Qy.loadG T.one5 rfl (by assumption)) ?_
    refine Wl.q rfl (Qy.conv rfl T.u3 rfl) ?_
    refine Wl.q rfl (Qy.assign rfl) ?_
    refine Wl.done ?_
    refine Ar.next ?_
    refine Wc.ret ?_
    refine Ar.out1 (.inr rfl) (Ho := Hp.only _ []) rfl (.tmp rfl) (Hp.sub_only _ _) ?_
    exact ⟨rfl, rfl, rfl⟩
  · have hcell := hT.cell 62 (.int .u8 7) rfl
    refine Wc.seq ?_
    refine Wc.region rfl ?_
    refine Wl.q rfl (Qy.assign rfl) ?_
    refine Wl.done ?_
    refine Ar.next ?_
    refine Wc.seq ?_
    refine Wc.seq ?_
    refine Wc.region rfl ?_
    refine Wl.q rfl (Qy.move rfl) ?_
    refine Wl.q rfl (Qy.eql rfl rfl) ?_
    refine Wl.done ?_
    refine Ar.next ?_
    refine Wc.condN rfl (by first | assumption | omega) ?_
    refine Wc.skip ?_
    refine Ar.next ?_
    refine Wc.seq ?_
    refine Wc.region rfl ?_
    refine Wl.q rfl (Qy.move rfl) ?_
    refine Wl.q rfl (Qy.move rfl) ?_
    refine Wl.q rfl (Qy.negW rfl) ?_
    refine Wl.q rfl (Qy.andW rfl rfl) ?_
    refine Wl.q rfl (Qy.mulW rfl rfl) ?_
    refine Wl.q rfl (Qy.shr rfl rfl (by omega)) ?_
    refine Wl.re 10 rfl (show _ = Value.int .u64 62 by kernel_rfl) ?_
    refine Wl.q rfl (Qy.indexAddrA 62 T.ar139 rfl rfl rfl rfl) ?_
    refine Wl.q rfl (Qy.loadG T.one5 rfl (by assumption)) ?_
    refine Wl.q rfl (Qy.conv rfl T.u3 rfl) ?_
    refine Wl.q rfl (Qy.assign rfl) ?_
    refine Wl.done ?_
    refine Ar.next ?_
    refine Wc.ret ?_
    refine Ar.out1 (.inr rfl) (Ho := Hp.only _ []) rfl (.tmp rfl) (Hp.sub_only _ _) ?_
    exact ⟨rfl, rfl, rfl⟩
  · have hcell := hT.cell 61 (.int .u8 8) rfl
    refine Wc.seq ?_
    refine Wc.region rfl ?_
    refine Wl.q rfl (Qy.assign rfl) ?_
    refine Wl.done ?_
    refine Ar.next ?_
    refine Wc.seq ?_
    refine Wc.seq ?_
    refine Wc.region rfl ?_
    refine Wl.q rfl (Qy.move rfl) ?_
    refine Wl.q rfl (Qy.eql rfl rfl) ?_
    refine Wl.done ?_
    refine Ar.next ?_
    refine Wc.condN rfl (by first | assumption | omega) ?_
    refine Wc.skip ?_
    refine Ar.next ?_
    refine Wc.seq ?_
    refine Wc.region rfl ?_
    refine Wl.q rfl (Qy.move rfl) ?_
    refine Wl.q rfl (Qy.move rfl) ?_
    refine Wl.q rfl (Qy.negW rfl) ?_
    refine Wl.q rfl (Qy.andW rfl rfl) ?_
    refine Wl.q rfl (Qy.mulW rfl rfl) ?_
    refine Wl.q rfl (Qy.shr rfl rfl (by omega)) ?_
    refine Wl.re 10 rfl (show _ = Value.int .u64 61 by kernel_rfl) ?_
    refine Wl.q rfl (Qy.indexAddrA 61 T.ar139 rfl rfl rfl rfl) ?_
    refine Wl.q rfl (Qy.loadG T.one5 rfl (by assumption)) ?_
    refine Wl.q rfl (Qy.conv rfl T.u3 rfl) ?_
    refine Wl.q rfl (Qy.assign rfl) ?_
    refine Wl.done ?_
    refine Ar.next ?_
    refine Wc.ret ?_
    refine Ar.out1 (.inr rfl) (Ho := Hp.only _ []) rfl (.tmp rfl) (Hp.sub_only _ _) ?_
    exact ⟨rfl, rfl, rfl⟩
  · have hcell := hT.cell 59 (.int .u8 9) rfl
    refine Wc.seq ?_
    refine Wc.region rfl ?_
    refine Wl.q rfl (Qy.assign rfl) ?_
    refine Wl.done ?_
    refine Ar.next ?_
    refine Wc.seq ?_
    refine Wc.seq ?_
    refine Wc.region rfl ?_
    refine Wl.q rfl (Qy.move rfl) ?_
    refine Wl.q rfl (Qy.eql rfl rfl) ?_
    refine Wl.done ?_
    refine Ar.next ?_
    refine Wc.condN rfl (by first | assumption | omega) ?_
    refine Wc.skip ?_
    refine Ar.next ?_
    refine Wc.seq ?_
    refine Wc.region rfl ?_
    refine Wl.q rfl (Qy.move rfl) ?_
    refine Wl.q rfl (Qy.move rfl) ?_
    refine Wl.q rfl (Qy.negW rfl) ?_
    refine Wl.q rfl (Qy.andW rfl rfl) ?_
    refine Wl.q rfl (Qy.mulW rfl rfl) ?_
    refine Wl.q rfl (Qy.shr rfl rfl (by omega)) ?_
    refine Wl.re 10 rfl (show _ = Value.int .u64 59 by kernel_rfl) ?_
    refine Wl.q rfl (Qy.indexAddrA 59 T.ar139 rfl rfl rfl rfl) ?_
    refine Wl.q rfl (Qy.loadG T.one5 rfl (by assumption)) ?_
    refine Wl.q rfl (Qy.conv rfl T.u3 rfl) ?_
    refine Wl.q rfl (Qy.assign rfl) ?_
    refine Wl.done ?_
    refine Ar.next ?_
    refine Wc.ret ?_
    refine Ar.out1 (.inr rfl) (Ho := Hp.only _ []) rfl (.tmp rfl) (Hp.sub_only _ _) ?_
    exact ⟨rfl, rfl, rfl⟩
theorem c59 (G : Imm) (hT : TabOk G) (c : Int) (h : powC c ≠ 0) : Does Tryz.prog 59 [.int .u64 c] G [] (fun v G' Ho => v = .int .i64 (powC c) ∧ G' = G ∧ Ho = []) := by
  refine Does.enter Tryz.func59 rfl Tryz.ntmps59 rfl (fun w => ?_)
  refine Wc.seq ?_
  refine Wc.region rfl ?_
  refine Wl.q rfl (Qy.assign rfl) ?_
  refine Wl.done ?_
  refine Ar.next ?_
  refine Wc.seq ?_
  refine Wc.condF rfl ?_
  refine Wc.skip ?_
  refine Ar.next ?_
  refine Wc.seq ?_
  refine Wc.region rfl ?_
  refine Wl.q rfl (Qy.move rfl) ?_
  refine Wl.call0 rfl T.fn80 rfl (c80 _ (by assumption) _ (by assumption)) ?_
  refine Wl.q rfl (Qy.assign rfl) ?_
  refine Wl.done ?_
  refine Ar.next ?_
  refine Wc.ret ?_
  refine Ar.out1 (.inr rfl) (Ho := Hp.only _ []) rfl (.tmp rfl) (Hp.sub_only _ _) ?_
  exact ⟨rfl, rfl, rfl⟩
theorem c34 (G : Imm) (hT : TabOk G) (c : Int) (hb : -512 ≤ c ∧ c ≤ 512) : Does Tryz.prog 34 [.int .i64 c] G [] (fun v G' Ho => v = .tuple #[.int .i64 (powC c), .bool (decide (powC c ≠ 0))] ∧ G' = G ∧ Ho = []) := by
  refine Does.enter Tryz.func34 rfl Tryz.ntmps34 rfl (fun w => ?_)
  refine Wc.seq ?_
  refine Wc.region rfl ?_
  refine Wl.q rfl (Qy.assign rfl) ?_
  refine Wl.q rfl (Qy.assign rfl) ?_
  refine Wl.done ?_
  refine Ar.next ?_
  refine Wc.seq ?_
  refine Wc.seq ?_
  refine Wc.region rfl ?_
  refine Wl.q rfl (Qy.move rfl) ?_
  refine Wl.q rfl (Qy.lss rfl rfl) ?_
  refine Wl.q rfl (Qy.move rfl) ?_
  apply Wl.joinOr 6 6 12 rfl
  intro hg1
  refine Wl.want rfl rfl ?_
  refine Wl.q rfl (Qy.move rfl) ?_
  refine Wl.want rfl rfl ?_
  refine Wl.q rfl (Qy.move rfl) ?_
  refine Wl.want rfl rfl ?_
  refine Wl.q rfl (Qy.sub rfl rfl (by omega)) ?_
  refine Wl.want rfl rfl ?_
  refine Wl.q rfl (Qy.andW rfl rfl) ?_
  refine Wl.want rfl rfl ?_
  refine Wl.q rfl (Qy.neq rfl rfl) ?_
  refine Wl.q rfl (Qy.pick rfl rfl) ?_
  exact Wl.back 6 0 rfl rfl rfl rfl rfl
  intro hg1
  refine Wl.pass rfl rfl rfl ?_
  refine Wl.pass rfl rfl rfl ?_
  refine Wl.pass rfl rfl rfl ?_
  refine Wl.pass rfl rfl rfl ?_
  refine Wl.pass rfl rfl rfl ?_
  refine Wl.q rfl (Qy.pick rfl rfl) ?_
  exact Wl.back 6 0 rfl rfl rfl rfl rfl
  refine Wl.done ?_
  refine Ar.next ?_
  refine Wc.cond rfl (fun hc1 => ?_) (fun hc1 => ?_)
  refine Wc.seq ?_
  refine Wc.region rfl ?_
  refine Wl.q rfl (Qy.assign rfl) ?_
  refine Wl.q rfl (Qy.assign rfl) ?_
  refine Wl.done ?_
  refine Ar.next ?_
  refine Wc.ret ?_
  refine Ar.passRet ?_
  refine Ar.out2 (.inr rfl) (Ho := Hp.only _ []) rfl (.tmp rfl) (.tmp rfl) (Hp.sub_only _ _) ?_
  rotate_left
  refine Wc.skip ?_
  refine Ar.next ?_
  refine Wc.seq ?_
  refine Wc.region rfl ?_
  refine Wl.q rfl (Qy.move rfl) ?_
  refine Wl.q rfl (Qy.conv rfl T.u98 rfl) ?_
  rotate_left
  · have hp : powC c = 0 := by
      rcases hc1 with h | h
      · exact pow_small h
      · rcases Int.lt_or_le c 2 with h2 | h2
        · exact pow_small h2
        · exact Classical.byContradiction fun hn => h ((pow_bits' ⟨h2, hb.2⟩).2 hn)
    rw [hp]; exact ⟨rfl, rfl, rfl⟩
  · simp only [not_or, ne_eq, Decidable.not_not] at hc1
    have hp : powC c ≠ 0 := (pow_bits' ⟨by omega, hb.2⟩).1 hc1.2
    have hw : IntKind.u64.wrap c = c := by rcases pow_cases hp with rfl | rfl | rfl | rfl | rfl | rfl | rfl | rfl | rfl <;> rfl
    refine Wl.re 14 rfl (show _ = Value.int .u64 c by rw [hw]) ?_
    refine Wl.call0 rfl T.fn59 rfl (c59 _ (by assumption) _ (by assumption)) ?_
    refine Wl.q rfl (Qy.assign rfl) ?_
    refine Wl.q rfl (Qy.assign rfl) ?_
    refine Wl.done ?_
    refine Ar.next ?_
    refine Wc.ret ?_
    refine Ar.out2 (.inr rfl) (Ho := Hp.only _ []) rfl (.tmp rfl) (.tmp rfl) (Hp.sub_only _ _) ?_
    exact ⟨by simp [hp], rfl, rfl⟩
theorem c35 (G : Imm) (op to a c : Int) : Does Tryz.prog 35 [.int .i64 op, .int .i64 to, .int .i64 a, .int .i64 c] G [] (fun v G' Ho => v = .agg (Cells.enc (⟨op, to, a, 0, c⟩ : Sl.Instr)).toArray ∧ G' = G ∧ Ho = []) := by
  refine Does.enter Tryz.func35 rfl Tryz.ntmps35 rfl (fun w => ?_)
  refine Wc.seq ?_
  refine Wc.region rfl ?_
  refine Wl.alloc 0 rfl T.zero46 (fun b1 => ?_)
  refine Wl.done ?_
  refine Ar.next ?_
  refine Wc.seq ?_
  refine Wc.region rfl ?_
  refine Wl.q rfl (Qy.move rfl) ?_
  refine Wl.q rfl (Qy.move rfl) ?_
  refine Wl.q rfl (Qy.move rfl) ?_
  refine Wl.q rfl (Qy.move rfl) ?_
  refine Wl.q rfl (Qy.build (cs := [_, _, _, _, _]) T.st46 rfl rfl rfl) ?_
  refine Wl.storeAll 0 T.size46 rfl rfl rfl rfl rfl rfl ?_
  refine Wl.done ?_
  refine Ar.next ?_
  refine Wc.ret ?_
  refine Ar.out1 (.inr rfl) (Ho := Hp.only _ []) rfl (.agg 0 rfl rfl T.agg46) (Hp.sub_only _ _) ?_
  exact ⟨rfl, rfl, rfl⟩
theorem c60 (G : Imm) (c : Int) : Does Tryz.prog 60 [.int .i64 c] G [] (fun v G' Ho => v = .bool (decide (-512 ≤ c ∧ c ≤ 512)) ∧ G' = G ∧ Ho = []) := by
  refine Does.enter Tryz.func60 rfl Tryz.ntmps60 rfl (fun w => ?_)
  refine Wc.seq ?_
  refine Wc.region rfl ?_
  refine Wl.q rfl (Qy.assign rfl) ?_
  refine Wl.done ?_
  refine Ar.next ?_
  refine Wc.seq ?_
  refine Wc.region rfl ?_
  refine Wl.q rfl (Qy.move rfl) ?_
  refine Wl.q rfl (Qy.geq rfl rfl) ?_
  refine Wl.q rfl (Qy.move rfl) ?_
  apply Wl.joinAnd 3 5 8 rfl
  intro hg1
  refine Wl.want rfl rfl ?_
  refine Wl.q rfl (Qy.move rfl) ?_
  refine Wl.want rfl rfl ?_
  refine Wl.q rfl (Qy.leq rfl rfl) ?_
  refine Wl.q rfl (Qy.pick rfl rfl) ?_
  exact Wl.back 3 0 rfl rfl rfl rfl rfl
  intro hg1
  refine Wl.pass rfl rfl rfl ?_
  refine Wl.pass rfl rfl rfl ?_
  refine Wl.q rfl (Qy.pick rfl rfl) ?_
  exact Wl.back 3 0 rfl rfl rfl rfl rfl
  refine Wl.q rfl (Qy.assign rfl) ?_
  refine Wl.done ?_
  refine Ar.next ?_
  refine Wc.ret ?_
  refine Ar.out1 (.inr rfl) (Ho := Hp.only _ []) rfl (.tmp rfl) (Hp.sub_only _ _) ?_
  exact ⟨rfl, rfl, rfl⟩
/-- the plain form -/
def plainP (i : Sl.Instr) : Sl.Instr :=
  if i.op = 3 then (if i.a = i.b then ⟨7, i.to, i.a, 0, 1⟩ else i)
  else if i.op = 5 ∨ i.op = 6 then
    (if i.c = 1 then ⟨1, i.to, i.a, 0, 0⟩ else if i.c = -1 then ⟨2, i.to, i.a, 0, 0⟩ else if powC i.c ≠ 0 then (if i.op = 5 then ⟨7, i.to, i.a, 0, powC i.c⟩ else ⟨8, i.to, i.a, 0, powC i.c⟩) else i)
  else i
theorem c17 (G : Imm) (hT : TabOk G) (i : Sl.Instr) (hb : -512 ≤ i.c ∧ i.c ≤ 512) : Does Tryz.prog 17 [.agg (Cells.enc i).toArray] G [] (fun v G' Ho => v = .agg (Cells.enc (plainP i)).toArray ∧ G' = G ∧ Ho = []) := by
  refine Does.enter Tryz.func17 rfl Tryz.ntmps17 rfl (fun w => ?_)
  refine Wc.seq ?_
  refine Wc.region rfl ?_
  refine Wl.box 0 rfl rfl rfl (fun b1 => ?_)
  refine Wl.alloc 1 rfl T.zero46 (fun b2 => ?_)
  refine Wl.done ?_
  refine Ar.next ?_
  refine Wc.seq ?_
  refine Wc.region rfl ?_
  refine Wl.q rfl (Qy.fieldAddr T.fa46_4 rfl) ?_
  refine Wl.q rfl (Qy.load 0 T.one3 rfl rfl rfl) ?_
  refine Wl.call0 rfl T.fn34 rfl (c34 _ (by assumption) _ (by omega)) ?_
  refine Wl.q rfl (Qy.move rfl) ?_
  refine Wl.q rfl (Qy.extract rfl rfl) ?_
  refine Wl.q rfl (Qy.extract rfl rfl) ?_
  refine Wl.q rfl (Qy.assign rfl) ?_
  refine Wl.q rfl (Qy.assign rfl) ?_
  refine Wl.done ?_
  refine Ar.next ?_
  refine Wc.seq ?_
  refine Wc.seq ?_
  refine Wc.region rfl ?_
  refine Wl.q rfl (Qy.fieldAddr T.fa46_0 rfl) ?_
  refine Wl.q rfl (Qy.load 0 T.one3 rfl rfl rfl) ?_
  refine Wl.done ?_
  refine Ar.next ?_
  refine Wc.block ?_
  refine Wc.seq ?_
  refine Wc.region rfl ?_
  refine Wl.q rfl (Qy.eql rfl rfl) ?_
  refine Wl.q rfl (Qy.assign rfl) ?_
  refine Wl.done ?_
  refine Ar.next ?_
  refine Wc.cond rfl (fun hc1 => ?_) (fun hc1 => ?_)
  refine Wc.seq ?_
  refine Wc.region rfl ?_
  refine Wl.q rfl (Qy.fieldAddr T.fa46_2 rfl) ?_
  refine Wl.q rfl (Qy.load 0 T.one3 rfl rfl rfl) ?_
  refine Wl.q rfl (Qy.fieldAddr T.fa46_3 rfl) ?_
  refine Wl.q rfl (Qy.load 0 T.one3 rfl rfl rfl) ?_
  refine Wl.q rfl (Qy.eql rfl rfl) ?_
  refine Wl.done ?_
  refine Ar.next ?_
  refine Wc.cond rfl (fun hc2 => ?_) (fun hc2 => ?_)
  refine Wc.seq ?_
  refine Wc.region rfl ?_
  refine Wl.q rfl (Qy.fieldAddr T.fa46_1 rfl) ?_
  refine Wl.q rfl (Qy.load 0 T.one3 rfl rfl rfl) ?_
  refine Wl.q rfl (Qy.fieldAddr T.fa46_2 rfl) ?_
  refine Wl.q rfl (Qy.load 0 T.one3 rfl rfl rfl) ?_
  refine Wl.call0 rfl T.fn35 rfl (c35 _ _ _ _ _) ?_
  refine Wl.storeAll 1 T.size46 rfl rfl rfl rfl rfl rfl ?_
  refine Wl.done ?_
  refine Ar.next ?_
  refine Wc.ret ?_
  refine Ar.outRet ?_
  refine Ar.passRet ?_
  refine Ar.out1 (.inr rfl) (Ho := Hp.only _ []) rfl (.agg 1 rfl rfl T.agg46) (Hp.sub_only _ _) ?_
  rotate_left
  refine Wc.skip ?_
  refine Ar.outNormal ?_
  refine Ar.next ?_
  refine Wc.seq ?_
  refine Wc.region rfl ?_
  refine Wl.q rfl (Qy.loadAll 0 T.agg46 rfl rfl rfl) ?_
  refine Wl.storeAll 1 T.size46 rfl rfl rfl rfl rfl rfl ?_
  refine Wl.done ?_
  refine Ar.next ?_
  refine Wc.ret ?_
  refine Ar.out1 (.inr rfl) (Ho := Hp.only _ []) rfl (.agg 1 rfl rfl T.agg46) (Hp.sub_only _ _) ?_
  rotate_left
  refine Wc.seq ?_
  refine Wc.seq ?_
  refine Wc.region rfl ?_
  refine Wl.q rfl (Qy.eql rfl rfl) ?_
  refine Wl.q rfl (Qy.assign rfl) ?_
  refine Wl.done ?_
  refine Ar.next ?_
  refine Wc.cond rfl (fun hc2 => ?_) (fun hc2 => ?_)
  refine Wc.skip ?_
  refine Ar.next ?_
  refine Wc.condP rfl (by first | assumption | omega) ?_
  refine Wc.block ?_
  refine Wc.seq ?_
  refine Wc.region rfl ?_
  refine Wl.q rfl (Qy.fieldAddr T.fa46_4 rfl) ?_
  refine Wl.q rfl (Qy.load 0 T.one3 rfl rfl rfl) ?_
  refine Wl.q rfl (Qy.eql rfl rfl) ?_
  refine Wl.q rfl (Qy.assign rfl) ?_
  refine Wl.done ?_
  refine Ar.next ?_
  refine Wc.cond rfl (fun hc3 => ?_) (fun hc3 => ?_)
  refine Wc.seq ?_
  refine Wc.region rfl ?_
  refine Wl.q rfl (Qy.fieldAddr T.fa46_1 rfl) ?_
  refine Wl.q rfl (Qy.load 0 T.one3 rfl rfl rfl) ?_
  refine Wl.q rfl (Qy.fieldAddr T.fa46_2 rfl) ?_
  refine Wl.q rfl (Qy.load 0 T.one3 rfl rfl rfl) ?_
  refine Wl.call0 rfl T.fn35 rfl (c35 _ _ _ _ _) ?_
  refine Wl.storeAll 1 T.size46 rfl rfl rfl rfl rfl rfl ?_
  refine Wl.done ?_
  refine Ar.next ?_
  refine Wc.ret ?_
  refine Ar.outRet ?_
  refine Ar.outRet ?_
  refine Ar.passRet ?_
  refine Ar.out1 (.inr rfl) (Ho := Hp.only _ []) rfl (.agg 1 rfl rfl T.agg46) (Hp.sub_only _ _) ?_
  rotate_left
  refine Wc.seq ?_
  refine Wc.region rfl ?_
  refine Wl.q rfl (Qy.fieldAddr T.fa46_4 rfl) ?_
  refine Wl.q rfl (Qy.load 0 T.one3 rfl rfl rfl) ?_
  refine Wl.q rfl (Qy.eql rfl rfl) ?_
  refine Wl.q rfl (Qy.assign rfl) ?_
  refine Wl.done ?_
  refine Ar.next ?_
  refine Wc.cond rfl (fun hc4 => ?_) (fun hc4 => ?_)
  refine Wc.seq ?_
  refine Wc.region rfl ?_
  refine Wl.q rfl (Qy.fieldAddr T.fa46_1 rfl) ?_
  refine Wl.q rfl (Qy.load 0 T.one3 rfl rfl rfl) ?_
  refine Wl.q rfl (Qy.fieldAddr T.fa46_2 rfl) ?_
  refine Wl.q rfl (Qy.load 0 T.one3 rfl rfl rfl) ?_
  refine Wl.call0 rfl T.fn35 rfl (c35 _ _ _ _ _) ?_
  refine Wl.storeAll 1 T.size46 rfl rfl rfl rfl rfl rfl ?_
  refine Wl.done ?_
  refine Ar.next ?_
  refine Wc.ret ?_
  refine Ar.outRet ?_
  refine Ar.outRet ?_
  refine Ar.passRet ?_
  refine Ar.out1 (.inr rfl) (Ho := Hp.only _ []) rfl (.agg 1 rfl rfl T.agg46) (Hp.sub_only _ _) ?_
  rotate_left
  refine Wc.seq ?_
  refine Wc.region rfl ?_
  refine Wl.q rfl (Qy.move rfl) ?_
  refine Wl.q rfl (Qy.move rfl) ?_
  apply Wl.joinAnd 4 48 52 rfl
  intro hg1
  refine Wl.want rfl rfl ?_
  refine Wl.q rfl (Qy.fieldAddr T.fa46_0 rfl) ?_
  refine Wl.want rfl rfl ?_
  refine Wl.q rfl (Qy.load 0 T.one3 rfl rfl rfl) ?_
  refine Wl.want rfl rfl ?_
  refine Wl.q rfl (Qy.eql rfl rfl) ?_
  refine Wl.q rfl (Qy.pick rfl rfl) ?_
  exact Wl.back 4 0 rfl rfl rfl rfl rfl
  intro hg1
  refine Wl.pass rfl rfl rfl ?_
  refine Wl.pass rfl rfl rfl ?_
  refine Wl.pass rfl rfl rfl ?_
  refine Wl.q rfl (Qy.pick rfl rfl) ?_
  exact Wl.back 4 0 rfl rfl rfl rfl rfl
  refine Wl.q rfl (Qy.assign rfl) ?_
  refine Wl.done ?_
  refine Ar.next ?_
  refine Wc.cond rfl (fun hc5 => ?_) (fun hc5 => ?_)
  refine Wc.seq ?_
  refine Wc.region rfl ?_
  refine Wl.q rfl (Qy.fieldAddr T.fa46_1 rfl) ?_
  refine Wl.q rfl (Qy.load 0 T.one3 rfl rfl rfl) ?_
  refine Wl.q rfl (Qy.fieldAddr T.fa46_2 rfl) ?_
  refine Wl.q rfl (Qy.load 0 T.one3 rfl rfl rfl) ?_
  refine Wl.q rfl (Qy.move rfl) ?_
  refine Wl.call0 rfl T.fn35 rfl (c35 _ _ _ _ _) ?_
  refine Wl.storeAll 1 T.size46 rfl rfl rfl rfl rfl rfl ?_
  refine Wl.done ?_
  refine Ar.next ?_
  refine Wc.ret ?_
  refine Ar.outRet ?_
  refine Ar.outRet ?_
  refine Ar.passRet ?_
  refine Ar.out1 (.inr rfl) (Ho := Hp.only _ []) rfl (.agg 1 rfl rfl T.agg46) (Hp.sub_only _ _) ?_
  rotate_left
  refine Wc.seq ?_
  refine Wc.region rfl ?_
  refine Wl.q rfl (Qy.move rfl) ?_
  refine Wl.q rfl (Qy.assign rfl) ?_
  refine Wl.done ?_
  refine Ar.next ?_
  refine Wc.condN rfl (by first | assumption | omega) ?_
  refine Wc.skip ?_
  refine Ar.outNormal ?_
  refine Ar.outNormal ?_
  refine Ar.next ?_
  refine Wc.seq ?_
  refine Wc.region rfl ?_
  refine Wl.q rfl (Qy.loadAll 0 T.agg46 rfl rfl rfl) ?_
  refine Wl.storeAll 1 T.size46 rfl rfl rfl rfl rfl rfl ?_
  refine Wl.done ?_
  refine Ar.next ?_
  refine Wc.ret ?_
  refine Ar.out1 (.inr rfl) (Ho := Hp.only _ []) rfl (.agg 1 rfl rfl T.agg46) (Hp.sub_only _ _) ?_
  rotate_left
  refine Wc.region rfl ?_
  refine Wl.q rfl (Qy.eql rfl rfl) ?_
  refine Wl.q rfl (Qy.assign rfl) ?_
  refine Wl.done ?_
  refine Ar.next ?_
  refine Wc.cond rfl (fun hc3 => ?_) (fun hc3 => ?_)
  refine Wc.block ?_
  refine Wc.seq ?_
  refine Wc.region rfl ?_
  refine Wl.q rfl (Qy.fieldAddr T.fa46_4 rfl) ?_
  refine Wl.q rfl (Qy.load 0 T.one3 rfl rfl rfl) ?_
  refine Wl.q rfl (Qy.eql rfl rfl) ?_
  refine Wl.q rfl (Qy.assign rfl) ?_
  refine Wl.done ?_
  refine Ar.next ?_
  refine Wc.cond rfl (fun hc4 => ?_) (fun hc4 => ?_)
  refine Wc.seq ?_
  refine Wc.region rfl ?_
  refine Wl.q rfl (Qy.fieldAddr T.fa46_1 rfl) ?_
  refine Wl.q rfl (Qy.load 0 T.one3 rfl rfl rfl) ?_
  refine Wl.q rfl (Qy.fieldAddr T.fa46_2 rfl) ?_
  refine Wl.q rfl (Qy.load 0 T.one3 rfl rfl rfl) ?_
  refine Wl.call0 rfl T.fn35 rfl (c35 _ _ _ _ _) ?_
  refine Wl.storeAll 1 T.size46 rfl rfl rfl rfl rfl rfl ?_
  refine Wl.done ?_
  refine Ar.next ?_
  refine Wc.ret ?_
  refine Ar.outRet ?_
  refine Ar.outRet ?_
  refine Ar.passRet ?_
  refine Ar.out1 (.inr rfl) (Ho := Hp.only _ []) rfl (.agg 1 rfl rfl T.agg46) (Hp.sub_only _ _) ?_
  rotate_left
  refine Wc.seq ?_
  refine Wc.region rfl ?_
  refine Wl.q rfl (Qy.fieldAddr T.fa46_4 rfl) ?_
  refine Wl.q rfl (Qy.load 0 T.one3 rfl rfl rfl) ?_
  refine Wl.q rfl (Qy.eql rfl rfl) ?_
  refine Wl.q rfl (Qy.assign rfl) ?_
  refine Wl.done ?_
  refine Ar.next ?_
  refine Wc.cond rfl (fun hc5 => ?_) (fun hc5 => ?_)
  refine Wc.seq ?_
  refine Wc.region rfl ?_
  refine Wl.q rfl (Qy.fieldAddr T.fa46_1 rfl) ?_
  refine Wl.q rfl (Qy.load 0 T.one3 rfl rfl rfl) ?_
  refine Wl.q rfl (Qy.fieldAddr T.fa46_2 rfl) ?_
  refine Wl.q rfl (Qy.load 0 T.one3 rfl rfl rfl) ?_
  refine Wl.call0 rfl T.fn35 rfl (c35 _ _ _ _ _) ?_
  refine Wl.storeAll 1 T.size46 rfl rfl rfl rfl rfl rfl ?_
  refine Wl.done ?_
  refine Ar.next ?_
  refine Wc.ret ?_
  refine Ar.outRet ?_
  refine Ar.outRet ?_
  refine Ar.passRet ?_
  refine Ar.out1 (.inr rfl) (Ho := Hp.only _ []) rfl (.agg 1 rfl rfl T.agg46) (Hp.sub_only _ _) ?_
  rotate_left
  refine Wc.seq ?_
  refine Wc.region rfl ?_
  refine Wl.q rfl (Qy.move rfl) ?_
  refine Wl.q rfl (Qy.move rfl) ?_
  apply Wl.joinAnd 4 48 52 rfl
  intro hg1
  refine Wl.want rfl rfl ?_
  refine Wl.q rfl (Qy.fieldAddr T.fa46_0 rfl) ?_
  refine Wl.want rfl rfl ?_
  refine Wl.q rfl (Qy.load 0 T.one3 rfl rfl rfl) ?_
  refine Wl.want rfl rfl ?_
  refine Wl.q rfl (Qy.eql rfl rfl) ?_
  refine Wl.q rfl (Qy.pick rfl rfl) ?_
  exact Wl.back 4 0 rfl rfl rfl rfl rfl
  intro hg1
  refine Wl.pass rfl rfl rfl ?_
  refine Wl.pass rfl rfl rfl ?_
  refine Wl.pass rfl rfl rfl ?_
  refine Wl.q rfl (Qy.pick rfl rfl) ?_
  exact Wl.back 4 0 rfl rfl rfl rfl rfl
  refine Wl.q rfl (Qy.assign rfl) ?_
  refine Wl.done ?_
  refine Ar.next ?_
  refine Wc.condN rfl (by first | assumption | omega) ?_
  refine Wc.seq ?_
  refine Wc.region rfl ?_
  refine Wl.q rfl (Qy.move rfl) ?_
  refine Wl.q rfl (Qy.assign rfl) ?_
  refine Wl.done ?_
  refine Ar.next ?_
  refine Wc.cond rfl (fun hc6 => ?_) (fun hc6 => ?_)
  refine Wc.seq ?_
  refine Wc.region rfl ?_
  refine Wl.q rfl (Qy.fieldAddr T.fa46_1 rfl) ?_
  refine Wl.q rfl (Qy.load 0 T.one3 rfl rfl rfl) ?_
  refine Wl.q rfl (Qy.fieldAddr T.fa46_2 rfl) ?_
  refine Wl.q rfl (Qy.load 0 T.one3 rfl rfl rfl) ?_
  refine Wl.q rfl (Qy.move rfl) ?_
  refine Wl.call0 rfl T.fn35 rfl (c35 _ _ _ _ _) ?_
  refine Wl.storeAll 1 T.size46 rfl rfl rfl rfl rfl rfl ?_
  refine Wl.done ?_
  refine Ar.next ?_
  refine Wc.ret ?_
  refine Ar.outRet ?_
  refine Ar.outRet ?_
  refine Ar.passRet ?_
  refine Ar.out1 (.inr rfl) (Ho := Hp.only _ []) rfl (.agg 1 rfl rfl T.agg46) (Hp.sub_only _ _) ?_
  rotate_left
  refine Wc.skip ?_
  refine Ar.outNormal ?_
  refine Ar.outNormal ?_
  refine Ar.next ?_
  refine Wc.seq ?_
  refine Wc.region rfl ?_
  refine Wl.q rfl (Qy.loadAll 0 T.agg46 rfl rfl rfl) ?_
  refine Wl.storeAll 1 T.size46 rfl rfl rfl rfl rfl rfl ?_
  refine Wl.done ?_
  refine Ar.next ?_
  refine Wc.ret ?_
  refine Ar.out1 (.inr rfl) (Ho := Hp.only _ []) rfl (.agg 1 rfl rfl T.agg46) (Hp.sub_only _ _) ?_
  rotate_left
  refine Wc.skip ?_
  refine Ar.outNormal ?_
  refine Ar.next ?_
  refine Wc.seq ?_
  refine Wc.region rfl ?_
  refine Wl.q rfl (Qy.loadAll 0 T.agg46 rfl rfl rfl) ?_
  refine Wl.storeAll 1 T.size46 rfl rfl rfl rfl rfl rfl ?_
  refine Wl.done ?_
  refine Ar.next ?_
  refine Wc.ret ?_
  refine Ar.out1 (.inr rfl) (Ho := Hp.only _ []) rfl (.agg 1 rfl rfl T.agg46) (Hp.sub_only _ _) ?_
  rotate_left
  all_goals refine ⟨?_, rfl, rfl⟩
  all_goals simp_all [plainP]
def fitsP (c : Int) : Prop := -512 ≤ c ∧ c ≤ 512
instance (c : Int) : Decidable (fitsP c) := inferInstanceAs (Decidable (_ ∧ _))
/-- what two operations do together -/
def togP (f c s d : Int) : Int × Int × Bool :=
  if f = 1 then (s, d, true)
  else if f = 2 then (if s = 1 then (2, 0, true) else if s = 2 then (1, 0, true) else if s = 5 ∨ s = 6 then (s, -d, true) else (0, 0, false))
  else if f = 5 then (if s = 2 then (5, -c, true) else if s = 5 ∧ -512 ≤ c * d ∧ c * d ≤ 512 then (5, c * d, true) else if s = 6 ∧ c.tmod d = 0 then (5, c.tdiv d, true) else if s = 6 ∧ d.tmod c = 0 then (6, d.tdiv c, true) else (0, 0, false))
  else if f = 6 then (if s = 2 then (6, -c, true) else if s = 6 ∧ -512 ≤ c * d ∧ c * d ≤ 512 then (6, c * d, true) else (0, 0, false))
  else if f = 7 then (if s = 7 ∧ c + d ≤ 64 then (7, c + d, true) else if s ≠ 8 then (0, 0, false) else if c = d then (1, 0, true) else if d < c then (7, c - d, true) else (8, d - c, true))
  else if f = 8 then (if s = 8 ∧ c + d ≤ 64 then (8, c + d, true) else (0, 0, false))
  else (0, 0, false)
theorem const_fits {op c : Int} (h : constOk op c = true) : -512 ≤ c ∧ c ≤ 512 := by
  unfold constOk at h
  repeat' split at h
  all_goals simp only [decide_eq_true_eq] at h
  all_goals omega
theorem const_zero {op c : Int} (h : constOk op c = true) (ho : op = 5 ∨ op = 6) : c ≠ 0 := by
  unfold constOk at h
  rw [if_pos ho, decide_eq_true_eq] at h
  exact h.1
theorem mul_small {c d : Int} (hc : -512 ≤ c ∧ c ≤ 512) (hd : -512 ≤ d ∧ d ≤ 512) : -9223372036854775808 ≤ c * d ∧ c * d ≤ 9223372036854775807 := by
  have h1 : c.natAbs ≤ 512 := by omega
  have h2 : d.natAbs ≤ 512 := by omega
  have h3 : (c * d).natAbs ≤ 512 * 512 := by rw [Int.natAbs_mul]; exact Nat.mul_le_mul h1 h2
  omega
theorem div_small {c d : Int} (hc : -512 ≤ c ∧ c ≤ 512) : -512 ≤ c.tdiv d ∧ c.tdiv d ≤ 512 := by
  have h3 : (c.tdiv d).natAbs ≤ c.natAbs := by rw [Int.natAbs_tdiv]; exact Nat.div_le_self _ _
  omega
theorem c36 (G : Imm) (f c s d : Int) (hc : constOk f c = true) (hd : constOk s d = true) : Does Tryz.prog 36 [.int .i64 f, .int .i64 c, .int .i64 s, .int .i64 d] G [] (fun v G' Ho => v = .tuple #[.int .i64 (togP f c s d).1, .int .i64 (togP f c s d).2.1, .bool (togP f c s d).2.2] ∧ G' = G ∧ Ho = []) := by
  have hc2 := const_fits hc
  have hd2 := const_fits hd
  have hm := mul_small hc2 hd2
  have hq1 := div_small (d := d) hc2
  have hq2 := div_small (d := c) hd2
  have hcz := const_zero hc
  have hdz := const_zero hd
  refine Does.enter Tryz.func36 rfl Tryz.ntmps36 rfl (fun w => ?_)
  refine Wc.seq ?_
  refine Wc.region rfl ?_
  refine Wl.q rfl (Qy.assign rfl) ?_
  refine Wl.q rfl (Qy.assign rfl) ?_
  refine Wl.q rfl (Qy.assign rfl) ?_
  refine Wl.done ?_
  refine Ar.next ?_
  refine Wc.seq ?_
  refine Wc.seq ?_
  refine Wc.region rfl ?_
  refine Wl.q rfl (Qy.move rfl) ?_
  refine Wl.done ?_
  refine Ar.next ?_
  refine Wc.block ?_
  refine Wc.seq ?_
  refine Wc.region rfl ?_
  refine Wl.q rfl (Qy.eql rfl rfl) ?_
  refine Wl.q rfl (Qy.assign rfl) ?_
  refine Wl.done ?_
  refine Ar.next ?_
  refine Wc.cond rfl (fun hc1 => ?_) (fun hc1 => ?_)
  refine Wc.seq ?_
  refine Wc.region rfl ?_
  refine Wl.q rfl (Qy.move rfl) ?_
  refine Wl.q rfl (Qy.move rfl) ?_
  refine Wl.q rfl (Qy.assign rfl) ?_
  refine Wl.q rfl (Qy.assign rfl) ?_
  refine Wl.q rfl (Qy.assign rfl) ?_
  refine Wl.done ?_
  refine Ar.next ?_
  refine Wc.ret ?_
  refine Ar.outRet ?_
  refine Ar.passRet ?_
  refine Ar.out3 (.inr rfl) (Ho := Hp.only _ []) rfl (.tmp rfl) (.tmp rfl) (.tmp rfl) (Hp.sub_only _ _) ?_
  rotate_left
  refine Wc.seq ?_
  refine Wc.region rfl ?_
  refine Wl.q rfl (Qy.eql rfl rfl) ?_
  refine Wl.q rfl (Qy.assign rfl) ?_
  refine Wl.done ?_
  refine Ar.next ?_
  refine Wc.cond rfl (fun hc3 => ?_) (fun hc3 => ?_)
  refine Wc.seq ?_
  refine Wc.region rfl ?_
  refine Wl.q rfl (Qy.move rfl) ?_
  refine Wl.done ?_
  refine Ar.next ?_
  refine Wc.block ?_
  refine Wc.seq ?_
  refine Wc.region rfl ?_
  refine Wl.q rfl (Qy.eql rfl rfl) ?_
  refine Wl.q rfl (Qy.assign rfl) ?_
  refine Wl.done ?_
  refine Ar.next ?_
  refine Wc.cond rfl (fun hc4 => ?_) (fun hc4 => ?_)
  refine Wc.seq ?_
  refine Wc.region rfl ?_
  refine Wl.q rfl (Qy.assign rfl) ?_
  refine Wl.q rfl (Qy.assign rfl) ?_
  refine Wl.q rfl (Qy.assign rfl) ?_
  refine Wl.done ?_
  refine Ar.next ?_
  refine Wc.ret ?_
  refine Ar.outRet ?_
  refine Ar.outRet ?_
  refine Ar.passRet ?_
  refine Ar.out3 (.inr rfl) (Ho := Hp.only _ []) rfl (.tmp rfl) (.tmp rfl) (.tmp rfl) (Hp.sub_only _ _) ?_
  rotate_left
  refine Wc.seq ?_
  refine Wc.region rfl ?_
  refine Wl.q rfl (Qy.eql rfl rfl) ?_
  refine Wl.q rfl (Qy.assign rfl) ?_
  refine Wl.done ?_
  refine Ar.next ?_
  refine Wc.cond rfl (fun hc5 => ?_) (fun hc5 => ?_)
  refine Wc.seq ?_
  refine Wc.region rfl ?_
  refine Wl.q rfl (Qy.assign rfl) ?_
  refine Wl.q rfl (Qy.assign rfl) ?_
  refine Wl.q rfl (Qy.assign rfl) ?_
  refine Wl.done ?_
  refine Ar.next ?_
  refine Wc.ret ?_
  refine Ar.outRet ?_
  refine Ar.outRet ?_
  refine Ar.passRet ?_
  refine Ar.out3 (.inr rfl) (Ho := Hp.only _ []) rfl (.tmp rfl) (.tmp rfl) (.tmp rfl) (Hp.sub_only _ _) ?_
  rotate_left
  refine Wc.seq ?_
  refine Wc.seq ?_
  refine Wc.region rfl ?_
  refine Wl.q rfl (Qy.eql rfl rfl) ?_
  refine Wl.q rfl (Qy.assign rfl) ?_
  refine Wl.done ?_
  refine Ar.next ?_
  refine Wc.cond rfl (fun hc6 => ?_) (fun hc6 => ?_)
  refine Wc.skip ?_
  refine Ar.next ?_
  refine Wc.condP rfl (by first | assumption | omega) ?_
  refine Wc.seq ?_
  refine Wc.region rfl ?_
  refine Wl.q rfl (Qy.move rfl) ?_
  refine Wl.q rfl (Qy.move rfl) ?_
  refine Wl.q rfl (Qy.neg rfl (by omega)) ?_
  refine Wl.q rfl (Qy.assign rfl) ?_
  refine Wl.q rfl (Qy.assign rfl) ?_
  refine Wl.q rfl (Qy.assign rfl) ?_
  refine Wl.done ?_
  refine Ar.next ?_
  refine Wc.ret ?_
  refine Ar.outRet ?_
  refine Ar.outRet ?_
  refine Ar.passRet ?_
  refine Ar.out3 (.inr rfl) (Ho := Hp.only _ []) rfl (.tmp rfl) (.tmp rfl) (.tmp rfl) (Hp.sub_only _ _) ?_
  rotate_left
  refine Wc.region rfl ?_
  refine Wl.q rfl (Qy.eql rfl rfl) ?_
  refine Wl.q rfl (Qy.assign rfl) ?_
  refine Wl.done ?_
  refine Ar.next ?_
  refine Wc.cond rfl (fun hc7 => ?_) (fun hc7 => ?_)
  refine Wc.seq ?_
  refine Wc.region rfl ?_
  refine Wl.q rfl (Qy.move rfl) ?_
  refine Wl.q rfl (Qy.move rfl) ?_
  refine Wl.q rfl (Qy.neg rfl (by omega)) ?_
  refine Wl.q rfl (Qy.assign rfl) ?_
  refine Wl.q rfl (Qy.assign rfl) ?_
  refine Wl.q rfl (Qy.assign rfl) ?_
  refine Wl.done ?_
  refine Ar.next ?_
  refine Wc.ret ?_
  refine Ar.outRet ?_
  refine Ar.outRet ?_
  refine Ar.passRet ?_
  refine Ar.out3 (.inr rfl) (Ho := Hp.only _ []) rfl (.tmp rfl) (.tmp rfl) (.tmp rfl) (Hp.sub_only _ _) ?_
  rotate_left
  refine Wc.skip ?_
  refine Ar.outNormal ?_
  refine Ar.outNormal ?_
  refine Ar.next ?_
  refine Wc.seq ?_
  refine Wc.region rfl ?_
  refine Wl.q rfl (Qy.assign rfl) ?_
  refine Wl.q rfl (Qy.assign rfl) ?_
  refine Wl.q rfl (Qy.assign rfl) ?_
  refine Wl.done ?_
  refine Ar.next ?_
  refine Wc.ret ?_
  refine Ar.out3 (.inr rfl) (Ho := Hp.only _ []) rfl (.tmp rfl) (.tmp rfl) (.tmp rfl) (Hp.sub_only _ _) ?_
  rotate_left
  refine Wc.seq ?_
  refine Wc.region rfl ?_
  refine Wl.q rfl (Qy.eql rfl rfl) ?_
  refine Wl.q rfl (Qy.assign rfl) ?_
  refine Wl.done ?_
  refine Ar.next ?_
  refine Wc.cond rfl (fun hc4 => ?_) (fun hc4 => ?_)
  refine Wc.block ?_
  refine Wc.seq ?_
  refine Wc.region rfl ?_
  refine Wl.q rfl (Qy.move rfl) ?_
  refine Wl.q rfl (Qy.eql rfl rfl) ?_
  refine Wl.q rfl (Qy.assign rfl) ?_
  refine Wl.done ?_
  refine Ar.next ?_
  refine Wc.cond rfl (fun hc5 => ?_) (fun hc5 => ?_)
  refine Wc.seq ?_
  refine Wc.region rfl ?_
  refine Wl.q rfl (Qy.move rfl) ?_
  refine Wl.q rfl (Qy.neg rfl (by omega)) ?_
  refine Wl.q rfl (Qy.assign rfl) ?_
  refine Wl.q rfl (Qy.assign rfl) ?_
  refine Wl.q rfl (Qy.assign rfl) ?_
  refine Wl.done ?_
  refine Ar.next ?_
  refine Wc.ret ?_
  refine Ar.outRet ?_
  refine Ar.outRet ?_
  refine Ar.passRet ?_
  refine Ar.out3 (.inr rfl) (Ho := Hp.only _ []) rfl (.tmp rfl) (.tmp rfl) (.tmp rfl) (Hp.sub_only _ _) ?_
  rotate_left
  refine Wc.seq ?_
  refine Wc.region rfl ?_
  refine Wl.q rfl (Qy.move rfl) ?_
  refine Wl.q rfl (Qy.eql rfl rfl) ?_
  refine Wl.q rfl (Qy.move rfl) ?_
  apply Wl.joinAnd 5 39 44 rfl
  intro hg1
  refine Wl.want rfl rfl ?_
  refine Wl.q rfl (Qy.move rfl) ?_
  refine Wl.want rfl rfl ?_
  refine Wl.q rfl (Qy.move rfl) ?_
  refine Wl.want rfl rfl ?_
  refine Wl.q rfl (Qy.mul rfl rfl (by omega)) ?_
  refine Wl.want rfl rfl ?_
  refine Wl.call0 rfl T.fn60 rfl (c60 _ _) ?_
  refine Wl.q rfl (Qy.pick rfl rfl) ?_
  exact Wl.back 5 0 rfl rfl rfl rfl rfl
  intro hg1
  refine Wl.pass rfl rfl rfl ?_
  refine Wl.pass rfl rfl rfl ?_
  refine Wl.pass rfl rfl rfl ?_
  refine Wl.pass rfl rfl rfl ?_
  refine Wl.q rfl (Qy.pick rfl rfl) ?_
  exact Wl.back 5 0 rfl rfl rfl rfl rfl
  refine Wl.q rfl (Qy.assign rfl) ?_
  refine Wl.done ?_
  refine Ar.next ?_
  refine Wc.cond rfl (fun hc6 => ?_) (fun hc6 => ?_)
  refine Wc.seq ?_
  refine Wc.region rfl ?_
  refine Wl.q rfl (Qy.move rfl) ?_
  refine Wl.q rfl (Qy.move rfl) ?_
  refine Wl.q rfl (Qy.mul rfl rfl (by omega)) ?_
  refine Wl.q rfl (Qy.assign rfl) ?_
  refine Wl.q rfl (Qy.assign rfl) ?_
  refine Wl.q rfl (Qy.assign rfl) ?_
  refine Wl.done ?_
  refine Ar.next ?_
  refine Wc.ret ?_
  refine Ar.outRet ?_
  refine Ar.outRet ?_
  refine Ar.passRet ?_
  refine Ar.out3 (.inr rfl) (Ho := Hp.only _ []) rfl (.tmp rfl) (.tmp rfl) (.tmp rfl) (Hp.sub_only _ _) ?_
  rotate_left
  refine Wc.seq ?_
  refine Wc.region rfl ?_
  refine Wl.q rfl (Qy.move rfl) ?_
  refine Wl.q rfl (Qy.eql rfl rfl) ?_
  refine Wl.q rfl (Qy.move rfl) ?_
  apply Wl.joinAnd 5 51 56 rfl
  intro hg1
  refine Wl.want rfl rfl ?_
  refine Wl.q rfl (Qy.move rfl) ?_
  refine Wl.want rfl rfl ?_
  refine Wl.q rfl (Qy.move rfl) ?_
  refine Wl.want rfl rfl ?_
  refine Wl.q rfl (Qy.rem rfl rfl (by omega)) ?_
  refine Wl.want rfl rfl ?_
  refine Wl.q rfl (Qy.eql rfl rfl) ?_
  refine Wl.q rfl (Qy.pick rfl rfl) ?_
  exact Wl.back 5 0 rfl rfl rfl rfl rfl
  intro hg1
  refine Wl.pass rfl rfl rfl ?_
  refine Wl.pass rfl rfl rfl ?_
  refine Wl.pass rfl rfl rfl ?_
  refine Wl.pass rfl rfl rfl ?_
  refine Wl.q rfl (Qy.pick rfl rfl) ?_
  exact Wl.back 5 0 rfl rfl rfl rfl rfl
  refine Wl.q rfl (Qy.assign rfl) ?_
  refine Wl.done ?_
  refine Ar.next ?_
  refine Wc.cond rfl (fun hc7 => ?_) (fun hc7 => ?_)
  refine Wc.seq ?_
  refine Wc.draw [] [] T.mixed rfl ?_
  refine Gm.q 0 [] (by kernel_rfl) rfl rfl (Qy.move rfl) ?_
  refine Gm.q 1 [] (by kernel_rfl) rfl rfl (Qy.move rfl) ?_
  refine Gm.q 2 [] (by kernel_rfl) rfl rfl (Qy.quo rfl rfl (by omega) (by omega)) ?_
  refine Gm.q 3 [] (by kernel_rfl) rfl rfl (Qy.assign rfl) ?_
  refine Gm.q 4 [] (by kernel_rfl) rfl rfl (Qy.assign rfl) ?_
  refine Gm.q 5 [] (by kernel_rfl) rfl rfl (Qy.assign rfl) ?_
  refine Gm.doneA (by kernel_rfl) trivial (by first | exact Imm.le_refl _ | assumption) ?_
  refine Ar.next ?_
  refine Wc.ret ?_
  refine Ar.outRet ?_
  refine Ar.outRet ?_
  refine Ar.passRet ?_
  refine Ar.out3 (.inr rfl) (Ho := Hp.only _ []) rfl (.tmp rfl) (.tmp rfl) (.tmp rfl) (Hp.sub_only _ _) ?_
  rotate_left
  refine Wc.seq ?_
  refine Wc.region rfl ?_
  refine Wl.q rfl (Qy.move rfl) ?_
  refine Wl.q rfl (Qy.eql rfl rfl) ?_
  refine Wl.q rfl (Qy.move rfl) ?_
  apply Wl.joinAnd 5 63 68 rfl
  intro hg1
  refine Wl.want rfl rfl ?_
  refine Wl.q rfl (Qy.move rfl) ?_
  refine Wl.want rfl rfl ?_
  refine Wl.q rfl (Qy.move rfl) ?_
  refine Wl.want rfl rfl ?_
  refine Wl.q rfl (Qy.rem rfl rfl (by omega)) ?_
  refine Wl.want rfl rfl ?_
  refine Wl.q rfl (Qy.eql rfl rfl) ?_
  refine Wl.q rfl (Qy.pick rfl rfl) ?_
  exact Wl.back 5 0 rfl rfl rfl rfl rfl
  intro hg1
  refine Wl.pass rfl rfl rfl ?_
  refine Wl.pass rfl rfl rfl ?_
  refine Wl.pass rfl rfl rfl ?_
  refine Wl.pass rfl rfl rfl ?_
  refine Wl.q rfl (Qy.pick rfl rfl) ?_
  exact Wl.back 5 0 rfl rfl rfl rfl rfl
  refine Wl.q rfl (Qy.assign rfl) ?_
  refine Wl.done ?_
  refine Ar.next ?_
  refine Wc.cond rfl (fun hc8 => ?_) (fun hc8 => ?_)
  refine Wc.seq ?_
  refine Wc.draw [] [] T.mixed rfl ?_
  refine Gm.q 0 [] (by kernel_rfl) rfl rfl (Qy.move rfl) ?_
  refine Gm.q 1 [] (by kernel_rfl) rfl rfl (Qy.move rfl) ?_
  refine Gm.q 2 [] (by kernel_rfl) rfl rfl (Qy.quo rfl rfl (by omega) (by omega)) ?_
  refine Gm.q 3 [] (by kernel_rfl) rfl rfl (Qy.assign rfl) ?_
  refine Gm.q 4 [] (by kernel_rfl) rfl rfl (Qy.assign rfl) ?_
  refine Gm.q 5 [] (by kernel_rfl) rfl rfl (Qy.assign rfl) ?_
  refine Gm.doneA (by kernel_rfl) trivial (by first | exact Imm.le_refl _ | assumption) ?_
  refine Ar.next ?_
  refine Wc.ret ?_
  refine Ar.outRet ?_
  refine Ar.outRet ?_
  refine Ar.passRet ?_
  refine Ar.out3 (.inr rfl) (Ho := Hp.only _ []) rfl (.tmp rfl) (.tmp rfl) (.tmp rfl) (Hp.sub_only _ _) ?_
  rotate_left
  refine Wc.skip ?_
  refine Ar.outNormal ?_
  refine Ar.outNormal ?_
  refine Ar.next ?_
  refine Wc.seq ?_
  refine Wc.region rfl ?_
  refine Wl.q rfl (Qy.assign rfl) ?_
  refine Wl.q rfl (Qy.assign rfl) ?_
  refine Wl.q rfl (Qy.assign rfl) ?_
  refine Wl.done ?_
  refine Ar.next ?_
  refine Wc.ret ?_
  refine Ar.out3 (.inr rfl) (Ho := Hp.only _ []) rfl (.tmp rfl) (.tmp rfl) (.tmp rfl) (Hp.sub_only _ _) ?_
  rotate_left
  refine Wc.seq ?_
  refine Wc.region rfl ?_
  refine Wl.q rfl (Qy.eql rfl rfl) ?_
  refine Wl.q rfl (Qy.assign rfl) ?_
  refine Wl.done ?_
  refine Ar.next ?_
  refine Wc.cond rfl (fun hc5 => ?_) (fun hc5 => ?_)
  refine Wc.block ?_
  refine Wc.seq ?_
  refine Wc.region rfl ?_
  refine Wl.q rfl (Qy.move rfl) ?_
  refine Wl.q rfl (Qy.eql rfl rfl) ?_
  refine Wl.q rfl (Qy.assign rfl) ?_
  refine Wl.done ?_
  refine Ar.next ?_
  refine Wc.cond rfl (fun hc6 => ?_) (fun hc6 => ?_)
  refine Wc.seq ?_
  refine Wc.region rfl ?_
  refine Wl.q rfl (Qy.move rfl) ?_
  refine Wl.q rfl (Qy.neg rfl (by omega)) ?_
  refine Wl.q rfl (Qy.assign rfl) ?_
  refine Wl.q rfl (Qy.assign rfl) ?_
  refine Wl.q rfl (Qy.assign rfl) ?_
  refine Wl.done ?_
  refine Ar.next ?_
  refine Wc.ret ?_
  refine Ar.outRet ?_
  refine Ar.outRet ?_
  refine Ar.passRet ?_
  refine Ar.out3 (.inr rfl) (Ho := Hp.only _ []) rfl (.tmp rfl) (.tmp rfl) (.tmp rfl) (Hp.sub_only _ _) ?_
  rotate_left
  refine Wc.seq ?_
  refine Wc.region rfl ?_
  refine Wl.q rfl (Qy.move rfl) ?_
  refine Wl.q rfl (Qy.eql rfl rfl) ?_
  refine Wl.q rfl (Qy.move rfl) ?_
  apply Wl.joinAnd 5 82 87 rfl
  intro hg1
  refine Wl.want rfl rfl ?_
  refine Wl.q rfl (Qy.move rfl) ?_
  refine Wl.want rfl rfl ?_
  refine Wl.q rfl (Qy.move rfl) ?_
  refine Wl.want rfl rfl ?_
  refine Wl.q rfl (Qy.mul rfl rfl (by omega)) ?_
  refine Wl.want rfl rfl ?_
  refine Wl.call0 rfl T.fn60 rfl (c60 _ _) ?_
  refine Wl.q rfl (Qy.pick rfl rfl) ?_
  exact Wl.back 5 0 rfl rfl rfl rfl rfl
  intro hg1
  refine Wl.pass rfl rfl rfl ?_
  refine Wl.pass rfl rfl rfl ?_
  refine Wl.pass rfl rfl rfl ?_
  refine Wl.pass rfl rfl rfl ?_
  refine Wl.q rfl (Qy.pick rfl rfl) ?_
  exact Wl.back 5 0 rfl rfl rfl rfl rfl
  refine Wl.q rfl (Qy.assign rfl) ?_
  refine Wl.done ?_
  refine Ar.next ?_
  refine Wc.cond rfl (fun hc7 => ?_) (fun hc7 => ?_)
  refine Wc.seq ?_
  refine Wc.region rfl ?_
  refine Wl.q rfl (Qy.move rfl) ?_
  refine Wl.q rfl (Qy.move rfl) ?_
  refine Wl.q rfl (Qy.mul rfl rfl (by omega)) ?_
  refine Wl.q rfl (Qy.assign rfl) ?_
  refine Wl.q rfl (Qy.assign rfl) ?_
  refine Wl.q rfl (Qy.assign rfl) ?_
  refine Wl.done ?_
  refine Ar.next ?_
  refine Wc.ret ?_
  refine Ar.outRet ?_
  refine Ar.outRet ?_
  refine Ar.passRet ?_
  refine Ar.out3 (.inr rfl) (Ho := Hp.only _ []) rfl (.tmp rfl) (.tmp rfl) (.tmp rfl) (Hp.sub_only _ _) ?_
  rotate_left
  refine Wc.skip ?_
  refine Ar.outNormal ?_
  refine Ar.outNormal ?_
  refine Ar.next ?_
  refine Wc.seq ?_
  refine Wc.region rfl ?_
  refine Wl.q rfl (Qy.assign rfl) ?_
  refine Wl.q rfl (Qy.assign rfl) ?_
  refine Wl.q rfl (Qy.assign rfl) ?_
  refine Wl.done ?_
  refine Ar.next ?_
  refine Wc.ret ?_
  refine Ar.out3 (.inr rfl) (Ho := Hp.only _ []) rfl (.tmp rfl) (.tmp rfl) (.tmp rfl) (Hp.sub_only _ _) ?_
  rotate_left
  refine Wc.seq ?_
  refine Wc.region rfl ?_
  refine Wl.q rfl (Qy.eql rfl rfl) ?_
  refine Wl.q rfl (Qy.assign rfl) ?_
  refine Wl.done ?_
  refine Ar.next ?_
  refine Wc.cond rfl (fun hc6 => ?_) (fun hc6 => ?_)
  refine Wc.block ?_
  refine Wc.seq ?_
  refine Wc.region rfl ?_
  refine Wl.q rfl (Qy.move rfl) ?_
  refine Wl.q rfl (Qy.eql rfl rfl) ?_
  refine Wl.q rfl (Qy.move rfl) ?_
  apply Wl.joinAnd 5 99 104 rfl
  intro hg1
  refine Wl.want rfl rfl ?_
  refine Wl.q rfl (Qy.move rfl) ?_
  refine Wl.want rfl rfl ?_
  refine Wl.q rfl (Qy.move rfl) ?_
  refine Wl.want rfl rfl ?_
  refine Wl.q rfl (Qy.add rfl rfl (by omega)) ?_
  refine Wl.want rfl rfl ?_
  refine Wl.q rfl (Qy.leq rfl rfl) ?_
  refine Wl.q rfl (Qy.pick rfl rfl) ?_
  exact Wl.back 5 0 rfl rfl rfl rfl rfl
  intro hg1
  refine Wl.pass rfl rfl rfl ?_
  refine Wl.pass rfl rfl rfl ?_
  refine Wl.pass rfl rfl rfl ?_
  refine Wl.pass rfl rfl rfl ?_
  refine Wl.q rfl (Qy.pick rfl rfl) ?_
  exact Wl.back 5 0 rfl rfl rfl rfl rfl
  refine Wl.q rfl (Qy.assign rfl) ?_
  refine Wl.done ?_
  refine Ar.next ?_
  refine Wc.cond rfl (fun hc7 => ?_) (fun hc7 => ?_)
  refine Wc.seq ?_
  refine Wc.region rfl ?_
  refine Wl.q rfl (Qy.move rfl) ?_
  refine Wl.q rfl (Qy.move rfl) ?_
  refine Wl.q rfl (Qy.add rfl rfl (by omega)) ?_
  refine Wl.q rfl (Qy.assign rfl) ?_
  refine Wl.q rfl (Qy.assign rfl) ?_
  refine Wl.q rfl (Qy.assign rfl) ?_
  refine Wl.done ?_
  refine Ar.next ?_
  refine Wc.ret ?_
  refine Ar.outRet ?_
  refine Ar.outRet ?_
  refine Ar.passRet ?_
  refine Ar.out3 (.inr rfl) (Ho := Hp.only _ []) rfl (.tmp rfl) (.tmp rfl) (.tmp rfl) (Hp.sub_only _ _) ?_
  rotate_left
  refine Wc.seq ?_
  refine Wc.region rfl ?_
  refine Wl.q rfl (Qy.move rfl) ?_
  refine Wl.q rfl (Qy.neq rfl rfl) ?_
  refine Wl.q rfl (Qy.assign rfl) ?_
  refine Wl.done ?_
  refine Ar.next ?_
  refine Wc.cond rfl (fun hc8 => ?_) (fun hc8 => ?_)
  refine Wc.skip ?_
  refine Ar.outNormal ?_
  refine Ar.outNormal ?_
  refine Ar.next ?_
  refine Wc.seq ?_
  refine Wc.region rfl ?_
  refine Wl.q rfl (Qy.assign rfl) ?_
  refine Wl.q rfl (Qy.assign rfl) ?_
  refine Wl.q rfl (Qy.assign rfl) ?_
  refine Wl.done ?_
  refine Ar.next ?_
  refine Wc.ret ?_
  refine Ar.out3 (.inr rfl) (Ho := Hp.only _ []) rfl (.tmp rfl) (.tmp rfl) (.tmp rfl) (Hp.sub_only _ _) ?_
  rotate_left
  refine Wc.seq ?_
  refine Wc.region rfl ?_
  refine Wl.q rfl (Qy.move rfl) ?_
  refine Wl.q rfl (Qy.move rfl) ?_
  refine Wl.q rfl (Qy.eql rfl rfl) ?_
  refine Wl.q rfl (Qy.assign rfl) ?_
  refine Wl.done ?_
  refine Ar.next ?_
  refine Wc.cond rfl (fun hc9 => ?_) (fun hc9 => ?_)
  refine Wc.seq ?_
  refine Wc.region rfl ?_
  refine Wl.q rfl (Qy.assign rfl) ?_
  refine Wl.q rfl (Qy.assign rfl) ?_
  refine Wl.q rfl (Qy.assign rfl) ?_
  refine Wl.done ?_
  refine Ar.next ?_
  refine Wc.ret ?_
  refine Ar.outRet ?_
  refine Ar.outRet ?_
  refine Ar.passRet ?_
  refine Ar.out3 (.inr rfl) (Ho := Hp.only _ []) rfl (.tmp rfl) (.tmp rfl) (.tmp rfl) (Hp.sub_only _ _) ?_
  rotate_left
  refine Wc.seq ?_
  refine Wc.region rfl ?_
  refine Wl.q rfl (Qy.move rfl) ?_
  refine Wl.q rfl (Qy.move rfl) ?_
  refine Wl.q rfl (Qy.gtr rfl rfl) ?_
  refine Wl.q rfl (Qy.assign rfl) ?_
  refine Wl.done ?_
  refine Ar.next ?_
  refine Wc.cond rfl (fun hc10 => ?_) (fun hc10 => ?_)
  refine Wc.seq ?_
  refine Wc.region rfl ?_
  refine Wl.q rfl (Qy.move rfl) ?_
  refine Wl.q rfl (Qy.move rfl) ?_
  refine Wl.q rfl (Qy.sub rfl rfl (by omega)) ?_
  refine Wl.q rfl (Qy.assign rfl) ?_
  refine Wl.q rfl (Qy.assign rfl) ?_
  refine Wl.q rfl (Qy.assign rfl) ?_
  refine Wl.done ?_
  refine Ar.next ?_
  refine Wc.ret ?_
  refine Ar.outRet ?_
  refine Ar.outRet ?_
  refine Ar.passRet ?_
  refine Ar.out3 (.inr rfl) (Ho := Hp.only _ []) rfl (.tmp rfl) (.tmp rfl) (.tmp rfl) (Hp.sub_only _ _) ?_
  rotate_left
  refine Wc.seq ?_
  refine Wc.region rfl ?_
  refine Wl.q rfl (Qy.move rfl) ?_
  refine Wl.q rfl (Qy.move rfl) ?_
  refine Wl.q rfl (Qy.sub rfl rfl (by omega)) ?_
  refine Wl.q rfl (Qy.assign rfl) ?_
  refine Wl.q rfl (Qy.assign rfl) ?_
  refine Wl.q rfl (Qy.assign rfl) ?_
  refine Wl.done ?_
  refine Ar.next ?_
  refine Wc.ret ?_
  refine Ar.outRet ?_
  refine Ar.outRet ?_
  refine Ar.passRet ?_
  refine Ar.out3 (.inr rfl) (Ho := Hp.only _ []) rfl (.tmp rfl) (.tmp rfl) (.tmp rfl) (Hp.sub_only _ _) ?_
  rotate_left
  refine Wc.seq ?_
  refine Wc.region rfl ?_
  refine Wl.q rfl (Qy.eql rfl rfl) ?_
  refine Wl.q rfl (Qy.assign rfl) ?_
  refine Wl.done ?_
  refine Ar.next ?_
  refine Wc.cond rfl (fun hc7 => ?_) (fun hc7 => ?_)
  refine Wc.seq ?_
  refine Wc.region rfl ?_
  refine Wl.q rfl (Qy.move rfl) ?_
  refine Wl.q rfl (Qy.eql rfl rfl) ?_
  refine Wl.q rfl (Qy.move rfl) ?_
  apply Wl.joinAnd 5 126 131 rfl
  intro hg1
  refine Wl.want rfl rfl ?_
  refine Wl.q rfl (Qy.move rfl) ?_
  refine Wl.want rfl rfl ?_
  refine Wl.q rfl (Qy.move rfl) ?_
  refine Wl.want rfl rfl ?_
  refine Wl.q rfl (Qy.add rfl rfl (by omega)) ?_
  refine Wl.want rfl rfl ?_
  refine Wl.q rfl (Qy.leq rfl rfl) ?_
  refine Wl.q rfl (Qy.pick rfl rfl) ?_
  exact Wl.back 5 0 rfl rfl rfl rfl rfl
  intro hg1
  refine Wl.pass rfl rfl rfl ?_
  refine Wl.pass rfl rfl rfl ?_
  refine Wl.pass rfl rfl rfl ?_
  refine Wl.pass rfl rfl rfl ?_
  refine Wl.q rfl (Qy.pick rfl rfl) ?_
  exact Wl.back 5 0 rfl rfl rfl rfl rfl
  refine Wl.done ?_
  refine Ar.next ?_
  refine Wc.cond rfl (fun hc8 => ?_) (fun hc8 => ?_)
  refine Wc.seq ?_
  refine Wc.region rfl ?_
  refine Wl.q rfl (Qy.move rfl) ?_
  refine Wl.q rfl (Qy.move rfl) ?_
  refine Wl.q rfl (Qy.add rfl rfl (by omega)) ?_
  refine Wl.q rfl (Qy.assign rfl) ?_
  refine Wl.q rfl (Qy.assign rfl) ?_
  refine Wl.q rfl (Qy.assign rfl) ?_
  refine Wl.done ?_
  refine Ar.next ?_
  refine Wc.ret ?_
  refine Ar.outRet ?_
  refine Ar.passRet ?_
  refine Ar.out3 (.inr rfl) (Ho := Hp.only _ []) rfl (.tmp rfl) (.tmp rfl) (.tmp rfl) (Hp.sub_only _ _) ?_
  rotate_left
  refine Wc.skip ?_
  refine Ar.outNormal ?_
  refine Ar.next ?_
  refine Wc.seq ?_
  refine Wc.region rfl ?_
  refine Wl.q rfl (Qy.assign rfl) ?_
  refine Wl.q rfl (Qy.assign rfl) ?_
  refine Wl.q rfl (Qy.assign rfl) ?_
  refine Wl.done ?_
  refine Ar.next ?_
  refine Wc.ret ?_
  refine Ar.out3 (.inr rfl) (Ho := Hp.only _ []) rfl (.tmp rfl) (.tmp rfl) (.tmp rfl) (Hp.sub_only _ _) ?_
  rotate_left
  refine Wc.skip ?_
  refine Ar.outNormal ?_
  refine Ar.next ?_
  refine Wc.seq ?_
  refine Wc.region rfl ?_
  refine Wl.q rfl (Qy.assign rfl) ?_
  refine Wl.q rfl (Qy.assign rfl) ?_
  refine Wl.q rfl (Qy.assign rfl) ?_
  refine Wl.done ?_
  refine Ar.next ?_
  refine Wc.ret ?_
  refine Ar.out3 (.inr rfl) (Ho := Hp.only _ []) rfl (.tmp rfl) (.tmp rfl) (.tmp rfl) (Hp.sub_only _ _) ?_
  rotate_left
  all_goals refine ⟨?_, rfl, rfl⟩
  all_goals clear hc hd hm hq1 hq2 hcz hdz hc2 hd2
  all_goals simp_all [togP]
  all_goals repeat' split
  all_goals first
    | exact ⟨rfl, rfl, rfl⟩
    | (rename_i h; exfalso; omega)
    | (rename_i h; exfalso; first | exact hc7 h.1 h.2 | exact hc8 h.1 h.2)
theorem pow_range (c : Int) : 0 ≤ powC c ∧ powC c ≤ 9 := by
  unfold powC
  repeat' split
  all_goals omega
theorem plain_const {i : Sl.Instr} (h : constOk i.op i.c = true) : constOk (plainP i).op (plainP i).c = true := by
  have hp := pow_range i.c
  unfold plainP
  repeat' split
  all_goals first | exact h | (simp [constOk]; try omega)
theorem const_shift {op c : Int} (h : constOk op c = true) (ho : op = 7 ∨ op = 8) : 1 ≤ c ∧ c ≤ 64 := by
  unfold constOk at h
  rw [if_neg (by omega), if_pos ho, decide_eq_true_eq] at h
  exact h
theorem div_ne {c d : Int} (hc : c ≠ 0) (h : c.tmod d = 0) : c.tdiv d ≠ 0 := by
  intro h0
  have e := Int.mul_tdiv_add_tmod c d
  rw [h0, h, Int.mul_zero] at e
  omega
theorem const_md {op c : Int} (ho : op = 5 ∨ op = 6) (h0 : c ≠ 0) (h : -512 ≤ c ∧ c ≤ 512) : constOk op c = true := by
  unfold constOk; rw [if_pos ho, decide_eq_true_eq]; exact ⟨h0, h⟩
theorem const_sh {op c : Int} (ho : op = 7 ∨ op = 8) (h : 1 ≤ c ∧ c ≤ 64) : constOk op c = true := by
  unfold constOk; rw [if_neg (by omega), if_pos ho, decide_eq_true_eq]; exact h
theorem tog_const {f c s d : Int} (hc : constOk f c = true) (hd : constOk s d = true) : constOk (togP f c s d).1 (togP f c s d).2.1 = true ∨ (togP f c s d).2.2 = false := by
  have hc2 := const_fits hc
  have hd2 := const_fits hd
  have hq1 := div_small (d := d) hc2
  have hq2 := div_small (d := c) hd2
  have hcz := const_zero hc
  have hdz := const_zero hd
  have hcs := const_shift hc
  have hds := const_shift hd
  unfold togP
  by_cases h1 : f = 1
  · rw [if_pos h1]; exact .inl hd
  rw [if_neg h1]
  by_cases h2 : f = 2
  · rw [if_pos h2]
    split
    · exact .inl rfl
    split
    · exact .inl rfl
    split
    · rename_i h; exact .inl (const_md h (by have := hdz h; show -d ≠ 0; omega) (by show -512 ≤ -d ∧ -d ≤ 512; omega))
    · exact .inr rfl
  rw [if_neg h2]
  by_cases h5 : f = 5
  · have hc0 := hcz (.inl h5)
    rw [if_pos h5]
    split
    · exact .inl (const_md (.inl rfl) (by show -c ≠ 0; omega) (by show -512 ≤ -c ∧ -c ≤ 512; omega))
    split
    · rename_i h; exact .inl (const_md (.inl rfl) (Int.mul_ne_zero hc0 (hdz (.inl h.1))) h.2)
    split
    · rename_i h; exact .inl (const_md (.inl rfl) (div_ne hc0 h.2) hq1)
    split
    · rename_i h; exact .inl (const_md (.inr rfl) (div_ne (hdz (.inr h.1)) h.2) hq2)
    · exact .inr rfl
  rw [if_neg h5]
  by_cases h6 : f = 6
  · have hc0 := hcz (.inr h6)
    rw [if_pos h6]
    split
    · exact .inl (const_md (.inr rfl) (by show -c ≠ 0; omega) (by show -512 ≤ -c ∧ -c ≤ 512; omega))
    split
    · rename_i h; exact .inl (const_md (.inr rfl) (Int.mul_ne_zero hc0 (hdz (.inr h.1))) h.2)
    · exact .inr rfl
  rw [if_neg h6]
  by_cases h7 : f = 7
  · have h3 := hcs (.inl h7)
    rw [if_pos h7]
    split
    · rename_i h; have h4 := hds (.inl h.1); exact .inl (const_sh (.inl rfl) (by show 1 ≤ c + d ∧ c + d ≤ 64; omega))
    split
    · exact .inr rfl
    rename_i h8
    have h4 := hds (.inr (by omega))
    split
    · exact .inl rfl
    split
    · exact .inl (const_sh (.inl rfl) (by show 1 ≤ c - d ∧ c - d ≤ 64; omega))
    · exact .inl (const_sh (.inr rfl) (by show 1 ≤ d - c ∧ d - c ≤ 64; omega))
  rw [if_neg h7]
  by_cases h8 : f = 8
  · have h3 := hcs (.inr h8)
    rw [if_pos h8]
    split
    · rename_i h; have h4 := hds (.inr h.1); exact .inl (const_sh (.inr rfl) (by show 1 ≤ c + d ∧ c + d ≤ 64; omega))
    · exact .inr rfl
  rw [if_neg h8]; exact .inr rfl
end Go.Proofs.YtbppmiimeccclaaGreatDoor
namespace Go.Proofs.YtbppmiimeccclaaGreatDoor
open Go Go.Sl Go.ChangeShapes Go.WideShapes Go.RowKit Go.Joins
set_option linter.unusedVariables false
set_option maxRecDepth 100000
abbrev laidL : List (String × DataW Unit) := [("math/bits.deBruijn32tab", Rows.laid_math_bits_deBruijn32tab), ("math/bits.deBruijn64tab", Rows.laid_math_bits_deBruijn64tab)]
def nums64 : List Int := [0, 1, 56, 2, 57, 49, 28, 3, 61, 58, 42, 50, 38, 29, 17, 4, 62, 47, 59, 36, 45, 43, 51, 22, 53, 39, 33, 30, 24, 18, 12, 5, 63, 55, 48, 27, 60, 41, 37, 16, 46, 35, 44, 21, 52, 32, 23, 11, 54, 26, 40, 15, 34, 20, 31, 10, 25, 14, 19, 9, 13, 8, 7, 6]
theorem gTab : Tryz.prog.globalNamed "math/bits.deBruijn64tab" = some 1 := by kernel_rfl
theorem gTabType : (Tryz.prog.globals[1]?).map (·.type) = some 139 := by kernel_rfl
theorem und139 : Tryz.prog.underlying 139 = some (.array 64 5) := by kernel_rfl
theorem und5 : Tryz.prog.underlying 5 = some (.int .u8) := by kernel_rfl
theorem cells139 : Tryz.prog.cellsOf 139 = 64 := by kernel_rfl
theorem cells5 : Tryz.prog.cellsOf 5 = 1 := by kernel_rfl
theorem table {W : World} (h : laidMetH Tryz.prog laidL W) : Lib.TabIs Tryz.prog W "math/bits.deBruijn64tab" .u8 nums64 := by
  have h1 := h.filter (fun x => x.1 == "math/bits.deBruijn64tab")
  have e : laidL.filter (fun x => x.1 == "math/bits.deBruijn64tab") = [("math/bits.deBruijn64tab", Rows.laid_math_bits_deBruijn64tab)] := by kernel_rfl
  rw [e] at h1
  exact Lib.tabIs_of_head (rest := []) gTab gTabType und139 und5 cells5 cells139 h1
theorem tab_ok {W : World} (h : laidMetH Tryz.prog laidL W) : TabOk (heapG W) := fun k v hv => by
  have hk : k < nums64.length := by
    have := (List.getElem?_eq_some_iff.1 hv).1
    simpa [tab64, nums64] using this
  have h1 := (table h).cell gTab k hk
  have h2 := cell_heapG h1
  rw [h2]
  have e : tab64 = nums64.map fun n => .int .u8 n := rfl
  rw [e, List.getElem?_map, List.getElem?_eq_getElem hk] at hv
  rw [← hv, List.getD_eq_getElem?_getD, List.getElem?_eq_getElem hk]; rfl
/-- a block's cells, said anew -/
def refill (cs : Array Value) : Obj → Obj
  | .cells _ t frozen => .cells cs t frozen
  | o => o
/-- a world in which the tables hold what their initialisers lay -/
noncomputable def laidWorld (os : Os) : World :=
  { World.holding Tryz.prog os ⟨#[], #[], []⟩ with heap := ((World.holding Tryz.prog os ⟨#[], #[], []⟩).heap.modify 0 (refill #[.int .u8 0, .int .u8 1, .int .u8 28, .int .u8 2, .int .u8 29, .int .u8 14, .int .u8 24, .int .u8 3, .int .u8 30, .int .u8 22, .int .u8 20, .int .u8 15, .int .u8 25, .int .u8 17, .int .u8 4, .int .u8 8, .int .u8 31, .int .u8 27, .int .u8 13, .int .u8 23, .int .u8 21, .int .u8 19, .int .u8 16, .int .u8 7, .int .u8 26, .int .u8 12, .int .u8 18, .int .u8 6, .int .u8 11, .int .u8 5, .int .u8 10, .int .u8 9])).modify 1 (refill tab64.toArray) }
end Go.Proofs.YtbppmiimeccclaaGreatDoor
set_option linter.unusedVariables false
namespace Go.Sl
open Go
section
variable {P : Program} {e : Env} {H : Hp} {G : Imm} {ty : TypeId} {t t' : TypeId} {x y : Operand} {m n : Int}
theorem Qy.uadd64 (hx : e.ev x = some (.int .u64 m)) (hy : e.ev y = some (.int .u64 n)) (hb : 0 ≤ m + n ∧ m + n ≤ 18446744073709551615) : Qy P (.binOp .add t x y t') ty e H G (.int .u64 (m + n)) := by
  have := Qy.addW (P := P) (H := H) (G := G) (ty := ty) (t := t) (t' := t') hx hy; rwa [IntWalk.u64_in _ hb] at this
theorem Qy.usub64 (hx : e.ev x = some (.int .u64 m)) (hy : e.ev y = some (.int .u64 n)) (hb : 0 ≤ m - n ∧ m - n ≤ 18446744073709551615) : Qy P (.binOp .sub t x y t') ty e H G (.int .u64 (m - n)) := by
  have := Qy.subW (P := P) (H := H) (G := G) (ty := ty) (t := t) (t' := t') hx hy; rwa [IntWalk.u64_in _ hb] at this
theorem Qy.umul64 (hx : e.ev x = some (.int .u64 m)) (hy : e.ev y = some (.int .u64 n)) (hb : 0 ≤ m * n ∧ m * n ≤ 18446744073709551615) : Qy P (.binOp .mul t x y t') ty e H G (.int .u64 (m * n)) := by
  have := Qy.mulW (P := P) (H := H) (G := G) (ty := ty) (t := t) (t' := t') hx hy; rwa [IntWalk.u64_in _ hb] at this
theorem tdiv_pos {m n : Int} (h : 0 ≤ m) : m.tdiv n = m / n := Int.tdiv_eq_ediv_of_nonneg h
theorem tmod_pos {m n : Int} (h : 0 ≤ m) : m.tmod n = m % n := Int.tmod_eq_emod_of_nonneg h
theorem div_le {m n : Int} (h : 0 ≤ m) (hn : 0 < n) : 0 ≤ m / n ∧ m / n ≤ m := ⟨Int.ediv_nonneg h (Int.le_of_lt hn), Int.ediv_le_self _ h⟩
theorem Qy.uquo64 (hx : e.ev x = some (.int .u64 m)) (hy : e.ev y = some (.int .u64 n)) (hb : 0 ≤ m ∧ m ≤ 18446744073709551615 ∧ 0 < n) : Qy P (.binOp .quo t x y t') ty e H G (.int .u64 (m / n)) := by
  have := Qy.quoW (P := P) (H := H) (G := G) (ty := ty) (t := t) (t' := t') hx hy (by omega)
  have h1 := div_le hb.1 hb.2.2
  rwa [tdiv_pos hb.1, IntWalk.u64_in _ ⟨h1.1, Int.le_trans h1.2 hb.2.1⟩] at this
theorem Qy.quoP (hx : e.ev x = some (.int .i64 m)) (hy : e.ev y = some (.int .i64 n)) (hb : 0 ≤ m ∧ m ≤ 9223372036854775807 ∧ 0 < n) : Qy P (.binOp .quo t x y t') ty e H G (.int .i64 (m / n)) := by
  have h1 := div_le hb.1 hb.2.2
  have h2 : m.tdiv n = m / n := tdiv_pos hb.1
  have := Qy.quo (P := P) (H := H) (G := G) (ty := ty) (t := t) (t' := t') hx hy (by omega) (by rw [h2]; exact ⟨by omega, by omega⟩)
  rwa [h2] at this
theorem Qy.urem {k : IntKind} (hx : e.ev x = some (.int k m)) (hy : e.ev y = some (.int k n)) (hb : 0 ≤ m ∧ 0 < n) : Qy P (.binOp .rem t x y t') ty e H G (.int k (m % n)) := by
  have := Qy.rem (P := P) (H := H) (G := G) (ty := ty) (t := t) (t' := t') hx hy (by omega)
  rwa [tmod_pos hb.1] at this
theorem Qy.conv32 {s : TypeId} {k : IntKind} (hs : (P.underlying s).isSome = true) (ht : P.underlying t = some (.int .u32)) (hx : e.ev x = some (.int k m)) (hb : 0 ≤ m ∧ m ≤ 4294967295) : Qy P (.convert s t x) ty e H G (.int .u32 m) := by
  have := Qy.conv (P := P) (H := H) (G := G) (ty := ty) hs ht hx
  rwa [IntWalk.u32_in _ hb] at this
theorem Qy.conv64 {s : TypeId} {k : IntKind} (hs : (P.underlying s).isSome = true) (ht : P.underlying t = some (.int .u64)) (hx : e.ev x = some (.int k m)) (hb : 0 ≤ m ∧ m ≤ 18446744073709551615) : Qy P (.convert s t x) ty e H G (.int .u64 m) := by
  have := Qy.conv (P := P) (H := H) (G := G) (ty := ty) hs ht hx
  rwa [IntWalk.u64_in _ hb] at this
end
theorem bits_or_u32_nat (a b : Nat) (ha : a < 4294967296) (hb : b < 4294967296) : bits .or .u32 (a : Int) (b : Int) = ((a ||| b : Nat) : Int) := by
  have hx : a ||| b < 2 ^ 32 := Nat.or_lt_two_pow (by omega) (by omega)
  have h1 : (BitVec.ofInt 32 (a : Int)).toNat = a := by
    rw [BitVec.ofInt_natCast, BitVec.toNat_ofNat]; exact Nat.mod_eq_of_lt (by omega)
  have h2 : (BitVec.ofInt 32 (b : Int)).toNat = b := by
    rw [BitVec.ofInt_natCast, BitVec.toNat_ofNat]; exact Nat.mod_eq_of_lt (by omega)
  show IntKind.u32.wrap ((BitVec.ofInt 32 (a : Int) ||| BitVec.ofInt 32 (b : Int)).toNat : Int) = _
  rw [BitVec.toNat_or, h1, h2, IntKind.wrap_u32]
  omega
/-- a whole number's handle -/
structure IV where
  neg : Bool
  a : Option Addr
  n : Nat
  c : Nat
instance : Inhabited IV := ⟨⟨false, none, 0, 0⟩⟩
instance : Cells IV := ⟨2, fun x => [.bool x.neg, .slice x.a x.n x.c], fun _ => rfl, fun _ => rfl⟩
/-- a slice's handle -/
structure SV where
  a : Option Addr
  n : Nat
  c : Nat
instance : Inhabited SV := ⟨⟨none, 0, 0⟩⟩
instance : Cells SV := ⟨1, fun x => [.slice x.a x.n x.c], fun _ => rfl, fun _ => rfl⟩
end Go.Sl
set_option linter.unusedVariables false
namespace Go.Sl
open Go
def Digs (l : List U32) : Prop := ∀ d ∈ l, 0 ≤ d.v ∧ d.v < 65536
def valL : List U32 → Int
  | [] => 0
  | d :: l => d.v + 65536 * valL l
def pw (n : Nat) : Int := ((65536 ^ n : Nat) : Int)
theorem pw_zero : pw 0 = 1 := rfl
theorem pw_succ (n : Nat) : pw (n + 1) = 65536 * pw n := by unfold pw; rw [Nat.pow_succ, Nat.mul_comm, Int.natCast_mul]; rfl
theorem pw_pos (n : Nat) : 0 < pw n := by unfold pw; exact Int.ofNat_lt.2 (Nat.pow_pos (by decide))
theorem pw_le {m n : Nat} (h : m ≤ n) : pw m ≤ pw n := by unfold pw; exact Int.ofNat_le.2 (Nat.pow_le_pow_right (by decide) h)
theorem valL_nil : valL [] = 0 := rfl
theorem valL_cons (d : U32) (l : List U32) : valL (d :: l) = d.v + 65536 * valL l := rfl
theorem Digs.nil : Digs [] := fun d h => by simp at h
theorem Digs.tail {d : U32} {l : List U32} (h : Digs (d :: l)) : Digs l := fun x hx => h x (List.mem_cons_of_mem _ hx)
theorem Digs.head {d : U32} {l : List U32} (h : Digs (d :: l)) : 0 ≤ d.v ∧ d.v < 65536 := h d List.mem_cons_self
theorem Digs.append {l m : List U32} (h : Digs l) (h' : Digs m) : Digs (l ++ m) := fun x hx => by
  rcases List.mem_append.1 hx with h1 | h1
  · exact h x h1
  · exact h' x h1
theorem Digs.one {d : Int} (h : 0 ≤ d ∧ d < 65536) : Digs [⟨d⟩] := fun x hx => by
  have : x = ⟨d⟩ := by simpa using hx
  subst this; exact h
theorem Digs.take {l : List U32} (h : Digs l) (n : Nat) : Digs (l.take n) := fun x hx => h x (List.mem_of_mem_take hx)
theorem Digs.at {l : List U32} (h : Digs l) {m : Int} (hm : 0 ≤ m ∧ m < l.length) : 0 ≤ (l[m.toNat]?.getD default).v ∧ (l[m.toNat]?.getD default).v < 65536 := by
  have hl : m.toNat < l.length := by omega
  rw [List.getElem?_eq_getElem hl]; exact h _ (List.getElem_mem hl)
theorem valL_nonneg : ∀ {l : List U32}, Digs l → 0 ≤ valL l
  | [], _ => Int.le_refl 0
  | d :: l, h => by
    have h1 := valL_nonneg h.tail
    have h2 := h.head
    rw [valL_cons]; omega
theorem valL_append : ∀ (l m : List U32), valL (l ++ m) = valL l + pw l.length * valL m
  | [], m => by rw [List.nil_append, valL_nil, List.length_nil, pw_zero]; omega
  | d :: l, m => by
    rw [List.cons_append, valL_cons, valL_cons, valL_append l m, List.length_cons, pw_succ, Int.mul_add, ← Int.mul_assoc]; omega
theorem valL_one (d : U32) : valL [d] = d.v := by rw [valL_cons, valL_nil]; omega
theorem valL_snoc (l : List U32) (d : U32) : valL (l ++ [d]) = valL l + pw l.length * d.v := by rw [valL_append, valL_one]
theorem valL_take_succ {l : List U32} {k : Nat} (h : k < l.length) : valL (l.take (k + 1)) = valL (l.take k) + pw k * (l[((k : Nat) : Int).toNat]?.getD default).v := by
  rw [List.take_add_one, Int.toNat_natCast, List.getElem?_eq_getElem h]
  simp only [Option.toList_some, Option.getD_some]
  rw [valL_snoc, List.length_take, Nat.min_eq_left (Nat.le_of_lt h)]
theorem take_all {α : Type} {l : List α} {k : Nat} (h : l.length ≤ k) : l.take k = l := List.take_of_length_le h
theorem Digs.zeros (n : Nat) : Digs (List.replicate n ⟨0⟩) := fun x hx => by
  have := List.eq_of_mem_replicate hx
  subst this; exact ⟨by decide, by decide⟩
/-- noughts at the top count nothing -/
theorem valL_trim {l : List U32} {n : Nat} (h : ∀ j, n ≤ j → j < l.length → (l[j]?.getD default).v = 0) : valL (l.take n) = valL l := by
  rcases Nat.lt_or_ge n l.length with hn | hn
  · have e : l = l.take n ++ l.drop n := (List.take_append_drop n l).symm
    have hz : ∀ (m : List U32), (∀ j, j < m.length → (m[j]?.getD default).v = 0) → valL m = 0 := by
      intro m
      induction m with
      | nil => intro _; rfl
      | cons d m ih =>
        intro h0
        have h1 := h0 0 (by simp)
        simp only [List.getElem?_cons_zero, Option.getD_some] at h1
        rw [valL_cons, h1, ih fun j hj => by have := h0 (j + 1) (by simpa using hj); simpa using this]; rfl
    have h2 : valL (l.drop n) = 0 := hz _ fun j hj => by
      rw [List.getElem?_drop]
      exact h (n + j) (by omega) (by rw [List.length_drop] at hj; omega)
    have h3 : valL l = valL (l.take n ++ l.drop n) := by rw [List.take_append_drop]
    rw [h3, valL_append, h2]; omega
  · rw [take_all hn]
/-- without a nought at the top -/
def Top (l : List U32) : Prop := l = [] ∨ (l[l.length - 1]?.getD default).v ≠ 0
theorem Top.nil : Top [] := .inl rfl
theorem top_ge {l : List U32} (hd : Digs l) (ht : Top l) (h0 : l ≠ []) : pw (l.length - 1) ≤ valL l := by
  have hl : 0 < l.length := List.length_pos_iff.2 h0
  have h1 : (l[l.length - 1]?.getD default).v ≠ 0 := by
    rcases ht with h | h
    · exact absurd h h0
    · exact h
  have h2 := valL_take_succ (l := l) (k := l.length - 1) (by omega)
  rw [Nat.sub_add_cancel hl, take_all (Nat.le_refl _), Int.toNat_natCast] at h2
  have h3 := valL_nonneg (hd.take (l.length - 1))
  have h4 : (1 : Int) ≤ (l[l.length - 1]?.getD default).v := by
    have := hd.at (m := ((l.length - 1 : Nat) : Int)) (by omega)
    rw [Int.toNat_natCast] at this
    omega
  have h5 := Int.mul_le_mul_of_nonneg_left h4 (Int.le_of_lt (pw_pos (l.length - 1)))
  omega
theorem top_len {l : List U32} (hd : Digs l) (ht : Top l) {m : Nat} (h : valL l < pw m) : l.length ≤ m := by
  by_cases h0 : l = []
  · subst h0; exact Nat.zero_le _
  · have h1 := top_ge hd ht h0
    rcases Nat.lt_or_ge m l.length with h2 | h2
    · have h3 := pw_le (show m ≤ l.length - 1 by omega)
      omega
    · exact h2
theorem top_pos {l : List U32} (hd : Digs l) (ht : Top l) (h0 : l ≠ []) : 0 < valL l := Int.lt_of_lt_of_le (pw_pos _) (top_ge hd ht h0)
/-- sign and digits of a whole number -/
structure IsInt (neg : Bool) (l : List U32) (z : Int) : Prop where
  digs : Digs l
  top : Top l
  sign : l = [] → neg = false
  val : z = if neg = true then -valL l else valL l
theorem IsInt.abs {neg : Bool} {l : List U32} {z : Int} (h : IsInt neg l z) : valL l = z.natAbs := by
  have h1 := valL_nonneg h.digs
  have h2 := h.val
  split at h2 <;> omega
theorem IsInt.neg_iff {neg : Bool} {l : List U32} {z : Int} (h : IsInt neg l z) : neg = decide (z < 0) := by
  have h2 := h.val
  by_cases h0 : l = []
  · have h3 := h.sign h0
    subst h0
    rw [h3] at h2 ⊢
    rw [valL_nil] at h2
    have : ¬ z < 0 := by simp at h2; omega
    simp [this]
  · have h1 := top_pos h.digs h.top h0
    cases neg with
    | true =>
      rw [if_pos rfl] at h2
      have : z < 0 := by omega
      simp [this]
    | false =>
      rw [if_neg (by decide)] at h2
      have : ¬ z < 0 := by omega
      simp [this]
theorem IsInt.zero_iff {neg : Bool} {l : List U32} {z : Int} (h : IsInt neg l z) : l.length = 0 ↔ z = 0 := by
  have h2 := h.val
  constructor
  · intro h0
    have h0 := List.eq_nil_of_length_eq_zero h0
    subst h0
    rw [valL_nil] at h2
    split at h2 <;> omega
  · intro hz
    by_cases h0 : l = []
    · rw [h0]; rfl
    · have h1 := top_pos h.digs h.top h0
      split at h2 <;> omega
theorem IsInt.len {neg : Bool} {l : List U32} {z : Int} (h : IsInt neg l z) {m : Nat} (hz : (z.natAbs : Int) < pw m) : l.length ≤ m := by
  refine top_len h.digs h.top ?_
  rw [h.abs]; exact hz
/-- what a handle stands for -/
def Num (G : Imm) (x : IV) (z : Int) : Prop := ∃ l : List U32, l.length = x.n ∧ x.n ≤ x.c ∧ Arr G x.a l ∧ IsInt x.neg l z
theorem Num.up {G G' : Imm} {x : IV} {z : Int} (h : Num G x z) (hl : G.le G') : Num G' x z := by
  obtain ⟨l, h1, h0, h2, h3⟩ := h
  exact ⟨l, h1, h0, h2.up hl, h3⟩
theorem Num.zero (G : Imm) : Num G ⟨false, none, 0, 0⟩ 0 := ⟨[], rfl, Nat.le_refl _, Arr.nil G, ⟨Digs.nil, Top.nil, fun _ => rfl, rfl⟩⟩
end Go.Sl
set_option maxRecDepth 100000
namespace Go.Sl
open Go
section
variable {P : Program} {B : Bs} {D : List Deferred}
/-- a loop under which more and more is frozen -/
theorem Wc.loopG {ι : Type} {r : Option Nat} {c : Code} {Q : Exit → Act → World → Prop} {e : Env} {H : Hp} {G : Imm} (I : ι → Env × Hp) (g : ι → Imm) (φ : ι → Prop) (μ : ι → Nat) (i0 : ι) (h0 : φ i0) (hg : G = g i0)
    (he : e.sub (I i0).1) (hH : H.sub (I i0).2)
    (hb : ∀ i, φ i → Wc r P c B ⟨(I i).1, D, (I i).2, g i⟩ (Exit.then (Again B (fun i => ⟨(I i).1, D, (I i).2, g i⟩) φ μ (μ i)) Q)) : Wc r P (.loop c) B ⟨e, D, H, G⟩ Q :=
  Wc.loopS (fun i => ⟨(I i).1, D, (I i).2, g i⟩) φ μ i0 h0 (fun _ _ h => by rw [hg] at h; exact h.sub he hH) hb
end
/-- numbers in a row -/
def Nums (G : Imm) (l : List IV) (zs : List Int) : Prop := l.length = zs.length ∧ ∀ i : Nat, i < l.length → Num G (l[i]?.getD default) (zs[i]?.getD 0)
theorem Nums.up {G G' : Imm} {l : List IV} {zs : List Int} (h : Nums G l zs) (hl : G.le G') : Nums G' l zs := ⟨h.1, fun i hi => (h.2 i hi).up hl⟩
theorem Nums.nil (G : Imm) : Nums G [] [] := ⟨rfl, fun i hi => by simp at hi⟩
theorem Nums.at {G : Imm} {l : List IV} {zs : List Int} (h : Nums G l zs) {m : Int} (hm : 0 ≤ m ∧ m < l.length) : Num G (l[m.toNat]?.getD default) (zs[m.toNat]?.getD 0) := h.2 _ (by omega)
theorem Nums.snoc {G : Imm} {l : List IV} {zs : List Int} (h : Nums G l zs) {x : IV} {z : Int} (hx : Num G x z) : Nums G (l ++ [x]) (zs ++ [z]) := by
  refine ⟨by simp [h.1], fun i hi => ?_⟩
  rw [List.length_append, List.length_singleton] at hi
  by_cases hc : i < l.length
  · rw [List.getElem?_append_left hc, List.getElem?_append_left (by rw [← h.1]; exact hc)]
    exact h.2 i hc
  · have e : i = l.length := by omega
    subst e
    rw [List.getElem?_concat_length, h.1, List.getElem?_concat_length]
    exact hx
/-- all smaller than m digits -/
def Below (m : Nat) (zs : List Int) : Prop := ∀ z ∈ zs, (z.natAbs : Int) < pw m
theorem Below.at {m : Nat} {zs : List Int} (h : Below m zs) (i : Nat) : ((zs[i]?.getD 0).natAbs : Int) < pw m := by
  cases hx : zs[i]? with
  | none => exact pw_pos m
  | some z => exact h z (List.mem_of_getElem? hx)
theorem Below.mono {m k : Nat} {zs : List Int} (h : Below m zs) (hk : m ≤ k) : Below k zs := fun z hz => Int.lt_of_lt_of_le (h z hz) (pw_le hk)
end Go.Sl
set_option linter.unusedVariables false
namespace Go.Sl
open Go
def Lims (l : List U32) : Prop := ∀ d ∈ l, 0 ≤ d.v ∧ d.v < 4294967296
def valB : List U32 → Int
  | [] => 0
  | d :: l => d.v + 4294967296 * valB l
def pb (n : Nat) : Int := ((4294967296 ^ n : Nat) : Int)
theorem pb_zero : pb 0 = 1 := rfl
theorem pb_succ (n : Nat) : pb (n + 1) = 4294967296 * pb n := by unfold pb; rw [Nat.pow_succ, Nat.mul_comm, Int.natCast_mul]; rfl
theorem pb_pos (n : Nat) : 0 < pb n := by unfold pb; exact Int.ofNat_lt.2 (Nat.pow_pos (by decide))
theorem pb_add (m n : Nat) : pb (m + n) = pb m * pb n := by unfold pb; rw [Nat.pow_add, Int.natCast_mul]
theorem pb_le {m n : Nat} (h : m ≤ n) : pb m ≤ pb n := by unfold pb; exact Int.ofNat_le.2 (Nat.pow_le_pow_right (by decide) h)
theorem valB_nil : valB [] = 0 := rfl
theorem valB_cons (d : U32) (l : List U32) : valB (d :: l) = d.v + 4294967296 * valB l := rfl
theorem Lims.nil : Lims [] := fun d h => by simp at h
theorem Lims.tail {d : U32} {l : List U32} (h : Lims (d :: l)) : Lims l := fun x hx => h x (List.mem_cons_of_mem _ hx)
theorem Lims.head {d : U32} {l : List U32} (h : Lims (d :: l)) : 0 ≤ d.v ∧ d.v < 4294967296 := h d List.mem_cons_self
theorem Lims.append {l m : List U32} (h : Lims l) (h' : Lims m) : Lims (l ++ m) := fun x hx => by
  rcases List.mem_append.1 hx with h1 | h1
  · exact h x h1
  · exact h' x h1
theorem Lims.one {d : Int} (h : 0 ≤ d ∧ d < 4294967296) : Lims [⟨d⟩] := fun x hx => by
  have : x = ⟨d⟩ := by simpa using hx
  subst this; exact h
theorem Lims.take {l : List U32} (h : Lims l) (n : Nat) : Lims (l.take n) := fun x hx => h x (List.mem_of_mem_take hx)
theorem Lims.at {l : List U32} (h : Lims l) {m : Int} (hm : 0 ≤ m ∧ m < l.length) : 0 ≤ (l[m.toNat]?.getD default).v ∧ (l[m.toNat]?.getD default).v < 4294967296 := by
  have hl : m.toNat < l.length := by omega
  rw [List.getElem?_eq_getElem hl]; exact h _ (List.getElem_mem hl)
theorem valB_nonneg : ∀ {l : List U32}, Lims l → 0 ≤ valB l
  | [], _ => Int.le_refl 0
  | d :: l, h => by
    have h1 := valB_nonneg h.tail
    have h2 := h.head
    rw [valB_cons]; omega
theorem valB_lt : ∀ {l : List U32}, Lims l → valB l < pb l.length
  | [], _ => by decide
  | d :: l, h => by
    have h1 := valB_lt h.tail
    have h2 := h.head
    rw [valB_cons, List.length_cons, pb_succ]; omega
theorem valB_append : ∀ (l m : List U32), valB (l ++ m) = valB l + pb l.length * valB m
  | [], m => by rw [List.nil_append, valB_nil, List.length_nil, pb_zero]; omega
  | d :: l, m => by
    rw [List.cons_append, valB_cons, valB_cons, valB_append l m, List.length_cons, pb_succ, Int.mul_add, ← Int.mul_assoc]; omega
theorem valB_one (d : U32) : valB [d] = d.v := by rw [valB_cons, valB_nil]; omega
theorem valB_snoc (l : List U32) (d : U32) : valB (l ++ [d]) = valB l + pb l.length * d.v := by rw [valB_append, valB_one]
theorem valB_take_succ {l : List U32} {k : Nat} (h : k < l.length) : valB (l.take (k + 1)) = valB (l.take k) + pb k * (l[((k : Nat) : Int).toNat]?.getD default).v := by
  rw [List.take_add_one, Int.toNat_natCast, List.getElem?_eq_getElem h]
  simp only [Option.toList_some, Option.getD_some]
  rw [valB_snoc, List.length_take, Nat.min_eq_left (Nat.le_of_lt h)]
theorem valB_replicate (n : Nat) : valB (List.replicate n ⟨0⟩) = 0 := by
  induction n with
  | zero => rfl
  | succ n ih => rw [List.replicate_succ, valB_cons, ih]; rfl
theorem Lims.zeros (n : Nat) : Lims (List.replicate n ⟨0⟩) := fun x hx => by
  have := List.eq_of_mem_replicate hx
  subst this; exact ⟨by decide, by decide⟩
/-- noughts at the top count nothing -/
theorem valB_trim {l : List U32} {n : Nat} (h : ∀ j, n ≤ j → j < l.length → (l[j]?.getD default).v = 0) : valB (l.take n) = valB l := by
  rcases Nat.lt_or_ge n l.length with hn | hn
  · have e : l = l.take n ++ l.drop n := (List.take_append_drop n l).symm
    have hz : ∀ (m : List U32), (∀ j, j < m.length → (m[j]?.getD default).v = 0) → valB m = 0 := by
      intro m
      induction m with
      | nil => intro _; rfl
      | cons d m ih =>
        intro h0
        have h1 := h0 0 (by simp)
        simp only [List.getElem?_cons_zero, Option.getD_some] at h1
        rw [valB_cons, h1, ih fun j hj => by have := h0 (j + 1) (by simpa using hj); simpa using this]; rfl
    have h2 : valB (l.drop n) = 0 := hz _ fun j hj => by
      rw [List.getElem?_drop]
      exact h (n + j) (by omega) (by rw [List.length_drop] at hj; omega)
    have h3 : valB l = valB (l.take n ++ l.drop n) := by rw [List.take_append_drop]
    rw [h3, valB_append, h2]; omega
  · rw [take_all hn]
theorem ltop_ge {l : List U32} (hd : Lims l) (ht : Top l) (h0 : l ≠ []) : pb (l.length - 1) ≤ valB l := by
  have hl : 0 < l.length := List.length_pos_iff.2 h0
  have h1 : (l[l.length - 1]?.getD default).v ≠ 0 := by
    rcases ht with h | h
    · exact absurd h h0
    · exact h
  have h2 := valB_take_succ (l := l) (k := l.length - 1) (by omega)
  rw [Nat.sub_add_cancel hl, take_all (Nat.le_refl _), Int.toNat_natCast] at h2
  have h3 := valB_nonneg (hd.take (l.length - 1))
  have h4 : (1 : Int) ≤ (l[l.length - 1]?.getD default).v := by
    have := hd.at (m := ((l.length - 1 : Nat) : Int)) (by omega)
    rw [Int.toNat_natCast] at this
    omega
  have h5 := Int.mul_le_mul_of_nonneg_left h4 (Int.le_of_lt (pb_pos (l.length - 1)))
  omega
theorem ltop_len {l : List U32} (hd : Lims l) (ht : Top l) {m : Nat} (h : valB l < pb m) : l.length ≤ m := by
  by_cases h0 : l = []
  · subst h0; exact Nat.zero_le _
  · have h1 := ltop_ge hd ht h0
    rcases Nat.lt_or_ge m l.length with h2 | h2
    · have h3 := pb_le (show m ≤ l.length - 1 by omega)
      omega
    · exact h2
theorem ltop_pos {l : List U32} (hd : Lims l) (ht : Top l) (h0 : l ≠ []) : 0 < valB l := Int.lt_of_lt_of_le (pb_pos _) (ltop_ge hd ht h0)
theorem ltop_lt_len {l m : List U32} (hl : Lims l) (hm : Lims m) (tm : Top m) (h : l.length < m.length) : valB l < valB m := by
  have h1 := valB_lt hl
  have h2 := ltop_ge hm tm (fun e => by rw [e] at h; simp at h)
  have h3 := pb_le (show l.length ≤ m.length - 1 by omega)
  omega
/-- sign and digits of a whole number -/
structure IsBig (neg : Bool) (l : List U32) (z : Int) : Prop where
  digs : Lims l
  top : Top l
  sign : l = [] → neg = false
  val : z = if neg = true then -valB l else valB l
theorem IsBig.abs {neg : Bool} {l : List U32} {z : Int} (h : IsBig neg l z) : valB l = z.natAbs := by
  have h1 := valB_nonneg h.digs
  have h2 := h.val
  split at h2 <;> omega
theorem IsBig.neg_iff {neg : Bool} {l : List U32} {z : Int} (h : IsBig neg l z) : neg = decide (z < 0) := by
  have h2 := h.val
  by_cases h0 : l = []
  · have h3 := h.sign h0
    subst h0
    rw [h3] at h2 ⊢
    rw [valB_nil] at h2
    have : ¬ z < 0 := by simp at h2; omega
    simp [this]
  · have h1 := ltop_pos h.digs h.top h0
    cases neg with
    | true =>
      rw [if_pos rfl] at h2
      have : z < 0 := by omega
      simp [this]
    | false =>
      rw [if_neg (by decide)] at h2
      have : ¬ z < 0 := by omega
      simp [this]
theorem IsBig.zero_iff {neg : Bool} {l : List U32} {z : Int} (h : IsBig neg l z) : l.length = 0 ↔ z = 0 := by
  have h2 := h.val
  constructor
  · intro h0
    have h0 := List.eq_nil_of_length_eq_zero h0
    subst h0
    rw [valB_nil] at h2
    split at h2 <;> omega
  · intro hz
    by_cases h0 : l = []
    · rw [h0]; rfl
    · have h1 := ltop_pos h.digs h.top h0
      split at h2 <;> omega
theorem IsBig.len {neg : Bool} {l : List U32} {z : Int} (h : IsBig neg l z) {m : Nat} (hz : (z.natAbs : Int) < pb m) : l.length ≤ m := by
  refine ltop_len h.digs h.top ?_
  rw [h.abs]; exact hz
/-- what a handle stands for -/
def Big (G : Imm) (x : IV) (z : Int) : Prop := ∃ l : List U32, l.length = x.n ∧ x.n ≤ x.c ∧ Arr G x.a l ∧ IsBig x.neg l z
theorem Big.up {G G' : Imm} {x : IV} {z : Int} (h : Big G x z) (hl : G.le G') : Big G' x z := by
  obtain ⟨l, h1, h0, h2, h3⟩ := h
  exact ⟨l, h1, h0, h2.up hl, h3⟩
theorem Big.zero (G : Imm) : Big G ⟨false, none, 0, 0⟩ 0 := ⟨[], rfl, Nat.le_refl _, Arr.nil G, ⟨Lims.nil, Top.nil, fun _ => rfl, rfl⟩⟩
end Go.Sl
set_option linter.unusedVariables false
namespace Go.Sl
open Go
theorem bits_and_u64_nat (a b : Nat) (ha : a < 18446744073709551616) (hb : b < 18446744073709551616) : bits .and .u64 (a : Int) (b : Int) = ((a &&& b : Nat) : Int) := by
  have hx : a &&& b < 2 ^ 64 := Nat.and_lt_two_pow _ (by omega)
  have h1 : (BitVec.ofInt 64 (a : Int)).toNat = a := by
    rw [BitVec.ofInt_natCast, BitVec.toNat_ofNat]; exact Nat.mod_eq_of_lt (by omega)
  have h2 : (BitVec.ofInt 64 (b : Int)).toNat = b := by
    rw [BitVec.ofInt_natCast, BitVec.toNat_ofNat]; exact Nat.mod_eq_of_lt (by omega)
  show IntKind.u64.wrap ((BitVec.ofInt 64 (a : Int) &&& BitVec.ofInt 64 (b : Int)).toNat : Int) = _
  rw [BitVec.toNat_and, h1, h2, IntKind.wrap_u64]
  omega
theorem bits_or_u64_nat (a b : Nat) (ha : a < 18446744073709551616) (hb : b < 18446744073709551616) : bits .or .u64 (a : Int) (b : Int) = ((a ||| b : Nat) : Int) := by
  have hx : a ||| b < 2 ^ 64 := Nat.or_lt_two_pow (by omega) (by omega)
  have h1 : (BitVec.ofInt 64 (a : Int)).toNat = a := by
    rw [BitVec.ofInt_natCast, BitVec.toNat_ofNat]; exact Nat.mod_eq_of_lt (by omega)
  have h2 : (BitVec.ofInt 64 (b : Int)).toNat = b := by
    rw [BitVec.ofInt_natCast, BitVec.toNat_ofNat]; exact Nat.mod_eq_of_lt (by omega)
  show IntKind.u64.wrap ((BitVec.ofInt 64 (a : Int) ||| BitVec.ofInt 64 (b : Int)).toNat : Int) = _
  rw [BitVec.toNat_or, h1, h2, IntKind.wrap_u64]
  omega
theorem and_one_u64 (x : Int) (h : 0 ≤ x ∧ x < 18446744073709551616) : bits .and .u64 x 1 = x % 2 := by
  have h1 := bits_and_u64_nat x.toNat 1 (by omega) (by omega)
  rw [Nat.and_one_is_mod, Int.toNat_of_nonneg h.1] at h1
  have h2 : ((x.toNat % 2 : Nat) : Int) = x % 2 := by omega
  exact h1.trans h2
theorem and_low_u64 (x : Int) (h : 0 ≤ x ∧ x < 18446744073709551616) : bits .and .u64 x 4294967295 = x % 4294967296 := by
  have h1 := bits_and_u64_nat x.toNat 4294967295 (by omega) (by omega)
  rw [show (4294967295 : Nat) = 2 ^ 32 - 1 by decide, Nat.and_two_pow_sub_one_eq_mod, Int.toNat_of_nonneg h.1] at h1
  have h2 : ((x.toNat % 2 ^ 32 : Nat) : Int) = x % 4294967296 := by omega
  exact h1.trans h2
/-- a high half and a low one -/
theorem or_low_u64 (x y : Int) (hx : 0 ≤ x ∧ x < 4294967296) (hy : 0 ≤ y ∧ y < 4294967296) : bits .or .u64 (x * 4294967296) y = x * 4294967296 + y := by
  have h1 := bits_or_u64_nat (2 ^ 32 * x.toNat) y.toNat (by omega) (by omega)
  rw [← Nat.two_pow_add_eq_or_of_lt (b := y.toNat) (i := 32) (by omega) x.toNat] at h1
  have e1 : ((2 ^ 32 * x.toNat : Nat) : Int) = x * 4294967296 := by omega
  have e2 : ((2 ^ 32 * x.toNat + y.toNat : Nat) : Int) = x * 4294967296 + y := by omega
  rw [e1, e2, Int.toNat_of_nonneg hy.1] at h1
  exact h1
/-- a low half and a high one -/
theorem or_high_u64 (x y : Int) (hx : 0 ≤ x ∧ x < 4294967296) (hy : 0 ≤ y ∧ y < 4294967296) : bits .or .u64 y (x * 4294967296) = x * 4294967296 + y := by
  have h1 := bits_or_u64_nat y.toNat (2 ^ 32 * x.toNat) (by omega) (by omega)
  rw [Nat.or_comm, ← Nat.two_pow_add_eq_or_of_lt (b := y.toNat) (i := 32) (by omega) x.toNat] at h1
  have e1 : ((2 ^ 32 * x.toNat : Nat) : Int) = x * 4294967296 := by omega
  have e2 : ((2 ^ 32 * x.toNat + y.toNat : Nat) : Int) = x * 4294967296 + y := by omega
  rw [e1, e2, Int.toNat_of_nonneg hy.1] at h1
  exact h1
/-- what lies below a power, and a multiple of it, in 32 bits -/
theorem or_part_u32 (x y : Int) (s : Nat) (hx : 0 ≤ x ∧ x < ((2 ^ s : Nat) : Int)) (hy : 0 ≤ y ∧ y < 4294967296) (hs : s ≤ 32) (hm : y % ((2 ^ s : Nat) : Int) = 0) : bits .or .u32 x y = x + y := by
  have hp : 2 ^ s ≤ 2 ^ 32 := Nat.pow_le_pow_right (by decide) hs
  have h1 := bits_or_u32_nat x.toNat y.toNat (by omega) (by omega)
  have hm' : y.toNat % 2 ^ s = 0 := by
    have h2 : ((y.toNat % 2 ^ s : Nat) : Int) = 0 := by rw [Int.natCast_emod, Int.toNat_of_nonneg hy.1]; exact hm
    exact Int.ofNat_eq_zero.1 h2
  have h3 := Nat.div_add_mod y.toNat (2 ^ s)
  rw [hm', Nat.add_zero] at h3
  have h4 := Nat.two_pow_add_eq_or_of_lt (b := x.toNat) (i := s) (by omega) (y.toNat / 2 ^ s)
  rw [h3] at h4
  rw [Nat.or_comm, ← h4, Int.toNat_of_nonneg hx.1, Int.toNat_of_nonneg hy.1] at h1
  rw [h1]
  omega
section
variable {P : Program} {e : Env} {H : Hp} {G : Imm} {ty : TypeId} {t t' : TypeId} {x y : Operand} {m n : Int} {k : IntKind}
theorem Qy.shr32 (hx : e.ev x = some (.int .u64 m)) (hy : e.ev y = some (.int k 32)) (h0 : 0 ≤ m) : Qy P (.binOp .shr t x y t') ty e H G (.int .u64 (m / 4294967296)) := by
  have h := Qy.shr (P := P) (H := H) (G := G) (ty := ty) (t := t) (t' := t') hx hy (by decide)
  have e1 : m.fdiv (2 ^ (Min.min (32 : Int).toNat IntKind.u64.bits)) = m / 4294967296 := by
    rw [show Min.min (32 : Int).toNat IntKind.u64.bits = 32 by decide]
    exact Int.fdiv_eq_ediv_of_nonneg _ (by decide)
  rw [e1] at h; exact h
theorem Qy.shl32 (hx : e.ev x = some (.int .u64 m)) (hy : e.ev y = some (.int k 32)) (h0 : 0 ≤ m ∧ m < 4294967296) : Qy P (.binOp .shl t x y t') ty e H G (.int .u64 (m * 4294967296)) := by
  have h := Qy.shl (P := P) (H := H) (G := G) (ty := ty) (t := t) (t' := t') hx hy (by decide)
  have e1 : IntKind.u64.wrap (m * 2 ^ (Min.min (32 : Int).toNat IntKind.u64.bits)) = m * 4294967296 := by
    rw [show Min.min (32 : Int).toNat IntKind.u64.bits = 32 by decide]
    exact IntWalk.u64_in _ (by omega)
  rw [e1] at h; exact h
theorem Qy.trunc32 {s : TypeId} (hs : (P.underlying s).isSome = true) (ht : P.underlying t = some (.int .u32)) (hx : e.ev x = some (.int .u64 m)) : Qy P (.convert s t x) ty e H G (.int .u32 (m % 4294967296)) := by
  have h := Qy.conv (P := P) (H := H) (G := G) (ty := ty) hs ht hx
  rw [IntKind.wrap_u32] at h
  exact h
theorem Qy.and1 (hx : e.ev x = some (.int .u64 m)) (hy : e.ev y = some (.int .u64 1)) (h0 : 0 ≤ m ∧ m < 18446744073709551616) : Qy P (.binOp .and t x y t') ty e H G (.int .u64 (m % 2)) := by
  have h := Qy.andW (P := P) (H := H) (G := G) (ty := ty) (t := t) (t' := t') hx hy
  rw [and_one_u64 m h0] at h; exact h
theorem Qy.andLow (hx : e.ev x = some (.int .u64 m)) (hy : e.ev y = some (.int .u64 4294967295)) (h0 : 0 ≤ m ∧ m < 18446744073709551616) : Qy P (.binOp .and t x y t') ty e H G (.int .u64 (m % 4294967296)) := by
  have h := Qy.andW (P := P) (H := H) (G := G) (ty := ty) (t := t) (t' := t') hx hy
  rw [and_low_u64 m h0] at h; exact h
theorem Qy.orLow (hx : e.ev x = some (.int .u64 (m * 4294967296))) (hy : e.ev y = some (.int .u64 n)) (h0 : 0 ≤ m ∧ m < 4294967296) (h1 : 0 ≤ n ∧ n < 4294967296) : Qy P (.binOp .or t x y t') ty e H G (.int .u64 (m * 4294967296 + n)) := by
  have h := Qy.orW (P := P) (H := H) (G := G) (ty := ty) (t := t) (t' := t') hx hy
  rw [or_low_u64 m n h0 h1] at h; exact h
theorem Qy.orHigh (hx : e.ev x = some (.int .u64 n)) (hy : e.ev y = some (.int .u64 (m * 4294967296))) (h0 : 0 ≤ m ∧ m < 4294967296) (h1 : 0 ≤ n ∧ n < 4294967296) : Qy P (.binOp .or t x y t') ty e H G (.int .u64 (m * 4294967296 + n)) := by
  have h := Qy.orW (P := P) (H := H) (G := G) (ty := ty) (t := t) (t' := t') hx hy
  rw [or_high_u64 m n h0 h1] at h; exact h
/-- by so many bits as a slot says -/
theorem Qy.shlV {s : Nat} (hx : e.ev x = some (.int .u64 m)) (hy : e.ev y = some (.int k (s : Int))) (h0 : 0 ≤ m ∧ m < 4294967296) (hs : s ≤ 32) : Qy P (.binOp .shl t x y t') ty e H G (.int .u64 (m * ((2 ^ s : Nat) : Int))) := by
  have h := Qy.shl (P := P) (H := H) (G := G) (ty := ty) (t := t) (t' := t') hx hy (by omega)
  have e1 : IntKind.u64.wrap (m * 2 ^ (Min.min (s : Int).toNat IntKind.u64.bits)) = m * ((2 ^ s : Nat) : Int) := by
    rw [Int.toNat_natCast, Nat.min_eq_left (Nat.le_trans hs (by decide))]
    have e2 : (2 : Int) ^ s = ((2 ^ s : Nat) : Int) := by rw [Int.natCast_pow]; rfl
    rw [e2]
    have hp : (1 : Int) ≤ ((2 ^ s : Nat) : Int) ∧ ((2 ^ s : Nat) : Int) ≤ 4294967296 := by
      have h1 : 0 < 2 ^ s := Nat.pow_pos (by decide)
      have h2 : 2 ^ s ≤ 2 ^ 32 := Nat.pow_le_pow_right (by decide) hs
      omega
    have h3 := Int.mul_le_mul_of_nonneg_left hp.2 h0.1
    have h4 := Int.mul_nonneg h0.1 (show (0 : Int) ≤ ((2 ^ s : Nat) : Int) by omega)
    exact IntWalk.u64_in _ (by omega)
  rw [e1] at h; exact h
theorem Qy.shrV {s : Nat} (hx : e.ev x = some (.int .u64 m)) (hy : e.ev y = some (.int k (s : Int))) (h0 : 0 ≤ m) (hs : s ≤ 32) : Qy P (.binOp .shr t x y t') ty e H G (.int .u64 (m / ((2 ^ s : Nat) : Int))) := by
  have h := Qy.shr (P := P) (H := H) (G := G) (ty := ty) (t := t) (t' := t') hx hy (by omega)
  have e1 : m.fdiv (2 ^ (Min.min (s : Int).toNat IntKind.u64.bits)) = m / ((2 ^ s : Nat) : Int) := by
    rw [Int.toNat_natCast, Nat.min_eq_left (Nat.le_trans hs (by decide))]
    have e2 : (2 : Int) ^ s = ((2 ^ s : Nat) : Int) := by rw [Int.natCast_pow]; rfl
    rw [e2]
    exact Int.fdiv_eq_ediv_of_nonneg _ (Int.natCast_nonneg _)
  rw [e1] at h; exact h
end
end Go.Sl
set_option linter.unusedVariables false
namespace Go.Sl
open Go
theorem bcarry (P s : Int) : P * (s % 4294967296) + 4294967296 * P * (s / 4294967296) = P * s := by
  have h := Int.emod_add_mul_ediv s 4294967296
  have e : 4294967296 * P * (s / 4294967296) = P * (4294967296 * (s / 4294967296)) := by rw [Int.mul_comm 4294967296 P, Int.mul_assoc]
  rw [e, ← Int.mul_add, h]
/-- a limb, nought behind the end -/
def lg (l : List U32) (i : Nat) : Int := (l[((i : Nat) : Int).toNat]?.getD default).v
theorem lg_lt {l : List U32} (h : Lims l) {i : Nat} (hi : i < l.length) : 0 ≤ lg l i ∧ lg l i < 4294967296 := h.at (by omega)
theorem lg_end {l : List U32} {i : Nat} (hi : l.length ≤ i) : lg l i = 0 := by
  unfold lg; rw [Int.toNat_natCast, List.getElem?_eq_none hi]; rfl
theorem lg_rng {l : List U32} (h : Lims l) (i : Nat) : 0 ≤ lg l i ∧ lg l i < 4294967296 := by
  rcases Nat.lt_or_ge i l.length with h1 | h1
  · exact lg_lt h h1
  · rw [lg_end h1]; decide
theorem lg_set {l : List U32} {i : Nat} (h : i < l.length) (d : Int) : lg (l.set i ⟨d⟩) i = d := by
  unfold lg
  rw [Int.toNat_natCast, List.getElem?_eq_getElem (by rw [List.length_set]; exact h), List.getElem_set_self]; rfl
theorem lg_set_ne {l : List U32} {i j : Nat} (h : i ≠ j) (d : U32) : lg (l.set i d) j = lg l j := by
  unfold lg
  rw [Int.toNat_natCast, List.getElem?_set_ne h]
theorem bval_step (l : List U32) (i : Nat) : valB (l.take (i + 1)) = valB (l.take i) + pb i * lg l i := by
  rcases Nat.lt_or_ge i l.length with h | h
  · exact valB_take_succ h
  · rw [take_all h, take_all (by omega), lg_end h, Int.mul_zero, Int.add_zero]
theorem bdrop_step {l : List U32} {i : Nat} (h : i < l.length) : valB (l.drop i) = lg l i + 4294967296 * valB (l.drop (i + 1)) := by
  rw [List.drop_eq_getElem_cons h, valB_cons]
  unfold lg
  rw [Int.toNat_natCast, List.getElem?_eq_getElem h]; rfl
theorem bval_split (l : List U32) {m : Nat} (h : m ≤ l.length) : valB l = valB (l.take m) + pb m * valB (l.drop m) := by
  have h1 : valB l = valB (l.take m ++ l.drop m) := by rw [List.take_append_drop]
  rw [h1, valB_append, List.length_take, Nat.min_eq_left h]
theorem valB_set : ∀ (l : List U32) (k : Nat) (d : U32), k < l.length → valB (l.set k d) = valB l + pb k * (d.v - lg l k)
  | [], k, d, h => by simp at h
  | x :: l, 0, d, _ => by
    rw [List.set_cons_zero, valB_cons, valB_cons, pb_zero]
    show _ = _ + 1 * (d.v - x.v)
    omega
  | x :: l, k + 1, d, h => by
    have ih := valB_set l k d (by simpa using h)
    have e : lg (x :: l) (k + 1) = lg l k := by unfold lg; rw [Int.toNat_natCast, Int.toNat_natCast, List.getElem?_cons_succ]
    rw [List.set_cons_succ, valB_cons, valB_cons, ih, pb_succ, e, Int.mul_add, ← Int.mul_assoc]
    omega
theorem lims_set {l : List U32} (h : Lims l) (k : Nat) {s : Int} (hs : 0 ≤ s ∧ s < 4294967296) : Lims (l.set k ⟨s⟩) := fun d hd => by
  rcases List.mem_or_eq_of_mem_set hd with h1 | h1
  · exact h d h1
  · subst h1; exact hs
theorem mod32 (s : Int) : 0 ≤ s % 4294967296 ∧ s % 4294967296 < 4294967296 := ⟨Int.emod_nonneg _ (by decide), Int.emod_lt_of_pos _ (by decide)⟩
/-- so many limbs are left, if the noughts at the top are struck -/
def Trim (l : List U32) (n : Nat) : Prop := n ≤ l.length ∧ (∀ j, n ≤ j → j < l.length → (l[j]?.getD default).v = 0) ∧ (n = 0 ∨ (l[n - 1]?.getD default).v ≠ 0)
theorem Trim.val {l : List U32} {n : Nat} (h : Trim l n) : valB (l.take n) = valB l := valB_trim h.2.1
theorem Trim.top {l : List U32} {n : Nat} (h : Trim l n) : Top (l.take n) := by
  obtain ⟨h1, h2, h3⟩ := h
  rcases h3 with h3 | h3
  · subst h3; exact .inl rfl
  · by_cases h0 : n = 0
    · subst h0; exact .inl rfl
    · refine .inr ?_
      rw [List.length_take, Nat.min_eq_left h1, List.getElem?_take, if_pos (by omega)]
      exact h3
theorem Trim.len {l : List U32} {n : Nat} (h : Trim l n) : (l.take n).length = n := by rw [List.length_take, Nat.min_eq_left h.1]
theorem Trim.pos {l : List U32} {n : Nat} (h : Trim l n) (hd : Lims l) : 0 < n ↔ 0 < valB l := by
  rw [← h.val]
  constructor
  · intro h0
    exact ltop_pos (hd.take n) h.top (fun e => by have := h.len; rw [e] at this; simp at this; omega)
  · intro h0
    rcases Nat.eq_zero_or_pos n with h1 | h1
    · rw [h1, List.take_zero, valB_nil] at h0; omega
    · exact h1
theorem barr_sub {α : Type} [Cells α] {G : Imm} {a : Option Addr} {c sz : Nat} {l : List α} (h : Arr G a l) (n : Nat) : Arr G (subA a c 0 sz) (l.take n) := by
  refine ⟨flat_length _, ?_⟩
  rcases h.2 with h0 | ⟨b, o, rfl, hr⟩
  · left; rw [List.length_take]; omega
  · refine .inr ⟨b, o, ?_, fun i v hi => hr i v ?_⟩
    · unfold subA
      split
      · rfl
      · simp [Addr.add]
    · have e : flat l = flat (l.take n) ++ flat (l.drop n) := by rw [← flat_append, List.take_append_drop]
      rw [e, List.getElem?_append_left (List.getElem?_eq_some_iff.1 hi).1]; exact hi
/-- the sum's next limb -/
theorem add_next {la lb r : List U32} {i : Nat} {cy s : Int} (hi : i < r.length) (hv : valB (la.take i) + valB (lb.take i) = valB (r.take i) + pb i * cy) (hs : s = cy + lg la i + lg lb i) :
    valB (la.take (i + 1)) + valB (lb.take (i + 1)) = valB ((r.set i ⟨s % 4294967296⟩).take (i + 1)) + pb (i + 1) * (s / 4294967296) := by
  rw [bval_step, bval_step, bval_step (r.set i _), lg_set hi, List.take_set_of_le (Nat.le_refl i), pb_succ]
  have h := bcarry (pb i) s
  rw [hs, Int.mul_add, Int.mul_add] at h
  rw [← hs] at h
  omega
/-- the difference's next limb -/
theorem sub_next {la lb r : List U32} {i : Nat} {cy cy' s : Int} (hi : i < r.length) (hv : valB (la.take i) - valB (lb.take i) = valB (r.take i) - pb i * cy) (hs : s = lg la i - lg lb i - cy + 4294967296 * cy') :
    valB (la.take (i + 1)) - valB (lb.take (i + 1)) = valB ((r.set i ⟨s⟩).take (i + 1)) - pb (i + 1) * cy' := by
  rw [bval_step, bval_step, bval_step (r.set i _), lg_set hi, List.take_set_of_le (Nat.le_refl i), pb_succ]
  have h : pb i * s = pb i * lg la i - pb i * lg lb i - pb i * cy + 4294967296 * pb i * cy' := by
    rw [hs, Int.mul_add, Int.mul_sub, Int.mul_sub, ← Int.mul_assoc, Int.mul_comm (pb i) 4294967296]
  omega
theorem sub_end {la lb r : List U32} {n : Nat} {cy : Int} (hn : n = la.length) (hb : lb.length ≤ la.length) (hle : valB lb ≤ valB la) (hri : r.length = n) (hd : Lims r) (hc : 0 ≤ cy ∧ cy ≤ 1) (hv : valB (la.take n) - valB (lb.take n) = valB (r.take n) - pb n * cy) : valB r = valB la - valB lb := by
  rw [take_all (by omega), take_all (by omega), take_all (by omega)] at hv
  have h := valB_lt hd
  rw [hri] at h
  have hcy : cy = 0 := by
    rcases (show cy = 0 ∨ cy = 1 by omega) with h1 | h1
    · exact h1
    · rw [h1, Int.mul_one] at hv; omega
  rw [hcy, Int.mul_zero] at hv
  omega
/-- the product's next limb -/
theorem bmul_next {r lb : List U32} {i j : Nat} {c s x A : Int} (hk : i + j < r.length) (hv : valB r + pb (i + j) * c = A + pb i * (x * valB (lb.take j))) (hs : s = c + (x * lg lb j + lg r (i + j))) :
    valB (r.set (i + j) ⟨s % 4294967296⟩) + pb (i + (j + 1)) * (s / 4294967296) = A + pb i * (x * valB (lb.take (j + 1))) := by
  rw [valB_set r (i + j) ⟨s % 4294967296⟩ hk, bval_step, ← Nat.add_assoc, pb_succ]
  have h1 := bcarry (pb (i + j)) s
  have h2 : pb (i + j) * s = pb (i + j) * c + (pb (i + j) * (x * lg lb j) + pb (i + j) * lg r (i + j)) := by rw [hs, Int.mul_add, Int.mul_add]
  have h3 : pb i * (x * (valB (lb.take j) + pb j * lg lb j)) = pb i * (x * valB (lb.take j)) + pb (i + j) * (x * lg lb j) := by
    rw [Int.mul_add, Int.mul_add, pb_add]
    congr 1
    rw [Int.mul_assoc, ← Int.mul_assoc x, Int.mul_comm x (pb j), Int.mul_assoc]
  have h4 : pb (i + j) * (s % 4294967296 - lg r (i + j)) = pb (i + j) * (s % 4294967296) - pb (i + j) * lg r (i + j) := Int.mul_sub _ _ _
  show valB r + pb (i + j) * (s % 4294967296 - lg r (i + j)) + 4294967296 * pb (i + j) * (s / 4294967296) = _
  rw [h3, h4]
  omega
/-- the last carry is laid where nought stands -/
theorem bmul_end {la lb r : List U32} {i : Nat} {c : Int} (hk : i + lb.length < r.length) (hz : lg r (i + lb.length) = 0) (hv : valB r + pb (i + lb.length) * c = valB (la.take i) * valB lb + pb i * (lg la i * valB (lb.take lb.length))) :
    valB (r.set (i + lb.length) ⟨c⟩) = valB (la.take (i + 1)) * valB lb := by
  rw [valB_set r _ _ hk, hz, take_all (Nat.le_refl _)] at *
  show valB r + pb (i + lb.length) * (c - 0) = _
  rw [Int.sub_zero, hv, bval_step, Int.add_mul, Int.mul_assoc]
theorem bmul_small {x y : Int} (hx : 0 ≤ x ∧ x < 4294967296) (hy : 0 ≤ y ∧ y < 4294967296) : 0 ≤ x * y ∧ x * y ≤ 18446744065119617025 := by
  refine ⟨Int.mul_nonneg hx.1 hy.1, ?_⟩
  have h1 : x * y ≤ 4294967295 * y := Int.mul_le_mul_of_nonneg_right (by omega) hy.1
  omega
/-- division by one limb -/
theorem bshort_next {la q : List U32} {i : Nat} {r B : Int} (hi : i < la.length) (hq : i < q.length) (hv : valB (la.drop (i + 1)) = valB (q.drop (i + 1)) * B + r) :
    valB (la.drop i) = valB ((q.set i ⟨(r * 4294967296 + lg la i) / B⟩).drop i) * B + (r * 4294967296 + lg la i) % B := by
  rw [bdrop_step hi, bdrop_step (l := q.set i _) (by rw [List.length_set]; exact hq), lg_set hq, List.drop_set_of_lt (by omega), hv]
  have h := Int.emod_add_mul_ediv (r * 4294967296 + lg la i) B
  rw [Int.add_mul, Int.mul_comm ((r * 4294967296 + lg la i) / B) B, Int.mul_assoc 4294967296, Int.mul_add]
  omega
theorem bshort_lt {r a B : Int} (hr : 0 ≤ r ∧ r < B) (ha : 0 ≤ a ∧ a < 4294967296) : 0 ≤ (r * 4294967296 + a) / B ∧ (r * 4294967296 + a) / B < 4294967296 := by
  refine ⟨Int.ediv_nonneg (by omega) (by omega), Int.ediv_lt_of_lt_mul (by omega) ?_⟩
  have h1 := Int.mul_le_mul_of_nonneg_right (show r + 1 ≤ B by omega) (show (0 : Int) ≤ 4294967296 by decide)
  rw [Int.mul_comm 4294967296 B]
  omega
theorem bone_val {lb : List U32} (h : lb.length = 1) : valB lb = lg lb 0 := by
  match lb, h with
  | [d], _ => rw [valB_one]; rfl
theorem u32_same {x y : U32} (h : x.v = y.v) : x = y := by cases x; cases y; simp only at h; rw [h]
theorem bdrop_same {la lb : List U32} {k : Nat} (hn : la.length = lb.length) (h : ∀ j, k ≤ j → j < la.length → lg la j = lg lb j) : la.drop k = lb.drop k := by
  refine List.ext_getElem? fun i => ?_
  rw [List.getElem?_drop, List.getElem?_drop]
  rcases Nat.lt_or_ge (k + i) la.length with h1 | h1
  · have h2 := h (k + i) (by omega) h1
    unfold lg at h2
    rw [Int.toNat_natCast] at h2
    rw [List.getElem?_eq_getElem h1, List.getElem?_eq_getElem (by omega)] at h2 ⊢
    exact congrArg some (u32_same h2)
  · rw [List.getElem?_eq_none h1, List.getElem?_eq_none (by omega)]
theorem bhigh_lt {la lb : List U32} {k : Nat} (hn : la.length = lb.length) (hk : k < la.length) (da : Lims la) (db : Lims lb) (h : ∀ j, k + 1 ≤ j → j < la.length → lg la j = lg lb j) (hlt : lg la k < lg lb k) : valB la < valB lb := by
  have e := bdrop_same hn h
  have h1 := bval_split la (show k + 1 ≤ la.length by omega)
  have h2 := bval_split lb (show k + 1 ≤ lb.length by omega)
  rw [e] at h1
  rw [bval_step] at h1 h2
  have h3 := valB_lt (da.take k)
  rw [List.length_take, Nat.min_eq_left (by omega)] at h3
  have h4 := valB_nonneg (db.take k)
  have h5 := Int.mul_le_mul_of_nonneg_left (show lg la k + 1 ≤ lg lb k by omega) (Int.le_of_lt (pb_pos k))
  rw [Int.mul_add, Int.mul_one] at h5
  omega
end Go.Sl
set_option linter.unusedVariables false
namespace Go.Sl
open Go
theorem kn_low {p Ul U3 Vl V2 g : Int} (hp : 0 < p) (hUl : Ul < p) (hVl : 0 ≤ Vl) (hg : 0 ≤ g) (h : U3 < g * V2) : Ul + p * U3 < g * (Vl + p * V2) := by
  have h1 := Int.mul_le_mul_of_nonneg_left (show U3 + 1 ≤ g * V2 by omega) (Int.le_of_lt hp)
  have h2 := Int.mul_nonneg hg hVl
  rw [Int.mul_add, Int.mul_one] at h1
  rw [Int.mul_add, Int.mul_left_comm g p]
  omega
theorem kn_high {p Ul U3 Vl V2 g : Int} (hp : 0 < p) (hUl : 0 ≤ Ul) (hVl : 0 ≤ Vl ∧ Vl < p) (hg : 0 ≤ g ∧ g < 4294967296) (hV2 : 4294967296 ≤ V2) (h : g * V2 ≤ U3) : (g - 1) * (Vl + p * V2) ≤ Ul + p * U3 := by
  have h1 := Int.mul_le_mul_of_nonneg_left h (Int.le_of_lt hp)
  have h2 := Int.mul_le_mul_of_nonneg_left (Int.le_of_lt hVl.2) hg.1
  have h3 := Int.mul_le_mul_of_nonneg_right (Int.le_of_lt hg.2) (Int.le_of_lt hp)
  have h4 := Int.mul_le_mul_of_nonneg_left hV2 (Int.le_of_lt hp)
  rw [Int.sub_mul, Int.one_mul, Int.mul_add, Int.mul_left_comm g p]
  rw [Int.mul_comm p 4294967296] at h4
  omega
theorem kn_cmp {g v1 v2 high rest u2 : Int} (h : g * v1 + rest = high) : g * (v2 + 4294967296 * v1) - (u2 + 4294967296 * high) = g * v2 - (rest * 4294967296 + u2) := by
  rw [Int.mul_add, Int.mul_left_comm g 4294967296, ← h]
  omega
/-- the guess ends below 2^32 where what is left outgrows a limb -/
theorem kn_break {g v1 high rest : Int} (h : g * v1 + rest = high) (hr : 4294967296 ≤ rest) (hv : 0 < v1) (hh : high < v1 * 4294967296 + 4294967296) : g < 4294967296 := by
  rcases Int.lt_or_le g 4294967296 with h1 | h1
  · exact h1
  · have h2 := Int.mul_le_mul_of_nonneg_right h1 (Int.le_of_lt hv)
    omega
section
variable {u v : List U32} {m : Nat}
theorem top3 (hu : u.length = m + 3) : valB u = valB (u.take m) + pb m * (lg u m + 4294967296 * (lg u (m + 2) * 4294967296 + lg u (m + 1))) := by
  have h0 := bval_split u (show m ≤ u.length by omega)
  rw [bdrop_step (l := u) (i := m) (by omega), bdrop_step (l := u) (i := m + 1) (by omega), bdrop_step (l := u) (i := m + 1 + 1) (by omega), List.drop_eq_nil_of_le (show u.length ≤ m + 1 + 1 + 1 by omega), valB_nil] at h0
  rw [h0]
  congr 2
  show lg u m + 4294967296 * (lg u (m + 1) + 4294967296 * (lg u (m + 2) + 4294967296 * 0)) = _
  omega
theorem top2 (hv : v.length = m + 2) : valB v = valB (v.take m) + pb m * (lg v m + 4294967296 * lg v (m + 1)) := by
  have h0 := bval_split v (show m ≤ v.length by omega)
  rw [bdrop_step (l := v) (i := m) (by omega), bdrop_step (l := v) (i := m + 1) (by omega), List.drop_eq_nil_of_le (show v.length ≤ m + 1 + 1 by omega), valB_nil] at h0
  rw [h0]
  congr 2
  omega
theorem take_rng {l : List U32} (d : Lims l) (h : m ≤ l.length) : 0 ≤ valB (l.take m) ∧ valB (l.take m) < pb m := by
  have h1 := valB_lt (d.take m)
  rw [List.length_take, Nat.min_eq_left h] at h1
  exact ⟨valB_nonneg (d.take m), h1⟩
variable (hu : u.length = m + 3) (hv : v.length = m + 2) (du : Lims u) (dv : Lims v)
include hu hv du dv
/-- the first guess is not too small -/
theorem kn_first {g rest high : Int} (hh : high = lg u (m + 2) * 4294967296 + lg u (m + 1)) (h1 : 0 < lg v (m + 1)) (hg : g = high / lg v (m + 1)) (hr : rest = high % lg v (m + 1)) :
    g * lg v (m + 1) + rest = high ∧ 0 ≤ g ∧ 0 ≤ rest ∧ rest < lg v (m + 1) ∧ valB u < (g + 1) * valB v := by
  have a1 := lg_rng du (m + 2)
  have a2 := lg_rng du (m + 1)
  have a3 := lg_rng du m
  have a4 := lg_rng dv m
  have hn : 0 ≤ high := by omega
  have e1 := Int.emod_add_mul_ediv high (lg v (m + 1))
  have e2 := Int.emod_lt_of_pos high h1
  have e3 := Int.emod_nonneg high (show lg v (m + 1) ≠ 0 by omega)
  have e4 := Int.ediv_nonneg hn (Int.le_of_lt h1)
  rw [← hg, ← hr] at e1
  rw [← hr] at e2 e3
  rw [← hg] at e4
  rw [Int.mul_comm] at e1
  refine ⟨by omega, e4, e3, e2, ?_⟩
  rw [top3 hu, top2 hv, ← hh]
  refine kn_low (pb_pos m) (take_rng du (by omega)).2 (take_rng dv (by omega)).1 (by omega) ?_
  have e5 : (g + 1) * lg v (m + 1) = g * lg v (m + 1) + lg v (m + 1) := by rw [Int.add_mul, Int.one_mul]
  have e6 := Int.mul_nonneg (show 0 ≤ g + 1 by omega) a4.1
  rw [Int.mul_add, Int.mul_left_comm (g + 1) 4294967296, e5]
  omega
/-- a guess that is too great by what is seen -/
theorem kn_dec {g rest high : Int} (hh : high = lg u (m + 2) * 4294967296 + lg u (m + 1)) (h : g * lg v (m + 1) + rest = high) (hg : 0 ≤ g) (hc : rest * 4294967296 + lg u m < g * lg v m) : valB u < g * valB v := by
  have e := kn_cmp (v2 := lg v m) (u2 := lg u m) h
  rw [top3 hu, top2 hv, ← hh]
  exact kn_low (pb_pos m) (take_rng du (by omega)).2 (take_rng dv (by omega)).1 hg (by omega)
/-- a guess that is at most one too great -/
theorem kn_end {g rest high : Int} (hh : high = lg u (m + 2) * 4294967296 + lg u (m + 1)) (h : g * lg v (m + 1) + rest = high) (hg : 0 ≤ g ∧ g < 4294967296) (h1 : 1 ≤ lg v (m + 1)) (hc : g * lg v m ≤ rest * 4294967296 + lg u m) : (g - 1) * valB v ≤ valB u := by
  have e := kn_cmp (v2 := lg v m) (u2 := lg u m) h
  have a4 := lg_rng dv m
  rw [top3 hu, top2 hv, ← hh]
  exact kn_high (pb_pos m) (take_rng du (by omega)).1 (take_rng dv (by omega)) hg (by omega) (by omega)
end
/-- what is taken away, limb by limb -/
theorem less_next {u v w : List U32} {i : Nat} {t c c' b b' s : Int} (hi : i < w.length) (hv : valB (u.take i) - t * valB (v.take i) = valB (w.take i) - pb i * (b + c)) (hc : c' = c + lg v i * t)
    (hs : s = lg u i - c' % 4294967296 - b + 4294967296 * b') :
    valB (u.take (i + 1)) - t * valB (v.take (i + 1)) = valB ((w.set i ⟨s⟩).take (i + 1)) - pb (i + 1) * (b' + c' / 4294967296) := by
  rw [bval_step, bval_step, bval_step (w.set i _), lg_set hi, List.take_set_of_le (Nat.le_refl i), pb_succ]
  have h1 := bcarry (pb i) c'
  have h2 : pb i * c' = pb i * c + t * (pb i * lg v i) := by rw [hc, Int.mul_add, Int.mul_comm (lg v i) t, Int.mul_left_comm t]
  have h3 : pb i * s = pb i * lg u i - pb i * (c' % 4294967296) - pb i * b + 4294967296 * pb i * b' := by
    rw [hs, Int.mul_add, Int.mul_sub, Int.mul_sub, ← Int.mul_assoc, Int.mul_comm (pb i) 4294967296]
  rw [Int.mul_add] at hv
  rw [Int.mul_add t, Int.mul_add (4294967296 * pb i)]
  omega
theorem less_carry {c x t : Int} (hc : 0 ≤ c ∧ c < 4294967296) (hx : 0 ≤ x ∧ x < 4294967296) (ht : 0 ≤ t ∧ t < 4294967296) : 0 ≤ c + x * t ∧ c + x * t < 18446744073709551616 ∧ 0 ≤ (c + x * t) / 4294967296 ∧ (c + x * t) / 4294967296 < 4294967296 ∧ 0 ≤ x * t ∧ x * t ≤ 18446744065119617025 := by
  have h := bmul_small hx ht
  omega
/-- once is added back -/
theorem back_end {u v w z : List U32} {n : Nat} {g c : Int} (hu : valB w = valB u - g * valB v + pb n) (hlow : (g - 1) * valB v ≤ valB u) (hup : valB u < g * valB v) (hw : w.length = n) (hz : z.length = n) (hvn : valB v < pb n) (hvl : v.length ≤ n) (dz : Lims z) (hc : 0 ≤ c ∧ c ≤ 1)
    (hs : valB (w.take n) + valB (v.take n) = valB (z.take n) + pb n * c) : valB z = valB u - (g - 1) * valB v := by
  rw [take_all (by omega), take_all (by omega), take_all (by omega)] at hs
  have h1 := valB_nonneg dz
  have h2 := valB_lt dz
  rw [hz] at h2
  have e : (g - 1) * valB v = g * valB v - valB v := by rw [Int.sub_mul, Int.one_mul]
  have hc1 : c = 1 := by
    rcases (show c = 0 ∨ c = 1 by omega) with h | h
    · rw [h, Int.mul_zero] at hs; omega
    · exact h
  rw [hc1, Int.mul_one] at hs
  omega
/-- a window of a row is turned -/
theorem win_val (p w w' q : List U32) (h : w'.length = w.length) : valB (p ++ (w' ++ q)) = valB (p ++ (w ++ q)) + pb p.length * (valB w' - valB w) := by
  rw [valB_append, valB_append, valB_append, valB_append, h, Int.mul_add, Int.mul_add, Int.mul_sub]
  omega
/-- one limb of the quotient -/
theorem quo_next {A V q g : Int} {R R' : Int} {l : List U32} {k : Nat} (hk : k < l.length) (hz : lg l k = 0) (hA : A = valB l * V + R) (hR : R' = R + pb k * (-(g * V))) : A = valB (l.set k ⟨g⟩) * V + R' := by
  rw [valB_set l k _ hk, hz, hA, hR, Int.sub_zero, Int.add_mul, Int.mul_assoc, Int.mul_neg]
  show _ = valB l * V + pb k * (g * V) + (R + -(pb k * (g * V)))
  omega
end Go.Sl
set_option linter.unusedVariables false
namespace Go.Sl
open Go
section
variable {P : Program} {ops : Array Oper} {rest : List Oper} {B : Bs} {e : Env} {D : List Deferred} {H : Hp} {G : Imm} {K : Act → World → Prop}
  {ty : TypeId} {pos : String} {after : Array Edge} {d : Nat}
theorem win_get {p w q : List U32} {m : Int} (hm : 0 ≤ m ∧ m < w.length) : (p ++ (w ++ q))[((p.length : Int) + m).toNat]?.getD default = w[m.toNat]?.getD default := by
  have h1 : ((p.length : Int) + m).toNat = p.length + m.toNat := by omega
  rw [h1, List.getElem?_append_right (by omega), Nat.add_sub_cancel_left, List.getElem?_append_left (by omega)]
theorem win_set {p w q : List U32} {m : Int} (hm : 0 ≤ m ∧ m < w.length) (z : U32) : (p ++ (w ++ q)).set ((p.length : Int) + m).toNat z = p ++ (w.set m.toNat z ++ q) := by
  have h1 : ((p.length : Int) + m).toNat = p.length + m.toNat := by omega
  rw [h1, List.set_append_right _ _ (by omega), Nat.add_sub_cancel_left, List.set_append_left _ _ (by omega)]
theorem win_off {k : Nat} {m : Int} (hm : 0 ≤ m) : k + m.toNat * 1 = 0 + ((k : Int) + m).toNat * Cells.sz U32 + 0 := by
  show k + m.toNat * 1 = 0 + ((k : Int) + m).toNat * 1 + 0
  omega
theorem Qy.loadW {T : TypeId} {x : Operand} {b : Nat} {E : TypeId} {p w q : List U32} {junk : List Value} {m : Int} (t : Nat) (h1 : oneB P T = true) (hx : e.ev x = some (.pointer (some ⟨b, p.length + m.toNat * 1, none⟩)))
    (ht : H.get t = some (some b, Row E (p ++ (w ++ q)) junk)) (hm : 0 ≤ m ∧ m < w.length) : Qy P (.load T x) ty e H G (.int .u32 (w[m.toNat]?.getD default).v) := by
  rw [win_off hm.1] at hx
  refine Qy.loadF (m := (p.length : Int) + m) t 0 h1 hx ht ⟨by omega, by rw [List.length_append, List.length_append]; omega⟩ rfl ?_
  rw [win_get hm]; rfl
theorem Wl.setW {T : TypeId} {x y : Operand} {b : Nat} {E : TypeId} {p w q : List U32} {junk : List Value} {m n : Int} (t : Nat) (hs : (P.info? T).map (·.size) = some 1)
    (hx : e.ev x = some (.pointer (some ⟨b, p.length + m.toNat * 1, none⟩))) (hy : e.ev y = some (.int .u32 n)) (ht : H.get t = some (some b, Row E (p ++ (w ++ q)) junk)) (hm : 0 ≤ m ∧ m < w.length)
    (h : Wl P ops rest B ⟨e, D, (t, some b, Row E (p ++ (w.set m.toNat ⟨n⟩ ++ q)) junk) :: H, G⟩ K) : Wl P ops (⟨none, .store T x y, ty, pos, after, none⟩ :: rest) B ⟨e, D, H, G⟩ K := by
  rw [win_off hm.1] at hx
  refine Wl.setF (m := (p.length : Int) + m) (z := (⟨n⟩ : U32)) t hs hx hy rfl ht ⟨by omega, by rw [List.length_append, List.length_append]; omega⟩ ?_
  rw [win_set hm]; exact h
theorem Qy.cutHM {T : TypeId} {x hi mx : Operand} {a : Option Addr} {n c E sz : Nat} {k k' : IntKind} {m m' : Int} (hT : isSlice P T E sz) (hx : e.ev x = some (.slice a n c)) (hh : e.ev hi = some (.int k m)) (hh' : e.ev mx = some (.int k' m')) (h0 : 0 ≤ m) (h1 : m ≤ m') (h2 : m' ≤ c) :
    Qy P (.slice T x none (some hi) (some mx)) ty e H G (.slice (subA a m'.toNat 0 sz) m.toNat m'.toNat) := fun ac w _ _ _ _ hk => by
  have hr := run_sizeOf (P := P) w hT.2
  have hu : P.underlying T = some (.slice (P.elem T)) := by simp [Program.elem, hT.1]
  have he : P.elem T = E := by simp [Program.elem, hT.1]
  have := run_slice_hm (P := P) (w := w) T a n c hu k k' m m' h0 h1 h2
  simp only [execOp, hk.eval hx, Option.map_some, Option.map_none, hk.eval hh, hk.eval hh', Sem.run_bind, run_sliceAt_slice (P := P) (w := w) T _ _ _ _ hu, this, he, hr, Result.andThen_ok, Sem.run_pure, sliced, subA, Nat.sub_zero]
end
end Go.Sl
set_option linter.unusedVariables false
namespace Go.Sl
open Go
section
variable {P : Program} {ops : Array Oper} {rest : List Oper} {B : Bs} {e : Env} {D : List Deferred} {H : Hp} {G : Imm} {K : Act → World → Prop}
  {ty : TypeId} {pos : String} {after : Array Edge} {d : Nat} {α : Type} [Cells α]
theorem run_copyRow {w : World} (hw : HoldH H G w) {T T2 E : Nat} (hT : isSlice P T E (Cells.sz α)) {t b : Nat} {ad : Option Addr} {c c2 : Nat} {xs ys : List α} {junk : List Value}
    (ht : H.get t = some (some b, Row E xs junk)) (hsrc : Src H G ad ys) (hle : ys.length ≤ xs.length) :
    ∃ w', (Builtin.copy_ #[T, T2] ty #[.slice (some ⟨b, 0, none⟩) xs.length c, .slice ad ys.length c2]).run P w = .ok (.int .i64 (ys.length : Int)) w' ∧ Upd (· = b) w w' ∧ w'.heap[b]? = some (Row E (ys ++ xs.drop ys.length) junk) := by
  have hb := hw.own t b _ ht
  have hmin : Nat.min ys.length xs.length = ys.length := Nat.min_eq_left hle
  cases hq : P.info? E with
  | none => have := hT.2; simp [hq] at this
  | some i =>
    have hi : i.size = Cells.sz α := by have := hT.2; simpa [hq] using this
    rcases hsrc w hw with ⟨rfl, rfl⟩ | ⟨src, rfl, hsr⟩
    · refine ⟨w, ?_, Upd.refl _ _, by simpa using hb⟩
      have hm0 : Nat.min (0 : Nat) xs.length = 0 := Nat.zero_min _
      simp [Builtin.copy_, run_underlying hT.1, Builtin.lenOf, Builtin.firstCells, sizeOf, typeInfo, hq, storeCells, hm0, goInt]
    · have hl := run_loadCells_list (P := P) w src (flat ys) hsr
      have hfy : (flat ys).length = ys.length * Cells.sz α := flat_length ys
      have hfx : (flat xs).length = xs.length * Cells.sz α := flat_length xs
      have hmul := Nat.mul_le_mul_right (Cells.sz α) hle
      have hfit : 0 + 0 + (flat ys).length ≤ ((flat xs ++ junk).toArray).size := by
        rw [List.size_toArray, List.length_append]; omega
      have hst := run_storeCells_at P b 0 E (flat ys) 0 (flat xs ++ junk).toArray w hb hfit (fun v hv => List.all_eq_true.1 (flat_all ys) v hv)
      refine ⟨_, ?_, setRow_upd w b (((flat xs ++ junk).toArray.toList.take (0 + 0) ++ flat ys ++ (flat xs ++ junk).toArray.toList.drop (0 + 0 + (flat ys).length)).toArray), ?_⟩
      · rw [hfy] at hl
        simp [Builtin.copy_, run_underlying hT.1, Builtin.lenOf, Builtin.firstCells, sizeOf, typeInfo, hq, hi, hmin, hl, hst, goInt]
      · rw [setRow_heap w b _ _ E _ hb]
        have hsplit : flat xs = flat (xs.take ys.length) ++ flat (xs.drop ys.length) := by rw [← flat_append, List.take_append_drop]
        have htl : (flat (xs.take ys.length)).length = (flat ys).length := by rw [flat_length, flat_length, List.length_take, Nat.min_eq_left hle]
        unfold Row
        rw [flat_append]
        simp only [Nat.add_zero, Nat.zero_add, List.take_zero, List.nil_append]
        rw [hsplit, List.append_assoc, ← htl, List.drop_left, List.append_assoc]
theorem Wl.copyRow {x y : Operand} {T T2 E b : Nat} {ad : Option Addr} {c c2 : Nat} {xs ys : List α} {junk : List Value} (t : Nat) (hn : Nat.ble (d + 1) B.n = true) (hT : isSlice P T E (Cells.sz α))
    (hx : e.ev x = some (.slice (some ⟨b, 0, none⟩) xs.length c)) (hy : e.ev y = some (.slice ad ys.length c2)) (ht : H.get t = some (some b, Row E xs junk)) (hsrc : Src H G ad ys) (hle : ys.length ≤ xs.length)
    (h : Wl P ops rest B ⟨(d, .int .i64 (ys.length : Int)) :: e, D, (t, some b, Row E (ys ++ xs.drop ys.length) junk) :: H, G⟩ K) :
    Wl P ops (⟨some d, .call { callee := .builtin .copy, args := #[x, y], argTypes := #[T, T2] }, ty, pos, after, none⟩ :: rest) B ⟨e, D, H, G⟩ K := by
  refine Wl.writes (v := .int .i64 (ys.length : Int)) (x := .value (.int .i64 (ys.length : Int))) ht (.inr ⟨rfl, d, rfl, hn⟩) (fun a w hh => ?_) h
  obtain ⟨w', hrun, hu, hb⟩ := run_copyRow (c := c) (c2 := c2) (T2 := T2) (ty := ty) hh.mem hT ht hsrc hle
  refine ⟨w', ?_, hu, hb⟩
  simp only [execOp, resolve, invoke, builtin, Sem.run_bind, Sem.run_pure, Result.andThen_ok, List.map_toArray, List.map_cons, List.map_nil, hh.eval hx, hh.eval hy, hrun]
end
/-- what is less than nought comes round -/
theorem Qy.usubN {P : Program} {e : Env} {H : Hp} {G : Imm} {ty t t' : TypeId} {x y : Operand} {m n : Int} (hx : e.ev x = some (.int .u64 m)) (hy : e.ev y = some (.int .u64 n)) (h0 : m < n ∧ 0 ≤ m ∧ n ≤ 18446744073709551615) : Qy P (.binOp .sub t x y t') ty e H G (.int .u64 (m - n + 18446744073709551616)) := by
  have h := Qy.subW (P := P) (H := H) (G := G) (ty := ty) (t := t) (t' := t') hx hy
  have e1 : IntKind.u64.wrap (m - n) = m - n + 18446744073709551616 := by rw [IntKind.wrap_u64]; omega
  rw [e1] at h; exact h
/-- a function that looks at nothing and answers a value -/
theorem Does.pureCalls {P : Program} {f : FuncId} {args : List Value} {G : Imm} {u : Value} (h : ∀ w, Calls P f args.toArray w fun e w' => e = .returned u ∧ w' = w) : Does P f args G [] (fun v G' Ho => v = u ∧ G' = G ∧ Ho = []) :=
  fun w hw => (h w).mono fun e w' he => by
    obtain ⟨rfl, rfl⟩ := he
    exact ⟨u, G, [], rfl, hw, Imm.le_refl G, Upd.refl _ _, fun b h1 h2 => absurd h2 h1, fun t b o ht => by simp [Hp.get] at ht, rfl, rfl, rfl⟩
end Go.Sl
set_option maxRecDepth 100000
set_option linter.unusedVariables false
namespace Go.Proofs.YtbppmiimeccclaaGreatDoor
open Go Go.Sl
set_option maxHeartbeats 4000000
/-- what a comparison answers -/
def cmpZ (x y : Int) : Int := if x < y then -1 else if y < x then 1 else 0
theorem cmpZ_lt {x y : Int} (h : x < y) : cmpZ x y = -1 := if_pos h
theorem cmpZ_gt {x y : Int} (h : y < x) : cmpZ x y = 1 := by unfold cmpZ; rw [if_neg (by omega), if_pos h]
theorem cmpZ_eq {x y : Int} (h : x = y) : cmpZ x y = 0 := by unfold cmpZ; rw [if_neg (by omega), if_neg (by omega)]
theorem cmpZ_congr {x y u v : Int} (h1 : x < y ↔ u < v) (h2 : y < x ↔ v < u) : cmpZ x y = cmpZ u v := by unfold cmpZ; simp only [h1, h2]
theorem trim_val {l m : List U32} (he : m = l.take m.length) (ht : Trim l m.length) : valB m = valB l := by rw [he]; exact ht.val
theorem trim_top {l m : List U32} (he : m = l.take m.length) (ht : Trim l m.length) : Top m := by rw [he]; exact ht.top
theorem trim_lims {l m : List U32} (he : m = l.take m.length) (hd : Lims l) : Lims m := by rw [he]; exact hd.take _
attribute [local irreducible] valB pb cmpZ
/-- the noughts at the top are struck -/
theorem c78 (G : Imm) (a : Option Addr) (c : Nat) (l : List U32) (hl : Arr G a l) (hb : l.length ≤ 1099511627776) (hc : l.length ≤ c) :
    Does Tryz.prog 78 [.slice a l.length c] G [] (fun v G' Ho => ∃ (b : Option Addr) (m : List U32), v = .slice b m.length m.length ∧ Arr G b m ∧ m = l.take m.length ∧ Trim l m.length ∧ m.length ≤ l.length ∧ G' = G ∧ Ho = []) := by
  refine Does.enter Tryz.func78 rfl Tryz.ntmps78 rfl (fun w => ?_)
  refine Wc.gc 14 [] ?_
  refine Wc.loop (ι := Nat) (fun n => ([(3, .int .i64 (n : Int)), (2, Go.Value.slice Option.none 0 0), (0, Go.Value.slice a (List.length l) c)], [])) (fun n => n ≤ l.length ∧ (∀ j, n ≤ j → j < l.length → (l[j]?.getD default).v = 0)) (fun n => n) (l.length) (⟨Nat.le_refl _, fun j h1 h2 => absurd h2 (by omega)⟩) ⟨rfl, rfl, rfl, trivial⟩ trivial (fun n => fun (hk : n ≤ l.length ∧ (∀ j, n ≤ j → j < l.length → (l[j]?.getD default).v = 0)) => ?_)
  obtain ⟨hn, hz⟩ := hk
  have done : (n = 0 ∨ (l[n - 1]?.getD default).v ≠ 0) → ∃ (b : Option Addr) (m : List U32), Value.slice (subA a n 0 1) n n = .slice b m.length m.length ∧ Arr G b m ∧ m = l.take m.length ∧ Trim l m.length ∧ m.length ≤ l.length ∧ G = G ∧ ([] : Hp) = [] := fun ht => by
    have e : (l.take n).length = n := by rw [List.length_take, Nat.min_eq_left hn]
    refine ⟨subA a n 0 1, l.take n, by rw [e], barr_sub hl n, by rw [e], ?_, by rw [e]; exact hn, rfl, rfl⟩
    rw [e]; exact ⟨hn, hz, ht⟩
  refine Wc.gl 6 [] ?_
  apply Wl.joinAnd 7 8 15 rfl
  intro hg1
  refine Wl.ll0 7 [] ?_
  refine Wl.q rfl (Qy.at (α := U32) T.sl61 rfl rfl (by assumption) (by omega)) ?_
  refine Wl.want rfl rfl ?_
  refine Wl.q rfl (Qy.loadG T.one97 rfl (Arr.cell (by assumption) (by omega) 0 rfl rfl)) ?_
  refine Wl.ll0 3 [] ?_
  exact Wl.back 7 0 rfl rfl rfl rfl rfl
  intro hg1
  refine Wl.ll0 7 [] ?_
  exact Wl.back 7 0 rfl rfl rfl rfl rfl
  refine Wl.gc 2 [] ?_
  refine Wc.cond rfl (fun hc1 => ?_) (fun hc1 => ?_)
  refine Wc.ga 9 [] ?_
  rotate_left
  refine Wc.gl 10 [] ?_
  refine Wl.q rfl (Qy.cutHM T.sl61 rfl rfl rfl (by omega) (by omega) (by omega)) ?_
  refine Wl.ga 4 [] ?_
  refine Ar.out1 (.inr rfl) (Ho := Hp.only _ []) rfl (.tmp rfl) (Hp.sub_only _ _) ?_
  rotate_left
  · refine Ar.re 3 rfl (show _ = Value.int .i64 ((n - 1 : Nat) : Int) by congr 1; omega) ?_
    refine Ar.again (n - 1) ?_ ?_ rfl ⟨rfl, rfl, rfl, trivial⟩ trivial
    · refine ⟨by omega, fun j h1 h2 => ?_⟩
      rcases Nat.lt_or_ge j n with h3 | h3
      · have e : j = (((n : Nat) : Int) - 1).toNat := by omega
        rw [e]; exact hc1.2
      · exact hz j h3 h2
    · omega
  · refine done ?_
    rcases Nat.eq_zero_or_pos n with h | h
    · exact .inl h
    · refine .inr fun h2 => hc1 ⟨by omega, ?_⟩
      have e : (((n : Nat) : Int) - 1).toNat = n - 1 := by omega
      rw [e]; exact h2
theorem c55 (G : Imm) (a b : Option Addr) (ca cb : Nat) (la lb : List U32) (ha : Arr G a la) (hb : Arr G b lb) (da : Lims la) (db : Lims lb) (h1 : la.length ≤ 1073741824) (h2 : lb.length ≤ 1073741824) (h3 : la.length ≤ ca) (h4 : lb.length ≤ cb) :
    Does Tryz.prog 55 [.slice a la.length ca, .slice b lb.length cb] G [] (fun v G' Ho => v = .int .i64 (cmpZ (valB la) (valB lb)) ∧ G' = G ∧ Ho = []) := by
  refine Does.enter Tryz.func55 rfl Tryz.ntmps55 rfl (fun w => ?_)
  refine Wc.gl 8 [] ?_
  refine Wl.call 0 rfl T.fn78 rfl (c78 _ _ _ _ (by assumption) (by omega) (by first | assumption | omega)) (tags_of trivial) (fun v1 G1 Ho1 hle1 hp => ?_)
  obtain ⟨ta1, tm1, rfl, hta1, hte1, htr1, htl1, rfl, rfl⟩ := hp
  refine Wl.q rfl (Qy.move rfl) ?_
  refine Wl.call 0 rfl T.fn78 rfl (c78 _ _ _ _ (by assumption) (by omega) (by first | assumption | omega)) (tags_of trivial) (fun v2 G2 Ho2 hle2 hp => ?_)
  obtain ⟨ta2, tm2, rfl, hta2, hte2, htr2, htl2, rfl, rfl⟩ := hp
  refine Wl.gc 16 [] ?_
  refine Wc.cond rfl (fun hc1 => ?_) (fun hc1 => ?_)
  refine Wc.ga 8 [] ?_
  refine Ar.out1 (.inr rfl) (Ho := Hp.only _ []) rfl (.tmp rfl) (Hp.sub_only _ _) ?_
  rotate_left
  refine Wc.gc 10 [] ?_
  refine Wc.cond rfl (fun hc2 => ?_) (fun hc2 => ?_)
  refine Wc.ga 8 [] ?_
  refine Ar.out1 (.inr rfl) (Ho := Hp.only _ []) rfl (.tmp rfl) (Hp.sub_only _ _) ?_
  rotate_left
  refine Wc.gc 13 [] ?_
  rotate_left
  · rw [← trim_val hte1 htr1, ← trim_val hte2 htr2]
    exact ⟨by rw [cmpZ_lt (ltop_lt_len (trim_lims hte1 da) (trim_lims hte2 db) (trim_top hte2 htr2) (by omega))], rfl, rfl⟩
  · rw [← trim_val hte1 htr1, ← trim_val hte2 htr2]
    exact ⟨by rw [cmpZ_gt (ltop_lt_len (trim_lims hte2 db) (trim_lims hte1 da) (trim_top hte1 htr1) (by omega))], rfl, rfl⟩
  rw [← trim_val hte1 htr1, ← trim_val hte2 htr2]
  have dma := trim_lims hte1 da
  have dmb := trim_lims hte2 db
  have l1 := htr1.1
  have l2 := htr2.1
  have hn : tm1.length = tm2.length := by omega
  refine Wc.loop (ι := Nat) (fun k => ([(5, .int .i64 ((k : Int) - 1)), (1, Go.Value.slice ta2 (List.length tm2) (List.length tm2)), (0, Go.Value.slice ta1 (List.length tm1) (List.length tm1))], [])) (fun k => k ≤ tm1.length ∧ ∀ j, k ≤ j → j < tm1.length → lg tm1 j = lg tm2 j) (fun k => k) (tm1.length) (⟨Nat.le_refl _, fun j h1 h2 => absurd h2 (by omega)⟩) ⟨rfl, rfl, rfl, trivial⟩ trivial (fun k => fun (hk : k ≤ tm1.length ∧ ∀ j, k ≤ j → j < tm1.length → lg tm1 j = lg tm2 j) => ?_)
  obtain ⟨hk1, hz⟩ := hk
  rcases Nat.eq_zero_or_pos k with rfl | hpos
  · refine Wc.ga 19 [0] ?_
    refine Ar.out1 (.inr rfl) (Ho := Hp.only _ []) rfl (.tmp rfl) (Hp.sub_only _ _) ?_
    have e : tm1 = tm2 := by
      have := bdrop_same (k := 0) hn hz
      simpa using this
    exact ⟨by rw [e, cmpZ_eq rfl], rfl, rfl⟩
  · have e1 : (tm1[(((k : Nat) : Int) - 1).toNat]?.getD default).v = lg tm1 (k - 1) := by
      unfold lg; rw [show (((k : Nat) : Int) - 1).toNat = ((k - 1 : Nat) : Int).toNat by omega]
    have e2 : (tm2[(((k : Nat) : Int) - 1).toNat]?.getD default).v = lg tm2 (k - 1) := by
      unfold lg; rw [show (((k : Nat) : Int) - 1).toNat = ((k - 1 : Nat) : Int).toNat by omega]
    have hz' : ∀ j, (k - 1) + 1 ≤ j → j < tm1.length → lg tm1 j = lg tm2 j := fun j h1 h2 => hz j (by omega) h2
    refine Wc.gc 14 [1] ?_
    refine Wc.draw [] [] T.mixed rfl ?_
    refine Gm.q 0 [] (by kernel_rfl) rfl rfl (Qy.move rfl) ?_
    refine Gm.q 1 [] (by kernel_rfl) rfl rfl (Qy.move rfl) ?_
    refine Gm.q 2 [] (by kernel_rfl) rfl rfl (Qy.at (α := U32) T.sl61 rfl rfl (by assumption) (by omega)) ?_
    refine Gm.q 3 [] (by kernel_rfl) rfl rfl (Qy.loadG T.one97 rfl (Arr.cell (by assumption) (by omega) 0 rfl rfl)) ?_
    refine Gm.q 4 [] (by kernel_rfl) rfl rfl (Qy.move rfl) ?_
    refine Gm.q 5 [] (by kernel_rfl) rfl rfl (Qy.move rfl) ?_
    refine Gm.q 6 [] (by kernel_rfl) rfl rfl (Qy.at (α := U32) T.sl61 rfl rfl (by assumption) (by omega)) ?_
    refine Gm.q 7 [] (by kernel_rfl) rfl rfl (Qy.loadG T.one97 rfl (Arr.cell (by assumption) (by omega) 0 rfl rfl)) ?_
    refine Gm.q 8 [] (by kernel_rfl) rfl rfl (Qy.lss rfl rfl) ?_
    refine Gm.q 9 [] (by kernel_rfl) rfl rfl (Qy.assign rfl) ?_
    refine Gm.doneA (by kernel_rfl) trivial (by first | exact Imm.le_refl _ | assumption | (refine Imm.le_trans ?_ (by assumption); first | assumption | (refine Imm.le_trans ?_ (by assumption); assumption))) ?_
    refine Ar.next ?_
    refine Wc.cond rfl (fun hc3 => ?_) (fun hc3 => ?_)
    refine Wc.ga 12 [] ?_
    refine Ar.out1 (.inr rfl) (Ho := Hp.only _ []) rfl (.tmp rfl) (Hp.sub_only _ _) ?_
    rotate_left
    refine Wc.seq ?_
    refine Wc.draw [] [] T.mixed rfl ?_
    refine Gm.q 0 [] (by kernel_rfl) rfl rfl (Qy.move rfl) ?_
    refine Gm.q 1 [] (by kernel_rfl) rfl rfl (Qy.move rfl) ?_
    refine Gm.q 2 [] (by kernel_rfl) rfl rfl (Qy.at (α := U32) T.sl61 rfl rfl (by assumption) (by omega)) ?_
    refine Gm.q 3 [] (by kernel_rfl) rfl rfl (Qy.loadG T.one97 rfl (Arr.cell (by assumption) (by omega) 0 rfl rfl)) ?_
    refine Gm.q 4 [] (by kernel_rfl) rfl rfl (Qy.move rfl) ?_
    refine Gm.q 5 [] (by kernel_rfl) rfl rfl (Qy.move rfl) ?_
    refine Gm.q 6 [] (by kernel_rfl) rfl rfl (Qy.at (α := U32) T.sl61 rfl rfl (by assumption) (by omega)) ?_
    refine Gm.q 7 [] (by kernel_rfl) rfl rfl (Qy.loadG T.one97 rfl (Arr.cell (by assumption) (by omega) 0 rfl rfl)) ?_
    refine Gm.q 8 [] (by kernel_rfl) rfl rfl (Qy.gtr rfl rfl) ?_
    refine Gm.q 9 [] (by kernel_rfl) rfl rfl (Qy.assign rfl) ?_
    refine Gm.doneA (by kernel_rfl) trivial (by first | exact Imm.le_refl _ | assumption | (refine Imm.le_trans ?_ (by assumption); first | assumption | (refine Imm.le_trans ?_ (by assumption); assumption))) ?_
    refine Ar.next ?_
    refine Wc.cond rfl (fun hc4 => ?_) (fun hc4 => ?_)
    refine Wc.ga 12 [] ?_
    refine Ar.out1 (.inr rfl) (Ho := Hp.only _ []) rfl (.tmp rfl) (Hp.sub_only _ _) ?_
    rotate_left
    refine Wc.ga 9 [] ?_
    rotate_left
    · exact ⟨by rw [cmpZ_lt (bhigh_lt hn (by omega) dma dmb hz' (by omega))], rfl, rfl⟩
    · exact ⟨by rw [cmpZ_gt (bhigh_lt hn.symm (by omega) dmb dma (fun j h1 h2 => (hz' j h1 (by omega)).symm) (by omega))], rfl, rfl⟩
    · refine Ar.re 5 rfl (show _ = Value.int .i64 (((k - 1 : Nat) : Int) - 1) by congr 1; omega) ?_
      refine Ar.again (k - 1) ?_ ?_ rfl ⟨rfl, rfl, rfl, trivial⟩ trivial
      · refine ⟨by omega, fun j h1 h2 => ?_⟩
        rcases Nat.lt_or_ge j k with h3 | h3
        · have e : j = k - 1 := by omega
          rw [e]; omega
        · exact hz j h3 h2
      · omega
/-- a number of its own, without noughts at the top -/
theorem c69 (G : Imm) (a : Option Addr) (c : Nat) (l : List U32) (hl : Arr G a l) (hb : l.length ≤ 1073741824) (hc : l.length ≤ c) :
    Does Tryz.prog 69 [.slice a l.length c] G [] (fun v G' Ho => ∃ (b : Option Addr) (m : List U32), v = .slice b m.length m.length ∧ Arr G' b m ∧ m = l.take m.length ∧ Trim l m.length ∧ m.length ≤ l.length ∧ Ho = []) := by
  refine Does.enter Tryz.func69 rfl Tryz.ntmps69 rfl (fun w => ?_)
  refine Wc.gl 8 [] ?_
  refine Wl.call 0 rfl T.fn78 rfl (c78 _ _ _ _ (by assumption) (by omega) (by first | assumption | omega)) (tags_of trivial) (fun v1 G1 Ho1 hle1 hp => ?_)
  obtain ⟨ta1, tm1, rfl, hta1, hte1, htr1, htl1, rfl, rfl⟩ := hp
  refine Wl.gl 7 [] ?_
  refine Wl.make (α := U32) 0 rfl T.sl61 T.el97 rfl rfl (by omega) (by omega) (fun b1 => ?_)
  refine Wl.gl 7 [] ?_
  refine Wl.copyRow (α := U32) 0 rfl T.sl61 rfl rfl rfl (Src.arr (by assumption)) (by first | omega | (simp only [List.length_append, List.length_cons, List.length_nil, List.length_replicate]; omega)) ?_
  refine Wl.ga 9 [] ?_
  have e1 : (List.replicate ((tm1.length : Nat) : Int).toNat (default : U32)).length = tm1.length := by rw [List.length_replicate, Int.toNat_natCast]
  refine Ar.reH 0 (Row 97 tm1 []) rfl (by rw [List.drop_eq_nil_of_le (by rw [e1]; exact Nat.le_refl _), List.append_nil]) ?_
  refine Ar.re 2 rfl (show _ = Value.slice (some ⟨b1, 0, none⟩) tm1.length tm1.length by rw [e1]) ?_
  refine Ar.freezeRow 0 rfl (OwnA.made (xs := tm1) (by simp only [maxLen]; omega)) (fun G9 hle9 hA => ?_)
  refine Ar.out1 (.inr rfl) (Ho := []) rfl (.tmp rfl) trivial ?_
  exact ⟨_, tm1, rfl, hA, hte1, htr1, htl1, rfl⟩
end Go.Proofs.YtbppmiimeccclaaGreatDoor
set_option maxRecDepth 100000
set_option linter.unusedVariables false
namespace Go.Proofs.YtbppmiimeccclaaGreatDoor
open Go Go.Sl
set_option maxHeartbeats 4000000
/-- a list of limbs, none a nought at the top, that stays as it is -/
def Nat32 (G : Imm) (v : Value) (z : Int) (n : Nat) : Prop := ∃ (b : Option Addr) (m : List U32), v = .slice b m.length m.length ∧ Arr G b m ∧ Lims m ∧ Top m ∧ valB m = z ∧ m.length ≤ n
theorem Nat32.of {G : Imm} {b : Option Addr} {l m : List U32} {z : Int} {n : Nat} (h : Arr G b m) (he : m = l.take m.length) (ht : Trim l m.length) (hd : Lims l) (hz : valB l = z) (hn : m.length ≤ n) : Nat32 G (.slice b m.length m.length) z n :=
  ⟨b, m, rfl, h, trim_lims he hd, trim_top he ht, (trim_val he ht).trans hz, hn⟩
attribute [local irreducible] valB pb cmpZ
theorem c101 (G : Imm) (a b : Option Addr) (ca cb : Nat) (la lb : List U32) (ha : Arr G a la) (hb : Arr G b lb) (da : Lims la) (db : Lims lb) (h1 : la.length ≤ 1073741824) (h2 : lb.length ≤ 1073741824) :
    Does Tryz.prog 101 [.slice a la.length ca, .slice b lb.length cb] G [] (fun v G' Ho => Nat32 G' v (valB la + valB lb) (max la.length lb.length + 1) ∧ Ho = []) := by
  refine Does.enter Tryz.func101 rfl Tryz.ntmps101 rfl (fun w => ?_)
  refine Wc.gc 5 [] ?_
  refine Wc.meet (ι := Option Addr × Nat × List U32 × (Option Addr × Nat × List U32)) (fun (xa, ka, l1, (xb, kb, l2)) => ([(0, .slice xa l1.length ka), (1, .slice xb l2.length kb), (4, Go.Value.slice Option.none 0 0)], [])) (fun (xa, ka, l1, (xb, kb, l2)) => Arr G xa l1 ∧ Arr G xb l2 ∧ Lims l1 ∧ Lims l2 ∧ l2.length ≤ l1.length ∧ l1.length ≤ max la.length lb.length ∧ valB l1 + valB l2 = valB la + valB lb) ?_ (fun ⟨xa, ka, l1, (xb, kb, l2)⟩ => fun (hk : Arr G xa l1 ∧ Arr G xb l2 ∧ Lims l1 ∧ Lims l2 ∧ l2.length ≤ l1.length ∧ l1.length ≤ max la.length lb.length ∧ valB l1 + valB l2 = valB la + valB lb) => ?_)
  · by_cases hlt : la.length < lb.length
    · refine Wc.ga 16 [1] ?_
      refine Ar.meet ((b, cb, lb, (a, ca, la))) ?_ rfl ⟨rfl, rfl, rfl, trivial⟩ trivial
      exact ⟨hb, ha, db, da, by omega, by omega, Int.add_comm _ _⟩
    · refine Wc.ga 11 [0] ?_
      refine Ar.meet ((a, ca, la, (b, cb, lb))) ?_ rfl ⟨rfl, rfl, rfl, trivial⟩ trivial
      exact ⟨ha, hb, da, db, by omega, by omega, rfl⟩
  obtain ⟨ha1, hb1, d1, d2, hl21, hl1, hsum⟩ := hk
  clear ha hb
  refine Wc.gl 5 [] ?_
  refine Wl.make (α := U32) 0 rfl T.sl61 T.el97 rfl rfl (by omega) (by omega) (fun b1 => ?_)
  refine Wl.gc 17 [] ?_
  obtain ⟨N, hN⟩ : ∃ N, N = l1.length + 1 := ⟨_, rfl⟩
  have hM : ((l1.length : Int) + 1).toNat = N := by omega
  rw [hM]
  have hown : ∀ r : List U32, r.length = N → OwnA (some ⟨b1, 0, none⟩) N r [] := fun r hr => .inr ⟨b1, rfl, by rw [hr]; rfl, by omega, by simp only [maxLen]; omega⟩
  refine Wc.re 5 rfl (show _ = Value.slice (some ⟨b1, 0, none⟩) (List.replicate N (default : U32)).length N by rw [List.length_replicate]) ?_
  refine Wc.loop (ι := Nat × Int × List U32) (fun (i, cy, r) => ([(22, .int .i64 (i : Int)), (6, .int .u64 cy), (5, .slice (some ⟨b1, 0, none⟩) r.length N), (21, Go.Value.int Go.IntKind.i64 (↑(List.length l1) : Int)), (20, Go.Value.slice xa (List.length l1) ka), (0, Go.Value.slice xa (List.length l1) ka), (1, Go.Value.slice xb (List.length l2) kb), (4, Go.Value.slice Option.none 0 0)], [(0, some b1, Row 97 r [])])) (fun (i, cy, r) => i ≤ l1.length ∧ r.length = N ∧ Lims r ∧ 0 ≤ cy ∧ cy ≤ 1 ∧ valB (l1.take i) + valB (l2.take i) = valB (r.take i) + pb i * cy) (fun (i, cy, r) => l1.length - i) ((0, 0, List.replicate N (default : U32))) (⟨Nat.zero_le _, List.length_replicate, Lims.zeros N, by decide, by decide, by rw [List.take_zero, List.take_zero, List.take_zero, Int.mul_zero, Int.add_zero, valB_nil]; rfl⟩) ⟨rfl, rfl, rfl, rfl, rfl, rfl, rfl, rfl, trivial⟩ ⟨rfl, trivial⟩ (fun ⟨i, cy, r⟩ => fun (hk : i ≤ l1.length ∧ r.length = N ∧ Lims r ∧ 0 ≤ cy ∧ cy ≤ 1 ∧ valB (l1.take i) + valB (l2.take i) = valB (r.take i) + pb i * cy) => ?_)
  obtain ⟨hi, hrN, hdr, hc0, hc1, hv⟩ := hk
  have hor := hown r hrN
  rcases Nat.lt_or_ge i l1.length with hia | hia
  · have r1 : 0 ≤ (l1[((i : Nat) : Int).toNat]?.getD default).v ∧ (l1[((i : Nat) : Int).toNat]?.getD default).v < 4294967296 := lg_lt d1 hia
    rcases Nat.lt_or_ge i l2.length with hib | hib
    · have r2 : 0 ≤ (l2[((i : Nat) : Int).toNat]?.getD default).v ∧ (l2[((i : Nat) : Int).toNat]?.getD default).v < 4294967296 := lg_lt d2 hib
      refine Wc.gl 14 [1] ?_
      refine Wl.q rfl (Qy.at (α := U32) T.sl61 rfl rfl (by assumption) (by omega)) ?_
      refine Wl.q rfl (Qy.loadG T.one97 rfl (Arr.cell (by assumption) (by omega) 0 rfl rfl)) ?_
      refine Wl.gl 8 [] ?_
      refine Wl.q rfl (Qy.conv64 rfl T.u95 rfl (by omega)) ?_
      refine Wl.q rfl (Qy.uadd64 rfl rfl (by omega)) ?_
      refine Wl.gl 17 [1] ?_
      refine Wl.q rfl (Qy.at (α := U32) T.sl61 rfl rfl (by assumption) (by omega)) ?_
      refine Wl.q rfl (Qy.loadG T.one97 rfl (Arr.cell (by assumption) (by omega) 0 rfl rfl)) ?_
      refine Wl.q rfl (Qy.conv64 rfl T.u95 rfl (by omega)) ?_
      refine Wl.q rfl (Qy.uadd64 rfl rfl (by omega)) ?_
      refine Wl.gl 8 [] ?_
      refine Wl.q rfl (Qy.trunc32 rfl T.u97 rfl) ?_
      refine Wl.q rfl (Qy.indexAddrO (α := U32) T.sl61 rfl rfl (by assumption) (by omega)) ?_
      refine Wl.setO (z := _) 0 T.size97 rfl rfl rfl (by assumption) (by omega) rfl (fun ho1 => ?_)
      refine Wl.gl 4 [] ?_
      refine Wl.q rfl (Qy.shr32 rfl rfl (by omega)) ?_
      refine Wl.ga 8 [] ?_
      refine Ar.reH 0 (Row 97 (r.set i (⟨(cy + (l1[((i : Nat) : Int).toNat]?.getD default).v + (l2[((i : Nat) : Int).toNat]?.getD default).v) % 4294967296⟩ : U32)) []) rfl (by rw [Int.toNat_natCast]) ?_
      refine Ar.re 5 rfl (show _ = Value.slice (some ⟨b1, 0, none⟩) (r.set i (⟨(cy + (l1[((i : Nat) : Int).toNat]?.getD default).v + (l2[((i : Nat) : Int).toNat]?.getD default).v) % 4294967296⟩ : U32)).length N by rw [List.length_set]) ?_
      refine Ar.again ((i + 1, (cy + (l1[((i : Nat) : Int).toNat]?.getD default).v + (l2[((i : Nat) : Int).toNat]?.getD default).v) / 4294967296, r.set i (⟨(cy + (l1[((i : Nat) : Int).toNat]?.getD default).v + (l2[((i : Nat) : Int).toNat]?.getD default).v) % 4294967296⟩ : U32))) ?_ ?_ rfl ⟨rfl, rfl, rfl, rfl, rfl, rfl, rfl, rfl, trivial⟩ ⟨rfl, trivial⟩
      · exact ⟨by omega, by rw [List.length_set]; exact hrN, lims_set hdr _ (mod32 _), by omega, by omega, add_next (by omega) hv rfl⟩
      · show l1.length - (i + 1) < l1.length - i
        omega
    · have z := lg_end hib
      refine Wc.gl 14 [1] ?_
      refine Wl.q rfl (Qy.at (α := U32) T.sl61 rfl rfl (by assumption) (by omega)) ?_
      refine Wl.q rfl (Qy.loadG T.one97 rfl (Arr.cell (by assumption) (by omega) 0 rfl rfl)) ?_
      refine Wl.gl 8 [] ?_
      refine Wl.q rfl (Qy.conv64 rfl T.u95 rfl (by omega)) ?_
      refine Wl.q rfl (Qy.uadd64 rfl rfl (by omega)) ?_
      refine Wl.gl 20 [0] ?_
      refine Wl.q rfl (Qy.trunc32 rfl T.u97 rfl) ?_
      refine Wl.q rfl (Qy.indexAddrO (α := U32) T.sl61 rfl rfl (by assumption) (by omega)) ?_
      refine Wl.setO (z := _) 0 T.size97 rfl rfl rfl (by assumption) (by omega) rfl (fun ho1 => ?_)
      refine Wl.gl 4 [] ?_
      refine Wl.q rfl (Qy.shr32 rfl rfl (by omega)) ?_
      refine Wl.ga 8 [] ?_
      refine Ar.reH 0 (Row 97 (r.set i (⟨(cy + (l1[((i : Nat) : Int).toNat]?.getD default).v) % 4294967296⟩ : U32)) []) rfl (by rw [Int.toNat_natCast]) ?_
      refine Ar.re 5 rfl (show _ = Value.slice (some ⟨b1, 0, none⟩) (r.set i (⟨(cy + (l1[((i : Nat) : Int).toNat]?.getD default).v) % 4294967296⟩ : U32)).length N by rw [List.length_set]) ?_
      refine Ar.again ((i + 1, (cy + (l1[((i : Nat) : Int).toNat]?.getD default).v) / 4294967296, r.set i (⟨(cy + (l1[((i : Nat) : Int).toNat]?.getD default).v) % 4294967296⟩ : U32))) ?_ ?_ rfl ⟨rfl, rfl, rfl, rfl, rfl, rfl, rfl, rfl, trivial⟩ ⟨rfl, trivial⟩
      · exact ⟨by omega, by rw [List.length_set]; exact hrN, lims_set hdr _ (mod32 _), by omega, by omega, add_next (by omega) hv (by rw [z, Int.add_zero]; rfl)⟩
      · show l1.length - (i + 1) < l1.length - i
        omega
  · have hii : i = l1.length := by omega
    subst hii
    refine Wc.gl 18 [0] ?_
    refine Wl.q rfl (Qy.conv32 rfl T.u97 rfl (by omega)) ?_
    refine Wl.q rfl (Qy.indexAddrO (α := U32) T.sl61 rfl rfl (by assumption) (by omega)) ?_
    refine Wl.setO (z := _) 0 T.size97 rfl rfl rfl (by assumption) (by omega) rfl (fun ho1 => ?_)
    refine Wl.gl 5 [] ?_
    have hd2 := lims_set hdr l1.length (s := cy) (by omega)
    have hlen : (r.set l1.length (⟨cy⟩ : U32)).length = N := by rw [List.length_set]; exact hrN
    have hval : valB (r.set l1.length (⟨cy⟩ : U32)) = valB la + valB lb := by
      rw [take_all (Nat.le_refl _), take_all hl21] at hv
      rw [← hsum, hv]
      have h3 := bval_step (r.set l1.length (⟨cy⟩ : U32)) l1.length
      rw [take_all (by omega), List.take_set_of_le (Nat.le_refl _), lg_set (by omega)] at h3
      exact h3
    refine Wl.reH 0 (Row 97 (r.set l1.length (⟨cy⟩ : U32)) []) rfl (by rw [Int.toNat_natCast]) ?_
    refine Wl.re 56 rfl (show _ = Value.slice (some ⟨b1, 0, none⟩) (r.set l1.length (⟨cy⟩ : U32)).length N by rw [List.length_set]) ?_
    refine Wl.freezeRow 0 rfl (hown _ hlen) (fun G9 hle9 hA => ?_)
    refine Wl.call 1 rfl T.fn78 rfl (c78 _ _ _ _ (by assumption) (by omega) (by first | assumption | omega)) (tags_of trivial) (fun v1 G1 Ho1 hle1 hp => ?_)
    obtain ⟨ta1, tm1, rfl, hta1, hte1, htr1, htl1, rfl, rfl⟩ := hp
    refine Wl.ga 4 [] ?_
    refine Ar.out1 (.inr rfl) (Ho := Hp.only _ []) rfl (.tmp rfl) (Hp.sub_only _ _) ?_
    exact ⟨Nat32.of hta1 hte1 htr1 hd2 hval (by omega), rfl⟩
end Go.Proofs.YtbppmiimeccclaaGreatDoor
