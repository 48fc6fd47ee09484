import Derived.Test.YtfleehgbpgmcnaaDoorSlP
import Derived.Test.YtfleehgbpgmcnaaDoorAl
set_option maxRecDepth 100000
set_option linter.unusedVariables false
namespace Go.Proofs.YtfleehgbpgmcnaaDoor
open Go Go.Sl

/-- an instruction, its plain form, whether that is another one -/
structure RA where
  i : Sl.Instr
  w : Sl.Instr
  ok : Bool
deriving DecidableEq
instance : Inhabited RA := ⟨⟨default, default, false⟩⟩
instance : Cells RA := ⟨11, fun x => [.int .i64 x.i.op, .int .i64 x.i.to, .int .i64 x.i.a, .int .i64 x.i.b, .int .i64 x.i.c, .int .i64 x.w.op, .int .i64 x.w.to, .int .i64 x.w.a, .int .i64 x.w.b, .int .i64 x.w.c, .bool x.ok], fun _ => rfl, fun _ => rfl⟩
/-- two instructions, what comes of them, whether they melt -/
structure RB where
  a : Sl.Instr
  b : Sl.Instr
  w : Sl.Instr
  ok : Bool
deriving DecidableEq
instance : Inhabited RB := ⟨⟨default, default, default, false⟩⟩
instance : Cells RB := ⟨16, fun x => [.int .i64 x.a.op, .int .i64 x.a.to, .int .i64 x.a.a, .int .i64 x.a.b, .int .i64 x.a.c, .int .i64 x.b.op, .int .i64 x.b.to, .int .i64 x.b.a, .int .i64 x.b.b, .int .i64 x.b.c, .int .i64 x.w.op, .int .i64 x.w.to, .int .i64 x.w.a, .int .i64 x.w.b, .int .i64 x.w.c, .bool x.ok], fun _ => rfl, fun _ => rfl⟩
def kn1 : List RA := [⟨⟨6, 1, 0, 0, -1⟩, ⟨2, 1, 0, 0, 0⟩, true⟩, ⟨⟨3, 1, 0, 0, 0⟩, ⟨7, 1, 0, 0, 1⟩, true⟩, ⟨⟨5, 1, 0, 0, 6⟩, ⟨5, 1, 0, 0, 6⟩, false⟩, ⟨⟨5, 1, 0, 0, -2⟩, ⟨5, 1, 0, 0, -2⟩, false⟩, ⟨⟨5, 1, 0, 0, 0⟩, ⟨0, 0, 0, 0, 0⟩, false⟩, ⟨⟨5, 128, 0, 0, 1⟩, ⟨0, 0, 0, 0, 0⟩, false⟩]
def kn2 : List RB := [⟨⟨5, 1, 0, 0, 6⟩, ⟨6, 1, 1, 0, 3⟩, ⟨7, 1, 0, 0, 1⟩, true⟩, ⟨⟨5, 1, 0, 0, 6⟩, ⟨6, 1, 1, 0, 5⟩, ⟨0, 0, 0, 0, 0⟩, false⟩, ⟨⟨5, 1, 0, 0, 3⟩, ⟨6, 1, 1, 0, -6⟩, ⟨6, 1, 0, 0, -2⟩, true⟩, ⟨⟨6, 1, 0, 0, 2⟩, ⟨2, 1, 1, 0, 0⟩, ⟨0, 0, 0, 0, 0⟩, false⟩, ⟨⟨8, 1, 0, 0, 1⟩, ⟨7, 1, 1, 0, 1⟩, ⟨0, 0, 0, 0, 0⟩, false⟩, ⟨⟨1, 1, 0, 0, 0⟩, ⟨3, 1, 1, 2, 0⟩, ⟨0, 0, 0, 0, 0⟩, false⟩, ⟨⟨2, 1, 0, 0, 0⟩, ⟨2, 1, 1, 0, 0⟩, ⟨1, 1, 0, 0, 0⟩, true⟩, ⟨⟨7, 1, 0, 0, 3⟩, ⟨8, 1, 1, 0, 5⟩, ⟨8, 1, 0, 0, 2⟩, true⟩, ⟨⟨5, 1, 0, 0, 300⟩, ⟨5, 1, 1, 0, 3⟩, ⟨0, 0, 0, 0, 0⟩, false⟩]
theorem kn1_def : kn1 = [⟨⟨6, 1, 0, 0, -1⟩, ⟨2, 1, 0, 0, 0⟩, true⟩, ⟨⟨3, 1, 0, 0, 0⟩, ⟨7, 1, 0, 0, 1⟩, true⟩, ⟨⟨5, 1, 0, 0, 6⟩, ⟨5, 1, 0, 0, 6⟩, false⟩, ⟨⟨5, 1, 0, 0, -2⟩, ⟨5, 1, 0, 0, -2⟩, false⟩, ⟨⟨5, 1, 0, 0, 0⟩, ⟨0, 0, 0, 0, 0⟩, false⟩, ⟨⟨5, 128, 0, 0, 1⟩, ⟨0, 0, 0, 0, 0⟩, false⟩] := rfl
theorem kn2_def : kn2 = [⟨⟨5, 1, 0, 0, 6⟩, ⟨6, 1, 1, 0, 3⟩, ⟨7, 1, 0, 0, 1⟩, true⟩, ⟨⟨5, 1, 0, 0, 6⟩, ⟨6, 1, 1, 0, 5⟩, ⟨0, 0, 0, 0, 0⟩, false⟩, ⟨⟨5, 1, 0, 0, 3⟩, ⟨6, 1, 1, 0, -6⟩, ⟨6, 1, 0, 0, -2⟩, true⟩, ⟨⟨6, 1, 0, 0, 2⟩, ⟨2, 1, 1, 0, 0⟩, ⟨0, 0, 0, 0, 0⟩, false⟩, ⟨⟨8, 1, 0, 0, 1⟩, ⟨7, 1, 1, 0, 1⟩, ⟨0, 0, 0, 0, 0⟩, false⟩, ⟨⟨1, 1, 0, 0, 0⟩, ⟨3, 1, 1, 2, 0⟩, ⟨0, 0, 0, 0, 0⟩, false⟩, ⟨⟨2, 1, 0, 0, 0⟩, ⟨2, 1, 1, 0, 0⟩, ⟨1, 1, 0, 0, 0⟩, true⟩, ⟨⟨7, 1, 0, 0, 3⟩, ⟨8, 1, 1, 0, 5⟩, ⟨8, 1, 0, 0, 2⟩, true⟩, ⟨⟨5, 1, 0, 0, 300⟩, ⟨5, 1, 1, 0, 3⟩, ⟨0, 0, 0, 0, 0⟩, false⟩] := rfl
theorem kn1_len : kn1.length = 6 := rfl
theorem kn2_len : kn2.length = 9 := rfl
theorem kn1_all : ∀ x ∈ kn1, plainQ x.i = (x.w, x.ok) := by decide
theorem kn2_all : ∀ x ∈ kn2, meltQ x.a x.b = (x.w, x.ok) := by decide
theorem kn1_at {k : Nat} (h : k < 6) : plainQ (kn1[((k : Nat) : Int).toNat]?.getD default).i = ((kn1[((k : Nat) : Int).toNat]?.getD default).w, (kn1[((k : Nat) : Int).toNat]?.getD default).ok) := by
  have hl : k < kn1.length := h
  refine kn1_all _ ?_
  rw [Int.toNat_natCast, List.getElem?_eq_getElem hl]; exact List.getElem_mem hl
theorem kn2_at {k : Nat} (h : k < 9) : meltQ (kn2[((k : Nat) : Int).toNat]?.getD default).a (kn2[((k : Nat) : Int).toNat]?.getD default).b = ((kn2[((k : Nat) : Int).toNat]?.getD default).w, (kn2[((k : Nat) : Int).toNat]?.getD default).ok) := by
  have hl : k < kn2.length := h
  refine kn2_all _ ?_
  rw [Int.toNat_natCast, List.getElem?_eq_getElem hl]; exact List.getElem_mem hl
theorem c15K (G : Imm) (hT : TabOk G) (x : RA) (h : plainQ x.i = (x.w, x.ok)) : Does Tryd.prog 15 [.agg #[.int .i64 x.i.op, .int .i64 x.i.to, .int .i64 x.i.a, .int .i64 x.i.b, .int .i64 x.i.c]] G [] (fun v G' Ho => v = .tuple #[.agg #[.int .i64 x.w.op, .int .i64 x.w.to, .int .i64 x.w.a, .int .i64 x.w.b, .int .i64 x.w.c], .bool x.ok] ∧ G' = G ∧ Ho = []) := by
  have e := c15 G hT x.i
  rw [h] at e
  exact e
theorem c16K (G : Imm) (hT : TabOk G) (x : RB) (h : meltQ x.a x.b = (x.w, x.ok)) : Does Tryd.prog 16 [.agg #[.int .i64 x.a.op, .int .i64 x.a.to, .int .i64 x.a.a, .int .i64 x.a.b, .int .i64 x.a.c], .agg #[.int .i64 x.b.op, .int .i64 x.b.to, .int .i64 x.b.a, .int .i64 x.b.b, .int .i64 x.b.c]] G [] (fun v G' Ho => v = .tuple #[.agg #[.int .i64 x.w.op, .int .i64 x.w.to, .int .i64 x.w.a, .int .i64 x.w.b, .int .i64 x.w.c], .bool x.ok] ∧ G' = G ∧ Ho = []) := by
  have e := c16 G hT x.a x.b
  rw [h] at e
  exact e
def pk0 : PV := ⟨0, 0, [], []⟩
theorem pk0_right : ¬ rightP pk0 = true := by decide
set_option maxHeartbeats 4000000
attribute [local irreducible] plainP meltP pushL foldTo foldP foldE errP rightP plainQ meltQ kn1 kn2
theorem c4 (G : Imm) (hT : TabOk G) : Does Tryd.prog 4 [] G [] (fun v G' Ho => v = .bool true) := by
  refine Does.enter Tryd.func4 rfl Tryd.ntmps4 rfl (fun w => ?_)
  have l1 := kn1_len
  have l2 := kn2_len
  refine Wc.seq ?_
  refine Wc.region rfl ?_
  refine Wl.q rfl (Qy.assign rfl) ?_
  refine Wl.done ?_
  refine Ar.next ?_
  refine Wc.seq ?_
  refine Wc.seq ?_
  refine Wc.region rfl ?_
  refine Wl.call0 rfl T.fn7 rfl (c7 _ (by assumption)) ?_
  refine Wl.q rfl (Qy.not rfl) ?_
  refine Wl.done ?_
  refine Ar.next ?_
  refine Wc.condF rfl ?_
  refine Wc.skip ?_
  refine Ar.next ?_
  refine Wc.seq ?_
  refine Wc.seq ?_
  refine Wc.region rfl ?_
  refine Wl.call0 rfl T.fn14 rfl (c14 _ _ _ _ _) ?_
  refine Wl.call0 rfl T.fn14 rfl (c14 _ _ _ _ _) ?_
  refine Wl.q rfl (Qy.build (cs := [_, _, _, _, _, _, _, _, _, _, _]) T.st36 rfl rfl rfl) ?_
  refine Wl.q rfl (Qy.build (cs := [_, _, _, _, _]) T.st34 rfl rfl rfl) ?_
  refine Wl.call0 rfl T.fn14 rfl (c14 _ _ _ _ _) ?_
  refine Wl.q rfl (Qy.build (cs := [_, _, _, _, _, _, _, _, _, _, _]) T.st36 rfl rfl rfl) ?_
  refine Wl.call0 rfl T.fn14 rfl (c14 _ _ _ _ _) ?_
  refine Wl.call0 rfl T.fn14 rfl (c14 _ _ _ _ _) ?_
  refine Wl.q rfl (Qy.build (cs := [_, _, _, _, _, _, _, _, _, _, _]) T.st36 rfl rfl rfl) ?_
  refine Wl.call0 rfl T.fn14 rfl (c14 _ _ _ _ _) ?_
  refine Wl.call0 rfl T.fn14 rfl (c14 _ _ _ _ _) ?_
  refine Wl.q rfl (Qy.build (cs := [_, _, _, _, _, _, _, _, _, _, _]) T.st36 rfl rfl rfl) ?_
  refine Wl.call0 rfl T.fn14 rfl (c14 _ _ _ _ _) ?_
  refine Wl.q rfl (Qy.build (cs := [_, _, _, _, _]) T.st34 rfl rfl rfl) ?_
  refine Wl.q rfl (Qy.build (cs := [_, _, _, _, _, _, _, _, _, _, _]) T.st36 rfl rfl rfl) ?_
  refine Wl.call0 rfl T.fn14 rfl (c14 _ _ _ _ _) ?_
  refine Wl.q rfl (Qy.build (cs := [_, _, _, _, _]) T.st34 rfl rfl rfl) ?_
  refine Wl.q rfl (Qy.build (cs := [_, _, _, _, _, _, _, _, _, _, _]) T.st36 rfl rfl rfl) ?_
  refine Wl.lit (α := RA) 0 [⟨⟨_, _, _, _, _⟩, ⟨_, _, _, _, _⟩, _⟩, ⟨⟨_, _, _, _, _⟩, ⟨_, _, _, _, _⟩, _⟩, ⟨⟨_, _, _, _, _⟩, ⟨_, _, _, _, _⟩, _⟩, ⟨⟨_, _, _, _, _⟩, ⟨_, _, _, _, _⟩, _⟩, ⟨⟨_, _, _, _, _⟩, ⟨_, _, _, _, _⟩, _⟩, ⟨⟨_, _, _, _, _⟩, ⟨_, _, _, _, _⟩, _⟩] rfl T.sl37 T.el36 rfl rfl rfl rfl rfl (fun b1 => ?_)
  refine Wl.q rfl (Qy.len T.sl37 rfl) ?_
  refine Wl.q rfl (Qy.move rfl) ?_
  refine Wl.done ?_
  refine Ar.next ?_
  refine Wc.block ?_
  refine Wc.reH 0 (Row 36 kn1 []) rfl (by rw [kn1_def]) (Wc.re 31 rfl (show _ = Value.slice (some ⟨b1, 0, none⟩) kn1.length 6 by rw [kn1_def]) (Wc.re 32 rfl (show _ = Value.int .i64 6 from rfl) ?_))
  have ho1 : OwnA (some ⟨b1, 0, none⟩) 6 kn1 [] := by rw [← l1]; exact OwnA.made (xs := kn1) (by rw [l1]; decide)
  refine Wc.loop (ι := Nat) (fun k => ([(33, .int .i64 (k : Int)), (32, Go.Value.int Go.IntKind.i64 6), (31, Go.Value.slice (Option.some (Go.Addr.mk b1 0 Option.none)) (List.length Go.Proofs.YtfleehgbpgmcnaaDoor.kn1) 6)], [(0, Option.some b1, Go.Sl.Row (α := Go.Proofs.YtfleehgbpgmcnaaDoor.RA) 36 (Go.Proofs.YtfleehgbpgmcnaaDoor.kn1) ([]))])) (fun k => k ≤ 6) (fun k => 6 - k) (0) (Nat.zero_le _) ⟨rfl, rfl, rfl, trivial⟩ ⟨rfl, trivial⟩ (fun k => fun (hk : k ≤ 6) => ?_)
  rcases Nat.lt_or_ge k 6 with hlt | hge
  · have hx := kn1_at hlt
    have z : ¬ ((kn1[((k : Nat) : Int).toNat]?.getD default).w ≠ (kn1[((k : Nat) : Int).toNat]?.getD default).w ∨ (kn1[((k : Nat) : Int).toNat]?.getD default).ok ≠ (kn1[((k : Nat) : Int).toNat]?.getD default).ok) := by simp
    refine Wc.seq ?_
    refine Wc.region rfl ?_
    refine Wl.q rfl (Qy.lss rfl rfl) ?_
    refine Wl.done ?_
    refine Ar.next ?_
    refine Wc.seq ?_
    refine Wc.condP rfl (by first | assumption | omega) ?_
    refine Wc.skip ?_
    refine Ar.next ?_
    refine Wc.seq ?_
    refine Wc.block ?_
    refine Wc.seq ?_
    refine Wc.region rfl ?_
    refine Wl.q rfl (Qy.indexAddrO (α := RA) T.sl37 rfl rfl (by assumption) (by omega)) ?_
    refine Wl.q rfl (Qy.loadsO 0 T.agg36 rfl rfl (by assumption) (by omega)) ?_
    refine Wl.alloc 1 rfl T.zero36 (fun b2 => ?_)
    refine Wl.storeAll 1 T.size36 rfl rfl rfl rfl rfl rfl ?_
    refine Wl.done ?_
    refine Ar.next ?_
    refine Wc.seq ?_
    refine Wc.region rfl ?_
    refine Wl.q rfl (Qy.fieldAddr T.fa36_0 rfl) ?_
    refine Wl.q rfl (Qy.loads 1 T.agg34 rfl rfl rfl rfl) ?_
    refine Wl.call0 rfl T.fn15 rfl (c15K _ (by assumption) _ (by assumption)) ?_
    refine Wl.q rfl (Qy.move rfl) ?_
    refine Wl.q rfl (Qy.extract rfl rfl) ?_
    refine Wl.q rfl (Qy.extract rfl rfl) ?_
    refine Wl.alloc 2 rfl T.zero34 (fun b3 => ?_)
    refine Wl.storeAll 2 T.size34 rfl rfl rfl rfl rfl rfl ?_
    refine Wl.q rfl (Qy.assign rfl) ?_
    refine Wl.done ?_
    refine Ar.next ?_
    refine Wc.seq ?_
    refine Wc.region rfl ?_
    refine Wl.q rfl (Qy.loadAll 2 T.agg34 rfl rfl rfl) ?_
    refine Wl.q rfl (Qy.fieldAddr T.fa36_1 rfl) ?_
    refine Wl.q rfl (Qy.loads 1 T.agg34 rfl rfl rfl rfl) ?_
    refine Wl.q rfl (Qy.neqInstr T.ai34 rfl rfl) ?_
    refine Wl.q rfl (Qy.move rfl) ?_
    apply Wl.joinOr 5 47 52 rfl
    intro hg1
    refine Wl.want rfl rfl ?_
    refine Wl.q rfl (Qy.move rfl) ?_
    refine Wl.want rfl rfl ?_
    refine Wl.q rfl (Qy.fieldAddr T.fa36_2 rfl) ?_
    refine Wl.want rfl rfl ?_
    refine Wl.q rfl (Qy.load 1 T.one4 rfl rfl rfl) ?_
    refine Wl.want rfl rfl ?_
    refine Wl.q rfl (Qy.neqB T.u4 rfl rfl) ?_
    refine Wl.q rfl (Qy.pick rfl rfl) ?_
    exact Wl.back 5 0 rfl rfl rfl rfl rfl
    intro hg1
    refine Wl.pass rfl rfl rfl ?_
    refine Wl.pass rfl rfl rfl ?_
    refine Wl.pass rfl rfl rfl ?_
    refine Wl.pass rfl rfl rfl ?_
    refine Wl.q rfl (Qy.pick rfl rfl) ?_
    exact Wl.back 5 0 rfl rfl rfl rfl rfl
    refine Wl.done ?_
    refine Ar.next ?_
    refine Wc.condN rfl (by first | assumption | omega) ?_
    refine Wc.skip ?_
    refine Ar.outNormal ?_
    refine Ar.next ?_
    refine Wc.region rfl ?_
    refine Wl.q rfl (Qy.add rfl rfl (by omega)) ?_
    refine Wl.q rfl (Qy.move rfl) ?_
    refine Wl.done ?_
    refine Ar.again (k + 1) ?_ ?_ rfl ⟨rfl, rfl, rfl, trivial⟩ ⟨rfl, trivial⟩
    · show k + 1 ≤ 6
      omega
    · show 6 - (k + 1) < 6 - k
      omega
  · have hk : k = 6 := by omega
    subst hk
    refine Wc.seq ?_
    refine Wc.region rfl ?_
    refine Wl.q rfl (Qy.lss rfl rfl) ?_
    refine Wl.done ?_
    refine Ar.next ?_
    refine Wc.seq ?_
    refine Wc.condN rfl (by first | assumption | omega) ?_
    refine Wc.exit ?_
    refine Ar.passExit ?_
    refine Ar.passExit ?_
    refine Ar.here ?_
    refine Ar.next ?_
    refine Wc.seq ?_
    refine Wc.seq ?_
    refine Wc.region rfl ?_
    refine Wl.call0 rfl T.fn14 rfl (c14 _ _ _ _ _) ?_
    refine Wl.call0 rfl T.fn14 rfl (c14 _ _ _ _ _) ?_
    refine Wl.call0 rfl T.fn14 rfl (c14 _ _ _ _ _) ?_
    refine Wl.q rfl (Qy.build (cs := [_, _, _, _, _, _, _, _, _, _, _, _, _, _, _, _]) T.st40 rfl rfl rfl) ?_
    refine Wl.call0 rfl T.fn14 rfl (c14 _ _ _ _ _) ?_
    refine Wl.call0 rfl T.fn14 rfl (c14 _ _ _ _ _) ?_
    refine Wl.q rfl (Qy.build (cs := [_, _, _, _, _]) T.st34 rfl rfl rfl) ?_
    refine Wl.q rfl (Qy.build (cs := [_, _, _, _, _, _, _, _, _, _, _, _, _, _, _, _]) T.st40 rfl rfl rfl) ?_
    refine Wl.call0 rfl T.fn14 rfl (c14 _ _ _ _ _) ?_
    refine Wl.call0 rfl T.fn14 rfl (c14 _ _ _ _ _) ?_
    refine Wl.call0 rfl T.fn14 rfl (c14 _ _ _ _ _) ?_
    refine Wl.q rfl (Qy.build (cs := [_, _, _, _, _, _, _, _, _, _, _, _, _, _, _, _]) T.st40 rfl rfl rfl) ?_
    refine Wl.call0 rfl T.fn14 rfl (c14 _ _ _ _ _) ?_
    refine Wl.call0 rfl T.fn14 rfl (c14 _ _ _ _ _) ?_
    refine Wl.q rfl (Qy.build (cs := [_, _, _, _, _]) T.st34 rfl rfl rfl) ?_
    refine Wl.q rfl (Qy.build (cs := [_, _, _, _, _, _, _, _, _, _, _, _, _, _, _, _]) T.st40 rfl rfl rfl) ?_
    refine Wl.call0 rfl T.fn14 rfl (c14 _ _ _ _ _) ?_
    refine Wl.call0 rfl T.fn14 rfl (c14 _ _ _ _ _) ?_
    refine Wl.q rfl (Qy.build (cs := [_, _, _, _, _]) T.st34 rfl rfl rfl) ?_
    refine Wl.q rfl (Qy.build (cs := [_, _, _, _, _, _, _, _, _, _, _, _, _, _, _, _]) T.st40 rfl rfl rfl) ?_
    refine Wl.call0 rfl T.fn14 rfl (c14 _ _ _ _ _) ?_
    refine Wl.q rfl (Qy.build (cs := [_, _, _, _, _]) T.st34 rfl rfl rfl) ?_
    refine Wl.q rfl (Qy.build (cs := [_, _, _, _, _]) T.st34 rfl rfl rfl) ?_
    refine Wl.q rfl (Qy.build (cs := [_, _, _, _, _, _, _, _, _, _, _, _, _, _, _, _]) T.st40 rfl rfl rfl) ?_
    refine Wl.call0 rfl T.fn14 rfl (c14 _ _ _ _ _) ?_
    refine Wl.call0 rfl T.fn14 rfl (c14 _ _ _ _ _) ?_
    refine Wl.call0 rfl T.fn14 rfl (c14 _ _ _ _ _) ?_
    refine Wl.q rfl (Qy.build (cs := [_, _, _, _, _, _, _, _, _, _, _, _, _, _, _, _]) T.st40 rfl rfl rfl) ?_
    refine Wl.call0 rfl T.fn14 rfl (c14 _ _ _ _ _) ?_
    refine Wl.call0 rfl T.fn14 rfl (c14 _ _ _ _ _) ?_
    refine Wl.call0 rfl T.fn14 rfl (c14 _ _ _ _ _) ?_
    refine Wl.q rfl (Qy.build (cs := [_, _, _, _, _, _, _, _, _, _, _, _, _, _, _, _]) T.st40 rfl rfl rfl) ?_
    refine Wl.call0 rfl T.fn14 rfl (c14 _ _ _ _ _) ?_
    refine Wl.call0 rfl T.fn14 rfl (c14 _ _ _ _ _) ?_
    refine Wl.q rfl (Qy.build (cs := [_, _, _, _, _]) T.st34 rfl rfl rfl) ?_
    refine Wl.q rfl (Qy.build (cs := [_, _, _, _, _, _, _, _, _, _, _, _, _, _, _, _]) T.st40 rfl rfl rfl) ?_
    refine Wl.lit (α := RB) 1 [⟨⟨_, _, _, _, _⟩, ⟨_, _, _, _, _⟩, ⟨_, _, _, _, _⟩, _⟩, ⟨⟨_, _, _, _, _⟩, ⟨_, _, _, _, _⟩, ⟨_, _, _, _, _⟩, _⟩, ⟨⟨_, _, _, _, _⟩, ⟨_, _, _, _, _⟩, ⟨_, _, _, _, _⟩, _⟩, ⟨⟨_, _, _, _, _⟩, ⟨_, _, _, _, _⟩, ⟨_, _, _, _, _⟩, _⟩, ⟨⟨_, _, _, _, _⟩, ⟨_, _, _, _, _⟩, ⟨_, _, _, _, _⟩, _⟩, ⟨⟨_, _, _, _, _⟩, ⟨_, _, _, _, _⟩, ⟨_, _, _, _, _⟩, _⟩, ⟨⟨_, _, _, _, _⟩, ⟨_, _, _, _, _⟩, ⟨_, _, _, _, _⟩, _⟩, ⟨⟨_, _, _, _, _⟩, ⟨_, _, _, _, _⟩, ⟨_, _, _, _, _⟩, _⟩, ⟨⟨_, _, _, _, _⟩, ⟨_, _, _, _, _⟩, ⟨_, _, _, _, _⟩, _⟩] rfl T.sl41 T.el40 rfl rfl rfl rfl rfl (fun b2 => ?_)
    refine Wl.q rfl (Qy.len T.sl41 rfl) ?_
    refine Wl.q rfl (Qy.move rfl) ?_
    refine Wl.done ?_
    refine Ar.next ?_
    refine Wc.block ?_
    refine Wc.reH 1 (Row 40 kn2 []) rfl (by rw [kn2_def]) (Wc.re 90 rfl (show _ = Value.slice (some ⟨b2, 0, none⟩) kn2.length 9 by rw [kn2_def]) (Wc.re 91 rfl (show _ = Value.int .i64 9 from rfl) ?_))
    have ho2 : OwnA (some ⟨b2, 0, none⟩) 9 kn2 [] := by rw [← l2]; exact OwnA.made (xs := kn2) (by rw [l2]; decide)
    refine Wc.loop (ι := Nat) (fun k => ([(92, .int .i64 (k : Int)), (91, Go.Value.int Go.IntKind.i64 9), (90, Go.Value.slice (Option.some (Go.Addr.mk b2 0 Option.none)) (List.length Go.Proofs.YtfleehgbpgmcnaaDoor.kn2) 9)], [(1, Option.some b2, Go.Sl.Row (α := Go.Proofs.YtfleehgbpgmcnaaDoor.RB) 40 (Go.Proofs.YtfleehgbpgmcnaaDoor.kn2) ([])), (0, Option.some b1, Go.Sl.Row (α := Go.Proofs.YtfleehgbpgmcnaaDoor.RA) 36 (Go.Proofs.YtfleehgbpgmcnaaDoor.kn1) ([]))])) (fun k => k ≤ 9) (fun k => 9 - k) (0) (Nat.zero_le _) ⟨rfl, rfl, rfl, trivial⟩ ⟨rfl, rfl, trivial⟩ (fun k => fun (hk : k ≤ 9) => ?_)
    rcases Nat.lt_or_ge k 9 with hlt | hge
    · have hx := kn2_at hlt
      have z : ¬ ((kn2[((k : Nat) : Int).toNat]?.getD default).w ≠ (kn2[((k : Nat) : Int).toNat]?.getD default).w ∨ (kn2[((k : Nat) : Int).toNat]?.getD default).ok ≠ (kn2[((k : Nat) : Int).toNat]?.getD default).ok) := by simp
      refine Wc.seq ?_
      refine Wc.region rfl ?_
      refine Wl.q rfl (Qy.lss rfl rfl) ?_
      refine Wl.done ?_
      refine Ar.next ?_
      refine Wc.seq ?_
      refine Wc.condP rfl (by first | assumption | omega) ?_
      refine Wc.skip ?_
      refine Ar.next ?_
      refine Wc.seq ?_
      refine Wc.block ?_
      refine Wc.seq ?_
      refine Wc.region rfl ?_
      refine Wl.q rfl (Qy.indexAddrO (α := RB) T.sl41 rfl rfl (by assumption) (by omega)) ?_
      refine Wl.q rfl (Qy.loadsO 1 T.agg40 rfl rfl (by assumption) (by omega)) ?_
      refine Wl.alloc 2 rfl T.zero40 (fun b3 => ?_)
      refine Wl.storeAll 2 T.size40 rfl rfl rfl rfl rfl rfl ?_
      refine Wl.done ?_
      refine Ar.next ?_
      refine Wc.seq ?_
      refine Wc.region rfl ?_
      refine Wl.q rfl (Qy.fieldAddr T.fa40_0 rfl) ?_
      refine Wl.q rfl (Qy.loads 2 T.agg34 rfl rfl rfl rfl) ?_
      refine Wl.q rfl (Qy.fieldAddr T.fa40_1 rfl) ?_
      refine Wl.q rfl (Qy.loads 2 T.agg34 rfl rfl rfl rfl) ?_
      refine Wl.call0 rfl T.fn16 rfl (c16K _ (by assumption) _ (by assumption)) ?_
      refine Wl.q rfl (Qy.move rfl) ?_
      refine Wl.q rfl (Qy.extract rfl rfl) ?_
      refine Wl.q rfl (Qy.extract rfl rfl) ?_
      refine Wl.alloc 3 rfl T.zero34 (fun b4 => ?_)
      refine Wl.storeAll 3 T.size34 rfl rfl rfl rfl rfl rfl ?_
      refine Wl.q rfl (Qy.assign rfl) ?_
      refine Wl.done ?_
      refine Ar.next ?_
      refine Wc.seq ?_
      refine Wc.region rfl ?_
      refine Wl.q rfl (Qy.loadAll 3 T.agg34 rfl rfl rfl) ?_
      refine Wl.q rfl (Qy.fieldAddr T.fa40_2 rfl) ?_
      refine Wl.q rfl (Qy.loads 2 T.agg34 rfl rfl rfl rfl) ?_
      refine Wl.q rfl (Qy.neqInstr T.ai34 rfl rfl) ?_
      refine Wl.q rfl (Qy.move rfl) ?_
      apply Wl.joinOr 5 108 113 rfl
      intro hg1
      refine Wl.want rfl rfl ?_
      refine Wl.q rfl (Qy.move rfl) ?_
      refine Wl.want rfl rfl ?_
      refine Wl.q rfl (Qy.fieldAddr T.fa40_3 rfl) ?_
      refine Wl.want rfl rfl ?_
      refine Wl.q rfl (Qy.load 2 T.one4 rfl rfl rfl) ?_
      refine Wl.want rfl rfl ?_
      refine Wl.q rfl (Qy.neqB T.u4 rfl rfl) ?_
      refine Wl.q rfl (Qy.pick rfl rfl) ?_
      exact Wl.back 5 0 rfl rfl rfl rfl rfl
      intro hg1
      refine Wl.pass rfl rfl rfl ?_
      refine Wl.pass rfl rfl rfl ?_
      refine Wl.pass rfl rfl rfl ?_
      refine Wl.pass rfl rfl rfl ?_
      refine Wl.q rfl (Qy.pick rfl rfl) ?_
      exact Wl.back 5 0 rfl rfl rfl rfl rfl
      refine Wl.done ?_
      refine Ar.next ?_
      refine Wc.condN rfl (by first | assumption | omega) ?_
      refine Wc.skip ?_
      refine Ar.outNormal ?_
      refine Ar.next ?_
      refine Wc.region rfl ?_
      refine Wl.q rfl (Qy.add rfl rfl (by omega)) ?_
      refine Wl.q rfl (Qy.move rfl) ?_
      refine Wl.done ?_
      refine Ar.again (k + 1) ?_ ?_ rfl ⟨rfl, rfl, rfl, trivial⟩ ⟨rfl, rfl, trivial⟩
      · show k + 1 ≤ 9
        omega
      · show 9 - (k + 1) < 9 - k
        omega
    · have hk : k = 9 := by omega
      subst hk
      refine Wc.seq ?_
      refine Wc.region rfl ?_
      refine Wl.q rfl (Qy.lss rfl rfl) ?_
      refine Wl.done ?_
      refine Ar.next ?_
      refine Wc.seq ?_
      refine Wc.condN rfl (by first | assumption | omega) ?_
      refine Wc.exit ?_
      refine Ar.passExit ?_
      refine Ar.passExit ?_
      refine Ar.here ?_
      refine Ar.next ?_
      refine Wc.seq ?_
      refine Wc.region rfl ?_
      refine Wl.q rfl (Qy.build (cs := [_, _, _, _]) T.st25 rfl rfl rfl) ?_
      refine Wl.call 2 rfl T.fn10 rfl (c10W _ pk0 _ _ _ _ (Arr.nil _) (Arr.nil _) (by decide) (by decide) pk0_right) (tags_of trivial) (fun v1 G1 Ho1 hle1 hp => ?_)
      obtain ⟨rfl, rfl, rfl⟩ := hp
      refine Wl.q rfl (Qy.move rfl) ?_
      refine Wl.q rfl (Qy.extract rfl rfl) ?_
      refine Wl.q rfl (Qy.extract rfl rfl) ?_
      refine Wl.alloc 4 rfl T.zero25 (fun b3 => ?_)
      refine Wl.storeAll 4 T.size25 rfl rfl rfl rfl rfl rfl ?_
      refine Wl.q rfl (Qy.assign rfl) ?_
      refine Wl.done ?_
      refine Ar.next ?_
      refine Wc.seq ?_
      refine Wc.region rfl ?_
      refine Wl.q rfl (Qy.move rfl) ?_
      refine Wl.q rfl (Qy.eql rfl rfl) ?_
      refine Wl.q rfl (Qy.assign rfl) ?_
      refine Wl.done ?_
      refine Ar.next ?_
      refine Wc.ret ?_
      exact Ar.out1 (.inr rfl) (Ho := []) rfl (.tmp rfl) trivial rfl
end Go.Proofs.YtfleehgbpgmcnaaDoor
