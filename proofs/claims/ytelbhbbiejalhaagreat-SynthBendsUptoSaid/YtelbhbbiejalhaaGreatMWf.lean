/- Parts of the proof (part 6): what the rows' text needs of the texts that lead to it. -/
import Derived.Test.YtelbhbbiejalhaaGreatMWe
set_option linter.unusedVariables false
set_option linter.unusedSimpArgs false
set_option linter.unusedSectionVars false
set_option maxRecDepth 100000
set_option linter.unusedVariables false
namespace Go.Proofs.YtelbhbbiejalhaaGreat
open Go Go.Sl
set_option maxHeartbeats 4000000
/-- what over adds -/
def overI (to c : Int) : List Sl.Instr := if c = 1 then [] else if c = -1 then [⟨2, to, to, 0, 0⟩] else [⟨6, to, to, 0, c⟩]
theorem c84 (G : Imm) (b : Nat) (n : Int) (ac : Option Addr) (cc : Nat) (code : List Sl.Instr) (j : List Value) (wa : Option Addr) (wn wc : Nat) (to c : Int) (ho : OwnA ac cc code j) (hl : code.length ≤ 1048576) :
    Does Tryz.prog 84 [.pointer (some ⟨b, 0, none⟩), .int .i64 to, .int .i64 c] G [(0, some b, .cells #[.int .i64 n, .slice ac code.length cc, .slice wa wn wc] 139), (1, ac.map (·.block), Row 50 code j)]
      (fun v G' Ho => v = .tuple #[] ∧ G' = G ∧ ∃ (a' : Option Addr) (c' : Nat) (j' : List Value), OwnA a' c' (code ++ overI to c) j' ∧ Ho = [(0, some b, .cells #[.int .i64 n, .slice a' (code ++ overI to c).length c', .slice wa wn wc] 139), (1, a'.map (·.block), Row 50 (code ++ overI to c) j')]) := by
  refine Does.enter Tryz.func84 rfl Tryz.ntmps84 rfl (fun w => ?_)
  refine Wc.gc 12 [] ?_
  refine Wc.cond rfl (fun hc1 => ?_) (fun hc1 => ?_)
  refine Wc.ga 2 [] ?_
  rotate_left
  refine Wc.gc 6 [] ?_
  refine Wc.cond rfl (fun hc2 => ?_) (fun hc2 => ?_)
  refine Wc.gl 4 [] ?_
  refine Wl.call 0 rfl T.fn118 rfl (c118 _ b n ac cc code j wa wn wc _ _ _ _ _ ho hl) (tags_of ⟨rfl, rfl, trivial⟩) (fun v1 G1 Ho1 hle1 hp => ?_)
  obtain ⟨rfl, rfl, a1, d1, j1, ho1, rfl⟩ := hp
  refine Wl.ga 2 [] ?_
  rotate_left
  refine Wc.gl 5 [] ?_
  refine Wl.call 0 rfl T.fn118 rfl (c118 _ b n ac cc code j wa wn wc _ _ _ _ _ ho hl) (tags_of ⟨rfl, rfl, trivial⟩) (fun v1 G1 Ho1 hle1 hp => ?_)
  obtain ⟨rfl, rfl, a1, d1, j1, ho1, rfl⟩ := hp
  refine Wl.ga 2 [] ?_
  rotate_left
  · have e : overI to c = [] := by unfold overI; rw [if_pos hc1]
    rw [e, List.append_nil]
    refine Ar.out0 (by first | exact .inl rfl | exact .inr rfl) (Ho := [(0, some b, .cells #[.int .i64 n, .slice ac code.length cc, .slice wa wn wc] 139), (1, ac.map (·.block), Row 50 code j)]) rfl ⟨rfl, rfl, trivial⟩ ?_
    exact ⟨rfl, rfl, ac, cc, j, ho, rfl⟩
  · have e : overI to c = [⟨2, to, to, 0, 0⟩] := by unfold overI; rw [if_neg hc1, if_pos hc2]
    rw [e]
    refine Ar.out0 (by first | exact .inl rfl | exact .inr rfl) (Ho := [(0, some b, .cells #[.int .i64 n, .slice a1 (code ++ [(⟨2, to, to, 0, 0⟩ : Sl.Instr)]).length d1, .slice wa wn wc] 139), (1, a1.map (·.block), Row 50 (code ++ [⟨2, to, to, 0, 0⟩]) j1)]) rfl ⟨rfl, rfl, trivial⟩ ?_
    exact ⟨rfl, rfl, a1, d1, j1, ho1, rfl⟩
  · have e : overI to c = [⟨6, to, to, 0, c⟩] := by unfold overI; rw [if_neg hc1, if_neg hc2]
    rw [e]
    refine Ar.out0 (by first | exact .inl rfl | exact .inr rfl) (Ho := [(0, some b, .cells #[.int .i64 n, .slice a1 (code ++ [(⟨6, to, to, 0, c⟩ : Sl.Instr)]).length d1, .slice wa wn wc] 139), (1, a1.map (·.block), Row 50 (code ++ [⟨6, to, to, 0, c⟩]) j1)]) rfl ⟨rfl, rfl, trivial⟩ ?_
    exact ⟨rfl, rfl, a1, d1, j1, ho1, rfl⟩
/-- what times adds -/
def timesI (to x c : Int) : List Sl.Instr := if c = 0 then [⟨4, to, x, x, 0⟩] else if c = 1 ∧ to = x then [] else if c = 1 then [⟨1, to, x, 0, 0⟩] else if c = -1 then [⟨2, to, x, 0, 0⟩] else [⟨5, to, x, 0, c⟩]
theorem c86 (G : Imm) (b : Nat) (n : Int) (ac : Option Addr) (cc : Nat) (code : List Sl.Instr) (j : List Value) (wa : Option Addr) (wn wc : Nat) (to x c : Int) (ho : OwnA ac cc code j) (hl : code.length ≤ 1048576) :
    Does Tryz.prog 86 [.pointer (some ⟨b, 0, none⟩), .int .i64 to, .int .i64 x, .int .i64 c] G [(0, some b, .cells #[.int .i64 n, .slice ac code.length cc, .slice wa wn wc] 139), (1, ac.map (·.block), Row 50 code j)]
      (fun v G' Ho => v = .tuple #[] ∧ G' = G ∧ ∃ (a' : Option Addr) (c' : Nat) (j' : List Value), OwnA a' c' (code ++ timesI to x c) j' ∧ Ho = [(0, some b, .cells #[.int .i64 n, .slice a' (code ++ timesI to x c).length c', .slice wa wn wc] 139), (1, a'.map (·.block), Row 50 (code ++ timesI to x c) j')]) := by
  refine Does.enter Tryz.func86 rfl Tryz.ntmps86 rfl (fun w => ?_)
  refine Wc.gc 8 [] ?_
  refine Wc.cond rfl (fun hc1 => ?_) (fun hc1 => ?_)
  refine Wc.gl 5 [] ?_
  refine Wl.call 0 rfl T.fn118 rfl (c118 _ b n ac cc code j wa wn wc _ _ _ _ _ ho hl) (tags_of ⟨rfl, rfl, trivial⟩) (fun v1 G1 Ho1 hle1 hp => ?_)
  obtain ⟨rfl, rfl, a1, d1, j1, ho1, rfl⟩ := hp
  refine Wl.ga 2 [] ?_
  rotate_left
  refine Wc.gl 5 [] ?_
  apply Wl.joinAnd 4 24 28 rfl
  intro hg1
  refine Wl.ll0 7 [] ?_
  exact Wl.back 4 0 rfl rfl rfl rfl rfl
  intro hg1
  refine Wl.ll0 4 [] ?_
  exact Wl.back 4 0 rfl rfl rfl rfl rfl
  refine Wl.gc 3 [] ?_
  refine Wc.cond rfl (fun hc2 => ?_) (fun hc2 => ?_)
  refine Wc.ga 2 [] ?_
  rotate_left
  refine Wc.gc 7 [] ?_
  refine Wc.cond rfl (fun hc3 => ?_) (fun hc3 => ?_)
  refine Wc.gl 4 [] ?_
  refine Wl.call 0 rfl T.fn118 rfl (c118 _ b n ac cc code j wa wn wc _ _ _ _ _ ho hl) (tags_of ⟨rfl, rfl, trivial⟩) (fun v1 G1 Ho1 hle1 hp => ?_)
  obtain ⟨rfl, rfl, a1, d1, j1, ho1, rfl⟩ := hp
  refine Wl.ga 2 [] ?_
  rotate_left
  refine Wc.gc 7 [] ?_
  refine Wc.cond rfl (fun hc4 => ?_) (fun hc4 => ?_)
  refine Wc.gl 4 [] ?_
  refine Wl.call 0 rfl T.fn118 rfl (c118 _ b n ac cc code j wa wn wc _ _ _ _ _ ho hl) (tags_of ⟨rfl, rfl, trivial⟩) (fun v1 G1 Ho1 hle1 hp => ?_)
  obtain ⟨rfl, rfl, a1, d1, j1, ho1, rfl⟩ := hp
  refine Wl.ga 2 [] ?_
  rotate_left
  refine Wc.gl 5 [] ?_
  refine Wl.call 0 rfl T.fn118 rfl (c118 _ b n ac cc code j wa wn wc _ _ _ _ _ ho hl) (tags_of ⟨rfl, rfl, trivial⟩) (fun v1 G1 Ho1 hle1 hp => ?_)
  obtain ⟨rfl, rfl, a1, d1, j1, ho1, rfl⟩ := hp
  refine Wl.ga 2 [] ?_
  rotate_left
  · have e : timesI to x c = [⟨4, to, x, x, 0⟩] := by unfold timesI; rw [if_pos hc1]
    rw [e]
    refine Ar.out0 (by first | exact .inl rfl | exact .inr rfl) (Ho := [(0, some b, .cells #[.int .i64 n, .slice a1 (code ++ [(⟨4, to, x, x, 0⟩ : Sl.Instr)]).length d1, .slice wa wn wc] 139), (1, a1.map (·.block), Row 50 (code ++ [⟨4, to, x, x, 0⟩]) j1)]) rfl ⟨rfl, rfl, trivial⟩ ?_
    exact ⟨rfl, rfl, a1, d1, j1, ho1, rfl⟩
  · have e : timesI to x c = [] := by unfold timesI; rw [if_neg hc1, if_pos hc2]
    rw [e, List.append_nil]
    refine Ar.out0 (by first | exact .inl rfl | exact .inr rfl) (Ho := [(0, some b, .cells #[.int .i64 n, .slice ac code.length cc, .slice wa wn wc] 139), (1, ac.map (·.block), Row 50 code j)]) rfl ⟨rfl, rfl, trivial⟩ ?_
    exact ⟨rfl, rfl, ac, cc, j, ho, rfl⟩
  · have e : timesI to x c = [⟨1, to, x, 0, 0⟩] := by unfold timesI; rw [if_neg hc1, if_neg hc2, if_pos hc3]
    rw [e]
    refine Ar.out0 (by first | exact .inl rfl | exact .inr rfl) (Ho := [(0, some b, .cells #[.int .i64 n, .slice a1 (code ++ [(⟨1, to, x, 0, 0⟩ : Sl.Instr)]).length d1, .slice wa wn wc] 139), (1, a1.map (·.block), Row 50 (code ++ [⟨1, to, x, 0, 0⟩]) j1)]) rfl ⟨rfl, rfl, trivial⟩ ?_
    exact ⟨rfl, rfl, a1, d1, j1, ho1, rfl⟩
  · have e : timesI to x c = [⟨2, to, x, 0, 0⟩] := by unfold timesI; rw [if_neg hc1, if_neg hc2, if_neg hc3, if_pos hc4]
    rw [e]
    refine Ar.out0 (by first | exact .inl rfl | exact .inr rfl) (Ho := [(0, some b, .cells #[.int .i64 n, .slice a1 (code ++ [(⟨2, to, x, 0, 0⟩ : Sl.Instr)]).length d1, .slice wa wn wc] 139), (1, a1.map (·.block), Row 50 (code ++ [⟨2, to, x, 0, 0⟩]) j1)]) rfl ⟨rfl, rfl, trivial⟩ ?_
    exact ⟨rfl, rfl, a1, d1, j1, ho1, rfl⟩
  · have e : timesI to x c = [⟨5, to, x, 0, c⟩] := by unfold timesI; rw [if_neg hc1, if_neg hc2, if_neg hc3, if_neg hc4]
    rw [e]
    refine Ar.out0 (by first | exact .inl rfl | exact .inr rfl) (Ho := [(0, some b, .cells #[.int .i64 n, .slice a1 (code ++ [(⟨5, to, x, 0, c⟩ : Sl.Instr)]).length d1, .slice wa wn wc] 139), (1, a1.map (·.block), Row 50 (code ++ [⟨5, to, x, 0, c⟩]) j1)]) rfl ⟨rfl, rfl, trivial⟩ ?_
    exact ⟨rfl, rfl, a1, d1, j1, ho1, rfl⟩
end Go.Proofs.YtelbhbbiejalhaaGreat
set_option maxRecDepth 100000
set_option linter.unusedVariables false
namespace Go.Proofs.YtelbhbbiejalhaaGreat
open Go Go.Sl
set_option maxHeartbeats 4000000
theorem c87 (G : Imm) (b : Nat) (n m : Int) (sv wv : Value) (hn : 0 ≤ n ∧ n ≤ 1000) (hm : 0 ≤ m ∧ m ≤ 1000) :
    Does Tryz.prog 87 [.pointer (some ⟨b, 0, none⟩), .int .i64 m] G [(0, some b, .cells #[.int .i64 n, sv, wv] 139)] (fun v G' Ho => v = .int .i64 (n + m) ∧ G' = G ∧ Ho = [(0, some b, .cells #[.int .i64 n, sv, wv] 139)]) := by
  refine Does.enter Tryz.func87 rfl Tryz.ntmps87 rfl (fun w => ?_)
  refine Wc.ga 17 [0] ?_
  refine Ar.out1 (.inr rfl) (Ho := [(0, some b, .cells #[.int .i64 n, sv, wv] 139)]) rfl (.tmp rfl) ⟨rfl, trivial⟩ ?_
  exact ⟨rfl, rfl, rfl⟩
theorem c123 (G : Imm) (b : Nat) (n m : Int) (sv wv : Value) (hn : 0 ≤ n ∧ n ≤ 1000) (hm : 0 ≤ m ∧ m ≤ 1000) :
    Does Tryz.prog 123 [.pointer (some ⟨b, 0, none⟩), .int .i64 m] G [(0, some b, .cells #[.int .i64 n, sv, wv] 139)] (fun v G' Ho => v = .int .i64 (2 * n + m) ∧ G' = G ∧ Ho = [(0, some b, .cells #[.int .i64 n, sv, wv] 139)]) := by
  refine Does.enter Tryz.func123 rfl Tryz.ntmps123 rfl (fun w => ?_)
  refine Wc.gl 11 [0] ?_
  refine Wl.q rfl (Qy.mul rfl rfl (by omega)) ?_
  refine Wl.ga 6 [] ?_
  refine Ar.out1 (.inr rfl) (Ho := [(0, some b, .cells #[.int .i64 n, sv, wv] 139)]) rfl (.tmp rfl) ⟨rfl, trivial⟩ ?_
  exact ⟨rfl, rfl, rfl⟩
theorem c121 (G : Imm) (b : Nat) (n : Int) (sv wv : Value) (hn : 0 ≤ n ∧ n ≤ 1000) :
    Does Tryz.prog 121 [.pointer (some ⟨b, 0, none⟩)] G [(0, some b, .cells #[.int .i64 n, sv, wv] 139)] (fun v G' Ho => v = .int .i64 (3 * n) ∧ G' = G ∧ Ho = [(0, some b, .cells #[.int .i64 n, sv, wv] 139)]) := by
  refine Does.enter Tryz.func121 rfl Tryz.ntmps121 rfl (fun w => ?_)
  refine Wc.gl 11 [0] ?_
  refine Wl.q rfl (Qy.mul rfl rfl (by omega)) ?_
  refine Wl.ga 4 [] ?_
  refine Ar.out1 (.inr rfl) (Ho := [(0, some b, .cells #[.int .i64 n, sv, wv] 139)]) rfl (.tmp rfl) ⟨rfl, trivial⟩ ?_
  exact ⟨rfl, rfl, rfl⟩
end Go.Proofs.YtelbhbbiejalhaaGreat
set_option linter.unusedVariables false
namespace Go.Proofs.YtelbhbbiejalhaaGreat
open Go Go.Sl
def ev : List Int → Int → Int → Int
  | [], _, _ => 0
  | c :: f, a, b => c * b ^ f.length + a * ev f a b
end Go.Proofs.YtelbhbbiejalhaaGreat
set_option maxRecDepth 100000
set_option linter.unusedVariables false
namespace Go.Proofs.YtelbhbbiejalhaaGreat
open Go Go.Sl
/-- does s do? -/
def hitB (a b s : Int) : Bool := ((Int.gcd a b : Int) - s * a).tmod b == 0
/-- the first u of those from k on, at most n more, that does, with either sign -/
def bezF (a b : Int) : Nat → Nat → Nat
  | 0, k => k
  | n + 1, k => if hitB a b (k : Int) || hitB a b (-(k : Int)) then k else bezF a b n (k + 1)
def bezK (a b : Int) : Nat := bezF a b 16 0
def bezS (a b : Int) : Int := if b = 0 then a.tdiv (Int.gcd a b) else if hitB a b (bezK a b : Int) then (bezK a b : Int) else -(bezK a b : Int)
def bezT (a b : Int) : Int := if b = 0 then 0 else ((Int.gcd a b : Int) - bezS a b * a).tdiv b
def bezOk (a b : Int) : Bool := (a == 0 && b == 0) || (bezS a b * a + bezT a b * b == (Int.gcd a b : Int) && decide ((bezS a b).natAbs + (bezT a b).natAbs ≤ 17) && decide (bezK a b ≤ 15) && (b == 0 || hitB a b (bezK a b : Int) || hitB a b (-(bezK a b : Int))))
theorem bez_all : ((List.range 33).all fun i => (List.range 33).all fun j => bezOk ((i : Int) - 16) ((j : Int) - 16)) = true := by decide +kernel
theorem bez_ok {a b : Int} (h : near a b) : bezOk a b = true := by
  have h1 := List.all_eq_true.mp bez_all (a + 16).toNat (List.mem_range.mpr (by unfold near at h; omega))
  have h2 := List.all_eq_true.mp h1 (b + 16).toNat (List.mem_range.mpr (by unfold near at h; omega))
  rw [show (((a + 16).toNat : Nat) : Int) - 16 = a by unfold near at h; omega, show (((b + 16).toNat : Nat) : Int) - 16 = b by unfold near at h; omega] at h2
  exact h2
theorem bez_facts {a b : Int} (h : near a b) (h0 : ¬ (a = 0 ∧ b = 0)) : bezS a b * a + bezT a b * b = Int.gcd a b ∧ (bezS a b).natAbs + (bezT a b).natAbs ≤ 17 ∧ bezK a b ≤ 15 ∧ (b = 0 ∨ hitB a b (bezK a b : Int) = true ∨ hitB a b (-(bezK a b : Int)) = true) := by
  have h1 := bez_ok h
  unfold bezOk at h1
  simp only [Bool.or_eq_true, Bool.and_eq_true, beq_iff_eq, decide_eq_true_eq] at h1
  rcases h1 with h1 | ⟨⟨⟨e1, e2⟩, e3⟩, e4⟩
  · exact absurd h1 h0
  · exact ⟨e1, e2, e3, e4.elim (fun h => h.elim .inl (fun h => .inr (.inl h))) (fun h => .inr (.inr h))⟩
end Go.Proofs.YtelbhbbiejalhaaGreat
set_option linter.unusedVariables false
namespace Go.Proofs.YtelbhbbiejalhaaGreat
open Go Go.Sl
def upd (σ : Int → Int) (r v : Int) : Int → Int := fun x => if x = r then v else σ x
def powL (to c : Int) : Int → Int → Nat → List Sl.Instr
  | fr, k, 0 => timesI to fr k
  | fr, k, e + 1 => if 512 < k * c ∨ k * c < -512 then timesI to fr k ++ powL to c to c e else powL to c fr (k * c) e
def powI (to a c : Int) (e : Nat) : List Sl.Instr :=
  if (c = 0 ∧ 0 < e) ∨ c = 1 ∨ c = -1 then timesI to a (if c = -1 ∧ e % 2 = 0 then 1 else c) else powL to c a 1 e
def ptW (wh : List R2) (k : Int) : R2 := wh[k.toNat]?.getD default
/-- what the linear form of the point k is worth at the point i -/
def linC (wh : List R2) (k i : Int) : Int := bezS (ptW wh k).a (ptW wh k).b * (ptW wh i).a + bezT (ptW wh k).a (ptW wh k).b * (ptW wh i).b
def detC (wh : List R2) (k i : Int) : Int := (ptW wh k).a * (ptW wh i).b - (ptW wh i).a * (ptW wh k).b
def awayOne (n : Int) (wh : List R2) (k : Int) (e : Nat) (i : Int) : List Sl.Instr :=
  (if linC wh k i ≠ 0 ∨ e = 0 then powI (3 * n) k (linC wh k i) e ++ [⟨4, i, i, 3 * n, 0⟩] else []) ++ (if detC wh k i = 1 then [] else overI i (detC wh k i))
def awayI (n : Int) (wh : List R2) (k : Int) (e : Nat) : List Int → List Sl.Instr
  | [] => []
  | i :: left => awayOne n wh k e i ++ awayI n wh k e left
def rStep (n u v : Int) (th : List Bool) (j : Nat) : List Bool × List Sl.Instr :=
  let low := decide (0 < j) && th[j - 1]?.getD false && decide (u ≠ 0)
  let own := th[j]?.getD false && decide (v ≠ 0)
  (th.set j (own || low),
   (if low then timesI (3 * n) (2 * n + (j - 1)) u else []) ++
   (if own && low then timesI (2 * n + j) (2 * n + j) v ++ [⟨3, 2 * n + j, 2 * n + j, 3 * n, 0⟩] else if own then timesI (2 * n + j) (2 * n + j) v else if low then timesI (2 * n + j) (3 * n) 1 else []))
/-- the places m - 1 down to 0 -/
def rIn (n u v : Int) : Nat → List Bool → List Bool × List Sl.Instr
  | 0, th => (th, [])
  | m + 1, th => ((rIn n u v m (rStep n u v th m).1).1, (rStep n u v th m).2 ++ (rIn n u v m (rStep n u v th m).1).2)
/-- m times, from the power d on -/
def rOut (n u v : Int) : Nat → Nat → List Bool → List Bool × List Sl.Instr
  | 0, _, th => (th, [])
  | m + 1, d, th => ((rOut n u v m (d + 1) (rIn n u v (d + 1) th).1).1, (rIn n u v (d + 1) th).2 ++ (rOut n u v m (d + 1) (rIn n u v (d + 1) th).1).2)
def raisedT (n u v : Int) (e : Nat) : List Bool := (rOut n u v e 1 ((List.replicate (e + 1) false).set 0 true)).1
def raisedI (n u v k : Int) (e : Nat) : List Sl.Instr := timesI (2 * n) k 1 ++ (rOut n u v e 1 ((List.replicate (e + 1) false).set 0 true)).2
theorem rStep_len (n u v : Int) (th : List Bool) (j : Nat) : (rStep n u v th j).1.length = th.length := List.length_set
/-- a form's coefficient -/
def co (f : List Int) (j : Nat) : Int := f[j]?.getD 0
theorem raised_len (n u v : Int) : ∀ (m : Nat) (th : List Bool), (rIn n u v m th).1.length = th.length
  | 0, _ => rfl
  | m + 1, th => by show (rIn n u v m _).1.length = _; rw [raised_len, rStep_len]
theorem rOut_len (n u v : Int) : ∀ (m d : Nat) (th : List Bool), (rOut n u v m d th).1.length = th.length
  | 0, _, _ => rfl
  | m + 1, d, th => by show (rOut n u v m _ _).1.length = _; rw [rOut_len, raised_len]
theorem raisedT_len (n u v : Int) (e : Nat) : (raisedT n u v e).length = e + 1 := by unfold raisedT; rw [rOut_len, List.length_set, List.length_replicate]
def bkIn (n : Int) (p : R2) : Nat → List Sl.Instr
  | 0 => []
  | j + 1 => (if 0 < j then timesI (3 * n) (n + ((j : Int) - 1)) p.b else []) ++ (timesI (n + j) (n + j) p.a ++ ((if 0 < j then [⟨4, n + j, n + j, 3 * n, 0⟩] else []) ++ bkIn n p j))
def backA (n : Int) (p : R2) (e : Nat) : List Sl.Instr := timesI (n + e) (n + ((e : Int) - 1)) (-p.b) ++ bkIn n p e
def addAll (n : Int) : List Bool → Nat → List Sl.Instr
  | [], _ => []
  | t :: ts, j => (if t then [⟨3, n + j, n + j, 2 * n + j, 0⟩] else []) ++ addAll n ts (j + 1)
def backI (n : Int) (wh : List R2) (k : Int) (e : Nat) : List Sl.Instr :=
  backA n (ptW wh k) e ++ (raisedI n (bezS (ptW wh k).a (ptW wh k).b) (bezT (ptW wh k).a (ptW wh k).b) k e ++ addAll n (raisedT n (bezS (ptW wh k).a (ptW wh k).b) (bezT (ptW wh k).a (ptW wh k).b) e) 0)
def awayAll (n : Int) (wh : List R2) : List Int → List Sl.Instr
  | [] => []
  | k :: left => awayI n wh k left.length left ++ awayAll n wh left
def backAll (n : Int) (wh : List R2) : List Int → List Sl.Instr
  | [] => []
  | [k] => timesI n k 1
  | k :: i :: left => backAll n wh (i :: left) ++ backI n wh k (i :: left).length
end Go.Proofs.YtelbhbbiejalhaaGreat
set_option maxRecDepth 100000
set_option linter.unusedVariables false
namespace Go.Proofs.YtelbhbbiejalhaaGreat
open Go Go.Sl
set_option maxHeartbeats 4000000
theorem c120 (G : Imm) (b : Nat) (n : Int) (ac : Option Addr) (cc : Nat) (code : List Sl.Instr) (j : List Value) (wa : Option Addr) (wn wc : Nat) (to x c : Int) (e : Nat) (ho : OwnA ac cc code j) (hl : (code ++ powI to x c e).length ≤ 1048576) (hc : -512 ≤ c ∧ c ≤ 512) (he : e ≤ 1000) :
    Does Tryz.prog 120 [.pointer (some ⟨b, 0, none⟩), .int .i64 to, .int .i64 x, .int .i64 c, .int .i64 e] G [(0, some b, .cells #[.int .i64 n, .slice ac code.length cc, .slice wa wn wc] 139), (1, ac.map (·.block), Row 50 code j)]
      (fun v G' Ho => v = .tuple #[] ∧ G' = G ∧ ∃ (a' : Option Addr) (c' : Nat) (j' : List Value), OwnA a' c' (code ++ powI to x c e) j' ∧ Ho = [(0, some b, .cells #[.int .i64 n, .slice a' (code ++ powI to x c e).length c', .slice wa wn wc] 139), (1, a'.map (·.block), Row 50 (code ++ powI to x c e) j')]) := by
  have hl0 : code.length ≤ 1048576 := by rw [List.length_append] at hl; omega
  refine Does.enter Tryz.func120 rfl Tryz.ntmps120 rfl (fun w => ?_)
  refine Wc.gl 6 [] ?_
  apply Wl.joinAnd 3 14 17 rfl
  intro hg1
  refine Wl.ll0 5 [] ?_
  exact Wl.back 3 0 rfl rfl rfl rfl rfl
  intro hg1
  refine Wl.ll0 3 [] ?_
  exact Wl.back 3 0 rfl rfl rfl rfl rfl
  refine Wl.q rfl (Qy.move rfl) ?_
  apply Wl.joinOr 3 18 21 rfl
  intro hg1
  refine Wl.ll0 5 [] ?_
  exact Wl.back 3 0 rfl rfl rfl rfl rfl
  intro hg1
  refine Wl.ll0 3 [] ?_
  exact Wl.back 3 0 rfl rfl rfl rfl rfl
  refine Wl.q rfl (Qy.move rfl) ?_
  apply Wl.joinOr 3 22 25 rfl
  intro hg1
  refine Wl.ll0 5 [] ?_
  exact Wl.back 3 0 rfl rfl rfl rfl rfl
  intro hg1
  refine Wl.ll0 3 [] ?_
  exact Wl.back 3 0 rfl rfl rfl rfl rfl
  refine Wl.gc 2 [] ?_
  refine Wc.cond rfl (fun hc1 => ?_) (fun hc1 => ?_)
  refine Wc.gl 6 [] ?_
  apply Wl.joinAnd 4 28 32 rfl
  intro hg1
  refine Wl.ll0 3 [] ?_
  refine Wl.q rfl (Qy.urem rfl rfl (by omega)) ?_
  refine Wl.ll0 3 [] ?_
  exact Wl.back 4 0 rfl rfl rfl rfl rfl
  intro hg1
  refine Wl.ll0 4 [] ?_
  exact Wl.back 4 0 rfl rfl rfl rfl rfl
  refine Wl.gc 2 [] ?_
  refine Wc.cond rfl (fun hc2 => ?_) (fun hc2 => ?_)
  refine Wc.gl 10 [] ?_
  refine Wl.call 0 rfl T.fn86 rfl (c86 _ b n ac cc code j wa wn wc _ _ _ ho hl0) (tags_of ⟨rfl, rfl, trivial⟩) (fun v1 G1 Ho1 hle1 hp => ?_)
  obtain ⟨rfl, rfl, a1, d1, j1, ho1, rfl⟩ := hp
  refine Wl.ga 4 [] ?_
  rotate_left
  refine Wc.gl 8 [] ?_
  refine Wl.call 0 rfl T.fn86 rfl (c86 _ b n ac cc code j wa wn wc _ _ _ ho hl0) (tags_of ⟨rfl, rfl, trivial⟩) (fun v1 G1 Ho1 hle1 hp => ?_)
  obtain ⟨rfl, rfl, a1, d1, j1, ho1, rfl⟩ := hp
  refine Wl.ga 4 [] ?_
  rotate_left
  refine Wc.gc 17 [] ?_
  rotate_left
  · have e1 : powI to x c e = timesI to x 1 := by unfold powI; rw [if_pos (by omega), if_pos (by omega)]
    rw [e1]
    refine Ar.out0 (by first | exact .inl rfl | exact .inr rfl) (Ho := [(0, some b, .cells #[.int .i64 n, .slice a1 (code ++ timesI to x 1).length d1, .slice wa wn wc] 139), (1, a1.map (·.block), Row 50 (code ++ timesI to x 1) j1)]) rfl ⟨rfl, rfl, trivial⟩ ?_
    exact ⟨rfl, rfl, a1, d1, j1, ho1, rfl⟩
  · have e1 : powI to x c e = timesI to x c := by unfold powI; rw [if_pos (by omega), if_neg (by omega)]
    rw [e1]
    refine Ar.out0 (by first | exact .inl rfl | exact .inr rfl) (Ho := [(0, some b, .cells #[.int .i64 n, .slice a1 (code ++ timesI to x c).length d1, .slice wa wn wc] 139), (1, a1.map (·.block), Row 50 (code ++ timesI to x c) j1)]) rfl ⟨rfl, rfl, trivial⟩ ?_
    exact ⟨rfl, rfl, a1, d1, j1, ho1, rfl⟩
  · have hT0 : code ++ powL to c x 1 e = code ++ powI to x c e := by unfold powI; rw [if_neg (by omega)]
    generalize code ++ powI to x c e = Tg at *
    refine Wc.loop (ι := Nat × Int × Int × List Sl.Instr × (Option Addr × Nat × List Value)) (fun (t, fr, k, cd, (o, d, q)) => ([(40, .int .i64 (t : Int)), (11, .int .i64 k), (10, .int .i64 fr), (39, Go.Value.int Go.IntKind.i64 (↑e : Int)), (0, Go.Value.pointer (Option.some (Go.Addr.mk b 0 Option.none))), (1, Go.Value.int Go.IntKind.i64 to), (3, Go.Value.int Go.IntKind.i64 c)], [(0, some b, .cells #[.int .i64 n, .slice o cd.length d, .slice wa wn wc] 139), (1, o.map (·.block), Row 50 cd q)])) (fun (t, fr, k, cd, (o, d, q)) => t ≤ e ∧ (-512 ≤ k ∧ k ≤ 512) ∧ cd ++ powL to c fr k (e - t) = Tg ∧ OwnA o d cd q) (fun (t, fr, k, cd, (o, d, q)) => e - t) ((0, x, 1, code, (ac, cc, j))) (⟨Nat.zero_le _, by omega, hT0, ho⟩) ⟨rfl, rfl, rfl, rfl, rfl, rfl, rfl, trivial⟩ ⟨rfl, rfl, trivial⟩ (fun ⟨t, fr, k, cd, (o, d, q)⟩ => fun (hk : t ≤ e ∧ (-512 ≤ k ∧ k ≤ 512) ∧ cd ++ powL to c fr k (e - t) = Tg ∧ OwnA o d cd q) => ?_)
    obtain ⟨ht1, ht2, ht3, ht4⟩ := hk
    have htl : cd.length ≤ 1048576 := by rw [← ht3, List.length_append] at hl; omega
    have hkc : (k * c).natAbs ≤ 512 * 512 := by rw [Int.natAbs_mul]; exact Nat.mul_le_mul (by omega) (by omega)
    have hkc2 : -9223372036854775808 ≤ k * c ∧ k * c ≤ 9223372036854775807 := by omega
    have hkc3 : -9223372036854775808 ≤ 1 * c ∧ 1 * c ≤ 9223372036854775807 := by omega
    rcases Nat.lt_or_ge t e with hte | hte
    · have e2 : e - t = (e - (t + 1)) + 1 := by omega
      rw [e2] at ht3
      unfold powL at ht3
      refine Wc.gl 16 [1] ?_
      refine Wl.q rfl (Qy.mul rfl rfl (by omega)) ?_
      refine Wl.ll0 2 [] ?_
      apply Wl.joinOr 5 46 51 rfl
      intro hg1
      refine Wl.ll0 5 [] ?_
      refine Wl.q rfl (Qy.mul rfl rfl (by omega)) ?_
      refine Wl.ll0 3 [] ?_
      exact Wl.back 5 0 rfl rfl rfl rfl rfl
      intro hg1
      refine Wl.ll0 5 [] ?_
      exact Wl.back 5 0 rfl rfl rfl rfl rfl
      refine Wl.gc 2 [] ?_
      refine Wc.cond rfl (fun hc2 => ?_) (fun hc2 => ?_)
      refine Wc.gl 6 [] ?_
      refine Wl.call 0 rfl T.fn86 rfl (c86 _ b n o d cd q wa wn wc _ _ _ ht4 htl) (tags_of ⟨rfl, rfl, trivial⟩) (fun v1 G1 Ho1 hle1 hp => ?_)
      obtain ⟨rfl, rfl, a1, d1, j1, ho1, rfl⟩ := hp
      refine Wl.gl 11 [] ?_
      refine Wl.q rfl (Qy.mul rfl rfl (by omega)) ?_
      refine Wl.ga 8 [] ?_
      rotate_left
      refine Wc.gl 5 [] ?_
      refine Wl.q rfl (Qy.mul rfl rfl (by omega)) ?_
      refine Wl.ga 8 [] ?_
      rotate_left
      · refine Ar.re 40 rfl (show _ = Value.int .i64 ((t + 1 : Nat) : Int) from rfl) ?_
        refine Ar.re 11 rfl (show _ = Value.int .i64 c by rw [Int.one_mul]) ?_
        refine Ar.again ((t + 1, to, c, cd ++ timesI to fr k, (a1, d1, j1))) ?_ ?_ rfl ⟨rfl, rfl, rfl, rfl, rfl, rfl, rfl, trivial⟩ ⟨rfl, rfl, trivial⟩
        · rw [if_pos hc2, ← List.append_assoc] at ht3
          exact ⟨hte, hc, ht3, ho1⟩
        · show e - (t + 1) < e - t
          omega
      · refine Ar.re 40 rfl (show _ = Value.int .i64 ((t + 1 : Nat) : Int) from rfl) ?_
        refine Ar.again ((t + 1, fr, k * c, cd, (o, d, q))) ?_ ?_ rfl ⟨rfl, rfl, rfl, rfl, rfl, rfl, rfl, trivial⟩ ⟨rfl, rfl, trivial⟩
        · rw [if_neg hc2] at ht3
          exact ⟨hte, by omega, ht3, ht4⟩
        · show e - (t + 1) < e - t
          omega
    · have hte : t = e := by omega
      subst hte
      rw [Nat.sub_self] at ht3
      have ht3 : cd ++ timesI to fr k = Tg := ht3
      subst ht3
      refine Wc.gl 17 [0] ?_
      refine Wl.call 0 rfl T.fn86 rfl (c86 _ b n o d cd q wa wn wc _ _ _ ht4 htl) (tags_of ⟨rfl, rfl, trivial⟩) (fun v1 G1 Ho1 hle1 hp => ?_)
      obtain ⟨rfl, rfl, a1, d1, j1, ho1, rfl⟩ := hp
      refine Wl.done ?_
      refine Ar.out0 (by first | exact .inl rfl | exact .inr rfl) (Ho := [(0, some b, .cells #[.int .i64 n, .slice a1 (cd ++ timesI to fr k).length d1, .slice wa wn wc] 139), (1, a1.map (·.block), Row 50 (cd ++ timesI to fr k) j1)]) rfl ⟨rfl, rfl, trivial⟩ ?_
      exact ⟨rfl, rfl, a1, d1, j1, ho1, rfl⟩
end Go.Proofs.YtelbhbbiejalhaaGreat
set_option maxRecDepth 100000
set_option linter.unusedVariables false
namespace Go.Proofs.YtelbhbbiejalhaaGreat
open Go Go.Sl
section
variable {P : Program} {e : Env} {H : Hp} {G : Imm}
theorem Qy.indexLit {ty : TypeId} {T et : TypeId} {len i : Nat} {x y : Operand} {cs : List Value} {v : Value} (hT : P.underlying T = some (.array len et)) (h1 : P.plainKey et = true) (hs : (P.info? et).map (·.size) = some 1)
    (hx : e.ev x = some (.agg cs.toArray)) (hy : e.ev y = some (.int .i64 (i : Int))) (hi : i < len) (hv : cs[i]? = some v) : Qy P (.index T x y) ty e H G v := fun a w _ _ _ _ hh => by
  have hp : (part et cs.toArray i).run P w = .ok v w := by
    unfold Program.plainKey at h1
    cases hu : P.underlying et with
    | none => simp [hu] at h1
    | some d => cases d <;> simp [hu] at h1 <;> simp [part, isAgg, run_underlying hu, hv, Result.andThen]
  have hsz := Go.Sl.run_sizeOf (P := P) w hs
  have h2 : (0 : Int) ≤ (i : Int) ∧ (i : Int) < (len : Int) := by omega
  simp only [execOp, hh.eval hx, hh.eval hy, Instr.index, asIntOf, Sem.run_bind, Sem.run_pure, Result.andThen_ok, run_underlying hT]
  rw [if_pos h2]
  simp only [Sem.run_bind, hsz, Result.andThen_ok, Int.toNat_natCast, Nat.mul_one, hp, Sem.run_pure]
end
theorem und201 : Tryz.prog.underlying 166 = some (.array 2 3) := by kernel_rfl
theorem pkey3 : Tryz.prog.plainKey 3 = true := by kernel_rfl
theorem siz3 : (Tryz.prog.info? 3).map (·.size) = some 1 := by kernel_rfl
theorem bez_first (a b : Int) : ∀ (n k j : Nat), k ≤ j → j < bezF a b n k → hitB a b (j : Int) = false ∧ hitB a b (-(j : Int)) = false
  | 0, k, j, h1, h2 => by unfold bezF at h2; omega
  | n + 1, k, j, h1, h2 => by
    unfold bezF at h2
    split at h2
    · omega
    · rename_i hh
      by_cases hjk : j = k
      · subst hjk
        cases h3 : hitB a b (j : Int) <;> cases h4 : hitB a b (-(j : Int)) <;> simp [h3, h4] at hh ⊢
      · exact bez_first a b n (k + 1) j (by omega) h2
set_option maxHeartbeats 4000000
theorem c83 (G : Imm) (x y : Int) (hn : near x y) (h0 : ¬ (x = 0 ∧ y = 0)) :
    Does Tryz.prog 83 [.agg #[.int .i64 x, .int .i64 y]] G [] (fun v G' Ho => v = .tuple #[.int .i64 (Int.gcd x y), .int .i64 (bezS x y), .int .i64 (bezT x y), .int .i64 0] ∧ G' = G ∧ Ho = []) := by
  have hn2 := hn
  unfold near at hn2
  refine Does.enter Tryz.func83 rfl Tryz.ntmps83 rfl (fun w => ?_)
  obtain ⟨hb1, hb2, hb3, hb4⟩ := bez_facts hn h0
  have q1 := tdiv_rng x (Int.gcd x y)
  have hg0 : 0 < Int.gcd x y := Nat.pos_of_ne_zero fun h1 => h0 (Int.gcd_eq_zero_iff.mp h1)
  have hg16 : Int.gcd x y ≤ 16 := by
    by_cases ha : x = 0
    · have := Nat.le_of_dvd (by omega) (show Int.gcd x y ∣ y.natAbs from Nat.gcd_dvd_right _ _)
      omega
    · have := Nat.le_of_dvd (by omega) (show Int.gcd x y ∣ x.natAbs from Nat.gcd_dvd_left _ _)
      omega
  refine Wc.gl 2 [] ?_
  refine Wl.box 0 rfl rfl rfl (fun b1 => ?_)
  refine Wl.gl 12 [0, 0] ?_
  refine Wl.call0 rfl T.fn117 rfl (c117 _ _ _ (by omega) (by omega)) ?_
  refine Wl.gl 8 [0] ?_
  refine Wl.call0 rfl T.fn47 rfl (c47 _ _ _) ?_
  refine Wl.q rfl (Qy.notD rfl) ?_
  refine Wl.gc 3 [] ?_
  refine Wc.cond rfl (fun hc1 => ?_) (fun hc1 => ?_)
  refine Wc.ga 11 [] ?_
  refine Ar.out4 (.inr rfl) (Ho := Hp.only _ []) rfl (.tmp rfl) (.tmp rfl) (.tmp rfl) (.tmp rfl) (Hp.sub_only _ _) ?_
  rotate_left
  refine Wc.gc 16 [0, 0] ?_
  refine Wc.cond rfl (fun hc2 => ?_) (fun hc2 => ?_)
  refine Wc.seq ?_
  refine Wc.draw [0] [] T.mixed rfl ?_
  refine Gm.q 0 [] (by kernel_rfl) rfl rfl (Qy.move rfl) ?_
  refine Gm.q 1 [] (by kernel_rfl) rfl rfl (Qy.fieldAddr T.fa34_0 rfl) ?_
  refine Gm.q 2 [0] (by kernel_rfl) rfl rfl (Qy.load 0 T.one3 rfl rfl rfl) ?_
  refine Gm.q 3 [] (by kernel_rfl) rfl rfl (Qy.move rfl) ?_
  refine Gm.q 4 [] (by kernel_rfl) rfl rfl (Qy.quo rfl rfl (by omega) (by omega)) ?_
  refine Gm.q 5 [] (by kernel_rfl) rfl rfl (Qy.assign rfl) ?_
  refine Gm.q 6 [] (by kernel_rfl) rfl rfl (Qy.assign rfl) ?_
  refine Gm.q 7 [] (by kernel_rfl) rfl rfl (Qy.assign rfl) ?_
  refine Gm.q 8 [] (by kernel_rfl) rfl rfl (Qy.assign rfl) ?_
  refine Gm.doneA (by kernel_rfl) ⟨rfl, trivial⟩ (by first | exact Imm.le_refl _ | repeat (first | assumption | refine Imm.le_trans ?_ (by assumption))) ?_
  refine Ar.ga 4 [] ?_
  refine Ar.out4 (.inr rfl) (Ho := Hp.only _ []) rfl (.tmp rfl) (.tmp rfl) (.tmp rfl) (.tmp rfl) (Hp.sub_only _ _) ?_
  rotate_left
  refine Wc.gc 9 [] ?_
  rotate_left
  · exact absurd hn hc1
  · refine ⟨?_, rfl, rfl⟩
    unfold bezS bezT
    rw [if_pos hc2, if_pos hc2]
  · refine Wc.loop (ι := Nat) (fun k => ([(7, .int .i64 (k : Int)), (6, Go.Value.int Go.IntKind.i64 (↑(Int.gcd x y) : Int)), (1, Go.Value.pointer (Option.some (Go.Addr.mk b1 0 Option.none)))], [(0, Option.some b1, Go.Obj.cells #[Go.Value.int Go.IntKind.i64 x, Go.Value.int Go.IntKind.i64 y] 34)])) (fun k => k ≤ bezK x y) (fun k => bezK x y + 1 - k) (0) (Nat.zero_le _) ⟨rfl, rfl, rfl, trivial⟩ ⟨rfl, trivial⟩ (fun k => fun (hk : k ≤ bezK x y) => ?_)
    have hm1 : ((k : Int) * x).natAbs ≤ 15 * 16 := by rw [Int.natAbs_mul]; exact Nat.mul_le_mul (by omega) (by omega)
    have hm2 : (-(k : Int) * x).natAbs ≤ 15 * 16 := by rw [Int.natAbs_mul]; exact Nat.mul_le_mul (by omega) (by omega)
    have hm3 : -9223372036854775808 ≤ (k : Int) * x ∧ (k : Int) * x ≤ 9223372036854775807 := by omega
    have hm4 : -9223372036854775808 ≤ -(k : Int) * x ∧ -(k : Int) * x ≤ 9223372036854775807 := by omega
    refine Wc.gl 6 [] ?_
    refine Wl.q rfl (Qy.neg rfl (by omega)) ?_
    refine Wl.q rfl (Qy.buildA (cs := [_, _]) T.ar166 rfl rfl rfl) ?_
    refine Wl.gc 4 [] ?_
    refine Wc.loop (ι := Nat) (fun i => ([(37, .int .i64 (i : Int)), (7, .int .i64 (k : Int)), (36, Go.Value.agg #[Go.Value.int Go.IntKind.i64 (↑k : Int), Go.Value.int Go.IntKind.i64 (-(↑k : Int))]), (6, Go.Value.int Go.IntKind.i64 (↑(Int.gcd x y) : Int)), (1, Go.Value.pointer (Option.some (Go.Addr.mk b1 0 Option.none)))], [(0, Option.some b1, Go.Obj.cells #[Go.Value.int Go.IntKind.i64 x, Go.Value.int Go.IntKind.i64 y] 34)])) (fun i => i ≤ 2 ∧ (1 ≤ i → hitB x y (k : Int) = false) ∧ (2 ≤ i → hitB x y (-(k : Int)) = false)) (fun i => 2 - i) (0) (⟨Nat.zero_le _, fun h => absurd h (by omega), fun h => absurd h (by omega)⟩) ⟨rfl, rfl, rfl, rfl, rfl, trivial⟩ ⟨rfl, trivial⟩ (fun i => fun (hk : i ≤ 2 ∧ (1 ≤ i → hitB x y (k : Int) = false) ∧ (2 ≤ i → hitB x y (-(k : Int)) = false)) => ?_)
    obtain ⟨hi1, hi2, hi3⟩ := hk
    have hcase : i = 0 ∨ i = 1 ∨ i = 2 := by omega
    have q2 := tdiv_rng ((Int.gcd x y : Int) - (k : Int) * x) y
    have q3 := tdiv_rng ((Int.gcd x y : Int) - -(k : Int) * x) y
    have hit : ∀ s : Int, hitB x y s = true ↔ ((Int.gcd x y : Int) - s * x).tmod y = 0 := fun s => by unfold hitB; rw [beq_iff_eq]
    rcases hcase with hi | hi | hi
    · subst hi
      refine Wc.gl 13 [1] ?_
      refine Wl.q rfl (Qy.indexLit (i := 0) (cs := [.int .i64 (k : Int), .int .i64 (-(k : Int))]) und201 pkey3 siz3 rfl rfl (by decide) rfl) ?_
      refine Wl.gl 9 [0] ?_
      refine Wl.q rfl (Qy.mul rfl rfl (by omega)) ?_
      refine Wl.ll0 3 [0] ?_
      refine Wl.q rfl (Qy.rem rfl rfl (by omega)) ?_
      refine Wl.gc 3 [] ?_
      refine Wc.cond rfl (fun hc3 => ?_) (fun hc3 => ?_)
      refine Wc.seq ?_
      refine Wc.draw [0] [] T.mixed rfl ?_
      refine Gm.q 0 [] (by kernel_rfl) rfl rfl (Qy.move rfl) ?_
      refine Gm.q 1 [] (by kernel_rfl) rfl rfl (Qy.move rfl) ?_
      refine Gm.q 2 [] (by kernel_rfl) rfl rfl (Qy.move rfl) ?_
      refine Gm.q 3 [] (by kernel_rfl) rfl rfl (Qy.move rfl) ?_
      refine Gm.q 4 [] (by kernel_rfl) rfl rfl (Qy.fieldAddr T.fa34_0 rfl) ?_
      refine Gm.q 5 [0] (by kernel_rfl) rfl rfl (Qy.load 0 T.one3 rfl rfl rfl) ?_
      refine Gm.q 6 [] (by kernel_rfl) rfl rfl (Qy.mul rfl rfl (by omega)) ?_
      refine Gm.q 7 [] (by kernel_rfl) rfl rfl (Qy.sub rfl rfl (by omega)) ?_
      refine Gm.q 8 [] (by kernel_rfl) rfl rfl (Qy.fieldAddr T.fa34_1 rfl) ?_
      refine Gm.q 9 [0] (by kernel_rfl) rfl rfl (Qy.load 0 T.one3 rfl rfl rfl) ?_
      refine Gm.q 10 [] (by kernel_rfl) rfl rfl (Qy.quo rfl rfl (by omega) (by omega)) ?_
      refine Gm.q 11 [] (by kernel_rfl) rfl rfl (Qy.assign rfl) ?_
      refine Gm.q 12 [] (by kernel_rfl) rfl rfl (Qy.assign rfl) ?_
      refine Gm.q 13 [] (by kernel_rfl) rfl rfl (Qy.assign rfl) ?_
      refine Gm.q 14 [] (by kernel_rfl) rfl rfl (Qy.assign rfl) ?_
      refine Gm.doneA (by kernel_rfl) ⟨rfl, trivial⟩ (by first | exact Imm.le_refl _ | repeat (first | assumption | refine Imm.le_trans ?_ (by assumption))) ?_
      refine Ar.ga 10 [] ?_
      refine Ar.out4 (.inr rfl) (Ho := Hp.only _ []) rfl (.tmp rfl) (.tmp rfl) (.tmp rfl) (.tmp rfl) (Hp.sub_only _ _) ?_
      rotate_left
      refine Wc.ga 7 [] ?_
      rotate_left
      · have hkk : k = bezK x y := by
          rcases Nat.lt_or_ge k (bezK x y) with h | h
          · have := (bez_first x y 16 0 k (Nat.zero_le _) h).1
            rw [(hit _).2 hc3] at this; cases this
          · omega
        have hs : bezS x y = k := by unfold bezS; rw [if_neg hc2, ← hkk, if_pos ((hit _).2 hc3)]
        have ht : bezT x y = ((Int.gcd x y : Int) - (k : Int) * x).tdiv y := by unfold bezT; rw [if_neg hc2, hs]
        refine ⟨by rw [hs, ht], rfl, rfl⟩
      · refine Ar.re 37 rfl (show _ = Value.int .i64 ((1 : Nat) : Int) from rfl) ?_
        refine Ar.again (1) ?_ ?_ rfl ⟨rfl, rfl, rfl, rfl, rfl, trivial⟩ ⟨rfl, trivial⟩
        · refine ⟨by omega, fun _ => ?_, fun h => absurd h (by omega)⟩
          cases hh : hitB x y (k : Int)
          · rfl
          · exact absurd ((hit _).1 hh) hc3
        · show 2 - 1 < 2 - 0
          omega
    · subst hi
      refine Wc.gl 13 [1] ?_
      refine Wl.q rfl (Qy.indexLit (i := 1) (cs := [.int .i64 (k : Int), .int .i64 (-(k : Int))]) und201 pkey3 siz3 rfl rfl (by decide) rfl) ?_
      refine Wl.gl 9 [0] ?_
      refine Wl.q rfl (Qy.mul rfl rfl (by omega)) ?_
      refine Wl.ll0 3 [0] ?_
      refine Wl.q rfl (Qy.rem rfl rfl (by omega)) ?_
      refine Wl.gc 3 [] ?_
      refine Wc.cond rfl (fun hc3 => ?_) (fun hc3 => ?_)
      refine Wc.seq ?_
      refine Wc.draw [0] [] T.mixed rfl ?_
      refine Gm.q 0 [] (by kernel_rfl) rfl rfl (Qy.move rfl) ?_
      refine Gm.q 1 [] (by kernel_rfl) rfl rfl (Qy.move rfl) ?_
      refine Gm.q 2 [] (by kernel_rfl) rfl rfl (Qy.move rfl) ?_
      refine Gm.q 3 [] (by kernel_rfl) rfl rfl (Qy.move rfl) ?_
      refine Gm.q 4 [] (by kernel_rfl) rfl rfl (Qy.fieldAddr T.fa34_0 rfl) ?_
      refine Gm.q 5 [0] (by kernel_rfl) rfl rfl (Qy.load 0 T.one3 rfl rfl rfl) ?_
      refine Gm.q 6 [] (by kernel_rfl) rfl rfl (Qy.mul rfl rfl (by omega)) ?_
      refine Gm.q 7 [] (by kernel_rfl) rfl rfl (Qy.sub rfl rfl (by omega)) ?_
      refine Gm.q 8 [] (by kernel_rfl) rfl rfl (Qy.fieldAddr T.fa34_1 rfl) ?_
      refine Gm.q 9 [0] (by kernel_rfl) rfl rfl (Qy.load 0 T.one3 rfl rfl rfl) ?_
      refine Gm.q 10 [] (by kernel_rfl) rfl rfl (Qy.quo rfl rfl (by omega) (by omega)) ?_
      refine Gm.q 11 [] (by kernel_rfl) rfl rfl (Qy.assign rfl) ?_
      refine Gm.q 12 [] (by kernel_rfl) rfl rfl (Qy.assign rfl) ?_
      refine Gm.q 13 [] (by kernel_rfl) rfl rfl (Qy.assign rfl) ?_
      refine Gm.q 14 [] (by kernel_rfl) rfl rfl (Qy.assign rfl) ?_
      refine Gm.doneA (by kernel_rfl) ⟨rfl, trivial⟩ (by first | exact Imm.le_refl _ | repeat (first | assumption | refine Imm.le_trans ?_ (by assumption))) ?_
      refine Ar.ga 10 [] ?_
      refine Ar.out4 (.inr rfl) (Ho := Hp.only _ []) rfl (.tmp rfl) (.tmp rfl) (.tmp rfl) (.tmp rfl) (Hp.sub_only _ _) ?_
      rotate_left
      refine Wc.ga 7 [] ?_
      rotate_left
      · have hkk : k = bezK x y := by
          rcases Nat.lt_or_ge k (bezK x y) with h | h
          · have := (bez_first x y 16 0 k (Nat.zero_le _) h).2
            rw [(hit _).2 hc3] at this; cases this
          · omega
        have hs : bezS x y = -k := by unfold bezS; rw [if_neg hc2, ← hkk, if_neg (by rw [hi2 (by omega)]; decide)]
        have ht : bezT x y = ((Int.gcd x y : Int) - -(k : Int) * x).tdiv y := by unfold bezT; rw [if_neg hc2, hs]
        refine ⟨by rw [hs, ht], rfl, rfl⟩
      · refine Ar.re 37 rfl (show _ = Value.int .i64 ((2 : Nat) : Int) from rfl) ?_
        refine Ar.again (2) ?_ ?_ rfl ⟨rfl, rfl, rfl, rfl, rfl, trivial⟩ ⟨rfl, trivial⟩
        · refine ⟨by omega, fun _ => hi2 (by omega), fun _ => ?_⟩
          cases hh : hitB x y (-(k : Int))
          · rfl
          · exact absurd ((hit _).1 hh) hc3
        · show 2 - 2 < 2 - 1
          omega
    · subst hi
      refine Wc.ga 18 [0] ?_
      refine Ar.re 7 rfl (show _ = Value.int .i64 ((k + 1 : Nat) : Int) from rfl) ?_
      refine Ar.again (k + 1) ?_ ?_ rfl ⟨rfl, rfl, rfl, trivial⟩ ⟨rfl, trivial⟩
      · rcases Nat.lt_or_ge k (bezK x y) with h | h
        · exact h
        · have hkk : k = bezK x y := by omega
          have h1 := hi2 (by omega)
          have h2 := hi3 (by omega)
          rw [hkk] at h1 h2
          rw [h1, h2] at hb4
          rcases hb4 with h | h | h
          · exact absurd h hc2
          · cases h
          · cases h
      · show bezK x y + 1 - (k + 1) < bezK x y + 1 - k
        omega
end Go.Proofs.YtelbhbbiejalhaaGreat
set_option maxRecDepth 100000
set_option linter.unusedVariables false
namespace Go.Proofs.YtelbhbbiejalhaaGreat
open Go Go.Sl
set_option maxHeartbeats 4000000
/-- Det of two points' norms -/
def dt (p q : R2) : Int := (nrm p.a p.b).1 * (nrm q.a q.b).2 - (nrm q.a q.b).1 * (nrm p.a p.b).2
/-- the amounts of the pairs before the pair (i, j) -/
def Amt (l : List R2) (j i : Nat) (d : Int) : Prop := ∃ j' i', i' < j' ∧ (j' < j ∨ (j' = j ∧ i' < i)) ∧ d = ((dt (l[i']?.getD default) (l[j']?.getD default)).natAbs : Int)
theorem Amt.zero {l : List R2} {d : Int} : ¬ Amt l 0 0 d := fun ⟨j', i', h1, h2, _⟩ => by omega
theorem Amt.row {l : List R2} {j : Nat} {d : Int} : Amt l j j d ↔ Amt l (j + 1) 0 d :=
  ⟨fun ⟨j', i', h1, h2, h3⟩ => ⟨j', i', h1, by omega, h3⟩, fun ⟨j', i', h1, h2, h3⟩ => ⟨j', i', h1, by omega, h3⟩⟩
theorem Amt.step {l : List R2} {j i : Nat} {d : Int} (h : i < j) : Amt l j (i + 1) d ↔ Amt l j i d ∨ d = ((dt (l[i]?.getD default) (l[j]?.getD default)).natAbs : Int) := by
  constructor
  · rintro ⟨j', i', h1, h2, h3⟩
    by_cases hc : j' = j ∧ i' = i
    · rw [hc.1, hc.2] at h3; exact .inr h3
    · exact .inl ⟨j', i', h1, by omega, h3⟩
  · rintro (⟨j', i', h1, h2, h3⟩ | h3)
    · exact ⟨j', i', h1, by omega, h3⟩
    · exact ⟨j, i, h, by omega, h3⟩
/-- a table that marks what is among them -/
def Marks (xs : List Bool) (A : Int → Prop) : Prop := xs.length = 513 ∧ ∀ d : Nat, d < 513 → (xs[d]?.getD false = true ↔ A d)
theorem Marks.set {xs : List Bool} {A B : Int → Prop} {m : Int} (h : Marks xs A) (h0 : 0 ≤ m) (hB : ∀ d : Int, B d ↔ A d ∨ d = m) : Marks (xs.set m.toNat true) B := by
  refine ⟨by rw [List.length_set]; exact h.1, fun d hd => ?_⟩
  rw [hB, ← h.2 d hd, List.getElem?_set]
  by_cases e : m.toNat = d
  · rw [if_pos e, if_pos (by rw [h.1]; omega)]
    exact ⟨fun _ => .inr (by omega), fun _ => rfl⟩
  · rw [if_neg e]
    exact ⟨.inl, fun h => h.resolve_right (by omega)⟩
end Go.Proofs.YtelbhbbiejalhaaGreat
set_option maxRecDepth 100000
set_option linter.unusedVariables false
namespace Go.Proofs.YtelbhbbiejalhaaGreat
open Go Go.Sl
set_option maxHeartbeats 4000000
/-- an order of n things -/
def OrderP (o : List Int) (n : Nat) : Prop := o.length = n ∧ (∀ x ∈ o, 0 ≤ x ∧ x < n) ∧ o.Nodup
instance (o : List Int) (n : Nat) : Decidable (OrderP o n) := inferInstanceAs (Decidable (_ ∧ _))
/-- a table of n that marks what is among them -/
def MarksN (xs : List Bool) (n : Nat) (A : Int → Prop) : Prop := xs.length = n ∧ ∀ d : Nat, d < n → (xs[d]?.getD false = true ↔ A d)
theorem MarksN.set {xs : List Bool} {n : Nat} {A B : Int → Prop} {m : Int} (h : MarksN xs n A) (h0 : 0 ≤ m) (hB : ∀ d : Int, B d ↔ A d ∨ d = m) : MarksN (xs.set m.toNat true) n B := by
  refine ⟨by rw [List.length_set]; exact h.1, fun d hd => ?_⟩
  rw [hB, ← h.2 d hd, List.getElem?_set]
  by_cases e : m.toNat = d
  · rw [if_pos e, if_pos (by rw [h.1]; omega)]
    exact ⟨fun _ => .inr (by omega), fun _ => rfl⟩
  · rw [if_neg e]
    exact ⟨.inl, fun h => h.resolve_right (by omega)⟩
end Go.Proofs.YtelbhbbiejalhaaGreat
set_option linter.unusedVariables false
namespace Go.Proofs.YtelbhbbiejalhaaGreat
open Go Go.Sl
theorem right_ofS {q : PV} (h : 1 ≤ q.ins ∧ q.ins ≤ q.regs ∧ q.regs ≤ 128 ∧ q.code.length ≤ 16384 ∧ 1 ≤ q.outs.length ∧ q.outs.length ≤ 128) (ho : ∀ r ∈ q.outs, 0 ≤ r ∧ r < q.regs) (hc : ∀ i ∈ q.code, mayOk i q.regs = true) : rightP q = true := by
  have h1 : headOk q = true := by
    unfold headOk
    rw [Bool.and_eq_true, decide_eq_true_eq, List.all_eq_true]
    exact ⟨by omega, fun r hr => by rw [decide_eq_true_eq]; exact ho r hr⟩
  have h2 : badAt q = none := by
    unfold badAt
    rw [List.findIdx?_eq_none_iff]
    intro i hi
    rw [hc i hi]; rfl
  unfold rightP checkP
  rw [if_neg (by rw [h1]; decide), h2]; rfl
structure Good (R : Int) (L d : Nat) (l : List Sl.Instr) : Prop where
  fit : ∀ i ∈ l, mayOk i R = true
  len : l.length ≤ L
  dv : divs l ≤ d
theorem divs_append (l m : List Sl.Instr) : divs (l ++ m) = divs l + divs m := by unfold divs; rw [List.filter_append, List.length_append]
theorem Good.nil (R : Int) : Good R 0 0 [] := ⟨fun i h => (by cases h), Nat.le_refl _, Nat.le_refl _⟩
theorem Good.append {R : Int} {L d L' d' : Nat} {l m : List Sl.Instr} (h : Good R L d l) (k : Good R L' d' m) : Good R (L + L') (d + d') (l ++ m) :=
  ⟨fun i hi => (List.mem_append.1 hi).elim (h.fit i) (k.fit i), by rw [List.length_append]; have := h.len; have := k.len; omega, by rw [divs_append]; have := h.dv; have := k.dv; omega⟩
theorem Good.mono {R : Int} {L d L' d' : Nat} {l : List Sl.Instr} (h : Good R L d l) (h1 : L ≤ L') (h2 : d ≤ d') : Good R L' d' l := ⟨h.fit, Nat.le_trans h.len h1, Nat.le_trans h.dv h2⟩
theorem Good.one {R : Int} {i : Sl.Instr} (h : mayOk i R = true) : Good R 1 (if isDiv i then 1 else 0) [i] :=
  ⟨fun j hj => by rw [List.mem_singleton.1 hj]; exact h, Nat.le_refl _, by unfold divs; by_cases hd : isDiv i <;> simp [hd]⟩
theorem may_two {op to a b R : Int} (ho : op = 3 ∨ op = 4) (h1 : 0 ≤ to ∧ to < R) (h2 : 0 ≤ a ∧ a < R) (h3 : 0 ≤ b ∧ b < R) : mayOk ⟨op, to, a, b, 0⟩ R = true := by
  unfold mayOk
  rw [Bool.and_eq_true, Bool.and_eq_true, decide_eq_true_eq, List.all_eq_true]
  refine ⟨⟨(show 1 ≤ op ∧ op ≤ 8 ∧ 0 ≤ to ∧ to < R ∧ (op = 3 ∨ op = 4 ∨ b = 0) by omega), ?_⟩, fun r hr => ?_⟩
  · unfold constOk
    rw [if_neg (show ¬ (op = 5 ∨ op = 6) by omega), if_neg (show ¬ (op = 7 ∨ op = 8) by omega)]; rfl
  · rw [decide_eq_true_eq]
    unfold asks at hr
    rw [if_pos (show op = 3 ∨ op = 4 from ho)] at hr
    rcases List.mem_cons.1 hr with rfl | hr
    · exact h2
    · rw [List.mem_singleton.1 hr]; exact h3
theorem may_one {op to a R : Int} (ho : op = 1 ∨ op = 2) (h1 : 0 ≤ to ∧ to < R) (h2 : 0 ≤ a ∧ a < R) : mayOk ⟨op, to, a, 0, 0⟩ R = true := by
  unfold mayOk
  rw [Bool.and_eq_true, Bool.and_eq_true, decide_eq_true_eq, List.all_eq_true]
  refine ⟨⟨(show 1 ≤ op ∧ op ≤ 8 ∧ 0 ≤ to ∧ to < R ∧ (op = 3 ∨ op = 4 ∨ (0 : Int) = 0) by omega), ?_⟩, fun r hr => ?_⟩
  · unfold constOk
    rw [if_neg (show ¬ (op = 5 ∨ op = 6) by omega), if_neg (show ¬ (op = 7 ∨ op = 8) by omega)]; rfl
  · rw [decide_eq_true_eq]
    unfold asks at hr
    rw [if_neg (show ¬ (op = 3 ∨ op = 4) by omega), if_pos (show 1 ≤ op ∧ op ≤ 8 by omega)] at hr
    rw [List.mem_singleton.1 hr]; exact h2
theorem may_const {op to a c R : Int} (ho : op = 5 ∨ op = 6) (h1 : 0 ≤ to ∧ to < R) (h2 : 0 ≤ a ∧ a < R) (hc : c ≠ 0 ∧ -512 ≤ c ∧ c ≤ 512) : mayOk ⟨op, to, a, 0, c⟩ R = true := by
  unfold mayOk
  rw [Bool.and_eq_true, Bool.and_eq_true, decide_eq_true_eq, List.all_eq_true]
  refine ⟨⟨(show 1 ≤ op ∧ op ≤ 8 ∧ 0 ≤ to ∧ to < R ∧ (op = 3 ∨ op = 4 ∨ (0 : Int) = 0) by omega), ?_⟩, fun r hr => ?_⟩
  · unfold constOk
    rw [if_pos (show op = 5 ∨ op = 6 from ho), decide_eq_true_eq]; exact hc
  · rw [decide_eq_true_eq]
    unfold asks at hr
    rw [if_neg (show ¬ (op = 3 ∨ op = 4) by omega), if_pos (show 1 ≤ op ∧ op ≤ 8 by omega)] at hr
    rw [List.mem_singleton.1 hr]; exact h2
theorem add_good {R to a b : Int} (h1 : 0 ≤ to ∧ to < R) (h2 : 0 ≤ a ∧ a < R) (h3 : 0 ≤ b ∧ b < R) : Good R 1 0 [⟨3, to, a, b, 0⟩] := (Good.one (may_two (.inl rfl) h1 h2 h3)).mono (Nat.le_refl _) (Nat.le_of_eq (if_neg (show ¬ ((3 : Int) = 6 ∨ (3 : Int) = 8) by decide)))
theorem sub_good {R to a b : Int} (h1 : 0 ≤ to ∧ to < R) (h2 : 0 ≤ a ∧ a < R) (h3 : 0 ≤ b ∧ b < R) : Good R 1 0 [⟨4, to, a, b, 0⟩] := (Good.one (may_two (.inr rfl) h1 h2 h3)).mono (Nat.le_refl _) (Nat.le_of_eq (if_neg (show ¬ ((4 : Int) = 6 ∨ (4 : Int) = 8) by decide)))
theorem times_good {R to x c : Int} (h1 : 0 ≤ to ∧ to < R) (h2 : 0 ≤ x ∧ x < R) (hc : -512 ≤ c ∧ c ≤ 512) : Good R 1 0 (timesI to x c) := by
  unfold timesI
  split
  · exact sub_good h1 h2 h2
  rename_i h0
  split
  · exact (Good.nil R).mono (by omega) (by omega)
  split
  · exact (Good.one (may_one (.inl rfl) h1 h2)).mono (Nat.le_refl _) (Nat.le_of_eq (if_neg (show ¬ ((1 : Int) = 6 ∨ (1 : Int) = 8) by decide)))
  split
  · exact (Good.one (may_one (.inr rfl) h1 h2)).mono (Nat.le_refl _) (Nat.le_of_eq (if_neg (show ¬ ((2 : Int) = 6 ∨ (2 : Int) = 8) by decide)))
  · exact (Good.one (may_const (.inl rfl) h1 h2 ⟨h0, hc⟩)).mono (Nat.le_refl _) (Nat.le_of_eq (if_neg (show ¬ ((5 : Int) = 6 ∨ (5 : Int) = 8) by decide)))
theorem over_good {R to c : Int} (h1 : 0 ≤ to ∧ to < R) (h0 : c ≠ 0) (hc : -512 ≤ c ∧ c ≤ 512) : Good R 1 (if c = 1 then 0 else 1) (overI to c) := by
  unfold overI
  split
  · exact (Good.nil R).mono (by omega) (by omega)
  split
  · exact (Good.one (may_one (.inr rfl) h1 h1)).mono (Nat.le_refl _) (by split <;> omega)
  · exact (Good.one (may_const (.inr rfl) h1 h1 ⟨h0, hc⟩)).mono (Nat.le_refl _) (by split <;> omega)
theorem many_good {R to c : Int} (h1 : 0 ≤ to ∧ to < R) (h0 : c ≠ 0) (hc : -512 ≤ c ∧ c ≤ 512) : ∀ m : Nat, Good R m (if c = 1 then 0 else m) (List.replicate m (overI to c)).flatten
  | 0 => (Good.nil R).mono (Nat.le_refl _) (Nat.zero_le _)
  | m + 1 => by
    rw [List.replicate_succ, List.flatten_cons]
    refine ((over_good h1 h0 hc).append (many_good h1 h0 hc m)).mono (by omega) ?_
    split <;> omega
theorem powL_good {R to c : Int} (h1 : 0 ≤ to ∧ to < R) (hc : -512 ≤ c ∧ c ≤ 512) : ∀ (e : Nat) (fr k : Int), 0 ≤ fr ∧ fr < R → -512 ≤ k ∧ k ≤ 512 → Good R (e + 1) 0 (powL to c fr k e)
  | 0, fr, k, h2, hk => times_good h1 h2 hk
  | e + 1, fr, k, h2, hk => by
    unfold powL
    split
    · exact ((times_good h1 h2 hk).append (powL_good h1 hc e to c h1 hc)).mono (by omega) (by omega)
    · exact (powL_good h1 hc e fr (k * c) h2 (by omega)).mono (by omega) (by omega)
theorem powI_good {R to a c : Int} (h1 : 0 ≤ to ∧ to < R) (h2 : 0 ≤ a ∧ a < R) (hc : -512 ≤ c ∧ c ≤ 512) (e : Nat) : Good R (e + 1) 0 (powI to a c e) := by
  unfold powI
  split
  · refine (times_good h1 h2 ?_).mono (by omega) (by omega)
    split <;> omega
  · exact powL_good h1 hc e a 1 h2 (by omega)
theorem lin_rng {u v a b : Int} (h : u.natAbs + v.natAbs ≤ 17) (hn : near a b) : -512 ≤ u * a + v * b ∧ u * a + v * b ≤ 512 := by
  unfold near at hn
  have h1 : (u * a).natAbs ≤ u.natAbs * 16 := by rw [Int.natAbs_mul]; exact Nat.mul_le_mul_left _ (by omega)
  have h2 : (v * b).natAbs ≤ v.natAbs * 16 := by rw [Int.natAbs_mul]; exact Nat.mul_le_mul_left _ (by omega)
  omega
theorem det_rng {a b c d : Int} (h : near a b) (k : near c d) : -512 ≤ a * d - c * b ∧ a * d - c * b ≤ 512 := by
  unfold near at h k
  have h1 : (a * d).natAbs ≤ 16 * 16 := by rw [Int.natAbs_mul]; exact Nat.mul_le_mul (by omega) (by omega)
  have h2 : (c * b).natAbs ≤ 16 * 16 := by rw [Int.natAbs_mul]; exact Nat.mul_le_mul (by omega) (by omega)
  omega
/-- what is asked of points without common factors -/
structure Wh (wh : List R2) (o : List Int) : Prop where
  near : ∀ k ∈ o, near (ptW wh k).a (ptW wh k).b
  cop : ∀ k ∈ o, Int.gcd (ptW wh k).a (ptW wh k).b = 1
  bez : ∀ k ∈ o, bezS (ptW wh k).a (ptW wh k).b * (ptW wh k).a + bezT (ptW wh k).a (ptW wh k).b * (ptW wh k).b = 1
  small : ∀ k ∈ o, (bezS (ptW wh k).a (ptW wh k).b).natAbs + (bezT (ptW wh k).a (ptW wh k).b).natAbs ≤ 17
  det : ∀ k ∈ o, ∀ i ∈ o, k ≠ i → detC wh k i ≠ 0
theorem Wh.tail {wh : List R2} {k : Int} {o : List Int} (h : Wh wh (k :: o)) : Wh wh o :=
  ⟨fun i hi => h.near i (List.mem_cons_of_mem _ hi), fun i hi => h.cop i (List.mem_cons_of_mem _ hi), fun i hi => h.bez i (List.mem_cons_of_mem _ hi), fun i hi => h.small i (List.mem_cons_of_mem _ hi),
    fun k hk i hi => h.det k (List.mem_cons_of_mem _ hk) i (List.mem_cons_of_mem _ hi)⟩
theorem awayOne_good {n : Int} {wh : List R2} {k i : Int} (e : Nat) (hk : 0 ≤ k ∧ k < n) (hi : 0 ≤ i ∧ i < n) (h1 : near (ptW wh k).a (ptW wh k).b) (h2 : near (ptW wh i).a (ptW wh i).b) (h3 : (bezS (ptW wh k).a (ptW wh k).b).natAbs + (bezT (ptW wh k).a (ptW wh k).b).natAbs ≤ 17) (h4 : detC wh k i ≠ 0) :
    Good (3 * n + 1) (e + 3) 1 (awayOne n wh k e i) := by
  have hl := lin_rng h3 h2
  have hd := det_rng h1 h2
  unfold awayOne
  have e1 : Good (3 * n + 1) (e + 2) 0 (if linC wh k i ≠ 0 ∨ e = 0 then powI (3 * n) k (linC wh k i) e ++ [⟨4, i, i, 3 * n, 0⟩] else []) := by
    split
    · exact (powI_good (by omega) (by omega) hl e).append (sub_good (by omega) (by omega) (by omega))
    · exact (Good.nil _).mono (by omega) (by omega)
  have e2 : Good (3 * n + 1) 1 1 (if detC wh k i = 1 then [] else overI i (detC wh k i)) := by
    split
    · exact (Good.nil _).mono (by omega) (by omega)
    · exact (over_good (by omega) h4 hd).mono (Nat.le_refl _) (by split <;> omega)
  exact (e1.append e2).mono (by omega) (by omega)
theorem awayI_good {n : Int} {wh : List R2} {k : Int} (e : Nat) (hk : 0 ≤ k ∧ k < n) (h1 : near (ptW wh k).a (ptW wh k).b) (h3 : (bezS (ptW wh k).a (ptW wh k).b).natAbs + (bezT (ptW wh k).a (ptW wh k).b).natAbs ≤ 17) :
    ∀ left : List Int, (∀ i ∈ left, 0 ≤ i ∧ i < n) → (∀ i ∈ left, near (ptW wh i).a (ptW wh i).b ∧ detC wh k i ≠ 0) → Good (3 * n + 1) (left.length * (e + 3)) left.length (awayI n wh k e left)
  | [], _, _ => (Good.nil _).mono (Nat.zero_le _) (Nat.zero_le _)
  | i :: left, hi, h => by
    have h5 := h i List.mem_cons_self
    refine ((awayOne_good e hk (hi i List.mem_cons_self) h1 h5.1 h3 h5.2).append (awayI_good e hk h1 h3 left (fun j hj => hi j (List.mem_cons_of_mem _ hj)) (fun j hj => h j (List.mem_cons_of_mem _ hj)))).mono ?_ ?_
    · rw [List.length_cons, Nat.succ_mul]; omega
    · rw [List.length_cons]; omega
/-- 0 + 1 + .. -/
def tri : Nat → Nat
  | 0 => 0
  | m + 1 => m + tri m
theorem awayAll_good {n : Int} {wh : List R2} : ∀ o : List Int, o.length ≤ 15 → (∀ i ∈ o, 0 ≤ i ∧ i < n) → o.Nodup → Wh wh o → Good (3 * n + 1) (238 * o.length) (tri o.length) (awayAll n wh o)
  | [], _, _, _, _ => (Good.nil _).mono (Nat.zero_le _) (Nat.zero_le _)
  | k :: left, hl, hr, hn, hw => by
    obtain ⟨hn1, hn2⟩ := List.nodup_cons.1 hn
    rw [List.length_cons] at hl
    have h1 := awayI_good (n := n) (wh := wh) left.length (hr k List.mem_cons_self) (hw.near k List.mem_cons_self) (hw.small k List.mem_cons_self) left (fun i hi => hr i (List.mem_cons_of_mem _ hi)) (fun i hi => ⟨hw.near i (List.mem_cons_of_mem _ hi), hw.det k List.mem_cons_self i (List.mem_cons_of_mem _ hi) (fun e => hn1 (e ▸ hi))⟩)
    have h2 := awayAll_good left (by omega) (fun i hi => hr i (List.mem_cons_of_mem _ hi)) hn2 hw.tail
    refine (h1.append h2).mono ?_ ?_
    · rw [List.length_cons]
      have : left.length * (left.length + 3) ≤ 14 * 17 := Nat.mul_le_mul (by omega) (by omega)
      omega
    · exact Nat.le_refl _
theorem rStep_good {n u v : Int} {th : List Bool} {j : Nat} (hj : (j : Int) < n) (hu : -512 ≤ u ∧ u ≤ 512) (hv : -512 ≤ v ∧ v ≤ 512) : Good (3 * n + 1) 3 0 (rStep n u v th j).2 := by
  unfold rStep
  simp only
  by_cases hj0 : 0 < j
  · have h1 : Good (3 * n + 1) 1 0 (timesI (3 * n) (2 * n + (j - 1)) u) := times_good (by omega) (by omega) hu
    have h2 : Good (3 * n + 1) 1 0 (timesI (2 * n + j) (2 * n + j) v) := times_good (by omega) (by omega) hv
    have h3 : Good (3 * n + 1) 1 0 (timesI (2 * n + j) (3 * n) 1) := times_good (by omega) (by omega) (by omega)
    have h4 : Good (3 * n + 1) 1 0 [(⟨3, 2 * n + j, 2 * n + j, 3 * n, 0⟩ : Sl.Instr)] := add_good (by omega) (by omega) (by omega)
    generalize (decide (0 < j) && th[j - 1]?.getD false && decide (u ≠ 0)) = low
    generalize (th[j]?.getD false && decide (v ≠ 0)) = own
    cases low <;> cases own
    · exact (Good.nil _).mono (by omega) (by omega)
    · exact h2.mono (by omega) (by omega)
    · exact (h1.append h3).mono (by omega) (by omega)
    · exact (h1.append (h2.append h4)).mono (by omega) (by omega)
  · have h2 : Good (3 * n + 1) 1 0 (timesI (2 * n + j) (2 * n + j) v) := times_good (by omega) (by omega) hv
    rw [decide_eq_false hj0]
    generalize (th[j]?.getD false && decide (v ≠ 0)) = own
    cases own
    · exact (Good.nil _).mono (by omega) (by omega)
    · exact h2.mono (by omega) (by omega)
theorem rIn_good {n u v : Int} (hu : -512 ≤ u ∧ u ≤ 512) (hv : -512 ≤ v ∧ v ≤ 512) : ∀ (m : Nat) (th : List Bool), (m : Int) ≤ n → Good (3 * n + 1) (3 * m) 0 (rIn n u v m th).2
  | 0, _, _ => Good.nil _
  | m + 1, th, h => ((rStep_good (by omega) hu hv).append (rIn_good hu hv m _ (by omega))).mono (by omega) (by omega)
theorem rOut_good {n u v : Int} (hu : -512 ≤ u ∧ u ≤ 512) (hv : -512 ≤ v ∧ v ≤ 512) (hn : n ≤ 15) : ∀ (m d : Nat) (th : List Bool), ((d + m : Nat) : Int) ≤ n → Good (3 * n + 1) (45 * m) 0 (rOut n u v m d th).2
  | 0, _, _, _ => Good.nil _
  | m + 1, d, th, h => ((rIn_good hu hv (d + 1) th (by omega)).append (rOut_good hu hv hn m (d + 1) _ (by omega))).mono (by omega) (by omega)
theorem raised_good {n u v k : Int} {e : Nat} (hu : -512 ≤ u ∧ u ≤ 512) (hv : -512 ≤ v ∧ v ≤ 512) (hn : n ≤ 15) (he : (e : Int) < n) (hk : 0 ≤ k ∧ k < n) : Good (3 * n + 1) (1 + 45 * e) 0 (raisedI n u v k e) :=
  (times_good (by omega) (by omega) (by omega)).append (rOut_good hu hv hn e 1 _ (by omega))
theorem bkIn_good {n : Int} {p : R2} (hp : near p.a p.b) : ∀ m : Nat, (m : Int) ≤ n → Good (3 * n + 1) (3 * m) 0 (bkIn n p m)
  | 0, _ => Good.nil _
  | j + 1, h => by
    unfold near at hp
    unfold bkIn
    have h1 : Good (3 * n + 1) 1 0 (if 0 < j then timesI (3 * n) (n + ((j : Int) - 1)) p.b else []) := by
      split
      · exact times_good (by omega) (by omega) (by omega)
      · exact (Good.nil _).mono (by omega) (by omega)
    have h2 : Good (3 * n + 1) 1 0 (timesI (n + j) (n + j) p.a) := times_good (by omega) (by omega) (by omega)
    have h3 : Good (3 * n + 1) 1 0 (if 0 < j then [(⟨4, n + j, n + j, 3 * n, 0⟩ : Sl.Instr)] else []) := by
      split
      · exact sub_good (by omega) (by omega) (by omega)
      · exact (Good.nil _).mono (by omega) (by omega)
    exact (h1.append (h2.append (h3.append (bkIn_good hp j (by omega))))).mono (by omega) (by omega)
theorem addAll_good {n : Int} : ∀ (th : List Bool) (j : Nat), ((j + th.length : Nat) : Int) ≤ n → Good (3 * n + 1) th.length 0 (addAll n th j)
  | [], _, _ => Good.nil _
  | t :: th, j, h => by
    rw [List.length_cons] at h
    have h1 : Good (3 * n + 1) 1 0 (if t then [(⟨3, n + j, n + j, 2 * n + j, 0⟩ : Sl.Instr)] else []) := by
      split
      · exact add_good (by omega) (by omega) (by omega)
      · exact (Good.nil _).mono (by omega) (by omega)
    exact (h1.append (addAll_good th (j + 1) (by omega))).mono (by rw [List.length_cons]; omega) (by omega)
theorem back_good {n : Int} {wh : List R2} {k : Int} {e : Nat} (hn : n ≤ 15) (h1 : 1 ≤ e) (he : (e : Int) < n) (hk : 0 ≤ k ∧ k < n) (hp : near (ptW wh k).a (ptW wh k).b) (hs : (bezS (ptW wh k).a (ptW wh k).b).natAbs + (bezT (ptW wh k).a (ptW wh k).b).natAbs ≤ 17) : Good (3 * n + 1) 700 0 (backI n wh k e) := by
  have a1 := times_good (R := 3 * n + 1) (to := n + e) (x := n + ((e : Int) - 1)) (c := -(ptW wh k).b) (by omega) (by omega) (by unfold near at hp; omega)
  have a2 := bkIn_good (n := n) hp e (by omega)
  have a3 := raised_good (n := n) (u := bezS (ptW wh k).a (ptW wh k).b) (v := bezT (ptW wh k).a (ptW wh k).b) (k := k) (e := e) (by omega) (by omega) hn he hk
  have a4 := addAll_good (n := n) (raisedT n (bezS (ptW wh k).a (ptW wh k).b) (bezT (ptW wh k).a (ptW wh k).b) e) 0 (by rw [raisedT_len]; omega)
  have hl := raisedT_len n (bezS (ptW wh k).a (ptW wh k).b) (bezT (ptW wh k).a (ptW wh k).b) e
  exact ((a1.append a2).append (a3.append a4)).mono (by rw [hl]; omega) (by omega)
theorem backAll_good {n : Int} {wh : List R2} (hn : n ≤ 15) : ∀ o : List Int, (o.length : Int) ≤ n → (∀ i ∈ o, 0 ≤ i ∧ i < n) → Wh wh o → Good (3 * n + 1) (700 * o.length) 0 (backAll n wh o)
  | [], _, _, _ => Good.nil _
  | [k], _, hr, _ => by
    have := hr k List.mem_cons_self
    exact (times_good (by omega) (by omega) (by omega)).mono (by simp) (Nat.le_refl _)
  | k :: i :: left, hl, hr, hw => by
    rw [List.length_cons] at hl
    have h1 := backAll_good hn (i :: left) (by omega) (fun j hj => hr j (List.mem_cons_of_mem _ hj)) hw.tail
    have h2 := back_good (n := n) (wh := wh) (k := k) (e := (i :: left).length) hn (by simp) (by omega) (hr k List.mem_cons_self) (hw.near k List.mem_cons_self) (hw.small k List.mem_cons_self)
    exact (h1.append h2).mono (by rw [List.length_cons (a := k)]; omega) (by omega)
def normAll (m : Nat) : List R2 → Nat → List Sl.Instr
  | [], _ => []
  | p :: l, k => (List.replicate m (overI k (Int.gcd p.a p.b))).flatten ++ normAll m l (k + 1)
def wholeP (p : R2) : R2 := ⟨p.a.tdiv (Int.gcd p.a p.b), p.b.tdiv (Int.gcd p.a p.b)⟩
def codeP (l : List R2) (o : List Int) : List Sl.Instr := normAll (l.length - 1) l 0 ++ (awayAll l.length (l.map wholeP) o ++ backAll l.length (l.map wholeP) o)
def madeP (l : List R2) (o : List Int) : PV := ⟨l.length, 3 * l.length + 1, codeP l o, (List.range l.length).map fun j : Nat => (l.length : Int) + j⟩
theorem gcd_near {p : R2} (h : okP p) : 1 ≤ Int.gcd p.a p.b ∧ Int.gcd p.a p.b ≤ 16 := by
  obtain ⟨h1, h2⟩ := h
  have hg0 : 0 < Int.gcd p.a p.b := Nat.pos_of_ne_zero fun h1 => h2 (Int.gcd_eq_zero_iff.mp h1)
  refine ⟨hg0, ?_⟩
  unfold near at h1
  by_cases ha : p.a = 0
  · have hb : p.b ≠ 0 := fun hb => h2 ⟨ha, hb⟩
    have := Nat.le_of_dvd (by omega) (show Int.gcd p.a p.b ∣ p.b.natAbs from Nat.gcd_dvd_right _ _)
    omega
  · have := Nat.le_of_dvd (by omega) (show Int.gcd p.a p.b ∣ p.a.natAbs from Nat.gcd_dvd_left _ _)
    omega
theorem normAll_good {n : Int} (m : Nat) : ∀ (l : List R2) (k : Nat), ((k + l.length : Nat) : Int) ≤ n → (∀ p ∈ l, okP p) → Good (3 * n + 1) (l.length * m) (m * uneven l) (normAll m l k)
  | [], _, _, _ => (Good.nil _).mono (Nat.zero_le _) (Nat.zero_le _)
  | p :: l, k, h, hp => by
    rw [List.length_cons] at h
    have hg := gcd_near (hp p List.mem_cons_self)
    have h1 := many_good (R := 3 * n + 1) (to := (k : Int)) (c := (Int.gcd p.a p.b : Int)) (by omega) (by omega) (by omega) m
    have h2 := normAll_good (n := n) m l (k + 1) (by omega) (fun q hq => hp q (List.mem_cons_of_mem _ hq))
    refine (h1.append h2).mono ?_ ?_
    · rw [List.length_cons, Nat.succ_mul]; omega
    · have e : uneven (p :: l) = (if Int.gcd p.a p.b = 1 then 0 else 1) + uneven l := by
        unfold uneven
        rw [List.filter_cons]
        by_cases hh : Int.gcd p.a p.b = 1
        · rw [if_neg (by simp [hh]), if_pos hh, Nat.zero_add]
        · rw [if_pos (by simp [hh]), if_neg hh, List.length_cons, Nat.add_comm]
      rw [e, Nat.mul_add]
      by_cases hh : Int.gcd p.a p.b = 1
      · rw [if_pos (by omega), if_pos hh]; omega
      · rw [if_neg (by omega), if_neg hh]; omega
theorem ptW_map (l : List R2) {k : Int} (h0 : 0 ≤ k) (h : k < l.length) : ptW (l.map wholeP) k = wholeP (l[k.toNat]?.getD default) := by
  unfold ptW
  rw [List.getElem?_map, List.getElem?_eq_getElem (show k.toNat < l.length by omega)]; rfl
theorem whole_facts {p : R2} (h : okP p) : p.a = Int.gcd p.a p.b * (wholeP p).a ∧ p.b = Int.gcd p.a p.b * (wholeP p).b ∧ Int.gcd (wholeP p).a (wholeP p).b = 1 ∧ okP (wholeP p) := by
  obtain ⟨g1, g2⟩ := gcd_near h
  have e1 : p.a.tdiv (Int.gcd p.a p.b) * Int.gcd p.a p.b = p.a := Int.tdiv_mul_cancel (Int.gcd_dvd_left p.a p.b)
  have e2 : p.b.tdiv (Int.gcd p.a p.b) * Int.gcd p.a p.b = p.b := Int.tdiv_mul_cancel (Int.gcd_dvd_right p.a p.b)
  have q1 := tdiv_rng p.a (Int.gcd p.a p.b)
  have q2 := tdiv_rng p.b (Int.gcd p.a p.b)
  refine ⟨by rw [Int.mul_comm]; exact e1.symm, by rw [Int.mul_comm]; exact e2.symm, ?_, ?_, ?_⟩
  · show Nat.gcd (p.a.tdiv (Int.gcd p.a p.b)).natAbs (p.b.tdiv (Int.gcd p.a p.b)).natAbs = 1
    rw [show (p.a.tdiv (Int.gcd p.a p.b)).natAbs = p.a.natAbs / Int.gcd p.a p.b from Int.natAbs_tdiv _ _, show (p.b.tdiv (Int.gcd p.a p.b)).natAbs = p.b.natAbs / Int.gcd p.a p.b from Int.natAbs_tdiv _ _]
    exact Nat.coprime_div_gcd_div_gcd g1
  · have h1 := h.1
    unfold near at *
    show _ ≤ p.a.tdiv _ ∧ p.a.tdiv _ ≤ _ ∧ _ ≤ p.b.tdiv _ ∧ p.b.tdiv _ ≤ _
    omega
  · intro ⟨z1, z2⟩
    apply h.2
    have z1 : p.a.tdiv (Int.gcd p.a p.b) = 0 := z1
    have z2 : p.b.tdiv (Int.gcd p.a p.b) = 0 := z2
    rw [z1, Int.zero_mul] at e1
    rw [z2, Int.zero_mul] at e2
    exact ⟨e1.symm, e2.symm⟩
theorem det_ne {l : List R2} (hR : RightL l) {i j : Nat} (hij : i < j) (hj : j < l.length) : (l[i]?.getD default).a * (l[j]?.getD default).b - (l[j]?.getD default).a * (l[i]?.getD default).b ≠ 0 := by
  obtain ⟨h1, h2, h3, h4⟩ := hR
  intro h
  apply h4
  obtain ⟨p1, p2⟩ := h3 i (by omega)
  obtain ⟨q1, q2⟩ := h3 j hj
  refine ⟨j, hj, i, hij, p1, q1, (same_iff _ _ _ _).2 ?_⟩
  unfold oneR
  rw [if_neg (fun h => h.elim p2 q2)]
  exact h
theorem wh_right {l : List R2} (hR : RightL l) {o : List Int} (ho : ∀ k ∈ o, 0 ≤ k ∧ k < l.length) : Wh (l.map wholeP) o := by
  have hok : ∀ k ∈ o, okP (l[k.toNat]?.getD default) := fun k hk => hR.2.2.1 _ (by have := ho k hk; omega)
  have hpt : ∀ k ∈ o, ptW (l.map wholeP) k = wholeP (l[k.toNat]?.getD default) := fun k hk => ptW_map l (ho k hk).1 (ho k hk).2
  have hb : ∀ k ∈ o, bezS (ptW (l.map wholeP) k).a (ptW (l.map wholeP) k).b * (ptW (l.map wholeP) k).a + bezT (ptW (l.map wholeP) k).a (ptW (l.map wholeP) k).b * (ptW (l.map wholeP) k).b = 1 ∧ (bezS (ptW (l.map wholeP) k).a (ptW (l.map wholeP) k).b).natAbs + (bezT (ptW (l.map wholeP) k).a (ptW (l.map wholeP) k).b).natAbs ≤ 17 := fun k hk => by
    rw [hpt k hk]
    obtain ⟨_, _, w3, w4⟩ := whole_facts (hok k hk)
    obtain ⟨b1, b2, _⟩ := bez_facts w4.1 w4.2
    rw [w3] at b1
    exact ⟨b1, b2⟩
  refine ⟨fun k hk => by rw [hpt k hk]; exact (whole_facts (hok k hk)).2.2.2.1, fun k hk => by rw [hpt k hk]; exact (whole_facts (hok k hk)).2.2.1, fun k hk => (hb k hk).1, fun k hk => (hb k hk).2, fun k hk i hi hne => ?_⟩
  have hd : ((l[k.toNat]?.getD default).a * (l[i.toNat]?.getD default).b - (l[i.toNat]?.getD default).a * (l[k.toNat]?.getD default).b) ≠ 0 := by
    have h1 := ho k hk
    have h2 := ho i hi
    rcases Nat.lt_or_ge k.toNat i.toNat with h | h
    · exact det_ne hR h (by omega)
    · have := det_ne hR (show i.toNat < k.toNat by omega) (by omega)
      intro h3; apply this; omega
  intro h0
  apply hd
  unfold detC at h0
  rw [hpt k hk, hpt i hi] at h0
  obtain ⟨a1, a2, _⟩ := whole_facts (hok k hk)
  obtain ⟨c1, c2, _⟩ := whole_facts (hok i hi)
  generalize (l[k.toNat]?.getD default) = p at *
  generalize (l[i.toNat]?.getD default) = q at *
  have key : p.a * q.b - q.a * p.b = ((wholeP p).a * (wholeP q).b - (wholeP q).a * (wholeP p).b) * ((Int.gcd p.a p.b : Int) * (Int.gcd q.a q.b : Int)) := by
    rw [Int.sub_mul]
    calc p.a * q.b - q.a * p.b = (Int.gcd p.a p.b * (wholeP p).a) * (Int.gcd q.a q.b * (wholeP q).b) - (Int.gcd q.a q.b * (wholeP q).a) * (Int.gcd p.a p.b * (wholeP p).b) := by rw [← a1, ← a2, ← c1, ← c2]
      _ = _ := by congr 1 <;> ac_rfl
  rw [key, h0, Int.zero_mul]
theorem code_good {l : List R2} {o : List Int} (hR : RightL l) (ho : OrderP o l.length) : Good (3 * l.length + 1) 16384 (tri l.length + (l.length - 1) * uneven l) (codeP l o) := by
  obtain ⟨o1, o2, o3⟩ := ho
  have hl := hR.2.1
  have hw := wh_right hR o2
  have hok : ∀ p ∈ l, okP p := fun p hp => by
    obtain ⟨i, hi, rfl⟩ := List.mem_iff_getElem.1 hp
    have := hR.2.2.1 i hi
    rw [List.getElem?_eq_getElem hi] at this
    exact this
  have h1 := normAll_good (n := l.length) (l.length - 1) l 0 (by omega) hok
  have h2 := awayAll_good (n := l.length) (wh := l.map wholeP) o (by omega) o2 o3 hw
  have h3 := backAll_good (n := l.length) (wh := l.map wholeP) (by omega) o (by omega) o2 hw
  refine (h1.append (h2.append h3)).mono ?_ ?_
  · have : l.length * (l.length - 1) ≤ 15 * 14 := Nat.mul_le_mul (by omega) (by omega)
    omega
  · rw [o1]; omega
theorem made_right {l : List R2} {o : List Int} (hR : RightL l) (ho : OrderP o l.length) : rightP (madeP l o) = true := by
  have hg := code_good hR ho
  have hl := hR.1
  have hl2 := hR.2.1
  refine right_ofS ⟨?_, ?_, ?_, hg.len, ?_, ?_⟩ ?_ hg.fit
  · show (1 : Int) ≤ l.length; omega
  · show (l.length : Int) ≤ 3 * l.length + 1; omega
  · show (3 * l.length + 1 : Int) ≤ 128; omega
  · show 1 ≤ ((List.range l.length).map _).length; rw [List.length_map, List.length_range]; exact hl
  · show ((List.range l.length).map _).length ≤ 128; rw [List.length_map, List.length_range]; omega
  · intro r hr
    obtain ⟨j, hj, rfl⟩ := List.mem_map.1 hr
    have := List.mem_range.1 hj
    show 0 ≤ (l.length : Int) + j ∧ (l.length : Int) + j < 3 * l.length + 1
    omega
end Go.Proofs.YtelbhbbiejalhaaGreat
set_option maxRecDepth 100000
set_option linter.unusedVariables false
namespace Go.Proofs.YtelbhbbiejalhaaGreat
open Go Go.Sl
theorem flat_int (l : List Int) : flat l = l.map (Value.int .i64) := by
  induction l with
  | nil => rfl
  | cons x l ih => rw [flat_cons, ih]; rfl
theorem put_flat (l l' : List Int) (jk : List Value) (h : l'.length = l.length) : Go.Sort.putCells (Value.int .i64) 0 l'.toArray (flat l ++ jk).toArray = (flat l' ++ jk).toArray := by
  rw [flat_int, flat_int]
  apply Array.ext_getElem?
  intro k
  simp only [Go.Sort.putCells, Array.getElem?_mapIdx, List.getElem?_toArray, List.size_toArray, Nat.zero_le, true_and, Nat.zero_add, Nat.sub_zero]
  by_cases hk : k < l'.length
  · rw [List.getElem?_append_left (by rw [List.length_map]; omega), List.getElem?_append_left (by rw [List.length_map]; omega), List.getElem?_map, List.getElem?_map, List.getElem?_eq_getElem (show k < l.length by omega), List.getElem?_eq_getElem hk]
    simp [hk]
  · rw [List.getElem?_append_right (by rw [List.length_map]; omega), List.getElem?_append_right (by rw [List.length_map]; omega), List.length_map, List.length_map, h]
    cases jk[k - l.length]? with
    | none => rfl
    | some v => simp [hk]; intro h2; omega
theorem holds_row {w : World} {G : Imm} {b : Nat} {l : List Int} {jk : List Value} {E : TypeId} (hw : HoldH [(0, some b, Row E l jk)] G w) : Go.Sort.Holds (Value.int .i64) w b 0 l.toArray := by
  intro j hj
  have hj : j < l.length := by simpa using hj
  have ho : w.heap[b]? = some (Row E l jk) := hw.own 0 b _ rfl
  constructor
  · show World.cell? w ⟨b, 0 + j, none⟩ = _
    unfold World.cell?
    rw [show w.heap[(⟨b, 0 + j, none⟩ : Addr).block]? = some (Row E l jk) from ho]
    show (flat l ++ jk).toArray[0 + j]? = _
    rw [Nat.zero_add, List.getElem?_toArray, flat_int, List.getElem?_append_left (by rw [List.length_map]; exact hj), List.getElem?_map, List.getElem?_eq_getElem hj]
    simp [hj]
  · show World.frozen? w ⟨b, 0 + j, none⟩ = _
    unfold World.frozen?
    rw [show w.heap[(⟨b, 0 + j, none⟩ : Addr).block]? = some (Row E l jk) from ho]
    show (decide (0 ≤ 0 + j) && decide (0 + j < 0)) = false
    simp
theorem row_put {w : World} {G : Imm} {b n : Nat} {l l' : List Int} {jk : List Value} {E : TypeId} {os : Array Obj} (hw : HoldH [(0, some b, Row E l jk)] G w) (hlen : l'.length = l.length) {v : Value} :
    DoesPost G [(0, some b, Row E l jk)] w (fun v' G' Ho => v' = v ∧ G' = G ∧ Ho = [(0, some b, Row E l' jk)]) (.returned v) (Go.Sort.grow (Go.Sort.putRow (Value.int .i64) (Go.Sort.ahead w n) b 0 l'.toArray) os) := by
  have ho : w.heap[b]? = some (Row E l jk) := hw.own 0 b _ rfl
  have hb : b < w.heap.size := by
    rcases Nat.lt_or_ge b w.heap.size with h | h
    · exact h
    · rw [Array.getElem?_eq_none h] at ho; cases ho
  have hget : ∀ k, k < w.heap.size → (Go.Sort.grow (Go.Sort.putRow (Value.int .i64) (Go.Sort.ahead w n) b 0 l'.toArray) os).heap[k]? = if b = k then some (Row E l' jk) else w.heap[k]? := by
    intro k hk
    show ((w.heap.modify b (Go.Sort.onCells (Go.Sort.putCells (Value.int .i64) 0 l'.toArray))) ++ os)[k]? = _
    rw [Array.getElem?_append_left (by rw [Array.size_modify]; exact hk), Array.getElem?_modify]
    split
    · rename_i e
      subst e
      rw [ho]
      show some (Obj.cells (Go.Sort.putCells (Value.int .i64) 0 l'.toArray (flat l ++ jk).toArray) E (0, 0)) = _
      rw [put_flat _ _ _ hlen]; rfl
    · rfl
  have hone : ∀ {o' : Obj} {t b' : Nat} {o : Obj}, Hp.get [(0, some b, o')] t = some (some b', o) → t = 0 ∧ b = b' ∧ o' = o := by
    intro o' t b' o h
    rw [Hp.get_cons] at h
    split at h
    · rename_i e
      simp at h
      exact ⟨e.symm, h.1, h.2⟩
    · simp [Hp.get] at h
  refine ⟨v, G, [(0, some b, Row E l' jk)], rfl, ⟨?_, ?_, ?_, ?_⟩, Imm.le_refl _, ⟨rfl, rfl, rfl, ?_, ?_⟩, ?_, ?_, rfl, rfl, rfl⟩
  · intro t b' o h
    obtain ⟨_, e, e2⟩ := hone h
    subst e; subst e2
    rw [hget b hb, if_pos rfl]
  · intro t t' b' o o' h h'
    rw [(hone h).1, (hone h').1]
  · intro b' o h
    have h1 := hw.imm b' o h
    have h2 : b' < w.heap.size := by
      rcases Nat.lt_or_ge b' w.heap.size with h | h
      · exact h
      · rw [Array.getElem?_eq_none h] at h1; cases h1
    rw [hget b' h2, if_neg]
    · exact h1
    · intro e
      subst e
      have := hw.off 0 b _ rfl
      rw [h] at this; cases this
  · intro t b' o h
    obtain ⟨_, e, _⟩ := hone h
    subst e
    exact hw.off 0 b _ rfl
  · show w.heap.size ≤ ((w.heap.modify b _) ++ os).size
    rw [Array.size_append, Array.size_modify]; omega
  · intro k hk hx
    rw [hget k hk, if_neg]
    intro e
    subst e
    exact hx ⟨0, _, rfl⟩
  · intro b' h h'; exact absurd h' h
  · intro t b' o h
    obtain ⟨_, e, _⟩ := hone h
    subst e
    exact .inr ⟨0, _, rfl⟩
theorem c81 (G : Imm) (b c : Nat) (l : List Int) (jk : List Value) (h : l.length < 4611686018427387904) :
    Does Tryz.prog 81 [.slice (some ⟨b, 0, none⟩) l.length c] G [(0, some b, Row 3 l jk)] (fun v G' Ho => v = .tuple #[] ∧ G' = G ∧ Ho = [(0, some b, Row 3 (l.mergeSort fun x y => decide (x ≤ y)) jk)]) := fun w hw => by
  have ho : w.heap[b]? = some (Row 3 l jk) := hw.own 0 b _ rfl
  have hb : b < w.heap.size := by
    rcases Nat.lt_or_ge b w.heap.size with h | h
    · exact h
    · rw [Array.getElem?_eq_none h] at ho; cases ho
  have h69 : Calls Tryz.prog 81 #[.slice (some ⟨b, 0, none⟩) l.length c] w _ := Any.slices_Sort_int Tryz.laysSort b 0 c l w (holds_row hw) hb h
  refine h69.mono ?_
  rintro e w' ⟨rfl, n, os, rfl⟩
  exact row_put hw (List.length_mergeSort l)
theorem c81N (G : Imm) (c : Nat) : Does Tryz.prog 81 [.slice none 0 c] G [] (fun v G' Ho => v = .tuple #[] ∧ G' = G ∧ Ho = []) := fun w hw => by
  have h69 : Calls Tryz.prog 81 #[.slice none 0 c] w _ := Any.slices_Sort_int_none Tryz.laysSort none c w
  refine h69.mono ?_
  rintro e w' ⟨rfl, rfl⟩
  exact ⟨_, G, [], rfl, hw, Imm.le_refl _, Upd.refl _ _, fun _ h h' => absurd h' h, fun t b o h => by simp [Hp.get] at h, rfl, rfl, rfl⟩
theorem sorted_le (l : List Int) : (l.mergeSort fun x y => decide (x ≤ y)).Pairwise (· ≤ ·) :=
  (List.pairwise_mergeSort (le := fun x y : Int => decide (x ≤ y)) (fun a b c h1 h2 => by simp at *; omega) (fun a b => by simp; omega) l).imp (fun h => by simpa using h)
end Go.Proofs.YtelbhbbiejalhaaGreat
set_option maxRecDepth 100000
set_option linter.unusedVariables false
namespace Go.Proofs.YtelbhbbiejalhaaGreat
open Go Go.Sl
set_option maxHeartbeats 4000000
attribute [local irreducible] RightL
theorem c119N (G : Imm) (a b c d : Int) (h : near a b) (h' : near c d) : Does Tryz.prog 119 [.agg #[.int .i64 a, .int .i64 b], .agg #[.int .i64 c, .int .i64 d]] G [] (fun v G' Ho => v = .tuple #[.int .i64 (a * d - c * b), .int .i64 0] ∧ G' = G ∧ Ho = []) :=
  (c119 G a b c d).mono fun v G' Ho _ ⟨e1, e2, e3⟩ => ⟨by rw [e1, if_pos ⟨h, h'⟩, if_pos ⟨h, h'⟩], e2, e3⟩
end Go.Proofs.YtelbhbbiejalhaaGreat
set_option maxRecDepth 100000
set_option linter.unusedVariables false
namespace Go.Proofs.YtelbhbbiejalhaaGreat
open Go Go.Sl
set_option maxHeartbeats 4000000
theorem c85 (G : Imm) (b : Nat) (ac : Option Addr) (cc : Nat) (code : List Sl.Instr) (j : List Value) (wa : Option Addr) (wc : Nat) (wh : List R2) (k : Int) (la : Option Addr) (lc : Nat) (left : List Int) (e : Nat) (ho : OwnA ac cc code j) (hw : Arr G wa wh) (hla : Arr G la left)
    (hwl : wh.length ≤ 15) (hk : 0 ≤ k ∧ k < wh.length) (hll : left.length ≤ 15) (hleft : ∀ i, i < left.length → 0 ≤ left[i]?.getD default ∧ left[i]?.getD default < wh.length) (he : e ≤ 14) (hok : ∀ i, i < wh.length → okP (wh[i]?.getD default)) (hl : (code ++ awayI wh.length wh k e left).length ≤ 1048576) :
    Does Tryz.prog 85 [.pointer (some ⟨b, 0, none⟩), .int .i64 k, .slice la left.length lc, .int .i64 e] G [(0, some b, .cells #[.int .i64 wh.length, .slice ac code.length cc, .slice wa wh.length wc] 139), (1, ac.map (·.block), Row 50 code j)]
      (fun v G' Ho => v = .tuple #[] ∧ G' = G ∧ ∃ (a' : Option Addr) (c' : Nat) (j' : List Value), OwnA a' c' (code ++ awayI wh.length wh k e left) j' ∧ Ho = [(0, some b, .cells #[.int .i64 wh.length, .slice a' (code ++ awayI wh.length wh k e left).length c', .slice wa wh.length wc] 139), (1, a'.map (·.block), Row 50 (code ++ awayI wh.length wh k e left) j')]) := by
  have hl0 : code.length ≤ 1048576 := by rw [List.length_append] at hl; omega
  obtain ⟨hnk, hzk⟩ := hok k.toNat (by omega)
  obtain ⟨_, b2, _, _⟩ := bez_facts hnk hzk
  refine Does.enter Tryz.func85 rfl Tryz.ntmps85 rfl (fun w => ?_)
  refine Wc.scope ?_
  refine Wc.gl 7 [0] ?_
  refine Wl.q rfl (Qy.at (α := R2) T.sl22 rfl rfl (by assumption) (by omega)) ?_
  refine Wl.q rfl (Qy.loadsG T.agg34 rfl (Arr.elem (by assumption) (by omega)) rfl) ?_
  refine Wl.alloc 2 rfl T.zero34 (fun b1 => ?_)
  refine Wl.gl 6 [2, 2] ?_
  refine Wl.call0 rfl T.fn83 rfl (c83 _ _ _ (by assumption) (by assumption)) ?_
  refine Wl.gc 22 [] ?_
  generalize hTg : code ++ awayI wh.length wh k e left = Tg at *
  refine Wc.loop (ι := Nat × List Sl.Instr × (Option Addr × Nat × List Value)) (fun (t, cd, (o, d, q)) => ([(35, .int .i64 (t : Int)), (34, Go.Value.int Go.IntKind.i64 (↑(List.length left) : Int)), (33, Go.Value.slice la (List.length left) lc), (11, Go.Value.int Go.IntKind.i64 (Go.Proofs.YtelbhbbiejalhaaGreat.bezT (Go.Sl.R2.a (Option.getD wh[Int.toNat k]? Inhabited.default)) (Go.Sl.R2.b (Option.getD wh[Int.toNat k]? Inhabited.default)))), (10, Go.Value.int Go.IntKind.i64 (Go.Proofs.YtelbhbbiejalhaaGreat.bezS (Go.Sl.R2.a (Option.getD wh[Int.toNat k]? Inhabited.default)) (Go.Sl.R2.b (Option.getD wh[Int.toNat k]? Inhabited.default)))), (8, Go.Value.pointer (Option.some (Go.Addr.mk b1 0 Option.none))), (0, Go.Value.pointer (Option.some (Go.Addr.mk b 0 Option.none))), (1, Go.Value.int Go.IntKind.i64 k), (3, Go.Value.int Go.IntKind.i64 (↑e : Int))], [(0, some b, .cells #[.int .i64 wh.length, .slice o cd.length d, .slice wa wh.length wc] 139), (1, o.map (·.block), Row 50 cd q), (2, Option.some b1, Go.Obj.cells (List.toArray (Go.Sl.Cells.enc (Option.getD wh[Int.toNat k]? Inhabited.default))) 34)])) (fun (t, cd, (o, d, q)) => t ≤ left.length ∧ cd ++ awayI wh.length wh k e (left.drop t) = Tg ∧ OwnA o d cd q) (fun (t, cd, (o, d, q)) => left.length - t) ((0, code, (ac, cc, j))) (⟨Nat.zero_le _, hTg, ho⟩) ⟨rfl, rfl, rfl, rfl, rfl, rfl, rfl, rfl, rfl, trivial⟩ ⟨rfl, rfl, rfl, trivial⟩ (fun ⟨t, cd, (o, d, q)⟩ => fun (hk : t ≤ left.length ∧ cd ++ awayI wh.length wh k e (left.drop t) = Tg ∧ OwnA o d cd q) => ?_)
  obtain ⟨ht1, ht3, ht4⟩ := hk
  have htl : cd.length ≤ 1048576 := by rw [← ht3, List.length_append] at hl; omega
  rcases Nat.lt_or_ge t left.length with hte | hte
  · have hi := hleft t hte
    have hdr : left.drop t = left[((t : Nat) : Int).toNat]?.getD default :: left.drop (t + 1) := by
      rw [List.drop_eq_getElem_cons hte, Int.toNat_natCast, List.getElem?_eq_getElem hte]; rfl
    rw [Int.toNat_natCast] at hdr
    obtain ⟨hni, hzi⟩ := hok (left[((t : Nat) : Int).toNat]?.getD default).toNat (by rw [Int.toNat_natCast]; omega)
    have hi' : 0 ≤ left[((t : Nat) : Int).toNat]?.getD default ∧ left[((t : Nat) : Int).toNat]?.getD default < wh.length := by rw [Int.toNat_natCast]; exact hi
    rw [hdr] at ht3
    have ht3 : cd ++ (awayOne wh.length wh k e (left[((t : Nat) : Int).toNat]?.getD default) ++ awayI wh.length wh k e (left.drop (t + 1))) = Tg := by rw [Int.toNat_natCast]; exact ht3
    have hlr : -512 ≤ linC wh k (left[((t : Nat) : Int).toNat]?.getD default) ∧ linC wh k (left[((t : Nat) : Int).toNat]?.getD default) ≤ 512 := lin_rng b2 hni
    have hm1 : (bezS (wh[k.toNat]?.getD default).a (wh[k.toNat]?.getD default).b * (wh[(left[((t : Nat) : Int).toNat]?.getD default).toNat]?.getD default).a).natAbs ≤ 17 * 16 := by rw [Int.natAbs_mul]; exact Nat.mul_le_mul (by omega) (by unfold near at hni; omega)
    have hm2 : (bezT (wh[k.toNat]?.getD default).a (wh[k.toNat]?.getD default).b * (wh[(left[((t : Nat) : Int).toNat]?.getD default).toNat]?.getD default).b).natAbs ≤ 17 * 16 := by rw [Int.natAbs_mul]; exact Nat.mul_le_mul (by omega) (by unfold near at hni; omega)
    have hTl : cd.length + (awayOne wh.length wh k e (left[((t : Nat) : Int).toNat]?.getD default)).length ≤ 1048576 := by rw [← ht3, List.length_append, List.length_append] at hl; omega
    unfold awayOne at ht3 hTl
    rw [List.length_append] at hTl
    refine Wc.gl 13 [1] ?_
    refine Wl.q rfl (Qy.at (α := Int) T.sl27 rfl rfl (by assumption) (by omega)) ?_
    refine Wl.q rfl (Qy.loadG T.one3 rfl (Arr.cell (by assumption) (by omega) 0 rfl rfl)) ?_
    refine Wl.gl 10 [0] ?_
    refine Wl.q rfl (Qy.at (α := R2) T.sl22 rfl rfl (by assumption) (by omega)) ?_
    refine Wl.q rfl (Qy.loadsG T.agg34 rfl (Arr.elem (by assumption) (by omega)) rfl) ?_
    refine Wl.alloc 3 rfl T.zero34 (fun b3 => ?_)
    refine Wl.gl 7 [3, 2, 3] ?_
    refine Wl.call0 rfl T.fn119 rfl (c119N _ _ _ _ _ (by assumption) (by assumption)) ?_
    refine Wl.gl 12 [3] ?_
    refine Wl.q rfl (Qy.mul rfl rfl (by omega)) ?_
    refine Wl.ll0 3 [3] ?_
    refine Wl.q rfl (Qy.mul rfl rfl (by omega)) ?_
    refine Wl.gl 10 [] ?_
    apply Wl.joinOr 3 63 66 rfl
    intro hg1
    refine Wl.ll0 5 [] ?_
    exact Wl.back 3 0 rfl rfl rfl rfl rfl
    intro hg1
    refine Wl.ll0 3 [] ?_
    exact Wl.back 3 0 rfl rfl rfl rfl rfl
    refine Wl.gc 2 [] ?_
    refine Wc.cond rfl (fun hc1 => ?_) (fun hc1 => ?_)
    refine Wc.gl 4 [] ?_
    refine Wl.call1 0 rfl T.fn121 rfl (c121 _ b _ _ _ (by omega)) (tags_of ⟨rfl, trivial⟩) ?_
    refine Wl.ll0 3 [] ?_
    rotate_left
    refine Wc.gc 9 [] ?_
    refine Wc.cond rfl (fun hc2 => ?_) (fun hc2 => ?_)
    refine Wc.ga 8 [] ?_
    rotate_left
    refine Wc.gl 6 [] ?_
    rotate_left
    · have hcc : linC wh k (left[((t : Nat) : Int).toNat]?.getD default) ≠ 0 ∨ e = 0 := by
        rcases hc1 with h | h
        · exact .inl h
        · exact .inr (by omega)
      rw [if_pos hcc] at ht3 hTl
      rw [List.length_append, List.length_singleton] at hTl
      have hq1 : (cd ++ powI (3 * (wh.length : Int)) k (linC wh k (left[((t : Nat) : Int).toNat]?.getD default)) e).length ≤ 1048576 := by rw [List.length_append]; omega
      refine Wl.call 0 rfl T.fn120 rfl (c120 _ b _ o d cd q wa _ wc (3 * (wh.length : Int)) k (linC wh k (left[((t : Nat) : Int).toNat]?.getD default)) e ht4 hq1 hlr (by omega)) (tags_of ⟨rfl, rfl, trivial⟩) (fun v1 G1 Ho1 hle1 hp => ?_)
      obtain ⟨rfl, rfl, a1, d1, j1, ho1, rfl⟩ := hp
      refine Wl.gl 7 [] ?_
      refine Wl.call1 0 rfl T.fn121 rfl (c121 _ b _ _ _ (by omega)) (tags_of ⟨rfl, trivial⟩) ?_
      refine Wl.call 0 rfl T.fn118 rfl (c118 _ b _ a1 d1 (cd ++ powI (3 * (wh.length : Int)) k (linC wh k (left[((t : Nat) : Int).toNat]?.getD default)) e) j1 wa _ wc _ _ _ _ _ ho1 hq1) (tags_of ⟨rfl, rfl, trivial⟩) (fun v2 G2 Ho2 hle2 hp => ?_)
      obtain ⟨rfl, rfl, a2, d2, j2, ho2, rfl⟩ := hp
      refine Wl.gc 9 [] ?_
      refine Wc.cond rfl (fun hc2 => ?_) (fun hc2 => ?_)
      refine Wc.ga 8 [] ?_
      rotate_left
      refine Wc.gl 6 [] ?_
      rotate_left
      · have hdd : detC wh k (left[((t : Nat) : Int).toNat]?.getD default) = 1 := hc2
        rw [if_pos hdd, List.append_nil] at ht3
        refine Ar.re 35 rfl (show _ = Value.int .i64 ((t + 1 : Nat) : Int) from rfl) ?_
        refine Ar.again ((t + 1, (cd ++ powI (3 * (wh.length : Int)) k (linC wh k (left[((t : Nat) : Int).toNat]?.getD default)) e ++ [(⟨4, (left[((t : Nat) : Int).toNat]?.getD default), (left[((t : Nat) : Int).toNat]?.getD default), 3 * (wh.length : Int), 0⟩ : Sl.Instr)]), (a2, d2, j2))) ?_ ?_ rfl ⟨rfl, rfl, rfl, rfl, rfl, rfl, rfl, rfl, rfl, trivial⟩ ⟨rfl, rfl, rfl, trivial⟩
        · refine ⟨hte, ?_, ho2⟩
          rw [← ht3]; simp only [List.append_assoc]
        · show left.length - (t + 1) < left.length - t
          omega
      · have hdd : ¬ detC wh k (left[((t : Nat) : Int).toNat]?.getD default) = 1 := hc2
        rw [if_neg hdd] at ht3 hTl
        have hq2 : (cd ++ powI (3 * (wh.length : Int)) k (linC wh k (left[((t : Nat) : Int).toNat]?.getD default)) e ++ [(⟨4, (left[((t : Nat) : Int).toNat]?.getD default), (left[((t : Nat) : Int).toNat]?.getD default), 3 * (wh.length : Int), 0⟩ : Sl.Instr)]).length ≤ 1048576 := by rw [List.length_append, List.length_append, List.length_singleton]; omega
        refine Wl.call 0 rfl T.fn84 rfl (c84 _ b _ a2 d2 (cd ++ powI (3 * (wh.length : Int)) k (linC wh k (left[((t : Nat) : Int).toNat]?.getD default)) e ++ [(⟨4, (left[((t : Nat) : Int).toNat]?.getD default), (left[((t : Nat) : Int).toNat]?.getD default), 3 * (wh.length : Int), 0⟩ : Sl.Instr)]) j2 wa _ wc _ _ ho2 hq2) (tags_of ⟨rfl, rfl, trivial⟩) (fun v3 G3 Ho3 hle3 hp => ?_)
        obtain ⟨rfl, rfl, a3, d3, j3, ho3, rfl⟩ := hp
        refine Wl.ga 7 [] ?_
        refine Ar.re 35 rfl (show _ = Value.int .i64 ((t + 1 : Nat) : Int) from rfl) ?_
        refine Ar.again ((t + 1, (cd ++ powI (3 * (wh.length : Int)) k (linC wh k (left[((t : Nat) : Int).toNat]?.getD default)) e ++ [(⟨4, (left[((t : Nat) : Int).toNat]?.getD default), (left[((t : Nat) : Int).toNat]?.getD default), 3 * (wh.length : Int), 0⟩ : Sl.Instr)]) ++ overI (left[((t : Nat) : Int).toNat]?.getD default) (detC wh k (left[((t : Nat) : Int).toNat]?.getD default)), (a3, d3, j3))) ?_ ?_ rfl ⟨rfl, rfl, rfl, rfl, rfl, rfl, rfl, rfl, rfl, trivial⟩ ⟨rfl, rfl, rfl, trivial⟩
        · refine ⟨hte, ?_, ho3⟩
          rw [← ht3]; simp only [List.append_assoc]
        · show left.length - (t + 1) < left.length - t
          omega
    · have hcc : ¬ (linC wh k (left[((t : Nat) : Int).toNat]?.getD default) ≠ 0 ∨ e = 0) := fun h => hc1 (h.elim .inl (fun h => .inr (by omega)))
      rw [if_neg hcc] at ht3 hTl
      have hdd : detC wh k (left[((t : Nat) : Int).toNat]?.getD default) = 1 := hc2
      rw [if_pos hdd] at ht3
      refine Ar.re 35 rfl (show _ = Value.int .i64 ((t + 1 : Nat) : Int) from rfl) ?_
      refine Ar.again ((t + 1, cd, (o, d, q))) ?_ ?_ rfl ⟨rfl, rfl, rfl, rfl, rfl, rfl, rfl, rfl, rfl, trivial⟩ ⟨rfl, rfl, rfl, trivial⟩
      · exact ⟨hte, ht3, ht4⟩
      · show left.length - (t + 1) < left.length - t
        omega
    · have hcc : ¬ (linC wh k (left[((t : Nat) : Int).toNat]?.getD default) ≠ 0 ∨ e = 0) := fun h => hc1 (h.elim .inl (fun h => .inr (by omega)))
      rw [if_neg hcc] at ht3 hTl
      have hdd : ¬ detC wh k (left[((t : Nat) : Int).toNat]?.getD default) = 1 := hc2
      rw [if_neg hdd] at ht3
      refine Wl.call 0 rfl T.fn84 rfl (c84 _ b _ o d cd q wa _ wc _ _ ht4 htl) (tags_of ⟨rfl, rfl, trivial⟩) (fun v1 G1 Ho1 hle1 hp => ?_)
      obtain ⟨rfl, rfl, a1, d1, j1, ho1, rfl⟩ := hp
      refine Wl.ga 7 [] ?_
      refine Ar.re 35 rfl (show _ = Value.int .i64 ((t + 1 : Nat) : Int) from rfl) ?_
      refine Ar.again ((t + 1, cd ++ overI (left[((t : Nat) : Int).toNat]?.getD default) (detC wh k (left[((t : Nat) : Int).toNat]?.getD default)), (a1, d1, j1))) ?_ ?_ rfl ⟨rfl, rfl, rfl, rfl, rfl, rfl, rfl, rfl, rfl, trivial⟩ ⟨rfl, rfl, rfl, trivial⟩
      · refine ⟨hte, ?_, ho1⟩
        rw [← ht3, List.nil_append]; simp only [List.append_assoc]
      · show left.length - (t + 1) < left.length - t
        omega
  · have hte : t = left.length := by omega
    subst hte
    rw [List.drop_length] at ht3
    have ht3 : cd = Tg := by rw [← ht3]; exact (List.append_nil _).symm
    subst ht3
    refine Wc.ga 11 [0] ?_
    refine Ar.scopeN ?_
    refine Ar.out0 (by first | exact .inl rfl | exact .inr rfl) (Ho := [(0, some b, .cells #[.int .i64 wh.length, .slice o cd.length d, .slice wa wh.length wc] 139), (1, o.map (·.block), Row 50 cd q)]) rfl ⟨rfl, rfl, trivial⟩ ?_
    exact ⟨rfl, rfl, o, d, q, ht4, rfl⟩
end Go.Proofs.YtelbhbbiejalhaaGreat
set_option linter.unusedVariables false
namespace Go.Sl
open Go
/-- a truth value as a decision -/
theorem boolDec (y : Bool) : Value.bool y = Value.bool (decide (y = true)) := by cases y <;> rfl
section
variable {α : Type} [Cells α] [Inhabited α] {P : Program} {ops : Array Oper} {rest : List Oper} {B : Bs} {e : Env} {D : List Deferred} {H : Hp} {G : Imm} {K : Act → World → Prop}
  {ty : TypeId} {pos : String} {after : Array Edge} {d : Nat}
end
section
variable {α : Type} [Cells α] {P : Program} {ops : Array Oper} {rest : List Oper} {B : Bs} {e : Env} {D : List Deferred} {H : Hp} {G : Imm} {K : Act → World → Prop}
  {ty : TypeId} {pos : String} {after : Array Edge} {d : Nat}
end
end Go.Sl
set_option maxRecDepth 100000
set_option linter.unusedVariables false
namespace Go.Proofs.YtelbhbbiejalhaaGreat
open Go Go.Sl
set_option maxHeartbeats 4000000
theorem rStep_eq {n u v : Int} {ti : List Bool} {m : Nat} {low own : Bool} (hl : (decide (0 < m) && ti[m - 1]?.getD false && decide (u ≠ 0)) = low) (ho : (ti[m]?.getD false && decide (v ≠ 0)) = own) :
    rStep n u v ti m = (ti.set m (own || low), (if low then timesI (3 * n) (2 * n + (m - 1)) u else []) ++ (if own && low then timesI (2 * n + m) (2 * n + m) v ++ [⟨3, 2 * n + m, 2 * n + m, 3 * n, 0⟩] else if own then timesI (2 * n + m) (2 * n + m) v else if low then timesI (2 * n + m) (3 * n) 1 else [])) := by
  subst hl ho; rfl
theorem c122 (G : Imm) (b : Nat) (ac : Option Addr) (cc : Nat) (code : List Sl.Instr) (j : List Value) (wa : Option Addr) (wc : Nat) (wh : List R2) (k : Int) (e : Nat) (ho : OwnA ac cc code j) (hw : Arr G wa wh)
    (hwl : wh.length ≤ 15) (hk : 0 ≤ k ∧ k < wh.length) (he : e < wh.length) (hok : okP (wh[k.toNat]?.getD default)) (hl : (code ++ raisedI wh.length (bezS (wh[k.toNat]?.getD default).a (wh[k.toNat]?.getD default).b) (bezT (wh[k.toNat]?.getD default).a (wh[k.toNat]?.getD default).b) k e).length ≤ 1048576) :
    Does Tryz.prog 122 [.pointer (some ⟨b, 0, none⟩), .int .i64 k, .int .i64 e] G [(0, some b, .cells #[.int .i64 wh.length, .slice ac code.length cc, .slice wa wh.length wc] 139), (1, ac.map (·.block), Row 50 code j)]
      (fun v G' Ho => G' = G ∧ ∃ (a' : Option Addr) (c' : Nat) (j' : List Value) (th : List Bool) (cd : List Sl.Instr) (tb : Nat), th = raisedT wh.length (bezS (wh[k.toNat]?.getD default).a (wh[k.toNat]?.getD default).b) (bezT (wh[k.toNat]?.getD default).a (wh[k.toNat]?.getD default).b) e ∧
        cd = code ++ raisedI wh.length (bezS (wh[k.toNat]?.getD default).a (wh[k.toNat]?.getD default).b) (bezT (wh[k.toNat]?.getD default).a (wh[k.toNat]?.getD default).b) k e ∧ v = .slice (some ⟨tb, 0, none⟩) th.length th.length ∧ OwnA a' c' cd j' ∧ OwnA (some ⟨tb, 0, none⟩) th.length th [] ∧
        Ho = [(0, some b, .cells #[.int .i64 wh.length, .slice a' cd.length c', .slice wa wh.length wc] 139), (1, a'.map (·.block), Row 50 cd j'), (2, some tb, Row 4 th [])]) := by
  have hl0 : code.length ≤ 1048576 := by rw [List.length_append] at hl; omega
  obtain ⟨hnk, hzk⟩ := hok
  obtain ⟨_, b2, _, _⟩ := bez_facts hnk hzk
  refine Does.enter Tryz.func122 rfl Tryz.ntmps122 rfl (fun w => ?_)
  refine Wc.gl 12 [0] ?_
  refine Wl.q rfl (Qy.at (α := R2) T.sl22 rfl rfl (by assumption) (by omega)) ?_
  refine Wl.q rfl (Qy.loadsG T.agg34 rfl (Arr.elem (by assumption) (by omega)) rfl) ?_
  refine Wl.call0 rfl T.fn83 rfl (c83 _ _ _ (by assumption) (by assumption)) ?_
  refine Wl.gl 15 [] ?_
  refine Wl.make (α := Bool) 2 rfl T.sl170 T.el4 rfl rfl (by omega) (by omega) (fun b1 => ?_)
  refine Wl.gl 6 [] ?_
  generalize hu : bezS (wh[k.toNat]?.getD default).a (wh[k.toNat]?.getD default).b = u at *
  generalize hv : bezT (wh[k.toNat]?.getD default).a (wh[k.toNat]?.getD default).b = v at *
  have hR1 : List.replicate ((e : Int) + 1).toNat (default : Bool) = List.replicate (e + 1) false := by rw [show ((e : Int) + 1).toNat = e + 1 by omega]; rfl
  generalize hR0 : List.replicate ((e : Int) + 1).toNat (default : Bool) = R0 at *
  have hR0l : R0.length = e + 1 := by rw [hR1, List.length_replicate]
  have hoR : OwnA (some ⟨b1, 0, none⟩) R0.length R0 [] := OwnA.made (by simp only [maxLen]; omega)
  refine Wl.q rfl (Qy.indexAddrO (α := Bool) T.sl170 rfl rfl (by assumption) (by omega)) ?_
  refine Wl.setO (z := _) 2 T.size4 rfl rfl rfl (by assumption) (by omega) rfl (fun ho1 => ?_)
  refine Wl.gl 6 [] ?_
  refine Wl.call1 0 rfl T.fn123 rfl (c123 _ b _ _ _ _ (by omega) (by omega)) (tags_of ⟨rfl, trivial⟩) ?_
  refine Wl.q rfl (Qy.move rfl) ?_
  refine Wl.call 0 rfl T.fn86 rfl (c86 _ b _ ac cc code j wa _ wc _ _ _ ho hl0) (tags_of ⟨rfl, rfl, trivial⟩) (fun v1 G1 Ho1 hle1 hp => ?_)
  obtain ⟨rfl, rfl, a1, d1, j1, ho1, rfl⟩ := hp
  refine Wl.gc 9 [] ?_
  have hTg : code ++ raisedI wh.length u v k e = (code ++ timesI (2 * (wh.length : Int) + 0) k 1) ++ (rOut wh.length u v e 1 (R0.set (Int.toNat 0) true)).2 := by
    unfold raisedI
    rw [Int.add_zero, hR1, List.append_assoc]; rfl
  have hTh : raisedT wh.length u v e = (rOut wh.length u v e 1 (R0.set (Int.toNat 0) true)).1 := by unfold raisedT; rw [hR1]; rfl
  generalize code ++ raisedI wh.length u v k e = Tg at *
  generalize raisedT wh.length u v e = Th at *
  refine Wc.re 11 rfl (show _ = Value.slice (some ⟨b1, 0, none⟩) (R0.set (Int.toNat 0) true).length (e + 1) by rw [List.length_set, hR0l]) ?_
  refine Wc.loop (ι := Nat × List Bool × List Sl.Instr × (Option Addr × Nat × List Value)) (fun (d, th, cd, (o, dd, q)) => ([(12, .int .i64 (d : Int)), (11, .slice (some ⟨b1, 0, none⟩) th.length (e + 1)), (9, Go.Value.int Go.IntKind.i64 v), (8, Go.Value.int Go.IntKind.i64 u), (6, Go.Value.slice Option.none 0 0), (0, Go.Value.pointer (Option.some (Go.Addr.mk b 0 Option.none))), (2, Go.Value.int Go.IntKind.i64 (↑e : Int))], [(0, some b, .cells #[.int .i64 wh.length, .slice o cd.length dd, .slice wa wh.length wc] 139), (1, o.map (·.block), Row 50 cd q), (2, some b1, Row 4 th [])])) (fun (d, th, cd, (o, dd, q)) => (1 ≤ d ∧ d ≤ e + 1) ∧ th.length = e + 1 ∧ (rOut wh.length u v (e + 1 - d) d th).1 = Th ∧ cd ++ (rOut wh.length u v (e + 1 - d) d th).2 = Tg ∧ OwnA (some ⟨b1, 0, none⟩) (e + 1) th [] ∧ OwnA o dd cd q) (fun (d, th, cd, (o, dd, q)) => e + 1 - d) ((1, _, code ++ timesI (2 * (wh.length : Int) + 0) k 1, (a1, d1, j1))) (⟨by omega, by rw [List.length_set, hR0l], hTh.symm, hTg.symm, by rw [← hR0l]; assumption, ho1⟩) ⟨rfl, rfl, rfl, rfl, rfl, rfl, rfl, trivial⟩ ⟨rfl, rfl, rfl, trivial⟩ (fun ⟨d, th, cd, (o, dd, q)⟩ => fun (hk : (1 ≤ d ∧ d ≤ e + 1) ∧ th.length = e + 1 ∧ (rOut wh.length u v (e + 1 - d) d th).1 = Th ∧ cd ++ (rOut wh.length u v (e + 1 - d) d th).2 = Tg ∧ OwnA (some ⟨b1, 0, none⟩) (e + 1) th [] ∧ OwnA o dd cd q) => ?_)
  obtain ⟨⟨hd1, hd2⟩, hth, hT1, hT2, hoT, hoC⟩ := hk
  have hcl : cd.length ≤ 1048576 := by rw [← hT2, List.length_append] at hl; omega
  rcases Nat.lt_or_ge d (e + 1) with hde | hde
  · have e1 : e + 1 - d = (e + 1 - (d + 1)) + 1 := by omega
    rw [e1] at hT1 hT2
    unfold rOut at hT1 hT2
    simp only at hT1 hT2
    refine Wc.gc 20 [1] ?_
    generalize hA1 : (rIn wh.length u v (d + 1) th).1 = A1 at *
    generalize hB1 : (rIn wh.length u v (d + 1) th).2 = B1 at *
    have hcb : (cd ++ B1).length ≤ 1048576 := by rw [← hT2, ← List.append_assoc, List.length_append] at hl; omega
    refine Wc.re 13 rfl (show _ = Value.int .i64 (((d + 1 : Nat) : Int) - 1) by congr 1; omega) ?_
    refine Wc.loop (ι := Nat × List Bool × List Sl.Instr × (Option Addr × Nat × List Value)) (fun (m, ti, ci, (o, dd, q)) => ([(13, .int .i64 ((m : Int) - 1)), (2, .int .i64 (e : Int)), (12, .int .i64 (d : Int)), (11, .slice (some ⟨b1, 0, none⟩) ti.length (e + 1)), (9, Go.Value.int Go.IntKind.i64 v), (8, Go.Value.int Go.IntKind.i64 u), (6, Go.Value.slice Option.none 0 0), (0, Go.Value.pointer (Option.some (Go.Addr.mk b 0 Option.none)))], [(0, some b, .cells #[.int .i64 wh.length, .slice o ci.length dd, .slice wa wh.length wc] 139), (1, o.map (·.block), Row 50 ci q), (2, some b1, Row 4 ti [])])) (fun (m, ti, ci, (o, dd, q)) => m ≤ d + 1 ∧ ti.length = e + 1 ∧ (rIn wh.length u v m ti).1 = A1 ∧ ci ++ (rIn wh.length u v m ti).2 = cd ++ B1 ∧ OwnA (some ⟨b1, 0, none⟩) (e + 1) ti [] ∧ OwnA o dd ci q) (fun (m, ti, ci, (o, dd, q)) => m) ((d + 1, th, cd, (o, dd, q))) (⟨Nat.le_refl _, hth, hA1, by rw [hB1], hoT, hoC⟩) ⟨rfl, rfl, rfl, rfl, rfl, rfl, rfl, rfl, trivial⟩ ⟨rfl, rfl, rfl, trivial⟩ (fun ⟨m, ti, ci, (o, dd, q)⟩ => fun (hk : m ≤ d + 1 ∧ ti.length = e + 1 ∧ (rIn wh.length u v m ti).1 = A1 ∧ ci ++ (rIn wh.length u v m ti).2 = cd ++ B1 ∧ OwnA (some ⟨b1, 0, none⟩) (e + 1) ti [] ∧ OwnA o dd ci q) => ?_)
    obtain ⟨hm1, hti, hS1, hS2, hoTi, hoCi⟩ := hk
    have hcil : ci.length ≤ 1048576 := by rw [← hS2, List.length_append] at hcb; omega
    match m, hm1, hS1, hS2 with
    | 0, hm1, hS1, hS2 =>
      have hS1 : ti = A1 := hS1
      have hS2 : ci = cd ++ B1 := by rw [← hS2]; exact (List.append_nil _).symm
      refine Wc.ga 19 [0] ?_
      refine Ar.re 12 rfl (show _ = Value.int .i64 ((d + 1 : Nat) : Int) from rfl) ?_
      refine Ar.again ((d + 1, ti, ci, (o, dd, q))) ?_ ?_ rfl ⟨rfl, rfl, rfl, rfl, rfl, rfl, rfl, trivial⟩ ⟨rfl, rfl, rfl, trivial⟩
      · refine ⟨by omega, hti, ?_, ?_, hoTi, hoCi⟩
        · rw [hS1]; exact hT1
        · rw [hS1, hS2, List.append_assoc]; exact hT2
      · show e + 1 - (d + 1) < e + 1 - d
        omega
    | m + 1, hm1, hS1, hS2 =>
      refine Wc.re 13 rfl (show _ = Value.int .i64 (m : Int) by congr 1; omega) ?_
      unfold rIn at hS1 hS2
      simp only at hS1 hS2
      have hdf : ∀ z : Nat, ti[z]?.getD default = ti[z]?.getD false := fun z => rfl
      have hlowF : (¬ (0 < m ∧ ti[m - 1]?.getD false = true ∧ u ≠ 0)) → (decide (0 < m) && ti[m - 1]?.getD false && decide (u ≠ 0)) = false := fun h => by
        cases hx : ti[m - 1]?.getD false <;> by_cases h1 : 0 < m <;> by_cases h2 : u ≠ 0 <;> simp [h1, h2]
        exact h ⟨h1, hx, h2⟩
      have hownF : (¬ (ti[m]?.getD false = true ∧ v ≠ 0)) → (ti[m]?.getD false && decide (v ≠ 0)) = false := fun h => by
        cases hx : ti[m]?.getD false <;> by_cases h2 : v ≠ 0 <;> simp [h2]
        exact h ⟨hx, h2⟩
      have hownT : (ti[m]?.getD false = true ∧ v ≠ 0) → (ti[m]?.getD false && decide (v ≠ 0)) = true := fun h => by rw [h.1, decide_eq_true h.2]; rfl
      have hlowT : (0 < m ∧ ti[m - 1]?.getD false = true ∧ u ≠ 0) → (decide (0 < m) && ti[m - 1]?.getD false && decide (u ≠ 0)) = true := fun h => by rw [h.2.1, decide_eq_true h.1, decide_eq_true h.2.2]; rfl
      have hbd : (ci ++ (rStep wh.length u v ti m).2).length ≤ 1048576 := by
        have : (ci ++ ((rStep wh.length u v ti m).2 ++ (rIn wh.length u v m (rStep wh.length u v ti m).1).2)).length ≤ 1048576 := by rw [hS2]; exact hcb
        rw [List.length_append, List.length_append] at this
        rw [List.length_append]; omega
      have hoN : ∀ {x : Bool}, OwnA (some ⟨b1, 0, none⟩) (e + 1) (ti.set m x) [] := hoTi.elim (fun h => by cases h.1) (fun ⟨b, h1, h2, h3, h4⟩ => .inr ⟨b, h1, by rw [List.length_set]; exact h2, by rw [List.length_set]; exact h3, h4⟩)
      rcases Nat.eq_zero_or_pos m with hm0 | hm0
      · by_cases hO : ti[(m : Int).toNat]?.getD default = true ∧ v ≠ 0
        · have hrs := rStep_eq (n := wh.length) (hlowF (fun h => by omega)) (hownT hO)
          rw [hrs] at hbd
          refine Wc.gl 17 [1] ?_
          refine Wl.no 51 rfl (by first | assumption | omega) ?_
          refine Wl.gl 17 [] ?_
          refine Wl.q rfl (Qy.indexAddrO (α := Bool) T.sl170 rfl rfl (by assumption) (by omega)) ?_
          refine Wl.q rfl (Qy.loadO 2 0 T.one4 rfl rfl (by assumption) (by omega) rfl rfl) ?_
          refine Wl.q rfl (Qy.move rfl) ?_
          refine Wl.re 66 rfl (Go.Sl.boolDec _) ?_
          apply Wl.joinAnd 3 66 69 rfl
          intro hg1
          refine Wl.ll0 5 [] ?_
          exact Wl.back 3 0 rfl rfl rfl rfl rfl
          intro hg1
          refine Wl.ll0 3 [] ?_
          exact Wl.back 3 0 rfl rfl rfl rfl rfl
          refine Wl.gl 18 [0] ?_
          refine Wl.yes 82 rfl (by first | assumption | omega) ?_
          refine Wl.gl 18 [0, 1] ?_
          refine Wl.call1 0 rfl T.fn123 rfl (c123 _ b _ _ _ _ (by omega) (by omega)) (tags_of ⟨rfl, trivial⟩) ?_
          refine Wl.ll0 2 [] ?_
          refine Wl.call1 0 rfl T.fn123 rfl (c123 _ b _ _ _ _ (by omega) (by omega)) (tags_of ⟨rfl, trivial⟩) ?_
          refine Wl.q rfl (Qy.move rfl) ?_
          refine Wl.call 0 rfl T.fn86 rfl (c86 _ b _ o dd ci q wa _ wc _ _ _ hoCi hcil) (tags_of ⟨rfl, rfl, trivial⟩) (fun v2 G2 Ho2 hle2 hp => ?_)
          obtain ⟨rfl, rfl, a2, d2, j2, ho2, rfl⟩ := hp
          refine Wl.gl 8 [] ?_
          refine Wl.yes 127 rfl (by first | assumption | omega) ?_
          refine Wl.ll0 2 [] ?_
          refine Wl.q rfl (Qy.indexAddrO (α := Bool) T.sl170 rfl rfl (by assumption) (by omega)) ?_
          refine Wl.setO (z := _) 2 T.size4 rfl rfl rfl (by assumption) (by omega) rfl (fun ho3 => ?_)
          refine Wl.ga 8 [] ?_
          refine Ar.reH 2 (Row 4 (ti.set m (true || false)) []) rfl (by first | rfl | (rw [Int.toNat_natCast]; first | rfl | (rw [decide_eq_false hL]; rfl) | (rw [decide_eq_true hL]; rfl) | (rw [decide_eq_false hO]; rfl) | (rw [decide_eq_true hO]; rfl))) ?_
          refine Ar.re 13 rfl (show _ = Value.int .i64 ((m : Int) - 1) from rfl) ?_
          refine Ar.re 11 rfl (show _ = Value.slice (some ⟨b1, 0, none⟩) (ti.set m (true || false)).length (e + 1) by rw [List.length_set]) ?_
          refine Ar.again ((m, ti.set m (true || false), ci ++ timesI (2 * (wh.length : Int) + (m : Int)) (2 * (wh.length : Int) + (m : Int)) v, (a2, d2, j2))) ?_ ?_ rfl ⟨rfl, rfl, rfl, rfl, rfl, rfl, rfl, rfl, trivial⟩ ⟨rfl, rfl, rfl, trivial⟩
          · refine ⟨by omega, by rw [List.length_set]; exact hti, ?_, ?_, hoN, ho2⟩
            · rw [← hS1, hrs]
            · rw [← hS2, hrs]
              simp
          · show m < m + 1
            omega
        · have hrs := rStep_eq (n := wh.length) (hlowF (fun h => by omega)) (hownF hO)
          refine Wc.gl 17 [1] ?_
          refine Wl.no 51 rfl (by first | assumption | omega) ?_
          refine Wl.gl 17 [] ?_
          refine Wl.q rfl (Qy.indexAddrO (α := Bool) T.sl170 rfl rfl (by assumption) (by omega)) ?_
          refine Wl.q rfl (Qy.loadO 2 0 T.one4 rfl rfl (by assumption) (by omega) rfl rfl) ?_
          refine Wl.q rfl (Qy.move rfl) ?_
          refine Wl.re 66 rfl (Go.Sl.boolDec _) ?_
          apply Wl.joinAnd 3 66 69 rfl
          intro hg1
          refine Wl.ll0 5 [] ?_
          exact Wl.back 3 0 rfl rfl rfl rfl rfl
          intro hg1
          refine Wl.ll0 3 [] ?_
          exact Wl.back 3 0 rfl rfl rfl rfl rfl
          refine Wl.gl 18 [0] ?_
          refine Wl.no 82 rfl (by first | assumption | omega) ?_
          refine Wl.gl 28 [0, 0, 0] ?_
          refine Wl.no 127 rfl (by first | assumption | omega) ?_
          refine Wl.ll0 3 [] ?_
          refine Wl.q rfl (Qy.indexAddrO (α := Bool) T.sl170 rfl rfl (by assumption) (by omega)) ?_
          refine Wl.setO (z := _) 2 T.size4 rfl rfl rfl (by assumption) (by omega) rfl (fun ho2 => ?_)
          refine Wl.ga 8 [] ?_
          refine Ar.reH 2 (Row 4 (ti.set m (false || false)) []) rfl (by first | rfl | (rw [Int.toNat_natCast]; first | rfl | (rw [decide_eq_false hL]; rfl) | (rw [decide_eq_true hL]; rfl) | (rw [decide_eq_false hO]; rfl) | (rw [decide_eq_true hO]; rfl))) ?_
          refine Ar.re 13 rfl (show _ = Value.int .i64 ((m : Int) - 1) from rfl) ?_
          refine Ar.re 11 rfl (show _ = Value.slice (some ⟨b1, 0, none⟩) (ti.set m (false || false)).length (e + 1) by rw [List.length_set]) ?_
          refine Ar.again ((m, ti.set m (false || false), ci, (o, dd, q))) ?_ ?_ rfl ⟨rfl, rfl, rfl, rfl, rfl, rfl, rfl, rfl, trivial⟩ ⟨rfl, rfl, rfl, trivial⟩
          · refine ⟨by omega, by rw [List.length_set]; exact hti, ?_, ?_, hoN, hoCi⟩
            · rw [← hS1, hrs]
            · rw [← hS2, hrs]
              simp
          · show m < m + 1
            omega
      · have hm1e : ((m : Int) - 1).toNat = m - 1 := by omega
        by_cases hL : ti[((m : Int) - 1).toNat]?.getD default = true ∧ u ≠ 0
        · have hlow := hlowT ⟨hm0, by rw [← hm1e]; exact hL.1, hL.2⟩
          by_cases hO : ti[(m : Int).toNat]?.getD default = true ∧ v ≠ 0
          · have hOL : (ti[(m : Int).toNat]?.getD default = true ∧ v ≠ 0) ∧ ti[((m : Int) - 1).toNat]?.getD default = true ∧ u ≠ 0 := ⟨hO, hL⟩
            have hrs := rStep_eq (n := wh.length) hlow (hownT hO)
            rw [hrs] at hbd
            have hb1 : ((ci ++ timesI (3 * (wh.length : Int)) (2 * (wh.length : Int) + ((m : Int) - 1)) u) ++ timesI (2 * (wh.length : Int) + (m : Int)) (2 * (wh.length : Int) + (m : Int)) v).length ≤ 1048576 := by
              simp only [Bool.and_self, if_true, List.length_append, List.length_singleton] at hbd
              simp only [List.length_append]
              omega
            have hb0 : (ci ++ timesI (3 * (wh.length : Int)) (2 * (wh.length : Int) + ((m : Int) - 1)) u).length ≤ 1048576 := by rw [List.length_append] at hb1; omega
            refine Wc.gl 17 [1] ?_
            refine Wl.yes 51 rfl (by first | assumption | omega) ?_
            refine Wl.ll0 7 [] ?_
            refine Wl.q rfl (Qy.indexAddrO (α := Bool) T.sl170 rfl rfl (by assumption) (by omega)) ?_
            refine Wl.want rfl rfl ?_
            refine Wl.q rfl (Qy.loadO 2 0 T.one4 rfl rfl (by assumption) (by omega) rfl rfl) ?_
            refine Wl.ll0 2 [] ?_
            refine Wl.re 58 rfl (Go.Sl.boolDec _) ?_
            apply Wl.joinAnd 3 58 61 rfl
            intro hg1
            refine Wl.ll0 5 [] ?_
            exact Wl.back 3 0 rfl rfl rfl rfl rfl
            intro hg1
            refine Wl.ll0 3 [] ?_
            exact Wl.back 3 0 rfl rfl rfl rfl rfl
            refine Wl.gl 7 [] ?_
            refine Wl.q rfl (Qy.indexAddrO (α := Bool) T.sl170 rfl rfl (by assumption) (by omega)) ?_
            refine Wl.q rfl (Qy.loadO 2 0 T.one4 rfl rfl (by assumption) (by omega) rfl rfl) ?_
            refine Wl.q rfl (Qy.move rfl) ?_
            refine Wl.re 66 rfl (Go.Sl.boolDec _) ?_
            apply Wl.joinAnd 3 66 69 rfl
            intro hg1
            refine Wl.ll0 5 [] ?_
            exact Wl.back 3 0 rfl rfl rfl rfl rfl
            intro hg1
            refine Wl.ll0 3 [] ?_
            exact Wl.back 3 0 rfl rfl rfl rfl rfl
            refine Wl.gl 13 [1] ?_
            refine Wl.call1 0 rfl T.fn121 rfl (c121 _ b _ _ _ (by omega)) (tags_of ⟨rfl, trivial⟩) ?_
            refine Wl.ll0 3 [] ?_
            refine Wl.call1 0 rfl T.fn123 rfl (c123 _ b _ _ _ _ (by omega) (by omega)) (tags_of ⟨rfl, trivial⟩) ?_
            refine Wl.q rfl (Qy.move rfl) ?_
            refine Wl.call 0 rfl T.fn86 rfl (c86 _ b _ o dd ci q wa _ wc _ _ _ hoCi hcil) (tags_of ⟨rfl, rfl, trivial⟩) (fun v2 G2 Ho2 hle2 hp => ?_)
            obtain ⟨rfl, rfl, a2, d2, j2, ho2, rfl⟩ := hp
            refine Wl.gl 8 [] ?_
            refine Wl.yes 82 rfl (by first | assumption | omega) ?_
            refine Wl.gl 12 [1] ?_
            refine Wl.call1 0 rfl T.fn123 rfl (c123 _ b _ _ _ _ (by omega) (by omega)) (tags_of ⟨rfl, trivial⟩) ?_
            refine Wl.ll0 2 [] ?_
            refine Wl.call1 0 rfl T.fn123 rfl (c123 _ b _ _ _ _ (by omega) (by omega)) (tags_of ⟨rfl, trivial⟩) ?_
            refine Wl.q rfl (Qy.move rfl) ?_
            refine Wl.call 0 rfl T.fn86 rfl (c86 _ b _ a2 d2 (ci ++ timesI (3 * (wh.length : Int)) (2 * (wh.length : Int) + ((m : Int) - 1)) u) j2 wa _ wc _ _ _ ho2 hb0) (tags_of ⟨rfl, rfl, trivial⟩) (fun v3 G3 Ho3 hle3 hp => ?_)
            obtain ⟨rfl, rfl, a3, d3, j3, ho3, rfl⟩ := hp
            refine Wl.gl 6 [] ?_
            refine Wl.call1 0 rfl T.fn123 rfl (c123 _ b _ _ _ _ (by omega) (by omega)) (tags_of ⟨rfl, trivial⟩) ?_
            refine Wl.ll0 2 [] ?_
            refine Wl.call1 0 rfl T.fn123 rfl (c123 _ b _ _ _ _ (by omega) (by omega)) (tags_of ⟨rfl, trivial⟩) ?_
            refine Wl.q rfl (Qy.move rfl) ?_
            refine Wl.call1 0 rfl T.fn121 rfl (c121 _ b _ _ _ (by omega)) (tags_of ⟨rfl, trivial⟩) ?_
            refine Wl.call 0 rfl T.fn118 rfl (c118 _ b _ a3 d3 ((ci ++ timesI (3 * (wh.length : Int)) (2 * (wh.length : Int) + ((m : Int) - 1)) u) ++ timesI (2 * (wh.length : Int) + (m : Int)) (2 * (wh.length : Int) + (m : Int)) v) j3 wa _ wc _ _ _ _ _ ho3 hb1) (tags_of ⟨rfl, rfl, trivial⟩) (fun v4 G4 Ho4 hle4 hp => ?_)
            obtain ⟨rfl, rfl, a4, d4, j4, ho4, rfl⟩ := hp
            refine Wl.gl 8 [] ?_
            refine Wl.yes 127 rfl (by first | assumption | omega) ?_
            refine Wl.ll0 2 [] ?_
            refine Wl.q rfl (Qy.indexAddrO (α := Bool) T.sl170 rfl rfl (by assumption) (by omega)) ?_
            refine Wl.setO (z := _) 2 T.size4 rfl rfl rfl (by assumption) (by omega) rfl (fun ho5 => ?_)
            refine Wl.ga 8 [] ?_
            refine Ar.reH 2 (Row 4 (ti.set m (true || true)) []) rfl (by first | rfl | (rw [Int.toNat_natCast]; first | rfl | (rw [decide_eq_false hL]; rfl) | (rw [decide_eq_true hL]; rfl) | (rw [decide_eq_false hO]; rfl) | (rw [decide_eq_true hO]; rfl))) ?_
            refine Ar.re 13 rfl (show _ = Value.int .i64 ((m : Int) - 1) from rfl) ?_
            refine Ar.re 11 rfl (show _ = Value.slice (some ⟨b1, 0, none⟩) (ti.set m (true || true)).length (e + 1) by rw [List.length_set]) ?_
            refine Ar.again ((m, ti.set m (true || true), ((ci ++ timesI (3 * (wh.length : Int)) (2 * (wh.length : Int) + ((m : Int) - 1)) u) ++ timesI (2 * (wh.length : Int) + (m : Int)) (2 * (wh.length : Int) + (m : Int)) v) ++ [(⟨3, 2 * (wh.length : Int) + (m : Int), 2 * (wh.length : Int) + (m : Int), 3 * (wh.length : Int), 0⟩ : Sl.Instr)], (a4, d4, j4))) ?_ ?_ rfl ⟨rfl, rfl, rfl, rfl, rfl, rfl, rfl, rfl, trivial⟩ ⟨rfl, rfl, rfl, trivial⟩
            · refine ⟨by omega, by rw [List.length_set]; exact hti, ?_, ?_, hoN, ho4⟩
              · rw [← hS1, hrs]
              · rw [← hS2, hrs]
                simp
            · show m < m + 1
              omega
          · have hOL : ¬ ((ti[(m : Int).toNat]?.getD default = true ∧ v ≠ 0) ∧ ti[((m : Int) - 1).toNat]?.getD default = true ∧ u ≠ 0) := fun h => hO h.1
            have hrs := rStep_eq (n := wh.length) hlow (hownF hO)
            rw [hrs] at hbd
            have hb0 : (ci ++ timesI (3 * (wh.length : Int)) (2 * (wh.length : Int) + ((m : Int) - 1)) u).length ≤ 1048576 := by
              simp only [if_true, List.length_append] at hbd
              simp only [List.length_append]
              omega
            refine Wc.gl 17 [1] ?_
            refine Wl.yes 51 rfl (by first | assumption | omega) ?_
            refine Wl.ll0 7 [] ?_
            refine Wl.q rfl (Qy.indexAddrO (α := Bool) T.sl170 rfl rfl (by assumption) (by omega)) ?_
            refine Wl.want rfl rfl ?_
            refine Wl.q rfl (Qy.loadO 2 0 T.one4 rfl rfl (by assumption) (by omega) rfl rfl) ?_
            refine Wl.ll0 2 [] ?_
            refine Wl.re 58 rfl (Go.Sl.boolDec _) ?_
            apply Wl.joinAnd 3 58 61 rfl
            intro hg1
            refine Wl.ll0 5 [] ?_
            exact Wl.back 3 0 rfl rfl rfl rfl rfl
            intro hg1
            refine Wl.ll0 3 [] ?_
            exact Wl.back 3 0 rfl rfl rfl rfl rfl
            refine Wl.gl 7 [] ?_
            refine Wl.q rfl (Qy.indexAddrO (α := Bool) T.sl170 rfl rfl (by assumption) (by omega)) ?_
            refine Wl.q rfl (Qy.loadO 2 0 T.one4 rfl rfl (by assumption) (by omega) rfl rfl) ?_
            refine Wl.q rfl (Qy.move rfl) ?_
            refine Wl.re 66 rfl (Go.Sl.boolDec _) ?_
            apply Wl.joinAnd 3 66 69 rfl
            intro hg1
            refine Wl.ll0 5 [] ?_
            exact Wl.back 3 0 rfl rfl rfl rfl rfl
            intro hg1
            refine Wl.ll0 3 [] ?_
            exact Wl.back 3 0 rfl rfl rfl rfl rfl
            refine Wl.gl 13 [1] ?_
            refine Wl.call1 0 rfl T.fn121 rfl (c121 _ b _ _ _ (by omega)) (tags_of ⟨rfl, trivial⟩) ?_
            refine Wl.ll0 3 [] ?_
            refine Wl.call1 0 rfl T.fn123 rfl (c123 _ b _ _ _ _ (by omega) (by omega)) (tags_of ⟨rfl, trivial⟩) ?_
            refine Wl.q rfl (Qy.move rfl) ?_
            refine Wl.call 0 rfl T.fn86 rfl (c86 _ b _ o dd ci q wa _ wc _ _ _ hoCi hcil) (tags_of ⟨rfl, rfl, trivial⟩) (fun v2 G2 Ho2 hle2 hp => ?_)
            obtain ⟨rfl, rfl, a2, d2, j2, ho2, rfl⟩ := hp
            refine Wl.gl 8 [] ?_
            refine Wl.no 82 rfl (by first | assumption | omega) ?_
            refine Wl.gl 24 [0, 0, 1] ?_
            refine Wl.call1 0 rfl T.fn123 rfl (c123 _ b _ _ _ _ (by omega) (by omega)) (tags_of ⟨rfl, trivial⟩) ?_
            refine Wl.q rfl (Qy.move rfl) ?_
            refine Wl.call1 0 rfl T.fn121 rfl (c121 _ b _ _ _ (by omega)) (tags_of ⟨rfl, trivial⟩) ?_
            refine Wl.call 0 rfl T.fn86 rfl (c86 _ b _ a2 d2 (ci ++ timesI (3 * (wh.length : Int)) (2 * (wh.length : Int) + ((m : Int) - 1)) u) j2 wa _ wc _ _ _ ho2 hb0) (tags_of ⟨rfl, rfl, trivial⟩) (fun v3 G3 Ho3 hle3 hp => ?_)
            obtain ⟨rfl, rfl, a3, d3, j3, ho3, rfl⟩ := hp
            refine Wl.gl 8 [] ?_
            refine Wl.no 127 rfl (by first | assumption | omega) ?_
            refine Wl.ll0 3 [] ?_
            refine Wl.q rfl (Qy.indexAddrO (α := Bool) T.sl170 rfl rfl (by assumption) (by omega)) ?_
            refine Wl.setO (z := _) 2 T.size4 rfl rfl rfl (by assumption) (by omega) rfl (fun ho4 => ?_)
            refine Wl.ga 8 [] ?_
            refine Ar.reH 2 (Row 4 (ti.set m (false || true)) []) rfl (by first | rfl | (rw [Int.toNat_natCast]; first | rfl | (rw [decide_eq_false hL]; rfl) | (rw [decide_eq_true hL]; rfl) | (rw [decide_eq_false hO]; rfl) | (rw [decide_eq_true hO]; rfl))) ?_
            refine Ar.re 13 rfl (show _ = Value.int .i64 ((m : Int) - 1) from rfl) ?_
            refine Ar.re 11 rfl (show _ = Value.slice (some ⟨b1, 0, none⟩) (ti.set m (false || true)).length (e + 1) by rw [List.length_set]) ?_
            refine Ar.again ((m, ti.set m (false || true), (ci ++ timesI (3 * (wh.length : Int)) (2 * (wh.length : Int) + ((m : Int) - 1)) u) ++ timesI (2 * (wh.length : Int) + (m : Int)) (3 * (wh.length : Int)) 1, (a3, d3, j3))) ?_ ?_ rfl ⟨rfl, rfl, rfl, rfl, rfl, rfl, rfl, rfl, trivial⟩ ⟨rfl, rfl, rfl, trivial⟩
            · refine ⟨by omega, by rw [List.length_set]; exact hti, ?_, ?_, hoN, ho3⟩
              · rw [← hS1, hrs]
              · rw [← hS2, hrs]
                simp
            · show m < m + 1
              omega
        · have hOL : ¬ ((ti[(m : Int).toNat]?.getD default = true ∧ v ≠ 0) ∧ ti[((m : Int) - 1).toNat]?.getD default = true ∧ u ≠ 0) := fun h => hL h.2
          have hlow := hlowF (fun h => hL ⟨by rw [hm1e]; exact h.2.1, h.2.2⟩)
          by_cases hO : ti[(m : Int).toNat]?.getD default = true ∧ v ≠ 0
          · have hrs := rStep_eq (n := wh.length) hlow (hownT hO)
            rw [hrs] at hbd
            refine Wc.gl 17 [1] ?_
            refine Wl.yes 51 rfl (by first | assumption | omega) ?_
            refine Wl.ll0 7 [] ?_
            refine Wl.q rfl (Qy.indexAddrO (α := Bool) T.sl170 rfl rfl (by assumption) (by omega)) ?_
            refine Wl.want rfl rfl ?_
            refine Wl.q rfl (Qy.loadO 2 0 T.one4 rfl rfl (by assumption) (by omega) rfl rfl) ?_
            refine Wl.ll0 2 [] ?_
            refine Wl.re 58 rfl (Go.Sl.boolDec _) ?_
            apply Wl.joinAnd 3 58 61 rfl
            intro hg1
            refine Wl.ll0 5 [] ?_
            exact Wl.back 3 0 rfl rfl rfl rfl rfl
            intro hg1
            refine Wl.ll0 3 [] ?_
            exact Wl.back 3 0 rfl rfl rfl rfl rfl
            refine Wl.gl 7 [] ?_
            refine Wl.q rfl (Qy.indexAddrO (α := Bool) T.sl170 rfl rfl (by assumption) (by omega)) ?_
            refine Wl.q rfl (Qy.loadO 2 0 T.one4 rfl rfl (by assumption) (by omega) rfl rfl) ?_
            refine Wl.q rfl (Qy.move rfl) ?_
            refine Wl.re 66 rfl (Go.Sl.boolDec _) ?_
            apply Wl.joinAnd 3 66 69 rfl
            intro hg1
            refine Wl.ll0 5 [] ?_
            exact Wl.back 3 0 rfl rfl rfl rfl rfl
            intro hg1
            refine Wl.ll0 3 [] ?_
            exact Wl.back 3 0 rfl rfl rfl rfl rfl
            refine Wl.gl 18 [0] ?_
            refine Wl.yes 82 rfl (by first | assumption | omega) ?_
            refine Wl.gl 18 [0, 1] ?_
            refine Wl.call1 0 rfl T.fn123 rfl (c123 _ b _ _ _ _ (by omega) (by omega)) (tags_of ⟨rfl, trivial⟩) ?_
            refine Wl.ll0 2 [] ?_
            refine Wl.call1 0 rfl T.fn123 rfl (c123 _ b _ _ _ _ (by omega) (by omega)) (tags_of ⟨rfl, trivial⟩) ?_
            refine Wl.q rfl (Qy.move rfl) ?_
            refine Wl.call 0 rfl T.fn86 rfl (c86 _ b _ o dd ci q wa _ wc _ _ _ hoCi hcil) (tags_of ⟨rfl, rfl, trivial⟩) (fun v2 G2 Ho2 hle2 hp => ?_)
            obtain ⟨rfl, rfl, a2, d2, j2, ho2, rfl⟩ := hp
            refine Wl.gl 8 [] ?_
            refine Wl.yes 127 rfl (by first | assumption | omega) ?_
            refine Wl.ll0 2 [] ?_
            refine Wl.q rfl (Qy.indexAddrO (α := Bool) T.sl170 rfl rfl (by assumption) (by omega)) ?_
            refine Wl.setO (z := _) 2 T.size4 rfl rfl rfl (by assumption) (by omega) rfl (fun ho3 => ?_)
            refine Wl.ga 8 [] ?_
            refine Ar.reH 2 (Row 4 (ti.set m (true || false)) []) rfl (by first | rfl | (rw [Int.toNat_natCast]; first | rfl | (rw [decide_eq_false hL]; rfl) | (rw [decide_eq_true hL]; rfl) | (rw [decide_eq_false hO]; rfl) | (rw [decide_eq_true hO]; rfl))) ?_
            refine Ar.re 13 rfl (show _ = Value.int .i64 ((m : Int) - 1) from rfl) ?_
            refine Ar.re 11 rfl (show _ = Value.slice (some ⟨b1, 0, none⟩) (ti.set m (true || false)).length (e + 1) by rw [List.length_set]) ?_
            refine Ar.again ((m, ti.set m (true || false), ci ++ timesI (2 * (wh.length : Int) + (m : Int)) (2 * (wh.length : Int) + (m : Int)) v, (a2, d2, j2))) ?_ ?_ rfl ⟨rfl, rfl, rfl, rfl, rfl, rfl, rfl, rfl, trivial⟩ ⟨rfl, rfl, rfl, trivial⟩
            · refine ⟨by omega, by rw [List.length_set]; exact hti, ?_, ?_, hoN, ho2⟩
              · rw [← hS1, hrs]
              · rw [← hS2, hrs]
                simp
            · show m < m + 1
              omega
          · have hrs := rStep_eq (n := wh.length) hlow (hownF hO)
            refine Wc.gl 17 [1] ?_
            refine Wl.yes 51 rfl (by first | assumption | omega) ?_
            refine Wl.ll0 7 [] ?_
            refine Wl.q rfl (Qy.indexAddrO (α := Bool) T.sl170 rfl rfl (by assumption) (by omega)) ?_
            refine Wl.want rfl rfl ?_
            refine Wl.q rfl (Qy.loadO 2 0 T.one4 rfl rfl (by assumption) (by omega) rfl rfl) ?_
            refine Wl.ll0 2 [] ?_
            refine Wl.re 58 rfl (Go.Sl.boolDec _) ?_
            apply Wl.joinAnd 3 58 61 rfl
            intro hg1
            refine Wl.ll0 5 [] ?_
            exact Wl.back 3 0 rfl rfl rfl rfl rfl
            intro hg1
            refine Wl.ll0 3 [] ?_
            exact Wl.back 3 0 rfl rfl rfl rfl rfl
            refine Wl.gl 7 [] ?_
            refine Wl.q rfl (Qy.indexAddrO (α := Bool) T.sl170 rfl rfl (by assumption) (by omega)) ?_
            refine Wl.q rfl (Qy.loadO 2 0 T.one4 rfl rfl (by assumption) (by omega) rfl rfl) ?_
            refine Wl.q rfl (Qy.move rfl) ?_
            refine Wl.re 66 rfl (Go.Sl.boolDec _) ?_
            apply Wl.joinAnd 3 66 69 rfl
            intro hg1
            refine Wl.ll0 5 [] ?_
            exact Wl.back 3 0 rfl rfl rfl rfl rfl
            intro hg1
            refine Wl.ll0 3 [] ?_
            exact Wl.back 3 0 rfl rfl rfl rfl rfl
            refine Wl.gl 18 [0] ?_
            refine Wl.no 82 rfl (by first | assumption | omega) ?_
            refine Wl.gl 28 [0, 0, 0] ?_
            refine Wl.no 127 rfl (by first | assumption | omega) ?_
            refine Wl.ll0 3 [] ?_
            refine Wl.q rfl (Qy.indexAddrO (α := Bool) T.sl170 rfl rfl (by assumption) (by omega)) ?_
            refine Wl.setO (z := _) 2 T.size4 rfl rfl rfl (by assumption) (by omega) rfl (fun ho2 => ?_)
            refine Wl.ga 8 [] ?_
            refine Ar.reH 2 (Row 4 (ti.set m (false || false)) []) rfl (by first | rfl | (rw [Int.toNat_natCast]; first | rfl | (rw [decide_eq_false hL]; rfl) | (rw [decide_eq_true hL]; rfl) | (rw [decide_eq_false hO]; rfl) | (rw [decide_eq_true hO]; rfl))) ?_
            refine Ar.re 13 rfl (show _ = Value.int .i64 ((m : Int) - 1) from rfl) ?_
            refine Ar.re 11 rfl (show _ = Value.slice (some ⟨b1, 0, none⟩) (ti.set m (false || false)).length (e + 1) by rw [List.length_set]) ?_
            refine Ar.again ((m, ti.set m (false || false), ci, (o, dd, q))) ?_ ?_ rfl ⟨rfl, rfl, rfl, rfl, rfl, rfl, rfl, rfl, trivial⟩ ⟨rfl, rfl, rfl, trivial⟩
            · refine ⟨by omega, by rw [List.length_set]; exact hti, ?_, ?_, hoN, hoCi⟩
              · rw [← hS1, hrs]
              · rw [← hS2, hrs]
                simp
            · show m < m + 1
              omega
  · have hde : d = e + 1 := by omega
    subst hde
    rw [Nat.sub_self] at hT1 hT2
    have hT1 : th = Th := hT1
    have hT2 : cd = Tg := by rw [← hT2]; exact (List.append_nil _).symm
    subst hT1 hT2
    refine Wc.ga 21 [0] ?_
    refine Ar.out1 (by first | exact .inl rfl | exact .inr rfl) (Ho := [(0, some b, .cells #[.int .i64 wh.length, .slice o cd.length dd, .slice wa wh.length wc] 139), (1, o.map (·.block), Row 50 cd q), (2, some b1, Row 4 th [])]) rfl (.tmp rfl) ⟨rfl, rfl, rfl, trivial⟩ ?_
    exact ⟨rfl, o, dd, q, th, cd, b1, rfl, rfl, by rw [hth], hoC, by rw [hth]; exact hoT, rfl⟩
end Go.Proofs.YtelbhbbiejalhaaGreat
set_option maxRecDepth 100000
set_option linter.unusedVariables false
namespace Go.Proofs.YtelbhbbiejalhaaGreat
open Go Go.Sl
set_option maxHeartbeats 4000000
/-- what comes from the place m - 1 on -/
def bkM (n : Int) (p : R2) (e m : Nat) : List Sl.Instr := if m = e + 1 then backA n p e else bkIn n p m
theorem addAll_drop (n : Int) (th : List Bool) {t : Nat} (h : t < th.length) : addAll n (th.drop t) t = (if th[((t : Nat) : Int).toNat]?.getD default = true then [(⟨3, n + t, n + t, 2 * n + t, 0⟩ : Sl.Instr)] else []) ++ addAll n (th.drop (t + 1)) (t + 1) := by
  rw [List.drop_eq_getElem_cons h, Int.toNat_natCast, List.getElem?_eq_getElem h]; rfl
theorem c88 (G : Imm) (b : Nat) (ac : Option Addr) (cc : Nat) (code : List Sl.Instr) (j : List Value) (wa : Option Addr) (wc : Nat) (wh : List R2) (k : Int) (e : Nat) (ho : OwnA ac cc code j) (hw : Arr G wa wh)
    (hwl : wh.length ≤ 15) (hk : 0 ≤ k ∧ k < wh.length) (he1 : 1 ≤ e) (he : e < wh.length) (hok : okP (wh[k.toNat]?.getD default)) (hl : (code ++ backI wh.length wh k e).length ≤ 1048576) :
    Does Tryz.prog 88 [.pointer (some ⟨b, 0, none⟩), .int .i64 k, .int .i64 e] G [(0, some b, .cells #[.int .i64 wh.length, .slice ac code.length cc, .slice wa wh.length wc] 139), (1, ac.map (·.block), Row 50 code j)]
      (fun v G' Ho => v = .tuple #[] ∧ G' = G ∧ ∃ (a' : Option Addr) (c' : Nat) (j' : List Value), OwnA a' c' (code ++ backI wh.length wh k e) j' ∧ Ho = [(0, some b, .cells #[.int .i64 wh.length, .slice a' (code ++ backI wh.length wh k e).length c', .slice wa wh.length wc] 139), (1, a'.map (·.block), Row 50 (code ++ backI wh.length wh k e) j')]) := by
  have hl0 : code.length ≤ 1048576 := by rw [List.length_append] at hl; omega
  obtain ⟨hnk, hzk⟩ := hok
  have hnk2 := hnk
  unfold near at hnk2
  refine Does.enter Tryz.func88 rfl Tryz.ntmps88 rfl (fun w => ?_)
  refine Wc.gl 7 [0] ?_
  refine Wl.q rfl (Qy.at (α := R2) T.sl22 rfl rfl (by assumption) (by omega)) ?_
  refine Wl.q rfl (Qy.loadsG T.agg34 rfl (Arr.elem (by assumption) (by omega)) rfl) ?_
  refine Wl.alloc 2 rfl T.zero34 (fun b1 => ?_)
  refine Wl.gc 11 [2] ?_
  generalize hp : wh[k.toNat]?.getD default = p at *
  have hbI : backI wh.length wh k e = backA wh.length p e ++ (raisedI wh.length (bezS p.a p.b) (bezT p.a p.b) k e ++ addAll wh.length (raisedT wh.length (bezS p.a p.b) (bezT p.a p.b) e) 0) := by unfold backI ptW; rw [hp]
  rw [hbI] at hl
  have hlA : (code ++ backA wh.length p e).length ≤ 1048576 := by rw [← List.append_assoc, List.length_append] at hl; omega
  refine Wc.re 7 rfl (show _ = Value.int .i64 (((e + 1 : Nat) : Int) - 1) by congr 1; omega) ?_
  refine Wc.loop (ι := Nat × List Sl.Instr × (Option Addr × Nat × List Value)) (fun (m, cd, (o, d, q)) => ([(7, .int .i64 ((m : Int) - 1)), (1, .int .i64 k), (6, Go.Value.pointer (Option.some (Go.Addr.mk b1 0 Option.none))), (0, Go.Value.pointer (Option.some (Go.Addr.mk b 0 Option.none))), (2, Go.Value.int Go.IntKind.i64 (↑e : Int))], [(0, some b, .cells #[.int .i64 wh.length, .slice o cd.length d, .slice wa wh.length wc] 139), (1, o.map (·.block), Row 50 cd q), (2, Option.some b1, Go.Obj.cells (List.toArray (Go.Sl.Cells.enc p)) 34)])) (fun (m, cd, (o, d, q)) => m ≤ e + 1 ∧ cd ++ bkM wh.length p e m = code ++ backA wh.length p e ∧ OwnA o d cd q) (fun (m, cd, (o, d, q)) => m) ((e + 1, code, (ac, cc, j))) (⟨Nat.le_refl _, by unfold bkM; rw [if_pos rfl], ho⟩) ⟨rfl, rfl, rfl, rfl, rfl, trivial⟩ ⟨rfl, rfl, rfl, trivial⟩ (fun ⟨m, cd, (o, d, q)⟩ => fun (hk : m ≤ e + 1 ∧ cd ++ bkM wh.length p e m = code ++ backA wh.length p e ∧ OwnA o d cd q) => ?_)
  obtain ⟨hm1, hm2, hm3⟩ := hk
  have hcl : cd.length ≤ 1048576 := by rw [← hm2, List.length_append] at hlA; omega
  rcases Nat.eq_zero_or_pos m with hm0 | hm0
  · have hm2 : cd = code ++ backA wh.length p e := by
      rw [← hm2]; unfold bkM; rw [if_neg (by omega), hm0]; exact (List.append_nil _).symm
    have hl1 : (cd ++ raisedI wh.length (bezS (wh[k.toNat]?.getD default).a (wh[k.toNat]?.getD default).b) (bezT (wh[k.toNat]?.getD default).a (wh[k.toNat]?.getD default).b) k e).length ≤ 1048576 := by
      rw [hp, hm2, List.length_append, List.length_append]
      rw [List.length_append, List.length_append, List.length_append] at hl
      omega
    refine Wc.gl 18 [0] ?_
    refine Wl.call 0 rfl T.fn122 rfl (c122 _ b o d cd q wa wc wh k e hm3 (by assumption) hwl hk he (by rw [hp]; exact ⟨hnk, hzk⟩) hl1) (tags_of ⟨rfl, rfl, trivial⟩) (fun v1 G1 Ho1 hle1 hp => ?_)
    obtain ⟨rfl, ra1, rd1, rj1, th1, rc1, tb1, hth1, hrc1, rfl, hro1, hto1, rfl⟩ := hp
    refine Wl.gc 5 [] ?_
    rw [hp] at hth1 hrc1
    rw [hm2] at hrc1
    have hthl : th1.length = e + 1 := by rw [hth1, raisedT_len]
    rw [← List.append_assoc, ← List.append_assoc, ← hrc1, ← hth1] at hl
    refine Wc.loop (ι := Nat × List Sl.Instr × (Option Addr × Nat × List Value)) (fun (t, ce, (o, d, q)) => ([(76, .int .i64 (t : Int)), (75, Go.Value.int Go.IntKind.i64 (↑(List.length th1) : Int)), (74, Go.Value.slice (Option.some (Go.Addr.mk tb1 0 Option.none)) (List.length th1) (List.length th1)), (0, Go.Value.pointer (Option.some (Go.Addr.mk b 0 Option.none)))], [(0, some b, .cells #[.int .i64 wh.length, .slice o ce.length d, .slice wa wh.length wc] 139), (1, o.map (·.block), Row 50 ce q), (2, Option.some tb1, Go.Sl.Row (α := Bool) 4 (th1) ([]))])) (fun (t, ce, (o, d, q)) => t ≤ th1.length ∧ ce ++ addAll wh.length (th1.drop t) t = rc1 ++ addAll wh.length th1 0 ∧ OwnA o d ce q) (fun (t, ce, (o, d, q)) => th1.length - t) ((0, rc1, (ra1, rd1, rj1))) (⟨Nat.zero_le _, rfl, hro1⟩) ⟨rfl, rfl, rfl, rfl, trivial⟩ ⟨rfl, rfl, rfl, trivial⟩ (fun ⟨t, ce, (o, d, q)⟩ => fun (hk : t ≤ th1.length ∧ ce ++ addAll wh.length (th1.drop t) t = rc1 ++ addAll wh.length th1 0 ∧ OwnA o d ce q) => ?_)
    obtain ⟨ht1, ht2, ht3⟩ := hk
    have hel : ce.length ≤ 1048576 := by rw [← ht2, List.length_append] at hl; omega
    rcases Nat.lt_or_ge t th1.length with hte | hte
    · rw [addAll_drop _ _ hte] at ht2
      refine Wc.gl 14 [1] ?_
      refine Wl.q rfl (Qy.indexAddrO (α := Bool) T.sl170 rfl rfl (by assumption) (by omega)) ?_
      refine Wl.q rfl (Qy.loadO 2 0 T.one4 rfl rfl (by assumption) (by omega) rfl rfl) ?_
      refine Wl.gc 9 [] ?_
      refine Wc.ite rfl (fun hc1 => ?_) (fun hc1 => ?_)
      refine Wc.gl 4 [] ?_
      refine Wl.call1 0 rfl T.fn87 rfl (c87 _ b _ _ _ _ (by omega) (by omega)) (tags_of ⟨rfl, trivial⟩) ?_
      refine Wl.ll0 2 [] ?_
      refine Wl.call1 0 rfl T.fn87 rfl (c87 _ b _ _ _ _ (by omega) (by omega)) (tags_of ⟨rfl, trivial⟩) ?_
      refine Wl.ll0 2 [] ?_
      refine Wl.call1 0 rfl T.fn123 rfl (c123 _ b _ _ _ _ (by omega) (by omega)) (tags_of ⟨rfl, trivial⟩) ?_
      refine Wl.call 0 rfl T.fn118 rfl (c118 _ b _ o d ce q wa _ wc _ _ _ _ _ ht3 hel) (tags_of ⟨rfl, rfl, trivial⟩) (fun v2 G2 Ho2 hle2 hp => ?_)
      obtain ⟨rfl, rfl, a2, d2, j2, ho2, rfl⟩ := hp
      refine Wl.ga 7 [] ?_
      rotate_left
      refine Wc.ga 7 [] ?_
      rotate_left
      · rw [if_pos hc1] at ht2
        refine Ar.re 76 rfl (show _ = Value.int .i64 ((t + 1 : Nat) : Int) from rfl) ?_
        refine Ar.again ((t + 1, _, (a2, d2, j2))) ?_ ?_ rfl ⟨rfl, rfl, rfl, rfl, trivial⟩ ⟨rfl, rfl, rfl, trivial⟩
        · refine ⟨hte, ?_, ho2⟩
          rw [← ht2]; simp only [List.append_assoc]
        · show th1.length - (t + 1) < th1.length - t
          omega
      · rw [if_neg (by rw [hc1]; decide), List.nil_append] at ht2
        refine Ar.re 76 rfl (show _ = Value.int .i64 ((t + 1 : Nat) : Int) from rfl) ?_
        refine Ar.again ((t + 1, ce, (o, d, q))) ?_ ?_ rfl ⟨rfl, rfl, rfl, rfl, trivial⟩ ⟨rfl, rfl, rfl, trivial⟩
        · exact ⟨hte, ht2, ht3⟩
        · show th1.length - (t + 1) < th1.length - t
          omega
    · have hte : t = th1.length := by omega
      have ht2 : ce = rc1 ++ addAll wh.length th1 0 := by rw [← ht2, hte, List.drop_length]; exact (List.append_nil _).symm
      refine Wc.ga 11 [0] ?_
      have hce : ce = code ++ backI wh.length wh k e := by rw [ht2, hrc1, hbI, hth1]; simp only [List.append_assoc]
      rw [hce] at ht3
      refine Ar.out0 (by first | exact .inl rfl | exact .inr rfl) (Ho := [(0, some b, .cells #[.int .i64 wh.length, .slice o (code ++ backI wh.length wh k e).length d, .slice wa wh.length wc] 139), (1, o.map (·.block), Row 50 (code ++ backI wh.length wh k e) q)]) rfl ⟨by rw [← hce]; rfl, by rw [← hce]; rfl, trivial⟩ ?_
      exact ⟨rfl, rfl, o, d, q, ht3, rfl⟩
  · rcases Nat.lt_or_ge e m with hme | hme
    · have hme : m = e + 1 := by omega
      have hm2 : cd ++ (timesI (wh.length + e) (wh.length + ((e : Int) - 1)) (-p.b) ++ bkIn wh.length p e) = code ++ backA wh.length p e := by
        rw [← hm2]; unfold bkM; rw [if_pos hme]; rfl
      refine Wc.re 7 rfl (show _ = Value.int .i64 (e : Int) by congr 1; omega) ?_
      refine Wc.gc 22 [1, 1] ?_
      refine Wc.draw [2, 1, 0] [(1, 11), (0, 11)] T.mixed rfl ?_
      refine Gm.q 0 [] (by kernel_rfl) rfl rfl (Qy.move rfl) ?_
      refine Gm.q 1 [] (by kernel_rfl) rfl rfl (Qy.move rfl) ?_
      refine Gm.q 2 [] (by kernel_rfl) rfl rfl (Qy.move rfl) ?_
      refine Gm.q 4 [] (by kernel_rfl) rfl rfl (Qy.move rfl) ?_
      refine Gm.q 5 [] (by kernel_rfl) rfl rfl (Qy.move rfl) ?_
      refine Gm.q 6 [] (by kernel_rfl) rfl rfl (Qy.sub rfl rfl (by omega)) ?_
      refine Gm.q 8 [] (by kernel_rfl) rfl rfl (Qy.fieldAddr T.fa34_1 rfl) ?_
      refine Gm.q 9 [2] (by kernel_rfl) rfl rfl (Qy.load 2 T.one3 rfl rfl rfl) ?_
      refine Gm.q 10 [] (by kernel_rfl) rfl rfl (Qy.neg rfl (by omega)) ?_
      refine Gm.one 3 ⟨rfl, rfl, rfl, trivial⟩ (by first | exact Imm.le_refl _ | repeat (first | assumption | refine Imm.le_trans ?_ (by assumption))) (by kernel_rfl) rfl ?_
      refine Wl.call1 0 rfl T.fn87 rfl (c87 _ b _ _ _ _ (by omega) (by omega)) (tags_of ⟨rfl, trivial⟩) ?_
      refine Wl.on0 ?_
      refine Gm.one 7 ⟨rfl, rfl, rfl, trivial⟩ (by first | exact Imm.le_refl _ | repeat (first | assumption | refine Imm.le_trans ?_ (by assumption))) (by kernel_rfl) rfl ?_
      refine Wl.call1 0 rfl T.fn87 rfl (c87 _ b _ _ _ _ (by omega) (by omega)) (tags_of ⟨rfl, trivial⟩) ?_
      refine Wl.on0 ?_
      refine Gm.one 11 ⟨rfl, rfl, rfl, trivial⟩ (by first | exact Imm.le_refl _ | repeat (first | assumption | refine Imm.le_trans ?_ (by assumption))) (by kernel_rfl) rfl ?_
      refine Wl.call 0 rfl T.fn86 rfl (c86 _ b _ o d cd q wa _ wc _ _ _ hm3 hcl) (tags_of ⟨rfl, rfl, trivial⟩) (fun v1 G1 Ho1 hle1 hp => ?_)
      obtain ⟨rfl, rfl, a1, d1, j1, ho1, rfl⟩ := hp
      refine Wl.on0 ?_
      refine Gm.doneA (by kernel_rfl) ⟨rfl, trivial⟩ (by first | exact Imm.le_refl _ | repeat (first | assumption | refine Imm.le_trans ?_ (by assumption))) ?_
      refine Ar.ga 10 [] ?_
      refine Ar.re 7 rfl (show _ = Value.int .i64 ((e : Int) - 1) from rfl) ?_
      refine Ar.again ((e, _, (a1, d1, j1))) ?_ ?_ rfl ⟨rfl, rfl, rfl, rfl, rfl, trivial⟩ ⟨rfl, rfl, rfl, trivial⟩
      · refine ⟨by omega, ?_, ho1⟩
        rw [← hm2]; unfold bkM; rw [if_neg (by omega), List.append_assoc]
      · show e < m
        omega
    · obtain ⟨i, rfl⟩ : ∃ i, m = i + 1 := ⟨m - 1, by omega⟩
      refine Wc.re 7 rfl (show _ = Value.int .i64 (i : Int) by congr 1; omega) ?_
      have hm2 : cd ++ bkIn wh.length p (i + 1) = code ++ backA wh.length p e := by rw [← hm2]; unfold bkM; rw [if_neg (by omega)]
      unfold bkIn at hm2
      rcases Nat.eq_zero_or_pos i with hi0 | hi0
      · rw [if_neg (by omega), if_neg (by omega)] at hm2
        refine Wc.gc 34 [1, 0, 0] ?_
        refine Wc.draw [2, 1, 0] [(1, 9), (0, 9)] T.mixed rfl ?_
        refine Gm.q 0 [] (by kernel_rfl) rfl rfl (Qy.move rfl) ?_
        refine Gm.q 1 [] (by kernel_rfl) rfl rfl (Qy.move rfl) ?_
        refine Gm.q 2 [] (by kernel_rfl) rfl rfl (Qy.move rfl) ?_
        refine Gm.q 4 [] (by kernel_rfl) rfl rfl (Qy.move rfl) ?_
        refine Gm.q 5 [] (by kernel_rfl) rfl rfl (Qy.move rfl) ?_
        refine Gm.q 7 [] (by kernel_rfl) rfl rfl (Qy.fieldAddr T.fa34_0 rfl) ?_
        refine Gm.q 8 [2] (by kernel_rfl) rfl rfl (Qy.load 2 T.one3 rfl rfl rfl) ?_
        refine Gm.one 3 ⟨rfl, rfl, rfl, trivial⟩ (by first | exact Imm.le_refl _ | repeat (first | assumption | refine Imm.le_trans ?_ (by assumption))) (by kernel_rfl) rfl ?_
        refine Wl.call1 0 rfl T.fn87 rfl (c87 _ b _ _ _ _ (by omega) (by omega)) (tags_of ⟨rfl, trivial⟩) ?_
        refine Wl.on0 ?_
        refine Gm.one 6 ⟨rfl, rfl, rfl, trivial⟩ (by first | exact Imm.le_refl _ | repeat (first | assumption | refine Imm.le_trans ?_ (by assumption))) (by kernel_rfl) rfl ?_
        refine Wl.call1 0 rfl T.fn87 rfl (c87 _ b _ _ _ _ (by omega) (by omega)) (tags_of ⟨rfl, trivial⟩) ?_
        refine Wl.on0 ?_
        refine Gm.one 9 ⟨rfl, rfl, rfl, trivial⟩ (by first | exact Imm.le_refl _ | repeat (first | assumption | refine Imm.le_trans ?_ (by assumption))) (by kernel_rfl) rfl ?_
        refine Wl.call 0 rfl T.fn86 rfl (c86 _ b _ o d cd q wa _ wc _ _ _ hm3 hcl) (tags_of ⟨rfl, rfl, trivial⟩) (fun v1 G1 Ho1 hle1 hp => ?_)
        obtain ⟨rfl, rfl, a1, d1, j1, ho1, rfl⟩ := hp
        refine Wl.on0 ?_
        refine Gm.doneA (by kernel_rfl) ⟨rfl, trivial⟩ (by first | exact Imm.le_refl _ | repeat (first | assumption | refine Imm.le_trans ?_ (by assumption))) ?_
        refine Ar.ga 16 [0] ?_
        refine Ar.re 7 rfl (show _ = Value.int .i64 ((i : Int) - 1) from rfl) ?_
        refine Ar.again ((i, _, (a1, d1, j1))) ?_ ?_ rfl ⟨rfl, rfl, rfl, rfl, rfl, trivial⟩ ⟨rfl, rfl, rfl, trivial⟩
        · refine ⟨by omega, ?_, ho1⟩
          rw [← hm2]; unfold bkM; rw [if_neg (by omega)]; simp only [List.append_assoc, List.nil_append]
        · show i < i + 1
          omega
      · rw [if_pos hi0, if_pos hi0] at hm2
        have hb1 : ((cd ++ timesI (3 * (wh.length : Int)) ((wh.length : Int) + ((i : Int) - 1)) p.b) ++ timesI ((wh.length : Int) + (i : Int)) ((wh.length : Int) + (i : Int)) p.a).length ≤ 1048576 := by
          rw [← hm2] at hlA
          simp only [List.length_append] at hlA
          simp only [List.length_append]
          omega
        have hb0 : (cd ++ timesI (3 * (wh.length : Int)) ((wh.length : Int) + ((i : Int) - 1)) p.b).length ≤ 1048576 := by rw [List.length_append] at hb1; omega
        refine Wc.gc 31 [1, 0, 1] ?_
        refine Wc.draw [2, 1, 0] [(1, 9), (0, 9)] T.mixed rfl ?_
        refine Gm.q 0 [] (by kernel_rfl) rfl rfl (Qy.move rfl) ?_
        refine Gm.q 1 [] (by kernel_rfl) rfl rfl (Qy.move rfl) ?_
        refine Gm.q 3 [] (by kernel_rfl) rfl rfl (Qy.move rfl) ?_
        refine Gm.q 4 [] (by kernel_rfl) rfl rfl (Qy.move rfl) ?_
        refine Gm.q 5 [] (by kernel_rfl) rfl rfl (Qy.sub rfl rfl (by omega)) ?_
        refine Gm.q 7 [] (by kernel_rfl) rfl rfl (Qy.fieldAddr T.fa34_1 rfl) ?_
        refine Gm.q 8 [2] (by kernel_rfl) rfl rfl (Qy.load 2 T.one3 rfl rfl rfl) ?_
        refine Gm.one 2 ⟨rfl, rfl, rfl, trivial⟩ (by first | exact Imm.le_refl _ | repeat (first | assumption | refine Imm.le_trans ?_ (by assumption))) (by kernel_rfl) rfl ?_
        refine Wl.call1 0 rfl T.fn121 rfl (c121 _ b _ _ _ (by omega)) (tags_of ⟨rfl, trivial⟩) ?_
        refine Wl.on0 ?_
        refine Gm.one 6 ⟨rfl, rfl, rfl, trivial⟩ (by first | exact Imm.le_refl _ | repeat (first | assumption | refine Imm.le_trans ?_ (by assumption))) (by kernel_rfl) rfl ?_
        refine Wl.call1 0 rfl T.fn87 rfl (c87 _ b _ _ _ _ (by omega) (by omega)) (tags_of ⟨rfl, trivial⟩) ?_
        refine Wl.on0 ?_
        refine Gm.one 9 ⟨rfl, rfl, rfl, trivial⟩ (by first | exact Imm.le_refl _ | repeat (first | assumption | refine Imm.le_trans ?_ (by assumption))) (by kernel_rfl) rfl ?_
        refine Wl.call 0 rfl T.fn86 rfl (c86 _ b _ o d cd q wa _ wc _ _ _ hm3 hcl) (tags_of ⟨rfl, rfl, trivial⟩) (fun v1 G1 Ho1 hle1 hp => ?_)
        obtain ⟨rfl, rfl, a1, d1, j1, ho1, rfl⟩ := hp
        refine Wl.on0 ?_
        refine Gm.doneA (by kernel_rfl) ⟨rfl, trivial⟩ (by first | exact Imm.le_refl _ | repeat (first | assumption | refine Imm.le_trans ?_ (by assumption))) ?_
        refine Ar.gc 2 [] ?_
        refine Wc.draw [2, 1, 0] [(1, 9), (0, 9)] T.mixed rfl ?_
        refine Gm.q 0 [] (by kernel_rfl) rfl rfl (Qy.move rfl) ?_
        refine Gm.q 1 [] (by kernel_rfl) rfl rfl (Qy.move rfl) ?_
        refine Gm.q 2 [] (by kernel_rfl) rfl rfl (Qy.move rfl) ?_
        refine Gm.q 4 [] (by kernel_rfl) rfl rfl (Qy.move rfl) ?_
        refine Gm.q 5 [] (by kernel_rfl) rfl rfl (Qy.move rfl) ?_
        refine Gm.q 7 [] (by kernel_rfl) rfl rfl (Qy.fieldAddr T.fa34_0 rfl) ?_
        refine Gm.q 8 [2] (by kernel_rfl) rfl rfl (Qy.load 2 T.one3 rfl rfl rfl) ?_
        refine Gm.one 3 ⟨rfl, rfl, rfl, trivial⟩ (by first | exact Imm.le_refl _ | repeat (first | assumption | refine Imm.le_trans ?_ (by assumption))) (by kernel_rfl) rfl ?_
        refine Wl.call1 0 rfl T.fn87 rfl (c87 _ b _ _ _ _ (by omega) (by omega)) (tags_of ⟨rfl, trivial⟩) ?_
        refine Wl.on0 ?_
        refine Gm.one 6 ⟨rfl, rfl, rfl, trivial⟩ (by first | exact Imm.le_refl _ | repeat (first | assumption | refine Imm.le_trans ?_ (by assumption))) (by kernel_rfl) rfl ?_
        refine Wl.call1 0 rfl T.fn87 rfl (c87 _ b _ _ _ _ (by omega) (by omega)) (tags_of ⟨rfl, trivial⟩) ?_
        refine Wl.on0 ?_
        refine Gm.one 9 ⟨rfl, rfl, rfl, trivial⟩ (by first | exact Imm.le_refl _ | repeat (first | assumption | refine Imm.le_trans ?_ (by assumption))) (by kernel_rfl) rfl ?_
        refine Wl.call 0 rfl T.fn86 rfl (c86 _ b _ a1 d1 (cd ++ timesI (3 * (wh.length : Int)) ((wh.length : Int) + ((i : Int) - 1)) p.b) j1 wa _ wc _ _ _ ho1 hb0) (tags_of ⟨rfl, rfl, trivial⟩) (fun v2 G2 Ho2 hle2 hp => ?_)
        obtain ⟨rfl, rfl, a2, d2, j2, ho2, rfl⟩ := hp
        refine Wl.on0 ?_
        refine Gm.doneA (by kernel_rfl) ⟨rfl, trivial⟩ (by first | exact Imm.le_refl _ | repeat (first | assumption | refine Imm.le_trans ?_ (by assumption))) ?_
        refine Ar.gl 12 [1] ?_
        refine Wl.call1 0 rfl T.fn87 rfl (c87 _ b _ _ _ _ (by omega) (by omega)) (tags_of ⟨rfl, trivial⟩) ?_
        refine Wl.ll0 2 [] ?_
        refine Wl.call1 0 rfl T.fn87 rfl (c87 _ b _ _ _ _ (by omega) (by omega)) (tags_of ⟨rfl, trivial⟩) ?_
        refine Wl.q rfl (Qy.move rfl) ?_
        refine Wl.call1 0 rfl T.fn121 rfl (c121 _ b _ _ _ (by omega)) (tags_of ⟨rfl, trivial⟩) ?_
        refine Wl.call 0 rfl T.fn118 rfl (c118 _ b _ a2 d2 ((cd ++ timesI (3 * (wh.length : Int)) ((wh.length : Int) + ((i : Int) - 1)) p.b) ++ timesI ((wh.length : Int) + (i : Int)) ((wh.length : Int) + (i : Int)) p.a) j2 wa _ wc _ _ _ _ _ ho2 hb1) (tags_of ⟨rfl, rfl, trivial⟩) (fun v3 G3 Ho3 hle3 hp => ?_)
        obtain ⟨rfl, rfl, a3, d3, j3, ho3, rfl⟩ := hp
        refine Wl.ga 8 [] ?_
        refine Ar.re 7 rfl (show _ = Value.int .i64 ((i : Int) - 1) from rfl) ?_
        refine Ar.again ((i, _, (a3, d3, j3))) ?_ ?_ rfl ⟨rfl, rfl, rfl, rfl, rfl, trivial⟩ ⟨rfl, rfl, rfl, trivial⟩
        · refine ⟨by omega, ?_, ho3⟩
          rw [← hm2]; unfold bkM; rw [if_neg (by omega)]; simp only [List.append_assoc]
        · show i < i + 1
          omega
end Go.Proofs.YtelbhbbiejalhaaGreat
set_option maxRecDepth 100000
set_option linter.unusedVariables false
namespace Go.Proofs.YtelbhbbiejalhaaGreat
open Go Go.Sl
set_option maxHeartbeats 4000000
theorem backAll_le (n : Int) (wh : List R2) : ∀ (o : List Int) (t : Nat), (backAll n wh (o.drop t)).length ≤ (backAll n wh o).length
  | [], t => by rw [List.drop_nil]; exact Nat.le_refl _
  | k :: o, 0 => Nat.le_refl _
  | [k], t + 1 => by rw [List.drop_succ_cons, List.drop_nil]; exact Nat.zero_le _
  | k :: i :: left, t + 1 => by
    rw [List.drop_succ_cons]
    refine Nat.le_trans (backAll_le n wh (i :: left) t) ?_
    show _ ≤ (backAll n wh (i :: left) ++ _).length
    rw [List.length_append]; omega
theorem backAll_cons (n : Int) (wh : List R2) (k : Int) {rest : List Int} (h : 1 ≤ rest.length) : backAll n wh (k :: rest) = backAll n wh rest ++ backI n wh k rest.length := by
  cases rest with
  | nil => simp at h
  | cons i left => rfl
theorem arr_drop {α : Type} [Cells α] {G : Imm} {a : Option Addr} {c : Nat} {l : List α} (h : Arr G a l) (n : Nat) (hn : n ≤ l.length) (hc : l.length ≤ c) : Arr G (subA a c n (Cells.sz α)) (l.drop n) := by
  have h1 := SlG.sub h hn hc
  unfold Arr
  have e : flat l = flat (l.take n) ++ flat (l.drop n) := by rw [← flat_append, List.take_append_drop]
  have e2 : (flat l).drop (n * Cells.sz α) = flat (l.drop n) := by
    rw [e, List.drop_left' (by rw [flat_length, List.length_take, Nat.min_eq_left hn])]
  rw [← e2, List.length_drop]; exact h1
def outsP (n t : Nat) : List Int := (List.range t).map fun j : Nat => (n : Int) + j
theorem outsP_len (n t : Nat) : (outsP n t).length = t := by unfold outsP; rw [List.length_map, List.length_range]
theorem outsP_succ (n t : Nat) : outsP n (t + 1) = outsP n t ++ [(n : Int) + t] := by unfold outsP; rw [List.range_succ, List.map_append]; rfl
theorem c85n (G : Imm) (n b : Nat) (ac : Option Addr) (cc : Nat) (code : List Sl.Instr) (j : List Value) (wa : Option Addr) (wc : Nat) (wh : List R2) (k : Int) (la : Option Addr) (lc m : Nat) (left : List Int) (e : Nat) (hn : wh.length = n) (hm : left.length = m) (ho : OwnA ac cc code j) (hw : Arr G wa wh) (hla : Arr G la left)
    (hwl : n ≤ 15) (hk : 0 ≤ k ∧ k < n) (hll : m ≤ 15) (hleft : ∀ i ∈ left, 0 ≤ i ∧ i < n) (he : e ≤ 14) (hok : ∀ i, i < n → okP (wh[i]?.getD default)) (hl : (code ++ awayI n wh k e left).length ≤ 1048576) :
    Does Tryz.prog 85 [.pointer (some ⟨b, 0, none⟩), .int .i64 k, .slice la m lc, .int .i64 e] G [(0, some b, .cells #[.int .i64 n, .slice ac code.length cc, .slice wa n wc] 139), (1, ac.map (·.block), Row 50 code j)]
      (fun v G' Ho => v = .tuple #[] ∧ G' = G ∧ ∃ (a' : Option Addr) (c' : Nat) (j' : List Value), OwnA a' c' (code ++ awayI n wh k e left) j' ∧ Ho = [(0, some b, .cells #[.int .i64 n, .slice a' (code ++ awayI n wh k e left).length c', .slice wa n wc] 139), (1, a'.map (·.block), Row 50 (code ++ awayI n wh k e left) j')]) := by
  subst hn hm
  exact c85 G b ac cc code j wa wc wh k la lc left e ho hw hla hwl hk hll (fun i hi => hleft _ (by rw [List.getElem?_eq_getElem hi]; exact List.getElem_mem _)) he hok hl
theorem c88n (G : Imm) (n b : Nat) (ac : Option Addr) (cc : Nat) (code : List Sl.Instr) (j : List Value) (wa : Option Addr) (wc : Nat) (wh : List R2) (k : Int) (e : Nat) (hn : wh.length = n) (ho : OwnA ac cc code j) (hw : Arr G wa wh)
    (hwl : n ≤ 15) (hk : 0 ≤ k ∧ k < n) (he1 : 1 ≤ e) (he : e < n) (hok : okP (wh[k.toNat]?.getD default)) (hl : (code ++ backI n wh k e).length ≤ 1048576) :
    Does Tryz.prog 88 [.pointer (some ⟨b, 0, none⟩), .int .i64 k, .int .i64 e] G [(0, some b, .cells #[.int .i64 n, .slice ac code.length cc, .slice wa n wc] 139), (1, ac.map (·.block), Row 50 code j)]
      (fun v G' Ho => v = .tuple #[] ∧ G' = G ∧ ∃ (a' : Option Addr) (c' : Nat) (j' : List Value), OwnA a' c' (code ++ backI n wh k e) j' ∧ Ho = [(0, some b, .cells #[.int .i64 n, .slice a' (code ++ backI n wh k e).length c', .slice wa n wc] 139), (1, a'.map (·.block), Row 50 (code ++ backI n wh k e) j')]) := by
  subst hn
  exact c88 G b ac cc code j wa wc wh k e ho hw hwl hk he1 he hok hl
theorem c54 (G : Imm) (a : Option Addr) (c : Nat) (l : List R2) (oa : Option Addr) (oc : Nat) (o : List Int) (ha : Arr G a l) (hoa : Arr G oa o) (hac : l.length ≤ c) (hocc : o.length ≤ oc) (hR : RightL l) (hO : OrderP o l.length) :
    Does Tryz.prog 54 [.slice a l.length c, .slice oa o.length oc] G [] (fun v G' Ho => ∃ (bc bo : Option Addr) (dc do_ : Nat) (j1 j2 : List Value), v = .agg #[.int .i64 (madeP l o).ins, .int .i64 (madeP l o).regs, .slice bc (madeP l o).code.length dc, .slice bo (madeP l o).outs.length do_] ∧ OwnA bc dc (madeP l o).code j1 ∧ OwnA bo do_ (madeP l o).outs j2 ∧
      Ho = [(0, bc.map (·.block), Row 50 (madeP l o).code j1), (1, bo.map (·.block), Row 3 (madeP l o).outs j2)]) := by
  have hgood := code_good hR hO
  have hok : ∀ i, i < l.length → okP (l[i]?.getD default) := hR.2.2.1
  have hl1 := hR.1
  have hl15 := hR.2.1
  obtain ⟨o1, o2, o3⟩ := hO
  refine Does.enter Tryz.func54 rfl Tryz.ntmps54 rfl (fun w => ?_)
  refine Wc.gl 2 [] ?_
  refine Wl.alloc 0 rfl T.zero29 (fun b1 => ?_)
  refine Wl.gl 12 [] ?_
  refine Wl.q rfl (Qy.build (cs := [_, _, _]) T.st139 rfl rfl rfl) ?_
  refine Wl.box 1 rfl rfl rfl (fun b2 => ?_)
  refine Wl.gc 12 [] ?_
  refine Wc.nilRow 2 (Row 50 ([] : List Sl.Instr) []) (Wc.nilRow 3 (Row 34 ([] : List R2) []) ?_)
  generalize hN : normAll (l.length - 1) l 0 = N at *
  have hNl : N.length ≤ 16384 := by
    have := hgood.len
    unfold codeP at this
    rw [hN, List.length_append] at this; omega
  refine Wc.loop (ι := Nat × List Sl.Instr × (Option Addr × Nat × List Value) × List R2 × (Option Addr × Nat × List Value)) (fun (k, cd, (u, d, q), wh, (wa, wd, wq)) => ([(25, .int .i64 (k : Int)), (5, .int .i64 l.length), (6, .pointer (some ⟨b2, 0, none⟩)), (1, .slice oa o.length oc), (24, Go.Value.int Go.IntKind.i64 (↑(List.length l) : Int)), (23, Go.Value.slice a (List.length l) c), (4, Go.Value.pointer (Option.some (Go.Addr.mk b1 0 Option.none)))], [(1, some b2, .cells #[.int .i64 l.length, .slice u cd.length d, .slice wa wh.length wd] 139), (2, u.map (·.block), Row 50 cd q), (3, wa.map (·.block), Row 34 wh wq), (0, Option.some b1, Go.Obj.cells #[Go.Value.int Go.IntKind.i64 0, Go.Value.int Go.IntKind.i64 0, Go.Value.slice Option.none 0 0, Go.Value.slice Option.none 0 0] 29)])) (fun (k, cd, (u, d, q), wh, (wa, wd, wq)) => k ≤ l.length ∧ cd ++ normAll (l.length - 1) (l.drop k) k = N ∧ OwnA u d cd q ∧ wh = (l.take k).map wholeP ∧ OwnA wa wd wh wq) (fun (k, cd, (u, d, q), wh, (wa, wd, wq)) => l.length - k) ((0, [], (none, 0, []), [], (none, 0, []))) (⟨Nat.zero_le _, hN, OwnA.nil, rfl, OwnA.nil⟩) ⟨rfl, rfl, rfl, rfl, rfl, rfl, rfl, trivial⟩ ⟨rfl, rfl, rfl, rfl, trivial⟩ (fun ⟨k, cd, (u, d, q), wh, (wa, wd, wq)⟩ => fun (hk : k ≤ l.length ∧ cd ++ normAll (l.length - 1) (l.drop k) k = N ∧ OwnA u d cd q ∧ wh = (l.take k).map wholeP ∧ OwnA wa wd wh wq) => ?_)
  obtain ⟨hk1, hk2, hk3, hk4, hk5⟩ := hk
  have hcl : cd.length ≤ 16384 := by rw [← hk2, List.length_append] at hNl; omega
  rcases Nat.lt_or_ge k l.length with hkl | hkl
  · obtain ⟨hnk, hzk⟩ := hok k hkl
    have hgn := gcd_near ⟨hnk, hzk⟩
    have hdr : l.drop k = l[((k : Nat) : Int).toNat]?.getD default :: l.drop (k + 1) := by
      rw [List.drop_eq_getElem_cons hkl, Int.toNat_natCast, List.getElem?_eq_getElem hkl]; rfl
    rw [hdr] at hk2
    have hk2 : cd ++ ((List.replicate (l.length - 1) (overI (k : Int) (Int.gcd (l[((k : Nat) : Int).toNat]?.getD default).a (l[((k : Nat) : Int).toNat]?.getD default).b))).flatten ++ normAll (l.length - 1) (l.drop (k + 1)) (k + 1)) = N := hk2
    refine Wc.gl 14 [1] ?_
    refine Wl.q rfl (Qy.at (α := R2) T.sl22 rfl rfl (by assumption) (by omega)) ?_
    refine Wl.q rfl (Qy.loadsG T.agg34 rfl (Arr.elem (by assumption) (by omega)) rfl) ?_
    refine Wl.alloc 4 rfl T.zero34 (fun b3 => ?_)
    refine Wl.gl 7 [4, 4] ?_
    refine Wl.call0 rfl T.fn83 rfl (c83 _ _ _ (by assumption) (by assumption)) ?_
    refine Wl.gc 20 [] ?_
    generalize hpp : l[((k : Nat) : Int).toNat]?.getD default = p at *
    have hnk : near p.a p.b := by rw [← hpp]; exact hnk
    have hzk : ¬ (p.a = 0 ∧ p.b = 0) := by rw [← hpp]; exact hzk
    have hgn : 1 ≤ Int.gcd p.a p.b ∧ Int.gcd p.a p.b ≤ 16 := by rw [← hpp]; exact hgn
    refine Wc.loop (ι := Nat × List Sl.Instr × (Option Addr × Nat × List Value)) (fun (i, ce, (u, d, q)) => ([(39, .int .i64 (i : Int)), (25, .int .i64 (k : Int)), (5, .int .i64 l.length), (6, .pointer (some ⟨b2, 0, none⟩)), (1, .slice oa o.length oc), (24, .int .i64 l.length), (23, .slice a l.length c), (4, .pointer (some ⟨b1, 0, none⟩)), (7, .int .i64 (k : Int)), (8, .pointer (some ⟨b3, 0, none⟩)), (9, .int .i64 (Int.gcd p.a p.b)), (38, Go.Value.int Go.IntKind.i64 ((↑(List.length l) : Int) - 1))], [(1, some b2, .cells #[.int .i64 l.length, .slice u ce.length d, .slice wa wh.length wd] 139), (2, u.map (·.block), Row 50 ce q), (4, Option.some b3, Go.Obj.cells (List.toArray (Go.Sl.Cells.enc p)) 34), (3, Option.map (fun x => Go.Addr.block x) wa, Go.Sl.Row (α := Go.Sl.R2) 34 (wh) (wq)), (0, Option.some b1, Go.Obj.cells #[Go.Value.int Go.IntKind.i64 0, Go.Value.int Go.IntKind.i64 0, Go.Value.slice Option.none 0 0, Go.Value.slice Option.none 0 0] 29)])) (fun (i, ce, (u, d, q)) => i ≤ l.length - 1 ∧ ce ++ ((List.replicate (l.length - 1 - i) (overI (k : Int) (Int.gcd p.a p.b))).flatten ++ normAll (l.length - 1) (l.drop (k + 1)) (k + 1)) = N ∧ OwnA u d ce q) (fun (i, ce, (u, d, q)) => l.length - 1 - i) ((0, cd, (u, d, q))) (⟨Nat.zero_le _, hk2, hk3⟩) ⟨rfl, rfl, rfl, rfl, rfl, rfl, rfl, rfl, rfl, rfl, rfl, rfl, trivial⟩ ⟨rfl, rfl, rfl, rfl, rfl, trivial⟩ (fun ⟨i, ce, (u, d, q)⟩ => fun (hk : i ≤ l.length - 1 ∧ ce ++ ((List.replicate (l.length - 1 - i) (overI (k : Int) (Int.gcd p.a p.b))).flatten ++ normAll (l.length - 1) (l.drop (k + 1)) (k + 1)) = N ∧ OwnA u d ce q) => ?_)
    obtain ⟨hi1, hi2, hi3⟩ := hk
    have hel : ce.length ≤ 16384 := by rw [← hi2, List.length_append] at hNl; omega
    rcases Nat.lt_or_ge i (l.length - 1) with hil | hil
    · have er : l.length - 1 - i = (l.length - 1 - (i + 1)) + 1 := by omega
      rw [er, List.replicate_succ, List.flatten_cons] at hi2
      refine Wc.gl 15 [1] ?_
      refine Wl.call 1 rfl T.fn84 rfl (c84 _ b2 _ u d ce q wa _ wd _ _ hi3 (by omega)) (tags_of ⟨rfl, rfl, trivial⟩) (fun v1 G1 Ho1 hle1 hp => ?_)
      obtain ⟨rfl, rfl, a1, d1, j1, ho1, rfl⟩ := hp
      refine Wl.ga 7 [] ?_
      refine Ar.re 39 rfl (show _ = Value.int .i64 ((i + 1 : Nat) : Int) from rfl) ?_
      refine Ar.again ((i + 1, _, (a1, d1, j1))) ?_ ?_ rfl ⟨rfl, rfl, rfl, rfl, rfl, rfl, rfl, rfl, rfl, rfl, rfl, rfl, trivial⟩ ⟨rfl, rfl, rfl, rfl, rfl, trivial⟩
      · refine ⟨hil, ?_, ho1⟩
        rw [← hi2]; simp only [List.append_assoc]
      · show l.length - 1 - (i + 1) < l.length - 1 - i
        omega
    · have hil : i = l.length - 1 := by omega
      have hi2 : ce ++ normAll (l.length - 1) (l.drop (k + 1)) (k + 1) = N := by rw [← hi2, hil, Nat.sub_self]; rfl
      have hwl : wh.length = k := by rw [hk4, List.length_map, List.length_take]; omega
      have q1 := tdiv_rng p.a (Int.gcd p.a p.b)
      have q2 := tdiv_rng p.b (Int.gcd p.a p.b)
      have hnk2 := hnk
      unfold near at hnk2
      refine Wc.gc 12 [0] ?_
      refine Wc.draw [0, 3, 4, 2, 1] [(1, 18), (2, 15), (3, 15)] T.mixed rfl ?_
      refine Gm.q 0 [] (by kernel_rfl) rfl rfl (Qy.move rfl) ?_
      refine Gm.q 1 [] (by kernel_rfl) rfl rfl (Qy.move rfl) ?_
      refine Gm.q 2 [] (by kernel_rfl) rfl rfl (Qy.nilCheck rfl) ?_
      refine Gm.q 3 [] (by kernel_rfl) rfl rfl (Qy.fieldAddr T.fa139_2 rfl) ?_
      refine Gm.q 4 [1] (by kernel_rfl) rfl rfl (Qy.load 1 T.one22 rfl rfl rfl) ?_
      refine Gm.q 5 [] (by kernel_rfl) rfl rfl (Qy.fieldAddr T.fa34_0 rfl) ?_
      refine Gm.q 6 [4] (by kernel_rfl) rfl rfl (Qy.load 4 T.one3 rfl rfl rfl) ?_
      refine Gm.q 7 [] (by kernel_rfl) rfl rfl (Qy.move rfl) ?_
      refine Gm.q 8 [] (by kernel_rfl) rfl rfl (Qy.quo rfl rfl (by omega) (by omega)) ?_
      refine Gm.q 9 [] (by kernel_rfl) rfl rfl (Qy.fieldAddr T.fa34_1 rfl) ?_
      refine Gm.q 10 [4] (by kernel_rfl) rfl rfl (Qy.load 4 T.one3 rfl rfl rfl) ?_
      refine Gm.q 11 [] (by kernel_rfl) rfl rfl (Qy.move rfl) ?_
      refine Gm.q 12 [] (by kernel_rfl) rfl rfl (Qy.quo rfl rfl (by omega) (by omega)) ?_
      refine Gm.q 13 [] (by kernel_rfl) rfl rfl (Qy.build (cs := [_, _]) T.st34 rfl rfl rfl) ?_
      refine Gm.one 14 ⟨rfl, rfl, rfl, rfl, rfl, trivial⟩ (by first | exact Imm.le_refl _ | repeat (first | assumption | refine Imm.le_trans ?_ (by assumption))) (by kernel_rfl) rfl ?_
      refine Wl.lit (α := R2) 5 [⟨Int.tdiv (Go.Sl.R2.a p) (↑(Int.gcd (Go.Sl.R2.a p) (Go.Sl.R2.b p)) : Int), Int.tdiv (Go.Sl.R2.b p) (↑(Int.gcd (Go.Sl.R2.a p) (Go.Sl.R2.b p)) : Int)⟩] rfl T.sl22 T.el34 rfl rfl rfl rfl rfl (fun b4 => ?_)
      refine Wl.on0 ?_
      refine Gm.one 15 ⟨rfl, rfl, rfl, rfl, rfl, trivial⟩ (by first | exact Imm.le_refl _ | repeat (first | assumption | refine Imm.le_trans ?_ (by assumption))) (by kernel_rfl) rfl ?_
      refine Wl.append (α := R2) 3 rfl T.sl22 T.el34 rfl rfl rfl (by first | assumption | exact OwnA.nil | exact OwnA.made (by simp)) (Src.row 5 rfl) (by first | omega | (simp only [List.length_append, List.length_cons, List.length_nil, maxLen]; omega)) (by first | omega | (simp only [List.length_append, List.length_cons, List.length_nil, maxLen]; omega)) (fun a1 c1 junk1 ho1 => ?_)
      refine Wl.on0 ?_
      refine Gm.q 16 [] (by kernel_rfl) rfl rfl (Qy.nilCheck rfl) ?_
      refine Gm.q 17 [] (by kernel_rfl) rfl rfl (Qy.fieldAddr T.fa139_2 rfl) ?_
      refine Gm.one 18 ⟨rfl, rfl, rfl, trivial⟩ (by first | exact Imm.le_refl _ | repeat (first | assumption | refine Imm.le_trans ?_ (by assumption))) (by kernel_rfl) rfl ?_
      refine Wl.store 1 T.one22 rfl rfl rfl rfl rfl ?_
      refine Wl.on0 ?_
      refine Gm.doneA (by kernel_rfl) ⟨rfl, rfl, trivial⟩ (by first | exact Imm.le_refl _ | repeat (first | assumption | refine Imm.le_trans ?_ (by assumption))) ?_
      refine Ar.ga 6 [] ?_
      refine Ar.re 25 rfl (show _ = Value.int .i64 ((k + 1 : Nat) : Int) from rfl) ?_
      refine Ar.again ((k + 1, ce, (u, d, q), wh ++ [⟨p.a.tdiv (Int.gcd p.a p.b), p.b.tdiv (Int.gcd p.a p.b)⟩], (a1, c1, junk1))) ?_ ?_ rfl ⟨rfl, rfl, rfl, rfl, rfl, rfl, rfl, trivial⟩ ⟨rfl, rfl, rfl, rfl, trivial⟩
      · refine ⟨hkl, hi2, hi3, ?_, ho1⟩
        rw [hk4, List.take_add_one, List.map_append, List.getElem?_eq_getElem hkl]
        rw [Int.toNat_natCast, List.getElem?_eq_getElem hkl] at hpp
        have hpp : l[k] = p := hpp
        rw [hpp]; rfl
      · show l.length - (k + 1) < l.length - k
        omega
  · have hkl : k = l.length := by omega
    subst hkl
    rw [List.drop_length] at hk2
    have hk2 : cd = N := by rw [← hk2]; exact (List.append_nil _).symm
    rw [List.take_length] at hk4
    subst hk4
    have hwl : (l.map wholeP).length = l.length := List.length_map _
    have hwok : ∀ i, i < (l.map wholeP).length → okP ((l.map wholeP)[i]?.getD default) := fun i hi => by
      rw [hwl] at hi
      rw [List.getElem?_map]
      have := hok i hi
      rw [List.getElem?_eq_getElem hi] at this ⊢
      exact (whole_facts this).2.2.2
    refine Wc.freezeRow 3 rfl hk5 (fun G2 hle2 hw2 => ?_)
    replace ha := ha.up hle2
    replace hoa := hoa.up hle2
    generalize hWh : l.map wholeP = wh at *
    refine Wc.reH 1 (.cells #[.int .i64 l.length, .slice u cd.length d, .slice wa l.length wd] 139) rfl (by rw [hwl]) ?_
    rw [hwl] at hwok
    have hgl : (N ++ (awayAll l.length wh o ++ backAll l.length wh o)).length ≤ 16384 := by
      have := hgood.len
      unfold codeP at this
      rw [hN, hWh] at this; exact this
    generalize hA : awayAll l.length wh o = A at *
    have hgA : (N ++ A).length ≤ 16384 := by rw [← List.append_assoc, List.length_append] at hgl; omega
    refine Wc.gc 21 [0] ?_
    refine Wc.loop (ι := Nat × List Sl.Instr × (Option Addr × Nat × List Value)) (fun (t, ce, (u, d, q)) => ([(67, .int .i64 (t : Int)), (66, Go.Value.int Go.IntKind.i64 (↑(List.length o) : Int)), (65, Go.Value.slice oa (List.length o) oc), (5, Go.Value.int Go.IntKind.i64 (↑(List.length l) : Int)), (6, Go.Value.pointer (Option.some (Go.Addr.mk b2 0 Option.none))), (1, Go.Value.slice oa (List.length o) oc), (4, Go.Value.pointer (Option.some (Go.Addr.mk b1 0 Option.none)))], [(1, some b2, .cells #[.int .i64 l.length, .slice u ce.length d, .slice wa l.length wd] 139), (2, u.map (·.block), Row 50 ce q), (0, Option.some b1, Go.Obj.cells #[Go.Value.int Go.IntKind.i64 0, Go.Value.int Go.IntKind.i64 0, Go.Value.slice Option.none 0 0, Go.Value.slice Option.none 0 0] 29)])) (fun (t, ce, (u, d, q)) => t ≤ o.length ∧ ce ++ awayAll l.length wh (o.drop t) = N ++ A ∧ OwnA u d ce q) (fun (t, ce, (u, d, q)) => o.length - t) ((0, cd, (u, d, q))) (⟨Nat.zero_le _, by rw [hk2, ← hA]; rfl, hk3⟩) ⟨rfl, rfl, rfl, rfl, rfl, rfl, rfl, trivial⟩ ⟨rfl, rfl, rfl, trivial⟩ (fun ⟨t, ce, (u, d, q)⟩ => fun (hk : t ≤ o.length ∧ ce ++ awayAll l.length wh (o.drop t) = N ++ A ∧ OwnA u d ce q) => ?_)
    obtain ⟨ht1, ht2, ht3⟩ := hk
    have hel : ce.length ≤ 16384 := by rw [← ht2, List.length_append] at hgA; omega
    rcases Nat.lt_or_ge t o.length with hte | hte
    · have hdr : o.drop t = o[((t : Nat) : Int).toNat]?.getD default :: o.drop (t + 1) := by
        rw [List.drop_eq_getElem_cons hte, Int.toNat_natCast, List.getElem?_eq_getElem hte]; rfl
      rw [hdr] at ht2
      have hok2 := o2 (o[((t : Nat) : Int).toNat]?.getD default) (by rw [Int.toNat_natCast, List.getElem?_eq_getElem hte]; exact List.getElem_mem _)
      have hdl : (o.drop (t + 1)).length = o.length - ((t : Int) + 1).toNat := by rw [List.length_drop]; omega
      have hdA := arr_drop hoa (t + 1) (by omega) hocc
      have ht2 : ce ++ (awayI l.length wh (o[((t : Nat) : Int).toNat]?.getD default) (o.drop (t + 1)).length (o.drop (t + 1)) ++ awayAll l.length wh (o.drop (t + 1))) = N ++ A := ht2
      have hb : (ce ++ awayI l.length wh (o[((t : Nat) : Int).toNat]?.getD default) (o.drop (t + 1)).length (o.drop (t + 1))).length ≤ 1048576 := by
        rw [← ht2, ← List.append_assoc, List.length_append] at hgA; omega
      refine Wc.gl 14 [1] ?_
      refine Wl.q rfl (Qy.at (α := Int) T.sl27 rfl rfl (by assumption) (by omega)) ?_
      refine Wl.q rfl (Qy.loadG T.one3 rfl (Arr.cell (by assumption) (by omega) 0 rfl rfl)) ?_
      refine Wl.gl 10 [] ?_
      refine Wl.q rfl (Qy.cutL T.sl27 rfl rfl (by omega) (by omega)) ?_
      refine Wl.ll0 4 [] ?_
      have et : ((t : Int) + 1).toNat = t + 1 := by omega
      refine Wl.re 77 rfl (show _ = Value.slice (subA oa oc (t + 1) (Cells.sz Int)) (o.drop (t + 1)).length (oc - (t + 1)) by rw [hdl, et]; rfl) ?_
      refine Wl.re 81 rfl (show _ = Value.int .i64 ((o.drop (t + 1)).length : Nat) by congr 1; rw [hdl, et]; omega) ?_
      refine Wl.call 1 rfl T.fn85 rfl (c85n _ l.length b2 u d ce q wa wd wh _ (subA oa oc (t + 1) (Cells.sz Int)) _ (o.drop (t + 1)).length (o.drop (t + 1)) (o.drop (t + 1)).length hwl rfl ht3 hw2 hdA hl15 hok2 (by rw [hdl]; omega) (fun i hi => o2 i (List.mem_of_mem_drop hi)) (by rw [hdl]; omega) hwok hb) (tags_of ⟨rfl, rfl, trivial⟩) (fun v1 G1 Ho1 hle1 hp => ?_)
      obtain ⟨rfl, rfl, a1, d1, j1, ho1, rfl⟩ := hp
      refine Wl.ga 7 [] ?_
      refine Ar.re 67 rfl (show _ = Value.int .i64 ((t + 1 : Nat) : Int) from rfl) ?_
      refine Ar.again ((t + 1, _, (a1, d1, j1))) ?_ ?_ rfl ⟨rfl, rfl, rfl, rfl, rfl, rfl, rfl, trivial⟩ ⟨rfl, rfl, rfl, trivial⟩
      · refine ⟨hte, ?_, ho1⟩
        rw [← ht2]; simp only [List.append_assoc]
      · show o.length - (t + 1) < o.length - t
        omega
    · have hte : t = o.length := by omega
      subst hte
      rw [List.drop_length] at ht2
      have ht2 : ce = N ++ A := by rw [← ht2]; exact (List.append_nil _).symm
      refine Wc.gc 13 [0] ?_
      refine Wc.draw [0, 2, 1] [(2, 8), (1, 8)] T.mixed rfl ?_
      refine Gm.q 0 [] (by kernel_rfl) rfl rfl (Qy.move rfl) ?_
      refine Gm.q 1 [] (by kernel_rfl) rfl rfl (Qy.move rfl) ?_
      refine Gm.q 3 [] (by kernel_rfl) rfl rfl (Qy.move rfl) ?_
      refine Gm.q 4 [] (by kernel_rfl) rfl rfl (Qy.move rfl) ?_
      refine Gm.q 5 [] (by kernel_rfl) rfl rfl (Qy.sub rfl rfl (by omega)) ?_
      refine Gm.q 6 [] (by kernel_rfl) rfl rfl (Qy.at (α := Int) T.sl27 rfl rfl (by assumption) (by omega)) ?_
      refine Gm.q 7 [0] (by kernel_rfl) rfl rfl (Qy.loadG T.one3 rfl (Arr.cell (by assumption) (by omega) 0 rfl rfl)) ?_
      refine Gm.one 2 ⟨rfl, rfl, rfl, trivial⟩ (by first | exact Imm.le_refl _ | repeat (first | assumption | refine Imm.le_trans ?_ (by assumption))) (by kernel_rfl) rfl ?_
      refine Wl.call1 1 rfl T.fn87 rfl (c87 _ b2 _ _ _ _ (by omega) (by omega)) (tags_of ⟨rfl, trivial⟩) ?_
      refine Wl.on0 ?_
      refine Gm.one 8 ⟨rfl, rfl, rfl, trivial⟩ (by first | exact Imm.le_refl _ | repeat (first | assumption | refine Imm.le_trans ?_ (by assumption))) (by kernel_rfl) rfl ?_
      refine Wl.call 1 rfl T.fn86 rfl (c86 _ b2 _ u d ce q wa _ wd _ _ _ ht3 (by omega)) (tags_of ⟨rfl, rfl, trivial⟩) (fun v1 G1 Ho1 hle1 hp => ?_)
      obtain ⟨rfl, rfl, a1, d1, j1, ho1, rfl⟩ := hp
      refine Wl.on0 ?_
      refine Gm.doneA (by kernel_rfl) ⟨rfl, trivial⟩ (by first | exact Imm.le_refl _ | repeat (first | assumption | refine Imm.le_trans ?_ (by assumption))) ?_
      refine Ar.gc 10 [] ?_
      have hbl : ∀ m, (N ++ A ++ backAll l.length wh (o.drop m)).length ≤ 16384 := fun m => by
        have := backAll_le l.length wh o m
        rw [List.length_append, List.length_append] at hgl
        rw [List.length_append, List.length_append]; omega
      have hi0 : ce ++ timesI ((l.length : Int) + 0) (o[((l.length : Int) - 1).toNat]?.getD default) 1 = N ++ A ++ backAll l.length wh (o.drop (l.length - 1)) := by
        have e1 : o.drop (l.length - 1) = [o[l.length - 1]?.getD default] := by
          rw [List.drop_eq_getElem_cons (by omega), List.getElem?_eq_getElem (by omega), List.drop_eq_nil_of_le (by omega)]; rfl
        rw [e1, ht2, Int.add_zero, show ((l.length : Int) - 1).toNat = l.length - 1 by omega]; rfl
      refine Wc.re 15 rfl (show _ = Value.int .i64 (((l.length - 1 : Nat) : Int) - 1) by congr 1; omega) ?_
      refine Wc.loop (ι := Nat × List Sl.Instr × (Option Addr × Nat × List Value)) (fun (m, cf, (u, d, q)) => ([(15, .int .i64 ((m : Int) - 1)), (5, Go.Value.int Go.IntKind.i64 (↑(List.length l) : Int)), (6, Go.Value.pointer (Option.some (Go.Addr.mk b2 0 Option.none))), (1, Go.Value.slice oa (List.length o) oc), (4, Go.Value.pointer (Option.some (Go.Addr.mk b1 0 Option.none)))], [(1, some b2, .cells #[.int .i64 l.length, .slice u cf.length d, .slice wa l.length wd] 139), (2, u.map (·.block), Row 50 cf q), (0, Option.some b1, Go.Obj.cells #[Go.Value.int Go.IntKind.i64 0, Go.Value.int Go.IntKind.i64 0, Go.Value.slice Option.none 0 0, Go.Value.slice Option.none 0 0] 29)])) (fun (m, cf, (u, d, q)) => m ≤ l.length - 1 ∧ cf = N ++ A ++ backAll l.length wh (o.drop m) ∧ OwnA u d cf q) (fun (m, cf, (u, d, q)) => m) ((l.length - 1, _, (a1, d1, j1))) (⟨Nat.le_refl _, hi0, ho1⟩) ⟨rfl, rfl, rfl, rfl, rfl, trivial⟩ ⟨rfl, rfl, rfl, trivial⟩ (fun ⟨m, cf, (u, d, q)⟩ => fun (hk : m ≤ l.length - 1 ∧ cf = N ++ A ++ backAll l.length wh (o.drop m) ∧ OwnA u d cf q) => ?_)
      obtain ⟨hm1, hm2, hm3⟩ := hk
      rcases Nat.eq_zero_or_pos m with hm0 | hm0
      · subst hm0
        refine Wc.gl 17 [0] ?_
        refine Wl.q rfl (Qy.mul rfl rfl (by omega)) ?_
        refine Wl.ll0 5 [1] ?_
        refine Wl.q rfl (Qy.build (cs := [_, _, _, _]) T.st29 rfl rfl rfl) ?_
        refine Wl.alloc 3 rfl T.zero29 (fun b3 => ?_)
        refine Wl.gc 11 [3] ?_
        refine Wc.nilRow 4 (Row 3 ([] : List Int) []) ?_
        have hcf : cf = codeP l o := by
          rw [hm2, List.drop_zero]
          unfold codeP
          rw [hN, hWh, hA, List.append_assoc]
        refine Wc.loop (ι := Nat × (Option Addr × Nat × List Value)) (fun (t, (x, y, z)) => ([(119, .int .i64 (t : Int)), (118, Go.Value.int Go.IntKind.i64 (↑(List.length l) : Int)), (16, Go.Value.pointer (Option.some (Go.Addr.mk b3 0 Option.none))), (6, Go.Value.pointer (Option.some (Go.Addr.mk b2 0 Option.none))), (4, Go.Value.pointer (Option.some (Go.Addr.mk b1 0 Option.none)))], [(3, some b3, .cells #[.int .i64 l.length, .int .i64 (3 * (l.length : Int) + 1), .slice u cf.length d, .slice x (outsP l.length t).length y] 29), (4, x.map (·.block), Row 3 (outsP l.length t) z), (1, Option.some b2, Go.Obj.cells #[Go.Value.int Go.IntKind.i64 (↑(List.length l) : Int), Go.Value.slice u (List.length cf) d, Go.Value.slice wa (List.length l) wd] 139), (2, Option.map (fun x => Go.Addr.block x) u, Go.Sl.Row (α := Go.Sl.Instr) 50 (cf) (q)), (0, Option.some b1, Go.Obj.cells #[Go.Value.int Go.IntKind.i64 0, Go.Value.int Go.IntKind.i64 0, Go.Value.slice Option.none 0 0, Go.Value.slice Option.none 0 0] 29)])) (fun (t, (x, y, z)) => t ≤ l.length ∧ OwnA x y (outsP l.length t) z) (fun (t, (x, y, z)) => l.length - t) ((0, (none, 0, []))) (⟨Nat.zero_le _, OwnA.nil⟩) ⟨rfl, rfl, rfl, rfl, rfl, trivial⟩ ⟨rfl, rfl, rfl, rfl, rfl, trivial⟩ (fun ⟨t, (x, y, z)⟩ => fun (hk : t ≤ l.length ∧ OwnA x y (outsP l.length t) z) => ?_)
        obtain ⟨hx1, hx2⟩ := hk
        have hol : (outsP l.length t).length = t := outsP_len _ _
        rcases Nat.lt_or_ge t l.length with htl | htl
        · refine Wc.gc 17 [1] ?_
          refine Wc.draw [0, 2, 1, 4, 3] [(3, 8), (4, 6), (2, 6)] T.mixed rfl ?_
          refine Gm.q 0 [] (by kernel_rfl) rfl rfl (Qy.fieldAddr T.fa29_3 rfl) ?_
          refine Gm.q 1 [3] (by kernel_rfl) rfl rfl (Qy.load 3 T.one27 rfl rfl rfl) ?_
          refine Gm.q 2 [] (by kernel_rfl) rfl rfl (Qy.move rfl) ?_
          refine Gm.q 3 [] (by kernel_rfl) rfl rfl (Qy.move rfl) ?_
          refine Gm.one 4 ⟨rfl, rfl, rfl, rfl, rfl, trivial⟩ (by first | exact Imm.le_refl _ | repeat (first | assumption | refine Imm.le_trans ?_ (by assumption))) (by kernel_rfl) rfl ?_
          refine Wl.call1 1 rfl T.fn87 rfl (c87 _ b2 _ _ _ _ (by omega) (by omega)) (tags_of ⟨rfl, trivial⟩) ?_
          refine Wl.on0 ?_
          refine Gm.one 5 ⟨rfl, rfl, rfl, rfl, rfl, trivial⟩ (by first | exact Imm.le_refl _ | repeat (first | assumption | refine Imm.le_trans ?_ (by assumption))) (by kernel_rfl) rfl ?_
          refine Wl.lit (α := Int) 5 [((↑(List.length l) : Int) + (↑t : Int))] rfl T.sl27 T.el3 rfl rfl rfl rfl rfl (fun b4 => ?_)
          refine Wl.on0 ?_
          refine Gm.one 6 ⟨rfl, rfl, rfl, rfl, rfl, trivial⟩ (by first | exact Imm.le_refl _ | repeat (first | assumption | refine Imm.le_trans ?_ (by assumption))) (by kernel_rfl) rfl ?_
          refine Wl.append (α := Int) 4 rfl T.sl27 T.el3 rfl rfl rfl (by first | assumption | exact OwnA.nil | exact OwnA.made (by simp)) (Src.row 5 rfl) (by first | omega | (simp only [List.length_append, List.length_cons, List.length_nil, maxLen]; omega)) (by first | omega | (simp only [List.length_append, List.length_cons, List.length_nil, maxLen]; omega)) (fun a2 c2 junk2 ho2 => ?_)
          refine Wl.on0 ?_
          refine Gm.q 7 [] (by kernel_rfl) rfl rfl (Qy.fieldAddr T.fa29_3 rfl) ?_
          refine Gm.one 8 ⟨rfl, rfl, rfl, trivial⟩ (by first | exact Imm.le_refl _ | repeat (first | assumption | refine Imm.le_trans ?_ (by assumption))) (by kernel_rfl) rfl ?_
          refine Wl.store 3 T.one27 rfl rfl rfl rfl rfl ?_
          refine Wl.on0 ?_
          refine Gm.doneA (by kernel_rfl) ⟨rfl, rfl, trivial⟩ (by first | exact Imm.le_refl _ | repeat (first | assumption | refine Imm.le_trans ?_ (by assumption))) ?_
          refine Ar.ga 6 [] ?_
          refine Ar.re 119 rfl (show _ = Value.int .i64 ((t + 1 : Nat) : Int) from rfl) ?_
          refine Ar.reH 3 (.cells #[.int .i64 l.length, .int .i64 (3 * (l.length : Int) + 1), .slice u cf.length d, .slice a2 (outsP l.length (t + 1)).length c2] 29) rfl (by rw [outsP_succ]; rfl) ?_
          refine Ar.reH 4 (Row 3 (outsP l.length (t + 1)) junk2) rfl (by rw [outsP_succ]) ?_
          refine Ar.again ((t + 1, (a2, c2, junk2))) ?_ ?_ rfl ⟨rfl, rfl, rfl, rfl, rfl, trivial⟩ ⟨rfl, rfl, rfl, rfl, rfl, trivial⟩
          · exact ⟨htl, by rw [outsP_succ]; exact ho2⟩
          · show l.length - (t + 1) < l.length - t
            omega
        · have htl : t = l.length := by omega
          subst htl
          subst hcf
          refine Wc.ga 19 [0, 3, 0] ?_
          refine Ar.pick [2, 4, 0] (by decide) (Ar.out1 (.inr rfl) (Ho := Hp.only _ [0, 1]) rfl (.agg 2 rfl rfl T.agg29) (Hp.sub_only _ _) ?_)
          exact ⟨u, x, d, y, q, z, rfl, hm3, hx2, rfl⟩
      · obtain ⟨i, rfl⟩ : ∃ i, m = i + 1 := ⟨m - 1, by omega⟩
        refine Wc.re 15 rfl (show _ = Value.int .i64 (i : Int) by congr 1; omega) ?_
        have hin : i < o.length := by omega
        have hdr : o.drop i = o[((i : Nat) : Int).toNat]?.getD default :: o.drop (i + 1) := by
          rw [List.drop_eq_getElem_cons hin, Int.toNat_natCast, List.getElem?_eq_getElem hin]; rfl
        have hok2 := o2 (o[((i : Nat) : Int).toNat]?.getD default) (by rw [Int.toNat_natCast, List.getElem?_eq_getElem hin]; exact List.getElem_mem _)
        have hdl : (o.drop (i + 1)).length = o.length - (i + 1) := List.length_drop
        have hbk : cf ++ backI l.length wh (o[((i : Nat) : Int).toNat]?.getD default) (o.drop (i + 1)).length = N ++ A ++ backAll l.length wh (o.drop i) := by
          rw [hm2, hdr, backAll_cons _ _ _ (by omega)]; simp only [List.append_assoc]
        have hb : (cf ++ backI l.length wh (o[((i : Nat) : Int).toNat]?.getD default) (o.drop (i + 1)).length).length ≤ 1048576 := by
          rw [hbk]; have := hbl i; omega
        refine Wc.gl 16 [1] ?_
        refine Wl.q rfl (Qy.at (α := Int) T.sl27 rfl rfl (by assumption) (by omega)) ?_
        refine Wl.q rfl (Qy.loadG T.one3 rfl (Arr.cell (by assumption) (by omega) 0 rfl rfl)) ?_
        refine Wl.ll0 4 [] ?_
        refine Wl.re 107 rfl (show _ = Value.int .i64 ((o.drop (i + 1)).length : Nat) by congr 1; rw [hdl]; omega) ?_
        refine Wl.call 1 rfl T.fn88 rfl (c88n _ l.length b2 u d cf q wa wd wh _ (o.drop (i + 1)).length hwl hm3 hw2 hl15 hok2 (by rw [hdl]; omega) (by rw [hdl]; omega) (hwok _ (by omega)) hb) (tags_of ⟨rfl, rfl, trivial⟩) (fun v3 G3 Ho3 hle3 hp => ?_)
        obtain ⟨rfl, rfl, a3, d3, j3, ho3, rfl⟩ := hp
        refine Wl.ga 8 [] ?_
        refine Ar.re 15 rfl (show _ = Value.int .i64 ((i : Int) - 1) from rfl) ?_
        refine Ar.again ((i, _, (a3, d3, j3))) ?_ ?_ rfl ⟨rfl, rfl, rfl, rfl, rfl, trivial⟩ ⟨rfl, rfl, rfl, trivial⟩
        · exact ⟨by omega, hbk, ho3⟩
        · show i < i + 1
          omega
end Go.Proofs.YtelbhbbiejalhaaGreat
set_option maxRecDepth 100000
set_option linter.unusedVariables false
namespace Go.Proofs.YtelbhbbiejalhaaGreat
open Go Go.Sl
set_option maxHeartbeats 4000000
theorem cell_oneS {G : Imm} {b : Nat} {cs : List Value} {T : TypeId} {fz : Nat × Nat} (h : G b = some (.cells cs.toArray T fz)) (k : Nat) {v : Value} (hv : cs[k]? = some v) : G.cell b k = some v := by
  simp only [Imm.cell, h]; simpa using hv
/-- slices.Values -/
theorem c53 (G : Imm) (a : Option Addr) (n c : Nat) : Does Tryz.prog 53 [.slice a n c] G [] (fun v G' Ho => ∃ b, v = .func (.func 82) #[] #[.pointer (some ⟨b, 0, none⟩)] ∧ Ho = [] ∧ G' b = some (.cells [.slice a n c].toArray 27)) := by
  refine Does.enter Tryz.func53 rfl Tryz.ntmps53 rfl (fun w => ?_)
  refine Wc.gl 2 [] ?_
  refine Wl.box 0 rfl rfl rfl (fun b1 => ?_)
  refine Wl.gl 5 [] ?_
  refine Wl.q rfl (Qy.makeFunc rfl rfl) ?_
  refine Wl.ga 4 [] ?_
  refine Ar.freeze 0 rfl (fun G' hle hb => ?_)
  refine Ar.out1 (.inr rfl) (Ho := []) rfl (.tmp rfl) trivial ?_
  exact ⟨_, rfl, rfl, hb⟩
def encI (x : Int) : List Value := [.int .i64 x]
theorem c82 (G : Imm) (a : Option Addr) (c : Nat) (xs : List Int) (b : Nat) (hx : Arr G a xs) (hl : xs.length ≤ 1099511627776) (hb : G b = some (.cells [.slice a xs.length c].toArray 27)) :
    IterDoes Tryz.prog 82 [.pointer (some ⟨b, 0, none⟩)] G encI xs := by
  intro ι J inv stop ly i0 hi0 hY
  have hcell : G.cell b 0 = some (.slice a xs.length c) := cell_oneS hb 0 rfl
  refine Does.enter Tryz.func82 rfl Tryz.ntmps82 rfl (fun w => ?_)
  refine Wc.lift 1000 ?_
  refine Wc.gl 2 [] ?_
  refine Wl.q rfl (Qy.loadG T.one27 rfl (by assumption)) ?_
  refine Wl.gc 5 [] ?_
  refine Wc.loopT (ι := Nat × ι) 1000 (fun (m, s) => ([(7, .int .i64 (m : Int)), (6, Go.Value.int Go.IntKind.i64 (↑(List.length xs) : Int)), (5, Go.Value.slice a (List.length xs) c), (0, Go.Value.func (Go.Fn.yield ly) #[] #[])], [])) (fun (m, s) => J s) (fun (m, s) => m ≤ xs.length ∧ inv m s) (fun (m, s) => xs.length - m) ((0, i0)) (⟨Nat.zero_le _, hi0⟩) ⟨rfl, rfl, rfl, rfl, trivial⟩ trivial (by repeat (first | exact Hp.tl_self _ _ | refine Hp.tl_cons rfl ?_)) (fun ⟨m, s⟩ => fun (hk : m ≤ xs.length ∧ inv m s) => ?_)
  obtain ⟨hm1, hinv⟩ := hk
  refine Wc.gc 6 [] ?_
  refine Wc.cond rfl (fun hc1 => ?_) (fun hc1 => ?_)
  refine Wc.gl 6 [] ?_
  refine Wl.q rfl (Qy.at (α := Int) T.sl27 rfl rfl (by assumption) (by omega)) ?_
  refine Wl.q rfl (Qy.loadG T.one3 rfl (Arr.cell (by assumption) (by omega) 0 rfl rfl)) ?_
  refine Wl.gl 7 [] ?_
  rotate_left
  refine Wc.ga 4 [] ?_
  rotate_left
  · have hml : m < xs.length := by omega
    have hbx : xs[m]? = some (xs[((m : Nat) : Int).toNat]?.getD default) := by
      rw [Int.toNat_natCast, List.getElem?_eq_getElem hml]; rfl
    refine Wl.yieldT (A := []) 1000 rfl rfl rfl trivial (by repeat (first | exact Hp.tl_self _ _ | refine Hp.tl_cons rfl ?_)) rfl (hY m _ s hbx hinv) (fun vy Gy Hy hly hp => ?_)
    obtain ⟨rfl, s', rfl, hp⟩ := hp
    rcases hp with ⟨rfl, hinv'⟩ | ⟨rfl, hst⟩
    · refine Wl.ga 11 [0] ?_
      refine Ar.re 7 rfl (show _ = Value.int .i64 ((m + 1 : Nat) : Int) from rfl) ?_
      refine Ar.againGT ((m + 1, s')) ?_ ?_ rfl ⟨rfl, rfl, rfl, rfl, trivial⟩ trivial (by repeat (first | exact Hp.tl_self _ _ | refine Hp.tl_cons rfl ?_))
      · exact ⟨hml, hinv'⟩
      · show xs.length - (m + 1) < xs.length - m
        omega
    · refine Wl.ga 9 [1] ?_
      refine Ar.outT (k := 1000) (.inr rfl) rfl (by repeat (first | exact Hp.tl_self _ _ | refine Hp.tl_cons rfl ?_)) ⟨rfl, s', rfl, .inr hst⟩
  · have hm : m = xs.length := by omega
    subst hm
    refine Ar.outT (k := 1000) (.inl rfl) rfl (by repeat (first | exact Hp.tl_self _ _ | refine Hp.tl_cons rfl ?_)) ⟨rfl, s, rfl, .inl hinv⟩
theorem c114 (G : Imm) (a : Option Addr) (c : Nat) (xs : List Int) (b : Nat) (hx : Arr G a xs) (hl : xs.length ≤ 1048576) (hb : G b = some (.cells [.slice a xs.length c].toArray 27)) :
    Does Tryz.prog 114 [.slice none 0 0, .func (.func 82) #[] #[.pointer (some ⟨b, 0, none⟩)]] G [] (fun v G' Ho => ∃ (o : Option Addr) (d : Nat) (j : List Value), v = .slice o xs.length d ∧ OwnA o d xs j ∧ Ho = [(0, o.map (·.block), Row 3 xs j)] ∧ G' = G) := by
  refine Does.enterM Tryz.func114 rfl Tryz.ntmps114 rfl (fun w => ?_)
  refine Wc.gl 2 [] ?_
  refine Wl.box 0 rfl rfl rfl (fun b1 => ?_)
  refine Wl.gc 10 [] ?_
  refine Wc.nilRow 1 (Row 3 ([] : List Int) []) ?_
  refine Wc.rangeFunc (ι := List Int × (Option Addr × Nat × List Value)) 900 901 (fun (ys, (o, d, j)) => [(0, some b1, .cells #[.slice o ys.length d] 27), (1, o.map (·.block), Row 3 ys j)]) (fun k (ys, (o, d, j)) => ys = xs.take k ∧ OwnA o d ys j) (fun c (ys, (o, d, j)) => False) (([], (none, 0, []))) rfl T.fn82 (fun _ => rfl) rfl (c82 _ a c xs b hx (by omega) hb) (⟨rfl, OwnA.nil⟩) (Hp.got ⟨rfl, rfl, trivial⟩) ⟨rfl, fun _ => rfl⟩ (fun k x ⟨ys, (o, d, j)⟩ l dd q w0 hx hi => ?_) (fun ⟨ys, (o, d, j)⟩ dd hi => ?_) (fun ⟨ys, (o, d, j)⟩ dd c hi => ?_)
  · obtain ⟨hy, ho⟩ := hi
    have hkl : k < xs.length := (List.getElem?_eq_some_iff.1 hx).1
    have hyl : ys.length = k := by rw [hy, List.length_take]; omega
    refine Wc.ga 3 [] ?_
    refine Ar.begin 900 rfl ?_
    refine Wc.gl 4 [0] ?_
    refine Wl.lit (α := Int) 902 [(x)] rfl T.sl27 T.el3 rfl rfl rfl rfl rfl (fun b2 => ?_)
    refine Wl.append (α := Int) 1 rfl T.sl27 T.el3 rfl rfl rfl (by first | assumption | exact OwnA.nil | exact OwnA.made (by simp)) (Src.row 902 rfl) (by first | omega | (simp only [List.length_append, List.length_cons, List.length_nil, maxLen]; omega)) (by first | omega | (simp only [List.length_append, List.length_cons, List.length_nil, maxLen]; omega)) (fun a1 c1 junk1 ho1 => ?_)
    refine Wl.ga 3 [0] ?_
    refine Ar.roundEnd none (.inl ⟨rfl, rfl⟩) 900 rfl ⟨rfl, ((ys ++ [x], (a1, c1, junk1)), none), rfl, .inl ⟨rfl, rfl, ?_⟩⟩ (Hp.got ⟨rfl, rfl, rfl, rfl, trivial⟩)
    refine ⟨?_, ho1⟩
    rw [List.take_add_one, hx, hy]; rfl
  · obtain ⟨hy, ho⟩ := hi
    rw [List.take_length] at hy
    subst hy
    refine Ar.ga 9 [0] ?_
    refine Ar.collect (.inr rfl) 901 rfl ?_
    refine Ar.outOf (.inr rfl) ?_
    refine Ar.base (Ar.pick [1] (by decide) (Ar.out1 (.inr rfl) rfl (.tmp rfl) (Hp.sub_self 0 _) ?_))
    exact ⟨_, _, _, rfl, ho, rfl, rfl⟩
  · exact hi.elim
theorem c80 (G : Imm) (a : Option Addr) (c : Nat) (xs : List Int) (b : Nat) (hx : Arr G a xs) (hl : xs.length ≤ 1048576) (hb : G b = some (.cells [.slice a xs.length c].toArray 27)) :
    Does Tryz.prog 80 [.func (.func 82) #[] #[.pointer (some ⟨b, 0, none⟩)]] G [] (fun v G' Ho => ∃ (o : Option Addr) (d : Nat) (j : List Value), v = .slice o xs.length d ∧ OwnA o d xs j ∧ Ho = [(0, o.map (·.block), Row 3 xs j)] ∧ G' = G) := by
  refine Does.enter Tryz.func80 rfl Tryz.ntmps80 rfl (fun w => ?_)
  refine Wc.gl 8 [] ?_
  refine Wl.call 0 rfl T.fn114 rfl (c114 _ a c xs b hx hl hb) (tags_of trivial) (fun v1 G1 Ho1 hle1 hp => ?_)
  obtain ⟨o1, d1, j1, rfl, ho1, rfl, rfl⟩ := hp
  refine Wl.ga 4 [] ?_
  refine Ar.out1 (.inr rfl) (Ho := Hp.only _ [0]) rfl (.tmp rfl) (Hp.sub_only _ _) ?_
  exact ⟨_, _, _, rfl, ho1, rfl, rfl⟩
/-- slices.Sorted of slices.Values -/
def sortL (xs : List Int) : List Int := xs.mergeSort fun x y => decide (x ≤ y)
theorem sortL_len (xs : List Int) : (sortL xs).length = xs.length := List.length_mergeSort xs
theorem c52 (G : Imm) (a : Option Addr) (c : Nat) (xs : List Int) (b : Nat) (hx : Arr G a xs) (hl : xs.length ≤ 1048576) (hb : G b = some (.cells [.slice a xs.length c].toArray 27)) :
    Does Tryz.prog 52 [.func (.func 82) #[] #[.pointer (some ⟨b, 0, none⟩)]] G [] (fun v G' Ho => ∃ (o : Option Addr) (d : Nat), v = .slice o (sortL xs).length d ∧ Arr G' o (sortL xs) ∧ (sortL xs).length ≤ d ∧ Ho = []) := by
  refine Does.enter Tryz.func52 rfl Tryz.ntmps52 rfl (fun w => ?_)
  refine Wc.gl 8 [] ?_
  refine Wl.call 0 rfl T.fn80 rfl (c80 _ a c xs b hx hl hb) (tags_of trivial) (fun v1 G1 Ho1 hle1 hp => ?_)
  obtain ⟨o1, d1, j1, rfl, ho1, rfl, rfl⟩ := hp
  refine Wl.gl 6 [] ?_
  rcases ho1 with ⟨rfl, rfl, rfl, rfl⟩ | ⟨bb, rfl, h2, h3, h4⟩
  · refine Wl.call0 rfl T.fn81 rfl (c81N _ _) ?_
    refine Wl.ga 9 [] ?_
    refine Ar.out1 (.inr rfl) (Ho := []) rfl (.tmp rfl) trivial ?_
    exact ⟨none, 0, by rw [sortL_len], by rw [List.eq_nil_of_length_eq_zero (sortL_len [])]; exact Arr.nil _, Nat.le_of_eq (sortL_len []), rfl⟩
  · refine Wl.call 0 rfl T.fn81 rfl (c81 _ bb d1 xs j1 (by omega)) (tags_of ⟨rfl, trivial⟩) (fun v2 G2 Ho2 hle2 hp => ?_)
    obtain ⟨rfl, rfl, rfl⟩ := hp
    refine Wl.ga 9 [] ?_
    have hoS : OwnA (some ⟨bb, 0, none⟩) d1 (sortL xs) j1 := .inr ⟨bb, rfl, by rw [sortL_len]; exact h2, by rw [sortL_len]; exact h3, h4⟩
    refine Ar.freezeRow 0 rfl hoS (fun G8 hle8 hA8 => ?_)
    refine Ar.out1 (.inr rfl) (Ho := []) rfl (.tmp rfl) trivial ?_
    exact ⟨_, _, by rw [sortL_len], hA8, by rw [sortL_len]; exact h3, rfl⟩
theorem idx_nodup (n : Nat) : (idx n).Pairwise (· < ·) := by
  unfold idx
  rw [List.pairwise_map]
  exact List.Pairwise.imp (fun h => by omega) List.pairwise_lt_range
theorem idx_mem (n : Nat) (x : Int) : x ∈ idx n ↔ 0 ≤ x ∧ x < n := by
  unfold idx
  rw [List.mem_map]
  constructor
  · rintro ⟨k, hk, rfl⟩
    have := List.mem_range.1 hk
    omega
  · intro h
    exact ⟨x.toNat, List.mem_range.2 (by omega), by omega⟩
/-- sorted, they are the numbers themselves: an order -/
theorem sort_order (o : List Int) (n : Nat) : sortL o = idx n ↔ OrderP o n := by
  have hnd : (idx n).Nodup := (idx_nodup n).imp (fun h => by omega)
  have hp : (sortL o).Perm o := List.mergeSort_perm o _
  constructor
  · intro h
    rw [h] at hp
    refine ⟨by rw [← hp.length_eq, idx_len], fun x hx => (idx_mem n x).1 (hp.mem_iff.2 hx), hp.nodup_iff.1 hnd⟩
  · rintro ⟨h1, h2, h3⟩
    have hm : ∀ x, x ∈ o ↔ x ∈ idx n := fun x => by
      refine ⟨fun hx => (idx_mem n x).2 (h2 x hx), fun hx => Classical.byContradiction fun hno => ?_⟩
      have := List.Nodup.length_le_of_subset (List.nodup_cons.2 ⟨hno, h3⟩) (l₂ := idx n) (fun y hy => by
        rcases List.mem_cons.1 hy with rfl | hy
        · exact hx
        · exact (idx_mem n y).2 (h2 y hy))
      rw [List.length_cons, idx_len] at this; omega
    have hperm : (sortL o).Perm (idx n) := hp.trans ((List.perm_ext_iff_of_nodup h3 hnd).2 hm)
    exact List.Perm.eq_of_pairwise (le := fun a b : Int => a ≤ b) (fun a b _ _ h1 h2 => by omega) (sorted_le o) ((idx_nodup n).imp (fun h => by omega)) hperm
/-- slices.Equal of []int -/
theorem c51 (G : Imm) (a b : Option Addr) (c d : Nat) (xs ys : List Int) (hx : Arr G a xs) (hy : Arr G b ys) (hl : xs.length ≤ 1048576) :
    Does Tryz.prog 51 [.slice a xs.length c, .slice b ys.length d] G [] (fun v G' Ho => v = .bool (decide (xs = ys)) ∧ G' = G ∧ Ho = []) := by
  refine Does.enter Tryz.func51 rfl Tryz.ntmps51 rfl (fun w => ?_)
  refine Wc.gc 15 [] ?_
  refine Wc.cond rfl (fun hc1 => ?_) (fun hc1 => ?_)
  refine Wc.ga 7 [] ?_
  refine Ar.out1 (.inr rfl) (Ho := Hp.only _ []) rfl (.tmp rfl) (Hp.sub_only _ _) ?_
  rotate_left
  refine Wc.gc 11 [] ?_
  rotate_left
  · refine ⟨?_, rfl, rfl⟩
    congr 1
    refine (decide_eq_false fun h => hc1 ?_).symm
    rw [h]
  · have hle : xs.length = ys.length := Classical.byContradiction fun h => hc1 (by omega)
    refine Wc.loop (ι := Nat) (fun k => ([(13, .int .i64 (k : Int)), (12, Go.Value.int Go.IntKind.i64 (↑(List.length xs) : Int)), (0, Go.Value.slice a (List.length xs) c), (1, Go.Value.slice b (List.length ys) d)], [])) (fun k => k ≤ xs.length ∧ (∀ i, i < k → xs[i]?.getD default = ys[i]?.getD default)) (fun k => xs.length - k) (0) (⟨Nat.zero_le _, fun i h => absurd h (by omega)⟩) ⟨rfl, rfl, rfl, rfl, trivial⟩ trivial (fun k => fun (hk : k ≤ xs.length ∧ (∀ i, i < k → xs[i]?.getD default = ys[i]?.getD default)) => ?_)
    obtain ⟨hk1, hk2⟩ := hk
    rcases Nat.lt_or_ge k xs.length with hkl | hkl
    · refine Wc.gc 18 [1] ?_
      refine Wc.draw [] [] T.mixed rfl ?_
      refine Gm.q 0 [] (by kernel_rfl) rfl rfl (Qy.move rfl) ?_
      refine Gm.q 1 [] (by kernel_rfl) rfl rfl (Qy.move rfl) ?_
      refine Gm.q 2 [] (by kernel_rfl) rfl rfl (Qy.at (α := Int) T.sl27 rfl rfl (by assumption) (by omega)) ?_
      refine Gm.q 3 [] (by kernel_rfl) rfl rfl (Qy.loadG T.one3 rfl (Arr.cell (by assumption) (by omega) 0 rfl rfl)) ?_
      refine Gm.q 4 [] (by kernel_rfl) rfl rfl (Qy.move rfl) ?_
      refine Gm.q 5 [] (by kernel_rfl) rfl rfl (Qy.move rfl) ?_
      refine Gm.q 6 [] (by kernel_rfl) rfl rfl (Qy.at (α := Int) T.sl27 rfl rfl (by assumption) (by omega)) ?_
      refine Gm.q 7 [] (by kernel_rfl) rfl rfl (Qy.loadG T.one3 rfl (Arr.cell (by assumption) (by omega) 0 rfl rfl)) ?_
      refine Gm.q 8 [] (by kernel_rfl) rfl rfl (Qy.neq rfl rfl) ?_
      refine Gm.doneA (by kernel_rfl) trivial (by first | exact Imm.le_refl _ | repeat (first | assumption | refine Imm.le_trans ?_ (by assumption))) ?_
      refine Ar.next ?_
      refine Wc.cond rfl (fun hc2 => ?_) (fun hc2 => ?_)
      refine Wc.ga 11 [] ?_
      refine Ar.out1 (.inr rfl) (Ho := Hp.only _ []) rfl (.tmp rfl) (Hp.sub_only _ _) ?_
      rotate_left
      refine Wc.ga 7 [] ?_
      rotate_left
      · refine ⟨?_, rfl, rfl⟩
        congr 1
        refine (decide_eq_false fun h => hc2 ?_).symm
        rw [h]
      · refine Ar.re 13 rfl (show _ = Value.int .i64 ((k + 1 : Nat) : Int) from rfl) ?_
        refine Ar.again (k + 1) ?_ ?_ rfl ⟨rfl, rfl, rfl, rfl, trivial⟩ trivial
        · refine ⟨hkl, fun i hi => ?_⟩
          rcases Nat.lt_or_ge i k with h | h
          · exact hk2 i h
          · have e : i = k := by omega
            subst e
            exact Classical.byContradiction fun h => hc2 h
        · show xs.length - (k + 1) < xs.length - k
          omega
    · refine Wc.ga 18 [0] ?_
      refine Ar.out1 (.inr rfl) (Ho := Hp.only _ []) rfl (.tmp rfl) (Hp.sub_only _ _) ?_
      refine ⟨?_, rfl, rfl⟩
      congr 1
      refine (decide_eq_true ?_).symm
      apply List.ext_getElem hle
      intro i h1 h2
      have := hk2 i (by omega)
      rw [List.getElem?_eq_getElem h1, List.getElem?_eq_getElem h2] at this
      exact this
theorem c24Y (G : Imm) (a : Option Addr) (c : Nat) (l : List R2) (oa : Option Addr) (oc : Nat) (o : List Int) (ha : Arr G a l) (hoa : Arr G oa o) (hac : l.length ≤ c) (hocc : o.length ≤ oc) (hR : RightL l) (hO : OrderP o l.length) :
    Does Tryz.prog 24 [.slice a l.length c, .slice oa o.length oc] G [] (fun v G' Ho => ∃ (bc bo : Option Addr) (dc do_ : Nat) (j1 j2 : List Value), v = .tuple #[.agg #[.int .i64 (madeP l o).ins, .int .i64 (madeP l o).regs, .slice bc (madeP l o).code.length dc, .slice bo (madeP l o).outs.length do_], .int .i64 0] ∧ OwnA bc dc (madeP l o).code j1 ∧ OwnA bo do_ (madeP l o).outs j2 ∧
      Ho = [(0, bc.map (·.block), Row 50 (madeP l o).code j1), (1, bo.map (·.block), Row 3 (madeP l o).outs j2)]) := by
  have hl15 := hR.2.1
  have hol : o.length ≤ 1048576 := by rw [hO.1]; omega
  refine Does.enter Tryz.func24 rfl Tryz.ntmps24 rfl (fun w => ?_)
  refine Wc.gl 2 [] ?_
  refine Wl.alloc 0 rfl T.zero29 (fun b1 => ?_)
  refine Wl.gl 7 [] ?_
  refine Wl.call0 rfl T.fn20 rfl (c20Y _ _ _ l (by assumption) (by omega) hac hR) ?_
  refine Wl.ll0 5 [] ?_
  refine Wl.call 1 rfl T.fn53 rfl (c53 _ _ _ _) (tags_of trivial) (fun v1 G1 Ho1 hle1 hp => ?_)
  obtain ⟨vb1, rfl, rfl, hvb1⟩ := hp
  replace ha := ha.up hle1
  replace hoa := hoa.up hle1
  refine Wl.want rfl rfl ?_
  refine Wl.call 1 rfl T.fn52 rfl (c52 _ oa oc o vb1 hoa hol hvb1) (tags_of trivial) (fun v2 G2 Ho2 hle2 hp => ?_)
  obtain ⟨so2, sd2, rfl, hs2, hsd2, rfl⟩ := hp
  replace ha := ha.up hle2
  replace hoa := hoa.up hle2
  refine Wl.ll0 5 [] ?_
  refine Wl.call 1 rfl T.fn25 rfl (c25 _ l.length (by omega)) (tags_of trivial) (fun v3 G3 Ho3 hle3 hp => ?_)
  obtain ⟨na3, nc3, rfl, hna3, hnc3, rfl⟩ := hp
  replace hs2 := hs2.up hle3
  replace ha := ha.up hle3
  replace hoa := hoa.up hle3
  refine Wl.want rfl rfl ?_
  refine Wl.call0 rfl T.fn51 rfl (c51 _ so2 na3 _ _ (sortL o) (idx l.length) hs2 hna3 (by rw [sortL_len]; exact hol)) ?_
  refine Wl.want rfl rfl ?_
  refine Wl.q rfl (Qy.notD rfl) ?_
  refine Wl.gc 3 [] ?_
  refine Wc.cond rfl (fun hc1 => ?_) (fun hc1 => ?_)
  refine Wc.gl 2 [] ?_
  refine Wl.q rfl (Qy.build (cs := [_, _, _, _]) T.st29 rfl rfl rfl) ?_
  refine Wl.ga 6 [0] ?_
  rotate_left
  refine Wc.gl 6 [] ?_
  rotate_left
  skip
  have hso := sort_order o l.length
  have hne : sortL o = idx l.length := hso.2 hO
  skip
  · exact absurd hne hc1
  refine Wl.call 1 rfl T.fn54 rfl (c54 _ a c l oa oc o ha hoa hac hocc hR hO) (tags_of trivial) (fun v4 G4 Ho4 hle4 hp => ?_)
  obtain ⟨bc4, bo4, dc4, dd4, j4, z4, rfl, ho4, hp4, rfl⟩ := hp
  refine Wl.ga 5 [0] ?_
  refine Ar.pick [1, 2, 0] (by decide) (Ar.out2 (.inr rfl) (Ho := Hp.only _ [0, 1]) rfl (.agg 2 rfl rfl T.agg29) (.tmp rfl) (Hp.sub_only _ _) ?_)
  exact ⟨_, _, _, _, _, _, rfl, ho4, hp4, rfl⟩
theorem idx_order (n : Nat) : OrderP (idx n) n := ⟨idx_len n, fun x hx => (idx_mem n x).1 hx, (idx_nodup n).imp (fun h => by omega)⟩
theorem c8Y (G : Imm) (a : Option Addr) (c : Nat) (l : List R2) (ha : Arr G a l) (hac : l.length ≤ c) (hR : RightL l) :
    Does Tryz.prog 8 [.slice a l.length c] G [] (fun v G' Ho => ∃ (bc bo : Option Addr) (dc do_ : Nat) (j1 j2 : List Value), v = .tuple #[.agg #[.int .i64 (madeP l (idx l.length)).ins, .int .i64 (madeP l (idx l.length)).regs, .slice bc (madeP l (idx l.length)).code.length dc, .slice bo (madeP l (idx l.length)).outs.length do_], .int .i64 0] ∧ OwnA bc dc (madeP l (idx l.length)).code j1 ∧ OwnA bo do_ (madeP l (idx l.length)).outs j2 ∧
      Ho = [(0, bc.map (·.block), Row 50 (madeP l (idx l.length)).code j1), (1, bo.map (·.block), Row 3 (madeP l (idx l.length)).outs j2)]) := by
  have hl15 := hR.2.1
  refine Does.enter Tryz.func8 rfl Tryz.ntmps8 rfl (fun w => ?_)
  refine Wc.gl 2 [] ?_
  refine Wl.alloc 0 rfl T.zero29 (fun b1 => ?_)
  refine Wl.gl 8 [] ?_
  refine Wl.call 1 rfl T.fn25 rfl (c25 _ l.length (by omega)) (tags_of trivial) (fun v1 G1 Ho1 hle1 hp => ?_)
  obtain ⟨na1, nc1, rfl, hna1, hnc1, rfl⟩ := hp
  replace ha := ha.up hle1
  refine Wl.call 1 rfl T.fn24 rfl (c24Y _ a c l na1 nc1 (idx l.length) ha hna1 hac hnc1 hR (idx_order l.length)) (tags_of trivial) (fun v2 G2 Ho2 hle2 hp => ?_)
  obtain ⟨bc2, bo2, dc2, dd2, j2, z2, rfl, ho2, hp2, rfl⟩ := hp
  replace hna1 := hna1.up hle2
  replace ha := ha.up hle2
  refine Wl.ga 7 [0] ?_
  refine Ar.pick [1, 2, 0] (by decide) (Ar.out2 (.inr rfl) (Ho := Hp.only _ [0, 1]) rfl (.agg 2 rfl rfl T.agg29) (.tmp rfl) (Hp.sub_only _ _) ?_)
  exact ⟨_, _, _, _, _, _, rfl, ho2, hp2, rfl⟩
end Go.Proofs.YtelbhbbiejalhaaGreat
set_option maxRecDepth 100000
set_option linter.unusedVariables false
set_option linter.unusedSectionVars false
namespace Go.Proofs.YtelbhbbiejalhaaGreat
open Go Go.Sl
set_option maxHeartbeats 4000000
attribute [local irreducible] madeP codeP RightL OrderP InterpP rightP
section
variable (G : Imm) (a : Option Addr) (c : Nat) (l : List R2) (n : Int) (ii : Sl.Instr) (ha : Arr G a l) (hac : l.length ≤ c) (hl : l.length ≤ 1048576)
include ha hac hl
theorem c5N (hR : ¬ RightL l) : Does Tryz.prog 5 [.slice a l.length c, .int .i64 n, .agg (Cells.enc ii).toArray] G [] LawTrue := by
  refine Does.enter Tryz.func5 rfl Tryz.ntmps5 rfl (fun w => ?_)
  refine Wc.gl 2 [] ?_
  refine Wl.box 0 rfl rfl rfl (fun b1 => ?_)
  refine Wl.gl 6 [] ?_
  refine Wl.k0 rfl (c6 _) ?_
  refine Wl.gl 9 [0] ?_
  refine Wl.k0 rfl (c7N _ a c l (by assumption) (by omega) hac hR) ?_
  refine Wl.ga 23 [1] ?_
  refine Ar.e1 ?_
  all_goals exact ⟨rfl, rfl⟩
theorem c5B (hR : RightL l) (h7 : 7 < l.length) : Does Tryz.prog 5 [.slice a l.length c, .int .i64 n, .agg (Cells.enc ii).toArray] G [] LawTrue := by
  refine Does.enter Tryz.func5 rfl Tryz.ntmps5 rfl (fun w => ?_)
  refine Wc.gl 2 [] ?_
  refine Wl.box 0 rfl rfl rfl (fun b1 => ?_)
  refine Wl.gl 6 [] ?_
  refine Wl.k0 rfl (c6 _) ?_
  refine Wl.gl 9 [0] ?_
  refine Wl.k0 rfl (c7Y _ a c l (by assumption) (by omega) hac hR) ?_
  refine Wl.ga 26 [1] ?_
  refine Ar.e1 ?_
  all_goals exact ⟨rfl, rfl⟩
theorem c5Y (hR : RightL l) (h7 : ¬ 7 < l.length) : Does Tryz.prog 5 [.slice a l.length c, .int .i64 n, .agg (Cells.enc ii).toArray] G [] LawTrue := by
  have hrr : 1 ≤ l.length ∧ l.length ≤ 15 ∧ (∀ i, i < l.length → okP (l[i]?.getD default)) := by
    unfold RightL at hR; exact ⟨hR.1, hR.2.1, hR.2.2.1⟩
  obtain ⟨hr1, hr15, hr2⟩ := hrr
  have hO : OrderP (idx l.length) l.length := idx_order _
  have hRr := made_right hR hO
  refine Does.enter Tryz.func5 rfl Tryz.ntmps5 rfl (fun w => ?_)
  refine Wc.gl 2 [] ?_
  refine Wl.box 0 rfl rfl rfl (fun b1 => ?_)
  refine Wl.gl 6 [] ?_
  refine Wl.k0 rfl (c6 _) ?_
  refine Wl.gl 9 [0] ?_
  refine Wl.k0 rfl (c7Y _ a c l (by assumption) (by omega) hac hR) ?_
  refine Wl.gl 24 [0] ?_
  refine Wl.k 30 rfl (c8Y _ a c l ha hac hR) (fun v1 G1 Ho1 hle1 hp => ?_)
  obtain ⟨pc, po, pd, pe, y1, y2, rfl, hy1, hy2, rfl⟩ := hp
  replace ha := ha.up hle1
  generalize madeP l (idx l.length) = p at *
  obtain ⟨f1, f2, f3, f4, f5, f6, f7, f8⟩ := right_facts hRr
  by_cases h0 : n < 0
  · refine Wl.ll0 3 [] ?_
    refine Wl.alloc 32 rfl T.zero29 (fun b2 => ?_)
    refine Wl.gl 10 [32] ?_
    refine Wl.no 31 rfl (by first | assumption | omega) ?_
    refine Wl.ll0 1 [] ?_
    refine Wl.k0 rfl (c6 _) ?_
    refine Wl.gl 14 [0] ?_
    refine Wl.yes 37 rfl (by first | assumption | omega) ?_
    refine Wl.ga 16 [1] ?_
    refine Ar.e1 ?_
    all_goals exact ⟨rfl, rfl⟩
  by_cases hn : (p.code.length : Int) ≤ n
  · refine Wl.ll0 3 [] ?_
    refine Wl.alloc 32 rfl T.zero29 (fun b2 => ?_)
    refine Wl.gl 10 [32] ?_
    refine Wl.no 31 rfl (by first | assumption | omega) ?_
    refine Wl.ll0 1 [] ?_
    refine Wl.k0 rfl (c6 _) ?_
    refine Wl.gl 14 [0] ?_
    refine Wl.no 37 rfl (by first | assumption | omega) ?_
    refine Wl.ga 21 [32, 1] ?_
    refine Ar.e1 ?_
    all_goals exact ⟨rfl, rfl⟩
  refine Wl.ll0 3 [] ?_
  refine Wl.alloc 32 rfl T.zero29 (fun b2 => ?_)
  refine Wl.gl 10 [32] ?_
  refine Wl.no 31 rfl (by first | assumption | omega) ?_
  refine Wl.ll0 1 [] ?_
  refine Wl.k0 rfl (c6 _) ?_
  refine Wl.gl 14 [0] ?_
  refine Wl.no 37 rfl (by first | assumption | omega) ?_
  refine Wl.gl 22 [32, 0, 32, 0] ?_
  refine Wl.q rfl (Qy.indexAddrO (α := Sl.Instr) T.sl26 rfl rfl (by assumption) (by omega)) ?_
  refine Wl.setO (z := ⟨_, _, _, _, _⟩) 30 T.size50 rfl rfl rfl (by assumption) (by omega) rfl (fun ho1 => ?_)
  refine Wl.gl 6 [32] ?_
  obtain ⟨cd, hcd⟩ : ∃ cd, cd = p.code.set n.toNat { op := ii.op, to := ii.to, a := ii.a, b := ii.b, c := ii.c } := ⟨_, rfl⟩
  have hcl : cd.length = p.code.length := by rw [hcd, List.length_set]
  rw [← hcd] at ho1 ⊢
  refine Wl.freezeRow 30 rfl ho1 (fun G2 hle2 hA => ?_)
  refine Wl.freezeRow 31 rfl hy2 (fun G3 hle3 hB => ?_)
  replace hA := hA.up hle3
  replace ha := (ha.up hle2).up hle3
  by_cases hP : rightP ⟨p.ins, p.regs, cd, p.outs⟩ = true
  · by_cases hI : InterpP ⟨p.ins, p.regs, cd, p.outs⟩ l
    · have h17 := c17T G3 ⟨p.ins, p.regs, cd, p.outs⟩ pc po pd pe a c l hA hB (by show cd.length ≤ _; omega) (by show p.outs.length ≤ _; omega) ha hac hl hR hP hI
      simp only [hcl] at h17
      refine Wl.k 50 rfl h17 (fun v2 G4 Ho2 hle4 hp => ?_)
      obtain ⟨rfl, rfl⟩ := hp
      replace hA := hA.up hle4
      replace hB := hB.up hle4
      replace ha := ha.up hle4
      refine Wl.gl 10 [32] ?_
      have h18 := c18Y G4 ⟨p.ins, p.regs, cd, p.outs⟩ pc po pd pe hA hB (by show cd.length ≤ _; omega) (by show p.outs.length ≤ _; omega) hP
      simp only [hcl] at h18
      refine Wl.k 50 rfl h18 (fun v3 G5 Ho3 hle5 hp => ?_)
      obtain ⟨rfl, rfl, rfl⟩ := hp
      refine Wl.gl 18 [0] ?_
      refine Wl.yes 67 rfl (by first | assumption | omega) ?_
      refine Wl.ll0 7 [32] ?_
      have h19 := c19T G5 ⟨p.ins, p.regs, cd, p.outs⟩ pc po pd pe a c l hA hB (by show cd.length ≤ _; omega) (by show p.outs.length ≤ _; omega) ha hac hl (by show cd.length ≤ _; omega) hr1 hr15 hr2 hI
      simp only [hcl] at h19
      refine Wl.k 50 rfl h19 (fun v4 G6 Ho4 hle6 hp => ?_)
      obtain ⟨rfl, rfl⟩ := hp
      refine Wl.ll0 1 [] ?_
      refine Wl.q rfl (Qy.eqlB T.u4 rfl rfl) ?_
      refine Wl.ga 5 [] ?_
      refine Ar.e1 ?_
      exact ⟨by simp, rfl⟩
    · have h17 := c17F G3 ⟨p.ins, p.regs, cd, p.outs⟩ pc po pd pe a c l hA hB (by show cd.length ≤ _; omega) (by show p.outs.length ≤ _; omega) ha hac hl hR hP hI
      simp only [hcl] at h17
      refine Wl.k 50 rfl h17 (fun v2 G4 Ho2 hle4 hp => ?_)
      obtain ⟨rfl, rfl⟩ := hp
      replace hA := hA.up hle4
      replace hB := hB.up hle4
      replace ha := ha.up hle4
      refine Wl.gl 10 [32] ?_
      have h18 := c18Y G4 ⟨p.ins, p.regs, cd, p.outs⟩ pc po pd pe hA hB (by show cd.length ≤ _; omega) (by show p.outs.length ≤ _; omega) hP
      simp only [hcl] at h18
      refine Wl.k 50 rfl h18 (fun v3 G5 Ho3 hle5 hp => ?_)
      obtain ⟨rfl, rfl, rfl⟩ := hp
      refine Wl.gl 18 [0] ?_
      refine Wl.yes 67 rfl (by first | assumption | omega) ?_
      refine Wl.ll0 7 [32] ?_
      have h19 := c19F G5 ⟨p.ins, p.regs, cd, p.outs⟩ pc po pd pe a c l hA hB (by show cd.length ≤ _; omega) (by show p.outs.length ≤ _; omega) ha hac hl (by show cd.length ≤ _; omega) hr1 hr15 hr2 hI
      simp only [hcl] at h19
      refine Wl.k 50 rfl h19 (fun v4 G6 Ho4 hle6 hp => ?_)
      obtain ⟨rfl, rfl⟩ := hp
      refine Wl.ll0 1 [] ?_
      refine Wl.q rfl (Qy.eqlB T.u4 rfl rfl) ?_
      refine Wl.ga 5 [] ?_
      refine Ar.e1 ?_
      exact ⟨by simp, rfl⟩
  · have h17 := c17P G3 ⟨p.ins, p.regs, cd, p.outs⟩ pc po pd pe a c l hA hB (by show cd.length ≤ _; omega) (by show p.outs.length ≤ _; omega) ha hac hl hR hP
    simp only [hcl] at h17
    refine Wl.k 50 rfl h17 (fun v2 G4 Ho2 hle4 hp => ?_)
    obtain ⟨rfl, rfl⟩ := hp
    replace hA := hA.up hle4
    replace hB := hB.up hle4
    refine Wl.gl 10 [32] ?_
    have h18 := c18N G4 ⟨p.ins, p.regs, cd, p.outs⟩ pc po pd pe hA hB (by show cd.length ≤ _; omega) (by show p.outs.length ≤ _; omega) hP
    simp only [hcl] at h18
    refine Wl.k 50 rfl h18 (fun v3 G5 Ho3 hle5 hp => ?_)
    obtain ⟨rfl, rfl, rfl⟩ := hp
    refine Wl.ga 26 [1] ?_
    refine Ar.e1 ?_
    all_goals exact ⟨by simp, rfl⟩
theorem c5 : Does Tryz.prog 5 [.slice a l.length c, .int .i64 n, .agg (Cells.enc ii).toArray] G [] LawTrue := by
  by_cases hR : RightL l
  · by_cases h7 : 7 < l.length
    · exact c5B G a c l n ii ha hac hl hR h7
    · exact c5Y G a c l n ii ha hac hl hR h7
  · exact c5N G a c l n ii ha hac hl hR
end
end Go.Proofs.YtelbhbbiejalhaaGreat
