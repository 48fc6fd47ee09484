/- Parts of the proof (part 8): what the rows' text needs of the texts that lead to it. -/
import Derived.Test.YtbppmiimeccclaaDoorMRg
set_option maxRecDepth 100000
set_option linter.unusedVariables false
namespace Go.Proofs.YtbppmiimeccclaaDoor
open Go Go.Sl
set_option maxHeartbeats 4000000
theorem now_succ (p : PV) (k : Nat) : nowS p (k + 1) = passOf k (nowS p k) := rfl
attribute [local irreducible] lstWp foldP passP deadP orderP nowS roundsP lastR lenR rightP checkP
structure RP where
 name : ByteArray
 fn : Nat
instance : Inhabited RP := ⟨⟨ByteArray.empty, 0⟩⟩
instance : Cells RP := ⟨2, fun x => [.string x.name, .func (.func x.fn) #[] #[]], fun _ => rfl, fun _ => rfl⟩
structure PA where
 a : Option Addr
 b : Option Addr
 c : Nat
 d : Nat
 j : List Value
 k : List Value
def encN (x : NP) (y : PA) : List Value := [.string x.name, .agg #[.int .i64 x.p.ins, .int .i64 x.p.regs, .slice y.a x.p.code.length y.c, .slice y.b x.p.outs.length y.d]]
def ownC (x : NP) (y : PA) : Option Nat × Obj := (y.a.map (·.block), Row 55 x.p.code y.j)
def ownO (x : NP) (y : PA) : Option Nat × Obj := (y.b.map (·.block), Row 3 x.p.outs y.k)
def goodN (x : NP) (y : PA) : Prop := OwnA y.a y.c x.p.code y.j ∧ OwnA y.b y.d x.p.outs y.k
theorem c44A (G : Imm) (p : PV) (ac ao : Option Addr) (cc co : Nat) (hc : Arr G ac p.code) (ho : Arr G ao p.outs) (h1 : p.code.length ≤ 1099511627776) (h2 : p.outs.length ≤ 1099511627776) :
 Does Tryd.prog 44 [.agg #[.int .i64 p.ins, .int .i64 p.regs, .slice ac p.code.length cc, .slice ao p.outs.length co]] G [] (fun v G' Ho => ∃ bc bo dc do_, v = .agg #[.int .i64 p.ins, .int .i64 p.regs, .slice bc p.code.length dc, .slice bo p.outs.length do_] ∧
  Arr G' bc p.code ∧ Arr G' bo p.outs ∧ Ho = []) := by
 refine (Does.frz2 (α := Sl.Instr) (β := Int) (E := 55) (E' := 3) (q := fun v a c xs b d ys => v = .agg #[.int .i64 p.ins, .int .i64 p.regs, .slice a p.code.length c, .slice b p.outs.length d] ∧ xs = p.code ∧ ys = p.outs)
  ((c44 G p ac ao cc co hc ho h1 h2).mono fun v G' Ho _ ⟨bc, bo, dc, do_, j1, j2, g1, g2, g3, g4, g5⟩ => ⟨bc, dc, p.code, j1, bo, do_, p.outs, j2, ⟨g1, rfl, rfl⟩, g2, g3, g4, g5⟩)).mono
  fun v G' Ho _ ⟨a, c, xs, b, d, ys, ⟨g1, hx, hy⟩, h2, h3, h4⟩ => ?_
 subst hx hy
 exact ⟨a, b, c, d, g1, h2, h3, h4⟩
theorem c8R2 (G : Imm) (p : PV) (ac ao : Option Addr) (cc co : Nat) (hc : Arr G ac p.code) (ho : Arr G ao p.outs) (h1 : p.code.length ≤ 1099511627776) (h2 : p.outs.length ≤ 1099511627776) (hR : rightP p = true) :
 Does Tryd.prog 8 [.agg #[.int .i64 p.ins, .int .i64 p.regs, .slice ac p.code.length cc, .slice ao p.outs.length co]] G [] (fun v G' Ho => v = .tuple #[.int .i64 (checkP p).1, .int .i64 0] ∧ G' = G ∧ Ho = []) := c8R G p ac ao cc co hc ho h1 h2 hR
def rp3 : List RP := [{ name := { data := #[102, 111, 108, 100] }, fn := 7 }, { name := { data := #[115, 104, 97, 114, 101] }, fn := 24 }, { name := { data := #[100, 101, 97, 100] }, fn := 25 }]
theorem rp3_def : [({ name := { data := #[102, 111, 108, 100] }, fn := 7 } : RP), { name := { data := #[115, 104, 97, 114, 101] }, fn := 24 }, { name := { data := #[100, 101, 97, 100] }, fn := 25 }] = rp3 := rfl
theorem rp3_len : rp3.length = 3 := rfl
theorem rp3_name {m k : Nat} (hm : m < 3) (hk : k % 3 = m) : (rp3[((m : Nat) : Int).toNat]?.getD default).name = nmOf k := by
 rcases (show m = 0 ∨ m = 1 ∨ m = 2 by omega) with rfl | rfl | rfl
 · unfold nmOf; rw [if_pos hk]; rfl
 · unfold nmOf; rw [if_neg (by omega), if_pos hk]; rfl
 · unfold nmOf; rw [if_neg (by omega), if_neg (by omega)]; rfl
theorem rp3_fn {m : Nat} (hm : m < 3) : isFn Tryd.prog (rp3[((m : Nat) : Int).toNat]?.getD default).fn := by
 rcases (show m = 0 ∨ m = 1 ∨ m = 2 by omega) with rfl | rfl | rfl
 · exact T.fn7
 · exact T.fn24
 · exact T.fn25
theorem rp3_pass {G : Imm} (hT : TabOk G) {m k : Nat} (hm : m < 3) (hk : k % 3 = m) {p : PV} {ac ao : Option Addr} {cc co : Nat} (hc : Arr G ac p.code) (ho : Arr G ao p.outs) (hR : rightP p = true) :
 Passes G (rp3[((m : Nat) : Int).toNat]?.getD default).fn p ac ao cc co (passOf k p) := by
 rcases (show m = 0 ∨ m = 1 ∨ m = 2 by omega) with rfl | rfl | rfl
 · unfold passOf; rw [if_pos hk]; exact c7A G hT p ac ao cc co hc ho hR
 · unfold passOf; rw [if_neg (by omega), if_pos hk]; exact c24A G p ac ao cc co hc ho hR
 · unfold passOf; rw [if_neg (by omega), if_neg (by omega)]; exact c25A G p ac ao cc co hc ho hR
attribute [local irreducible] rp3 passOf nmOf
def zOk (G : Imm) (p z : PV) (k : Nat) (a1 a2 : Option Addr) : Prop := z = nowS p k ∧ Arr G a1 z.code ∧ Arr G a2 z.outs
theorem c43R (G : Imm) (hT : TabOk G) (p : PV) (ac ao : Option Addr) (cc co : Nat) (b : Nat) (hc : Arr G ac p.code) (ho : Arr G ao p.outs)
 (hb : G b = some (.cells [.int .i64 p.ins, .int .i64 p.regs, .slice ac p.code.length cc, .slice ao p.outs.length co].toArray 25)) (hR : rightP p = true) :
 IterGives Tryd.prog 43 [.pointer (some ⟨b, 0, none⟩)] G encN ownC ownO goodN (roundsP p) := by
 intro ι J inv stop ly i0 hi0 hY
 obtain ⟨r1, r2, r3, r4, r5, r6, r7, r8⟩ := right_facts hR
 have hrow := row_all hb
 refine Does.enter Tryd.func43 rfl Tryd.ntmps43 rfl (fun w => ?_)
 refine Wc.lift 1000 ?_
 refine Wc.seq (Wc.seq (Wc.region rfl (Wl.q rfl (Qy.loadsG T.agg25 rfl (by assumption) rfl) ?_)))
 refine Wl.call0 rfl T.fn8 rfl (c8R2 _ p _ _ _ _ (by assumption) (by assumption) (by omega) (by omega) hR) ?_
 refine Wl.q rfl (Qy.move rfl) (Wl.q rfl (Qy.extract rfl rfl) (Wl.q rfl (Qy.extract rfl rfl) (Wl.q rfl (Qy.assign rfl) (Wl.q rfl (Qy.assign rfl) (Wl.done (Ar.next (Wc.seq (Wc.region rfl (Wl.q rfl (Qy.move rfl) (Wl.q rfl (Qy.neq rfl rfl) (Wl.done (Ar.next (Wc.condN rfl (by first | assumption | omega) ?_)))))))))))))
 refine Wc.skip (Ar.next (Wc.seq (Wc.region rfl (Wl.q rfl (Qy.loadsG T.agg25 rfl (by assumption) rfl) ?_))))
 refine Wl.call 0 rfl T.fn44 rfl (c44A _ p _ _ _ _ (by assumption) (by assumption) (by omega) (by omega)) (tags_of trivial) (fun v1 G1 Ho1 hle1 hp => ?_)
 obtain ⟨na, no, nc, nd, rfl, hnc, hno, rfl⟩ := hp
 replace hc := hc.up hle1
 replace ho := ho.up hle1
 refine Wl.alloc 0 rfl T.zero25 (fun b1 => ?_)
 refine Wl.storeAll 0 T.size25 rfl rfl rfl rfl rfl rfl ?_
 refine Wl.done (Ar.next (Wc.seq (Wc.region rfl (Wl.q rfl (Qy.build (cs := [_, _]) T.st86 rfl rfl rfl) ?_))))
 refine Wl.q rfl (Qy.build (cs := [_, _]) T.st86 rfl rfl rfl) ?_
 refine Wl.q rfl (Qy.build (cs := [_, _]) T.st86 rfl rfl rfl) ?_
 refine Wl.lit (α := RP) 1 [⟨_, _⟩, ⟨_, _⟩, ⟨_, _⟩] rfl T.sl87 T.el86 rfl rfl rfl rfl rfl (fun b2 => ?_)
 refine Wl.q rfl (Qy.assign rfl) (Wl.done (Ar.next (Wc.seq (Wc.seq (Wc.region rfl (Wl.q rfl (Qy.move rfl) (Wl.done (Ar.next (Wc.block (Wc.reH 1 (Row 86 rp3 []) rfl (by rw [rp3_def]) ?_))))))))))
 refine Wc.re 6 rfl (show _ = Value.slice (some ⟨b2, 0, none⟩) rp3.length 3 by rw [← rp3_def]) ?_
 have hr3 := rp3_len
 refine Wc.loopGT (ι := Nat × Imm × PV × (Option Addr × Nat × Option Addr × Nat) × ι) 1000 (fun (n, Gx, z, (a1, c1, a2, c2), s) => ([(23, .int .i64 (n : Int)), (6, Go.Value.slice (Option.some (Go.Addr.mk b2 0 Option.none)) (List.length rp3) 3), (5, Go.Value.pointer (Option.some (Go.Addr.mk b1 0 Option.none))), (0, Go.Value.func (Go.Fn.yield ly) #[] #[])], [(0, some b1, .cells #[.int .i64 z.ins, .int .i64 z.regs, .slice a1 z.code.length c1, .slice a2 z.outs.length c2] 25), (1, Option.some b2, Go.Sl.Row (α := RP) 86 (rp3) ([]))])) (fun (n, Gx, z, (a1, c1, a2, c2), s) => J s) (fun (n, Gx, z, (a1, c1, a2, c2), s) => Gx) (fun (n, Gx, z, (a1, c1, a2, c2), s) => n ≤ lastR p + 1 ∧ (n = lastR p + 1 → lastR p = 15) ∧ G.le Gx ∧ zOk Gx p z (3 * n) a1 a2 ∧ inv (3 * n) s) (fun (n, Gx, z, (a1, c1, a2, c2), s) => 17 - n) ((0, G1, p, (na, nc, no, nd), i0)) (⟨Nat.zero_le _, fun h => absurd h (by omega), hle1, ⟨by rw [Nat.mul_zero]; unfold nowS; rfl, hnc, hno⟩, hi0⟩) rfl ⟨rfl, rfl, rfl, rfl, trivial⟩ ⟨rfl, rfl, trivial⟩ (by repeat (first | exact Hp.tl_self _ _ | refine Hp.tl_cons rfl ?_)) (fun ⟨n, Gx, z, (a1, c1, a2, c2), s⟩ => fun (hk : n ≤ lastR p + 1 ∧ (n = lastR p + 1 → lastR p = 15) ∧ G.le Gx ∧ zOk Gx p z (3 * n) a1 a2 ∧ inv (3 * n) s) => ?_)
 obtain ⟨hn1, hn2, hn3, hz, hinv⟩ := hk
 have h15 := last_le p
 have hlen : lenR p = 3 * lastR p + 3 := by unfold lenR; rfl
 have hRz : rightP z = true := by rw [hz.1]; exact now_right hR _
 obtain ⟨z1, z2, z3, z4, z5, z6, z7, z8⟩ := right_facts hRz
 obtain ⟨hz0, hzc, hzo⟩ := hz
 rcases Nat.lt_or_ge n 16 with hn16 | hn16
 · have hnl : n ≤ lastR p := by omega
   refine Wc.seq (Wc.region rfl (Wl.q rfl (Qy.lss rfl rfl) (Wl.done (Ar.next (Wc.seq (Wc.condP rfl (by first | assumption | omega) ?_))))))
   refine Wc.skip (Ar.next (Wc.seq (Wc.block (Wc.seq (Wc.region rfl (Wl.q rfl (Qy.loadAll 0 T.agg25 rfl rfl rfl) ?_))))))
   refine Wl.alloc 2 rfl T.zero25 (fun b3 => ?_)
   refine Wl.storeAll 2 T.size25 rfl rfl rfl rfl rfl rfl ?_
   refine Wl.done (Ar.next (Wc.seq (Wc.seq (Wc.region rfl (Wl.q rfl (Qy.move rfl) (Wl.q rfl (Qy.len T.sl87 rfl) (Wl.q rfl (Qy.move rfl) (Wl.done (Ar.next (Wc.block ?_))))))))))
   refine Wc.loopGT (ι := Nat × Imm × PV × (Option Addr × Nat × Option Addr × Nat) × ι) 1000 (fun (m, Gy, y, (d1, e1, d2, e2), s) => ([(28, .int .i64 (m : Int)), (6, .slice (some ⟨b2, 0, none⟩) rp3.length 3), (27, Go.Value.int Go.IntKind.i64 (↑(List.length rp3) : Int)), (26, Go.Value.slice (Option.some (Go.Addr.mk b2 0 Option.none)) (List.length rp3) 3), (7, Go.Value.pointer (Option.some (Go.Addr.mk b3 0 Option.none))), (23, Go.Value.int Go.IntKind.i64 (↑n : Int)), (5, Go.Value.pointer (Option.some (Go.Addr.mk b1 0 Option.none))), (0, Go.Value.func (Go.Fn.yield ly) #[] #[])], [(0, some b1, .cells #[.int .i64 y.ins, .int .i64 y.regs, .slice d1 y.code.length e1, .slice d2 y.outs.length e2] 25), (2, Option.some b3, Go.Obj.cells #[Go.Value.int Go.IntKind.i64 (PV.ins z), Go.Value.int Go.IntKind.i64 (PV.regs z), Go.Value.slice a1 (List.length (PV.code z)) c1, Go.Value.slice a2 (List.length (PV.outs z)) c2] 25), (1, Option.some b2, Go.Sl.Row (α := RP) 86 (rp3) ([]))])) (fun (m, Gy, y, (d1, e1, d2, e2), s) => J s) (fun (m, Gy, y, (d1, e1, d2, e2), s) => Gy) (fun (m, Gy, y, (d1, e1, d2, e2), s) => m ≤ 3 ∧ Gx.le Gy ∧ zOk Gy p y (3 * n + m) d1 d2 ∧ inv (3 * n + m) s) (fun (m, Gy, y, (d1, e1, d2, e2), s) => 3 - m) ((0, Gx, z, (a1, c1, a2, c2), s)) (⟨Nat.zero_le _, Imm.le_refl _, ⟨hz0, hzc, hzo⟩, hinv⟩) rfl ⟨rfl, rfl, rfl, rfl, rfl, rfl, rfl, rfl, trivial⟩ ⟨rfl, rfl, rfl, trivial⟩ (by repeat (first | exact Hp.tl_self _ _ | refine Hp.tl_cons rfl ?_)) (fun ⟨m, Gy, y, (d1, e1, d2, e2), s⟩ => fun (hk : m ≤ 3 ∧ Gx.le Gy ∧ zOk Gy p y (3 * n + m) d1 d2 ∧ inv (3 * n + m) s) => ?_)
   obtain ⟨hm1, hm2, ⟨hy0, hy1, hy2⟩, hinv2⟩ := hk
   have hRy : rightP y = true := by rw [hy0]; exact now_right hR _
   obtain ⟨y1, y2, y3, y4, y5, y6, y7, y8⟩ := right_facts hRy
   replace hzc := hzc.up hm2
   replace hzo := hzo.up hm2
   have hT2 : TabOk Gy := hT.up (Imm.le_trans hn3 hm2)
   rcases Nat.lt_or_ge m 3 with hm3 | hm3
   · refine Wc.seq (Wc.region rfl (Wl.q rfl (Qy.lss rfl rfl) (Wl.done (Ar.next (Wc.seq (Wc.condP rfl (by first | assumption | omega) ?_))))))
     refine Wc.skip (Ar.next (Wc.seq (Wc.block (Wc.seq (Wc.region rfl (Wl.q rfl (Qy.indexAddr T.sl87 rfl rfl (by omega)) ?_))))))
     refine Wl.q rfl (Qy.loadsF (α := RP) 1 T.agg86 rfl rfl ⟨by omega, by omega⟩) ?_
     refine Wl.alloc 3 rfl T.zero86 (fun b4 => ?_)
     refine Wl.storeAll 3 T.size86 rfl rfl rfl rfl rfl rfl ?_
     refine Wl.done (Ar.next (Wc.seq (Wc.region rfl (Wl.q rfl (Qy.fieldAddr T.fa86_1 rfl) (Wl.q rfl (Qy.load 3 T.one31 rfl rfl rfl) (Wl.q rfl (Qy.loadAll 0 T.agg25 rfl rfl rfl) ?_))))))
     obtain ⟨u, hu⟩ : ∃ u, u = passOf (3 * n + m) y := ⟨_, rfl⟩
     have hP := rp3_pass hT2 hm3 (k := 3 * n + m) (by omega) (cc := e1) (co := e2) hy1 hy2 hRy
     rw [← hu] at hP
     refine Wl.callV (fst := []) (cap := []) 100 rfl (rp3_fn hm3) rfl rfl hP (tags_of trivial) (fun v9 G9 Ho9 hle9 hp => ?_)
     obtain ⟨qa, qb, qc, qd, rfl, hqA, hqB, rfl⟩ := hp
     have hRu : rightP u = true := by rw [hu]; exact pass_right hRy _
     obtain ⟨u1, u2, u3, u4, u5, u6, u7, u8⟩ := right_facts hRu
     refine Wl.q rfl (Qy.move rfl) (Wl.q rfl (Qy.extract rfl rfl) (Wl.q rfl (Qy.extract rfl rfl) ?_))
     refine Wl.storeAll 0 T.size25 rfl rfl rfl rfl rfl rfl ?_
     refine Wl.done (Ar.next (Wc.seq (Wc.draw [1, 2, 3, 0] [(0, 5), (3, 5), (2, 5), (1, 5)] T.mixed rfl ?_)))
     refine Gm.q 0 [] (by kernel_rfl) rfl rfl (Qy.move rfl) (Gm.q 1 [] (by kernel_rfl) rfl rfl (Qy.fieldAddr T.fa86_0 rfl) (Gm.q 2 [3] (by kernel_rfl) rfl rfl (Qy.load 3 T.one9 rfl rfl rfl) (Gm.one 3 ⟨rfl, rfl, rfl, rfl, trivial⟩ (by first | exact Imm.le_refl _ | assumption) (by kernel_rfl) rfl ?_)))
     refine Wl.q rfl (Qy.loadAll 0 T.agg25 rfl rfl rfl) (Wl.on0 ?_)
     refine Gm.one 4 ⟨rfl, rfl, rfl, rfl, trivial⟩ (by first | exact Imm.le_refl _ | assumption) (by kernel_rfl) rfl ?_
     refine Wl.call 4 rfl T.fn44 rfl (c44 _ _ _ _ _ _ (by assumption) (by assumption) (by omega) (by omega)) (tags_of trivial) (fun v2 G2 Ho2 hle2 hp => ?_)
     obtain ⟨ya2, yb2, yc2, yd2, yj2, yk2, rfl, hya2, hyb2, rfl, rfl⟩ := hp
     refine Wl.on0 ?_
     refine Gm.one 5 ⟨rfl, rfl, rfl, rfl, trivial⟩ (by first | exact Imm.le_refl _ | assumption) (by kernel_rfl) rfl ?_
     have hun : u = nowS p (3 * n + m + 1) := by rw [hu, hy0, now_succ]
     have hxs : (roundsP p)[3 * n + m]? = some ⟨(rp3[((m : Nat) : Int).toNat]?.getD default).name, u⟩ := by rw [rp3_name hm3 (k := 3 * n + m) (by omega), hun]; exact rounds_at p (by omega)
     refine Wl.yieldO (A := [(0, some b1, .cells #[.int .i64 u.ins, .int .i64 u.regs, .slice qa u.code.length qc, .slice qb u.outs.length qd] 25), (3, some b4, .cells (Cells.enc (rp3[((m : Nat) : Int).toNat]?.getD default)).toArray 86), (2, some b3, .cells #[.int .i64 z.ins, .int .i64 z.regs, .slice a1 z.code.length c1, .slice a2 z.outs.length c2] 25), (1, some b2, Row 86 rp3 [])]) 1000 4 5 rfl rfl rfl rfl rfl rfl ⟨rfl, rfl, rfl, rfl, trivial⟩ rfl rfl (by repeat (first | exact Hp.tl_self _ _ | refine Hp.tl_cons rfl ?_)) rfl
      ((hY (3 * n + m) ⟨(rp3[((m : Nat) : Int).toNat]?.getD default).name, u⟩ ⟨ya2, yb2, yc2, yd2, yj2, yk2⟩ s hxs ⟨hya2, hyb2⟩ hinv2).up (Imm.le_trans hn3 (Imm.le_trans hm2 hle9))) (fun vy Gv Hv hlv hp => ?_)
     obtain ⟨rfl, s', rfl, hp⟩ := hp
     rcases hp with ⟨rfl, hinv'⟩ | ⟨rfl, hst⟩
     · refine Wl.on0 ?_
       refine Gm.q 6 [] (by kernel_rfl) rfl rfl (Qy.not rfl) ?_
       refine Gm.doneA (by kernel_rfl) trivial (by first | exact Imm.le_refl _ | assumption) ?_
       refine Ar.next (Wc.condF rfl ?_)
       refine Wc.skip ?_
       refine Ar.outNormal ?_
       refine Ar.next (Wc.region rfl (Wl.q rfl (Qy.add rfl rfl (by omega)) ?_))
       refine Wl.q rfl (Qy.move rfl) (Wl.done ?_)
       refine Ar.againGT ((m + 1, _, u, (qa, qc, qb, qd), s')) ?_ ?_ rfl ⟨rfl, rfl, rfl, rfl, rfl, rfl, rfl, rfl, trivial⟩ ⟨rfl, rfl, rfl, trivial⟩ (by repeat (first | exact Hp.tl_self _ _ | refine Hp.tl_cons rfl ?_))
       · exact ⟨by omega, Imm.le_trans hm2 hle9, ⟨hun, hqA, hqB⟩, hinv'⟩
       · show 3 - (m + 1) < 3 - m
         omega
     · refine Wl.on0 ?_
       refine Gm.q 6 [] (by kernel_rfl) rfl rfl (Qy.not rfl) ?_
       refine Gm.doneA (by kernel_rfl) trivial (by first | exact Imm.le_refl _ | assumption) ?_
       refine Ar.next (Wc.condT rfl ?_)
       refine Wc.ret ?_
       refine Ar.outRet ?_
       refine Ar.passRet ?_
       refine Ar.passRet ?_
       refine Ar.outRet ?_
       refine Ar.passRet ?_
       refine Ar.outRet ?_
       refine Ar.passRet ?_
       refine Ar.passRet ?_
       refine Ar.outRet ?_
       refine Ar.passRet ?_
       refine Ar.base ?_
       refine Ar.outT (k := 1000) (.inr rfl) rfl (by repeat (first | exact Hp.tl_self _ _ | refine Hp.tl_cons rfl ?_)) ⟨rfl, s', rfl, .inr hst⟩
   · have hm : m = 3 := by omega
     subst hm
     refine Wc.seq (Wc.region rfl (Wl.q rfl (Qy.lss rfl rfl) (Wl.done (Ar.next (Wc.seq (Wc.condN rfl (by first | assumption | omega) ?_))))))
     refine Wc.exit (Ar.passExit ?_)
     refine Ar.passExit ?_
     refine Ar.here ?_
     refine Ar.next (Wc.seq (Wc.region rfl (Wl.q rfl (Qy.loadAll 2 T.agg25 rfl rfl rfl) (Wl.q rfl (Qy.loadAll 0 T.agg25 rfl rfl rfl) ?_))))
     refine Wl.call0 rfl T.fn45 rfl (c45 _ _ _ _ _ _ _ _ _ _ _ (by assumption) (by assumption) (by assumption) (by assumption) (by omega) (by omega) (by omega) (by omega)) ?_
     refine Wl.done (Ar.next ?_)
     refine Wc.cond rfl (fun hc1 => ?_) (fun hc1 => ?_)
     refine Wc.exit ?_
     refine Ar.outExit rfl ?_
     refine Ar.passExit ?_
     refine Ar.passExit ?_
     refine Ar.here ?_
     refine Ar.next (Wc.seq (Wc.region rfl (Wl.q rfl (Qy.loadAll 0 T.agg25 rfl rfl rfl) ?_)))
     refine Wl.call 3 rfl T.fn23 rfl (c23R _ _ _ _ _ _ (by assumption) (by assumption) (by omega) (by omega) (by assumption)) (tags_of trivial) (fun v2 G2 Ho2 hle2 hp => ?_)
     obtain ⟨pa2, pb2, pc2, pd2, pj2, pk2, rfl, hpa2, hpb2, rfl, rfl⟩ := hp
     refine Wl.q rfl (Qy.move rfl) (Wl.q rfl (Qy.extract rfl rfl) (Wl.q rfl (Qy.extract rfl rfl) ?_))
     refine Wl.storeAll 0 T.size25 rfl rfl rfl rfl rfl rfl ?_
     refine Wl.done (Ar.next (Wc.region rfl (Wl.q rfl (Qy.move rfl) (Wl.q rfl (Qy.loadAll 0 T.agg25 rfl rfl rfl) ?_))))
     rotate_left
     refine Wc.skip ?_
     refine Ar.outNormal ?_
     refine Ar.next (Wc.region rfl (Wl.q rfl (Qy.add rfl rfl (by omega)) ?_))
     refine Wl.q rfl (Qy.move rfl) (Wl.done ?_)
     rotate_left
     · have hzy : z = y := hc1
       have hnn : n = lastR p := by
        rcases Nat.lt_or_ge n (lastR p) with h9 | h9
        · exact absurd (by rw [← hz0, hzy, hy0]) (last_not p h9)
        · omega
       have hyl : y = nowS p (lenR p) := by rw [hy0, hlen, hnn]
       have hxs : (roundsP p)[3 * n + 3]? = some ⟨packN, orderP y⟩ := by rw [hyl, hnn, ← hlen]; exact rounds_last p
       have hrl := rounds_len p
       refine Wl.yieldO (A := [(0, some b1, .cells #[.int .i64 (orderP y).ins, .int .i64 (orderP y).regs, .slice pa2 (orderP y).code.length pc2, .slice pb2 (orderP y).outs.length pd2] 25)]) 1000 3 4 rfl rfl rfl rfl rfl rfl ⟨rfl, trivial⟩ rfl rfl (by repeat (first | exact Hp.tl_self _ _ | refine Hp.tl_cons rfl ?_)) rfl
        ((hY (3 * n + 3) ⟨packN, orderP y⟩ ⟨pa2, pb2, pc2, pd2, pj2, pk2⟩ s hxs ⟨hpa2, hpb2⟩ hinv2).up (Imm.le_trans hn3 hm2)) (fun vy Gv Hv hlv hp => ?_)
       obtain ⟨rfl, s', rfl, hp⟩ := hp
       rw [show 3 * n + 3 + 1 = (roundsP p).length by rw [hrl]; omega] at hp
       refine Wl.done (Ar.base ?_)
       refine Ar.outT (k := 1000) (.inl rfl) rfl (by repeat (first | exact Hp.tl_self _ _ | refine Hp.tl_cons rfl ?_)) ⟨rfl, s', rfl, hp.imp And.right And.right⟩
     · have hne : ¬ z = y := hc1
       refine Ar.againGT ((n + 1, Gy, y, (d1, e1, d2, e2), s)) ?_ ?_ rfl ⟨rfl, rfl, rfl, rfl, trivial⟩ ⟨rfl, rfl, trivial⟩ (by repeat (first | exact Hp.tl_self _ _ | refine Hp.tl_cons rfl ?_))
       · refine ⟨by omega, fun h => ?_, Imm.le_trans hn3 hm2, ⟨by rw [hy0]; congr 1, hy1, hy2⟩, by rw [show 3 * (n + 1) = 3 * n + 3 by omega]; exact hinv2⟩
         rcases last_yes p with h9 | h9
         · exact h9
         · have : n = lastR p := by omega
           subst this
           exact absurd (by rw [hz0, hy0]; exact h9.symm) hne
       · show 17 - (n + 1) < 17 - n
         omega
 · have hnn : n = 16 := by omega
   have hl15 : lastR p = 15 := hn2 (by omega)
   have hzl : z = nowS p (lenR p) := by rw [hz0, hlen, hnn, hl15]
   have hxs : (roundsP p)[3 * n]? = some ⟨packN, orderP z⟩ := by rw [hzl, show 3 * n = lenR p by omega]; exact rounds_last p
   have hrl := rounds_len p
   refine Wc.seq (Wc.region rfl (Wl.q rfl (Qy.lss rfl rfl) (Wl.done (Ar.next (Wc.seq (Wc.condN rfl (by first | assumption | omega) ?_))))))
   refine Wc.exit (Ar.passExit ?_)
   refine Ar.passExit ?_
   refine Ar.here ?_
   refine Ar.next (Wc.seq (Wc.region rfl (Wl.q rfl (Qy.loadAll 0 T.agg25 rfl rfl rfl) ?_)))
   refine Wl.call 2 rfl T.fn23 rfl (c23R _ _ _ _ _ _ (by assumption) (by assumption) (by omega) (by omega) (by assumption)) (tags_of trivial) (fun v2 G2 Ho2 hle2 hp => ?_)
   obtain ⟨pa2, pb2, pc2, pd2, pj2, pk2, rfl, hpa2, hpb2, rfl, rfl⟩ := hp
   refine Wl.q rfl (Qy.move rfl) (Wl.q rfl (Qy.extract rfl rfl) (Wl.q rfl (Qy.extract rfl rfl) ?_))
   refine Wl.storeAll 0 T.size25 rfl rfl rfl rfl rfl rfl ?_
   refine Wl.done (Ar.next (Wc.region rfl (Wl.q rfl (Qy.move rfl) (Wl.q rfl (Qy.loadAll 0 T.agg25 rfl rfl rfl) ?_))))
   refine Wl.yieldO (A := [(0, some b1, .cells #[.int .i64 (orderP z).ins, .int .i64 (orderP z).regs, .slice pa2 (orderP z).code.length pc2, .slice pb2 (orderP z).outs.length pd2] 25)]) 1000 2 3 rfl rfl rfl rfl rfl rfl ⟨rfl, trivial⟩ rfl rfl (by repeat (first | exact Hp.tl_self _ _ | refine Hp.tl_cons rfl ?_)) rfl
    ((hY (3 * n) ⟨packN, orderP z⟩ ⟨pa2, pb2, pc2, pd2, pj2, pk2⟩ s hxs ⟨hpa2, hpb2⟩ hinv).up hn3) (fun vy Gv Hv hlv hp => ?_)
   obtain ⟨rfl, s', rfl, hp⟩ := hp
   rw [show 3 * n + 1 = (roundsP p).length by rw [hrl]; omega] at hp
   refine Wl.done (Ar.base ?_)
   refine Ar.outT (k := 1000) (.inl rfl) rfl (by repeat (first | exact Hp.tl_self _ _ | refine Hp.tl_cons rfl ?_)) ⟨rfl, s', rfl, hp.imp And.right And.right⟩
end Go.Proofs.YtbppmiimeccclaaDoor
set_option maxRecDepth 100000
set_option linter.unusedVariables false
namespace Go.Proofs.YtbppmiimeccclaaDoor
open Go Go.Sl
set_option maxHeartbeats 4000000
attribute [local irreducible] lstWp foldP passP deadP orderP nowS roundsP lastR lenR rightP checkP rp3 passOf nmOf
theorem c8W2 (G : Imm) (p : PV) (ac ao : Option Addr) (cc co : Nat) (hc : Arr G ac p.code) (ho : Arr G ao p.outs) (h1 : p.code.length ≤ 1099511627776) (h2 : p.outs.length ≤ 1099511627776) (hR : ¬ rightP p = true) :
 Does Tryd.prog 8 [.agg #[.int .i64 p.ins, .int .i64 p.regs, .slice ac p.code.length cc, .slice ao p.outs.length co]] G [] (fun v G' Ho => v = .tuple #[.int .i64 (checkP p).1, .int .i64 80] ∧ G' = G ∧ Ho = []) := by
 have hf : (checkP p).2 = true := by
  cases h : (checkP p).2
  · exact absurd (by unfold rightP; rw [h]; rfl) hR
  · rfl
 have h := c8 G p ac ao cc co hc ho h1 h2
 rw [hf] at h
 exact h
theorem c43W (G : Imm) (p : PV) (ac ao : Option Addr) (cc co : Nat) (b : Nat) (hc : Arr G ac p.code) (ho : Arr G ao p.outs) (h1 : p.code.length ≤ 1099511627776) (h2 : p.outs.length ≤ 1099511627776)
 (hb : G b = some (.cells [.int .i64 p.ins, .int .i64 p.regs, .slice ac p.code.length cc, .slice ao p.outs.length co].toArray 25)) (hR : ¬ rightP p = true) :
 IterGives Tryd.prog 43 [.pointer (some ⟨b, 0, none⟩)] G encN ownC ownO goodN [] := by
 intro ι J inv stop ly i0 hi0 hY
 have hrow := row_all hb
 refine Does.enter Tryd.func43 rfl Tryd.ntmps43 rfl (fun w => ?_)
 refine Wc.lift 1000 ?_
 refine Wc.seq (Wc.seq (Wc.region rfl (Wl.q rfl (Qy.loadsG T.agg25 rfl (by assumption) rfl) ?_)))
 refine Wl.call0 rfl T.fn8 rfl (c8W2 _ p _ _ _ _ (by assumption) (by assumption) (by omega) (by omega) hR) ?_
 refine Wl.q rfl (Qy.move rfl) (Wl.q rfl (Qy.extract rfl rfl) (Wl.q rfl (Qy.extract rfl rfl) (Wl.q rfl (Qy.assign rfl) (Wl.q rfl (Qy.assign rfl) (Wl.done (Ar.next (Wc.seq (Wc.region rfl (Wl.q rfl (Qy.move rfl) (Wl.q rfl (Qy.neq rfl rfl) (Wl.done (Ar.next (Wc.condP rfl (by first | assumption | omega) ?_)))))))))))))
 refine Wc.ret (Ar.passRet ?_)
 refine Ar.outT (k := 1000) (.inr rfl) rfl (by repeat (first | exact Hp.tl_self _ _ | refine Hp.tl_cons rfl ?_)) ⟨rfl, i0, rfl, .inl hi0⟩
def lastP (p : PV) : PV := orderP (nowS p (lenR p))
theorem c17W (G : Imm) (p : PV) (ac ao : Option Addr) (cc co : Nat) (hc : Arr G ac p.code) (ho : Arr G ao p.outs) (h1 : p.code.length ≤ 1099511627776) (h2 : p.outs.length ≤ 1099511627776) (hR : ¬ rightP p = true) :
 Does Tryd.prog 17 [.agg #[.int .i64 p.ins, .int .i64 p.regs, .slice ac p.code.length cc, .slice ao p.outs.length co]] G [] (fun v G' Ho => v = .tuple #[.agg #[.int .i64 0, .int .i64 0, .slice none 0 0, .slice none 0 0], .int .i64 80] ∧ G' = G ∧ Ho = []) := by
 refine Does.enterM Tryd.func17 rfl Tryd.ntmps17 rfl (fun w => ?_)
 refine Wc.seq (Wc.region rfl ?_)
 refine Wl.box 0 rfl rfl rfl (fun b1 => ?_)
 refine Wl.alloc 1 rfl T.zero25 (fun b2 => ?_)
 refine Wl.q rfl (Qy.assign rfl) (Wl.done (Ar.next (Wc.seq (Wc.seq (Wc.region rfl (Wl.q rfl (Qy.loadAll 0 T.agg25 rfl rfl rfl) ?_))))))
 refine Wl.call0 rfl T.fn8 rfl (c8W2 _ p _ _ _ _ (by assumption) (by assumption) (by omega) (by omega) hR) ?_
 refine Wl.q rfl (Qy.move rfl) (Wl.q rfl (Qy.extract rfl rfl) (Wl.q rfl (Qy.extract rfl rfl) (Wl.q rfl (Qy.assign rfl) (Wl.q rfl (Qy.assign rfl) (Wl.done (Ar.next (Wc.seq (Wc.region rfl (Wl.q rfl (Qy.move rfl) (Wl.q rfl (Qy.neq rfl rfl) (Wl.done (Ar.next (Wc.condP rfl (by first | assumption | omega) ?_)))))))))))))
 refine Wc.seq (Wc.region rfl (Wl.q rfl (Qy.build (cs := [_, _, _, _]) T.st25 rfl rfl rfl) ?_))
 refine Wl.q rfl (Qy.move rfl) ?_
 refine Wl.storeAll 1 T.size25 rfl rfl rfl rfl rfl rfl ?_
 refine Wl.q rfl (Qy.assign rfl) (Wl.done (Ar.next (Wc.ret (Ar.passRet ?_))))
 refine Ar.outOf (.inr rfl) ?_
 refine Ar.out2 (.inr rfl) (Ho := Hp.only _ []) rfl (.agg 1 rfl rfl T.agg25) (.tmp rfl) (Hp.sub_only _ _) ?_
 exact ⟨rfl, rfl, rfl⟩
theorem c17R (G : Imm) (hT : TabOk G) (p : PV) (ac ao : Option Addr) (cc co : Nat) (hc : Arr G ac p.code) (ho : Arr G ao p.outs) (hR : rightP p = true) :
 Does Tryd.prog 17 [.agg #[.int .i64 p.ins, .int .i64 p.regs, .slice ac p.code.length cc, .slice ao p.outs.length co]] G [] (fun v G' Ho => ∃ q bc bo dc do_, v = .tuple #[.agg #[.int .i64 q.ins, .int .i64 q.regs, .slice bc q.code.length dc, .slice bo q.outs.length do_], .int .i64 0] ∧ q = lastP p ∧ Arr G' bc q.code ∧ Arr G' bo q.outs ∧ Ho = []) := by
 obtain ⟨r1, r2, r3, r4, r5, r6, r7, r8⟩ := right_facts hR
 refine Does.enterM Tryd.func17 rfl Tryd.ntmps17 rfl (fun w => ?_)
 refine Wc.seq (Wc.region rfl ?_)
 refine Wl.box 0 rfl rfl rfl (fun b1 => ?_)
 refine Wl.alloc 1 rfl T.zero25 (fun b2 => ?_)
 refine Wl.q rfl (Qy.assign rfl) (Wl.done (Ar.next (Wc.seq (Wc.seq (Wc.region rfl (Wl.q rfl (Qy.loadAll 0 T.agg25 rfl rfl rfl) ?_))))))
 refine Wl.call0 rfl T.fn8 rfl (c8R2 _ p _ _ _ _ (by assumption) (by assumption) (by omega) (by omega) hR) ?_
 refine Wl.q rfl (Qy.move rfl) (Wl.q rfl (Qy.extract rfl rfl) (Wl.q rfl (Qy.extract rfl rfl) (Wl.q rfl (Qy.assign rfl) (Wl.q rfl (Qy.assign rfl) (Wl.done (Ar.next (Wc.seq (Wc.region rfl (Wl.q rfl (Qy.move rfl) (Wl.q rfl (Qy.neq rfl rfl) (Wl.done (Ar.next (Wc.condN rfl (by first | assumption | omega) ?_)))))))))))))
 refine Wc.skip (Ar.next (Wc.seq (Wc.region rfl ?_)))
 refine Wl.alloc 2 rfl T.zero25 (fun b3 => ?_)
 refine Wl.done (Ar.next (Wc.seq (Wc.seq (Wc.region rfl (Wl.q rfl (Qy.loadAll 0 T.agg25 rfl rfl rfl) ?_)))))
 refine Wl.call 3 rfl T.fn18 rfl (c18 _ p _ _ _ _) (tags_of trivial) (fun v1 G1 Ho1 hle1 hp => ?_)
 obtain ⟨bi1, rfl, rfl, hbi1⟩ := hp
 replace hc := hc.up hle1
 replace ho := ho.up hle1
 refine Wl.done (Ar.next (Wc.block (Wc.nilRow 5 (Row 55 ([] : List Sl.Instr) []) (Wc.nilRow 6 (Row 3 ([] : List Int) []) ?_))))
 have hT1 : TabOk G1 := hT.up hle1
 refine Wc.rangeGives (ι := PV × PA) 900 901 902 903 (fun (q, y) => [(2, some b3, .cells #[.int .i64 q.ins, .int .i64 q.regs, .slice y.a q.code.length y.c, .slice y.b q.outs.length y.d] 25), (5, y.a.map (·.block), Row 55 q.code y.j), (6, y.b.map (·.block), Row 3 q.outs y.k), (1, Option.some b2, Go.Obj.cells #[Go.Value.int Go.IntKind.i64 0, Go.Value.int Go.IntKind.i64 0, Go.Value.slice Option.none 0 0, Go.Value.slice Option.none 0 0] 25), (0, Option.some b1, Go.Obj.cells #[Go.Value.int Go.IntKind.i64 (PV.ins p), Go.Value.int Go.IntKind.i64 (PV.regs p), Go.Value.slice ac (List.length (PV.code p)) cc, Go.Value.slice ao (List.length (PV.outs p)) co] 25)]) (fun k (q, y) => OwnA y.a y.c q.code y.j ∧ OwnA y.b y.d q.outs y.k ∧ (∀ x, 0 < k → (roundsP p)[k - 1]? = some x → q = x.p)) (fun c (q, y) => False) ((⟨0, 0, [], []⟩, ⟨none, none, 0, 0, [], []⟩)) rfl T.fn43 (fun _ _ => rfl) rfl (c43R _ hT1 p _ _ _ _ _ hc ho hbi1 hR) (⟨OwnA.nil, OwnA.nil, fun x h => absurd h (by omega)⟩) (Hp.got ⟨rfl, rfl, rfl, rfl, rfl, trivial⟩) ⟨rfl, fun _ => rfl⟩ rfl (fun k xk yk ⟨q, y⟩ l dd qq w0 hx hgd hi => ?_) (fun ⟨q, y⟩ dd hi => ?_) (fun ⟨q, y⟩ dd c hi => ?_)
 · refine Wc.region rfl ?_
   refine Wl.alloc 904 rfl T.zero25 (fun b4 => ?_)
   refine Wl.storeAll 904 T.size25 rfl rfl rfl rfl rfl rfl ?_
   refine Wl.done (Ar.begin 900 rfl ?_)
   refine Wc.block (Wc.region rfl (Wl.q rfl (Qy.loadAll 904 T.agg25 rfl rfl rfl) ?_))
   refine Wl.storeAll 2 T.size25 rfl rfl rfl rfl rfl rfl ?_
   refine Wl.done ?_
   refine Ar.outNormal ?_
   refine Ar.retag 902 5 rfl rfl (Ar.retag 903 6 rfl rfl ?_)
   refine Ar.roundEnd none (.inl ⟨rfl, rfl⟩) 900 rfl ⟨rfl, ((xk.p, yk), none), rfl, .inl ⟨rfl, rfl, ?_⟩⟩ (Hp.got ⟨rfl, rfl, rfl, rfl, rfl, rfl, rfl, trivial⟩)
   refine ⟨hgd.1, hgd.2, fun x _ hx' => ?_⟩
   rw [Nat.add_sub_cancel, hx] at hx'
   cases hx'; rfl
 · obtain ⟨hoc, hoo, hl⟩ := hi
   have hq : q = lastP p := by
    have h9 := rounds_len p
    exact hl _ (by omega) (by rw [h9, Nat.add_sub_cancel]; exact rounds_last p)
   refine Ar.outNormal ?_
   refine Ar.next (Wc.seq (Wc.region rfl (Wl.q rfl (Qy.loadAll 2 T.agg25 rfl rfl rfl) ?_)))
   refine Wl.storeAll 1 T.size25 rfl rfl rfl rfl rfl rfl ?_
   refine Wl.q rfl (Qy.assign rfl) (Wl.done (Ar.next (Wc.ret (Ar.collect (.inr rfl) 901 rfl ?_))))
   refine Ar.outOf (.inr rfl) ?_
   refine Ar.freezeRow 5 rfl hoc (fun G8 hle8 hA8 => Ar.freezeRow 6 rfl hoo (fun G9 hle9 hA9 => ?_))
   refine Ar.out2 (.inr rfl) (Ho := []) rfl (.agg 1 rfl rfl T.agg25) (.tmp rfl) trivial ?_
   exact ⟨_, _, _, _, _, rfl, hq, hA8.up hle9, hA9, rfl⟩
 · exact hi.elim
end Go.Proofs.YtbppmiimeccclaaDoor
