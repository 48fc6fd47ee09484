/- Parts of the proof (part 9): what the rows' text needs of the texts that lead to it. -/
import Derived.Test.YtbppmiimeccclaaDoorMRh
set_option maxRecDepth 100000
set_option linter.unusedVariables false
namespace Go.Proofs.YtbppmiimeccclaaDoor
open Go Go.Sl
set_option maxHeartbeats 4000000
attribute [local irreducible] lstWp foldP passP deadP orderP nowS roundsP lastR lenR rightP checkP rp3 passOf nmOf Fit followP lastP valL pw cmpZ p2 packN
theorem c4W (G : Imm) (p : PV) (ac ao ga : Option Addr) (cc co gc : Nat) (gl : List SV) (ls : List (List Int)) (st : Int) (hc : Arr G ac p.code) (ho : Arr G ao p.outs) (hga : Arr G ga gl) (hg : IGrid G gl ls) (h1 : p.code.length ≤ 1048576) (h2 : p.outs.length ≤ 1048576) (h3 : gl.length ≤ 1099511627776) (h4 : ∀ l ∈ ls, l.length ≤ 1099511627776) (hR : ¬ rightP p = true) :
 Does Tryd.prog 4 [.agg #[.int .i64 p.ins, .int .i64 p.regs, .slice ac p.code.length cc, .slice ao p.outs.length co], .slice ga gl.length gc, .int .i64 st] G [] (fun v G' Ho => v = .bool true) := by
 have hgl := hg.1
 refine Does.enterM Tryd.func4 rfl Tryd.ntmps4 rfl (fun w => ?_)
 refine Wc.seq (Wc.region rfl ?_)
 refine Wl.box 0 rfl rfl rfl (fun b1 => ?_)
 refine Wl.box 1 rfl rfl rfl (fun b2 => ?_)
 refine Wl.alloc 2 rfl T.zero4 (fun b3 => ?_)
 refine Wl.done (Ar.next (Wc.seq (Wc.seq (Wc.region rfl ?_))))
 refine Wl.call0 rfl T.fn13 rfl (c13 _) ?_
 refine Wl.q rfl (Qy.not rfl) (Wl.done (Ar.next (Wc.condF rfl ?_)))
 refine Wc.skip (Ar.next (Wc.seq (Wc.region rfl (Wl.q rfl (Qy.move rfl) ?_))))
 refine Wl.call 3 rfl T.fn14 rfl (c14 _ _ _ _ ls hga hg (by omega) h4) (tags_of trivial) (fun v1 G1 Ho1 hle1 hp => ?_)
 obtain ⟨⟨go1, gn1, gc1, rfl, hgr1⟩, rfl⟩ := hp
 replace hc := hc.up hle1
 replace ho := ho.up hle1
 replace hga := hga.up hle1
 refine Wl.q rfl (Qy.move rfl) (Wl.q rfl (Qy.extract rfl rfl) (Wl.q rfl (Qy.extract rfl rfl) ?_))
 refine Wl.alloc 3 rfl T.zero42 (fun b4 => ?_)
 refine Wl.store 3 T.one42 rfl rfl rfl rfl rfl ?_
 refine Wl.q rfl (Qy.assign rfl) (Wl.done (Ar.next (Wc.seq (Wc.seq (Wc.region rfl (Wl.q rfl (Qy.loadAll 0 T.agg25 rfl rfl rfl) ?_))))))
 refine Wl.call0 rfl T.fn15 rfl (c15 _ p _ _ _ _ (by omega) (by omega)) ?_
 refine Wl.q rfl (Qy.move rfl) ?_
 apply Wl.joinOr 4 33 37 rfl
 intro hg1
 refine Wl.want rfl rfl (Wl.q rfl (Qy.loadAll 0 T.agg25 rfl rfl rfl) (Wl.want rfl rfl ?_))
 refine Wl.call0 rfl T.fn16 rfl (c16 _ p _ _ _ _ (by assumption) (by assumption) (by omega) (by omega)) ?_
 refine Wl.want rfl rfl (Wl.q rfl (Qy.gtr rfl rfl) (Wl.q rfl (Qy.pick rfl rfl) ?_))
 exact Wl.back 4 0 rfl rfl rfl rfl rfl
 intro hg1
 refine Wl.pass rfl rfl rfl (Wl.pass rfl rfl rfl (Wl.pass rfl rfl rfl (Wl.q rfl (Qy.pick rfl rfl) ?_)))
 exact Wl.back 4 0 rfl rfl rfl rfl rfl
 refine Wl.done (Ar.next ?_)
 refine Wc.cond rfl (fun hc1 => ?_) (fun hc1 => ?_)
 refine Wc.seq (Wc.region rfl ?_)
 refine Wl.store 2 T.one4 rfl rfl rfl rfl rfl ?_
 refine Wl.done (Ar.next (Wc.ret (Ar.passRet ?_)))
 refine Ar.outOf (.inr rfl) ?_
 rotate_left
 refine Wc.skip (Ar.next (Wc.seq (Wc.region rfl (Wl.q rfl (Qy.loadAll 0 T.agg25 rfl rfl rfl) ?_))))
 refine Wl.call0 rfl T.fn17 rfl (c17W _ p _ _ _ _ (by assumption) (by assumption) (by omega) (by omega) hR) ?_
 refine Wl.q rfl (Qy.move rfl) (Wl.q rfl (Qy.extract rfl rfl) (Wl.q rfl (Qy.extract rfl rfl) ?_))
 refine Wl.alloc 4 rfl T.zero25 (fun b5 => ?_)
 refine Wl.storeAll 4 T.size25 rfl rfl rfl rfl rfl rfl ?_
 refine Wl.q rfl (Qy.assign rfl) (Wl.done (Ar.next (Wc.seq (Wc.region rfl (Wl.q rfl (Qy.loadAll 0 T.agg25 rfl rfl rfl) ?_)))))
 refine Wl.call 5 rfl T.fn18 rfl (c18 _ p _ _ _ _) (tags_of trivial) (fun v2 G2 Ho2 hle2 hp => ?_)
 obtain ⟨bi2, rfl, rfl, hbi2⟩ := hp
 replace hc := hc.up hle2
 replace ho := ho.up hle2
 replace hga := hga.up hle2
 refine Wl.q rfl (Qy.assign rfl) (Wl.done (Ar.next (Wc.seq (Wc.region rfl (Wl.q rfl (Qy.loadAll 0 T.agg25 rfl rfl rfl) ?_)))))
 refine Wl.call0 rfl T.fn19 rfl (c19 _ p _ _ _ _ (by assumption) (by assumption) (by omega) (by omega)) ?_
 refine Wl.q rfl (Qy.assign rfl) (Wl.done (Ar.next (Wc.seq (Wc.seq (Wc.region rfl (Wl.q rfl (Qy.move rfl) (Wl.q rfl (Qy.eqlFuncNil (by kernel_rfl) rfl rfl) ?_)))))))
 refine Wl.q rfl (Qy.move rfl) (Wl.want rfl rfl ?_)
 refine Wl.call0 rfl T.fn13 rfl (c13 _) ?_
 refine Wl.want rfl rfl (Wl.q rfl (Qy.not rfl) (Wl.q rfl (Qy.pick rfl rfl) (Wl.done (Ar.next (Wc.condF rfl ?_)))))
 refine Wc.skip (Ar.next (Wc.seq (Wc.seq (Wc.region rfl (Wl.q rfl (Qy.move rfl) (Wl.q rfl (Qy.notD rfl) (Wl.done (Ar.next (Wc.condP rfl (by first | assumption | omega) ?_)))))))))
 refine Wc.seq (Wc.seq (Wc.region rfl (Wl.q rfl (Qy.move rfl) (Wl.done (Ar.next (Wc.block ?_))))))
 rotate_left
 · refine Ar.out1 (.inr rfl) (Ho := []) rfl (.one 2 rfl rfl T.one4 rfl) trivial ?_
   rfl
 refine Wc.rangeGives (ι := Unit) 900 901 902 903 (fun _u => [(4, Option.some b5, Go.Obj.cells #[Go.Value.int Go.IntKind.i64 0, Go.Value.int Go.IntKind.i64 0, Go.Value.slice Option.none 0 0, Go.Value.slice Option.none 0 0] 25), (3, Option.some b4, Go.Obj.cells (List.toArray (List.set [Go.Value.slice Option.none 0 0] 0 (Go.Value.slice go1 gn1 gc1))) 42), (2, Option.some b3, Go.Obj.cells #[Go.Value.bool Bool.false] 4), (1, Option.some b2, Go.Obj.cells #[Go.Value.int Go.IntKind.i64 st] 3), (0, Option.some b1, Go.Obj.cells #[Go.Value.int Go.IntKind.i64 (PV.ins p), Go.Value.int Go.IntKind.i64 (PV.regs p), Go.Value.slice ac (List.length (PV.code p)) cc, Go.Value.slice ao (List.length (PV.outs p)) co] 25)]) (fun k _u => True) (fun c _u => False) (()) rfl T.fn43 (fun _ _ => rfl) rfl (c43W _ p _ _ _ _ _ hc ho (by omega) (by omega) hbi2 hR) (trivial) (Hp.got ⟨rfl, rfl, rfl, rfl, rfl, trivial⟩) ⟨rfl, fun _ => rfl⟩ rfl (fun k xk yk _u l dd qq w0 hx hgd hi => ?_) (fun _u dd hi => ?_) (fun _u dd c hi => ?_)
 · exact absurd hx (by simp)
 · refine Ar.outNormal ?_
   refine Ar.next (Wc.seq (Wc.region rfl (Wl.q rfl (Qy.loadAll 4 T.agg25 rfl rfl rfl) ?_)))
   refine Wl.call0 rfl T.fn20 rfl (c20 _ ⟨0, 0, [], []⟩ _ _ _ _) ?_
   refine Wl.q rfl (Qy.move rfl) ?_
   apply Wl.joinAnd 3 60 63 rfl
   intro hg1
   refine Wl.want rfl rfl (Wl.q rfl (Qy.move rfl) (Wl.want rfl rfl (Wl.q rfl (Qy.eql rfl rfl) (Wl.q rfl (Qy.pick rfl rfl) ?_))))
   exact Wl.back 3 0 rfl rfl rfl rfl rfl
   intro hg1
   refine Wl.pass rfl rfl rfl (Wl.pass rfl rfl rfl (Wl.q rfl (Qy.pick rfl rfl) ?_))
   exact Wl.back 3 0 rfl rfl rfl rfl rfl
   refine Wl.store 2 T.one4 rfl rfl rfl rfl rfl ?_
   refine Wl.done (Ar.next (Wc.ret (Ar.passRet ?_)))
   refine Ar.collect (.inr rfl) 901 rfl ?_
   refine Ar.outOf (.inr rfl) ?_
   refine Ar.out1 (.inr rfl) (Ho := []) rfl (.one 2 rfl rfl T.one4 rfl) trivial ?_
   rw [decide_eq_true ⟨rfl, rfl⟩]
 · exact hi.elim
theorem fit_len {ls : List (List Int)} (h : Fit ls) (h0 : 0 < ls.length) : (ls[0]?.getD []).length ≤ 20 := by
 unfold Fit at h
 rw [List.getElem?_eq_getElem h0]
 exact (h _ (List.getElem_mem h0)).2
def zAt (p : PV) (k : Nat) : PV := if k ≤ lenR p then nowS p k else lastP p
theorem zAt_zero (p : PV) : p = zAt p 0 := by unfold zAt; rw [if_pos (Nat.zero_le _)]; unfold nowS; rfl
theorem c4R (G : Imm) (hT : TabOk G) (p : PV) (ac ao ga : Option Addr) (cc co gc : Nat) (gl : List SV) (ls : List (List Int)) (st : Int) (hc : Arr G ac p.code) (ho : Arr G ao p.outs) (hga : Arr G ga gl) (hg : IGrid G gl ls) (h3 : gl.length ≤ 1099511627776) (h4 : ∀ l ∈ ls, l.length ≤ 1099511627776) (hR : rightP p = true) :
 Does Tryd.prog 4 [.agg #[.int .i64 p.ins, .int .i64 p.regs, .slice ac p.code.length cc, .slice ao p.outs.length co], .slice ga gl.length gc, .int .i64 st] G [] (fun v G' Ho => v = .bool true) := by
 have hgl := hg.1
 have hg0 := hg
 obtain ⟨r1, r2, r3, r4, r5, r6, r7, r8⟩ := right_facts hR
 have hRn : ¬ ¬ rightP p = true := fun h => h hR
 refine Does.enterM Tryd.func4 rfl Tryd.ntmps4 rfl (fun w => ?_)
 refine Wc.seq (Wc.region rfl ?_)
 refine Wl.box 0 rfl rfl rfl (fun b1 => ?_)
 refine Wl.box 1 rfl rfl rfl (fun b2 => ?_)
 refine Wl.alloc 2 rfl T.zero4 (fun b3 => ?_)
 refine Wl.done (Ar.next (Wc.seq (Wc.seq (Wc.region rfl ?_))))
 refine Wl.call0 rfl T.fn13 rfl (c13 _) ?_
 refine Wl.q rfl (Qy.not rfl) (Wl.done (Ar.next (Wc.condF rfl ?_)))
 refine Wc.skip (Ar.next (Wc.seq (Wc.region rfl (Wl.q rfl (Qy.move rfl) ?_))))
 refine Wl.call 3 rfl T.fn14 rfl (c14 _ _ _ _ ls hga hg (by omega) h4) (tags_of trivial) (fun v1 G1 Ho1 hle1 hp => ?_)
 obtain ⟨⟨go1, gn1, gc1, rfl, hgr1⟩, rfl⟩ := hp
 replace hc := hc.up hle1
 replace ho := ho.up hle1
 replace hga := hga.up hle1
 refine Wl.q rfl (Qy.move rfl) (Wl.q rfl (Qy.extract rfl rfl) (Wl.q rfl (Qy.extract rfl rfl) ?_))
 refine Wl.alloc 3 rfl T.zero42 (fun b4 => ?_)
 refine Wl.store 3 T.one42 rfl rfl rfl rfl rfl ?_
 refine Wl.q rfl (Qy.assign rfl) (Wl.done (Ar.next (Wc.seq (Wc.seq (Wc.region rfl (Wl.q rfl (Qy.loadAll 0 T.agg25 rfl rfl rfl) ?_))))))
 refine Wl.call0 rfl T.fn15 rfl (c15 _ p _ _ _ _ (by omega) (by omega)) ?_
 refine Wl.q rfl (Qy.move rfl) ?_
 apply Wl.joinOr 4 33 37 rfl
 intro hg1
 refine Wl.want rfl rfl (Wl.q rfl (Qy.loadAll 0 T.agg25 rfl rfl rfl) (Wl.want rfl rfl ?_))
 refine Wl.call0 rfl T.fn16 rfl (c16 _ p _ _ _ _ (by assumption) (by assumption) (by omega) (by omega)) ?_
 refine Wl.want rfl rfl (Wl.q rfl (Qy.gtr rfl rfl) (Wl.q rfl (Qy.pick rfl rfl) ?_))
 exact Wl.back 4 0 rfl rfl rfl rfl rfl
 intro hg1
 refine Wl.pass rfl rfl rfl (Wl.pass rfl rfl rfl (Wl.pass rfl rfl rfl (Wl.q rfl (Qy.pick rfl rfl) ?_)))
 exact Wl.back 4 0 rfl rfl rfl rfl rfl
 refine Wl.done (Ar.next ?_)
 refine Wc.cond rfl (fun hc1 => ?_) (fun hc1 => ?_)
 refine Wc.seq (Wc.region rfl ?_)
 refine Wl.store 2 T.one4 rfl rfl rfl rfl rfl ?_
 refine Wl.done (Ar.next (Wc.ret (Ar.passRet ?_)))
 refine Ar.outOf (.inr rfl) ?_
 rotate_left
 refine Wc.skip (Ar.next (Wc.seq (Wc.region rfl (Wl.q rfl (Qy.loadAll 0 T.agg25 rfl rfl rfl) ?_))))
 refine Wl.call 4 rfl T.fn17 rfl (c17R _ (hT.up (by assumption)) p _ _ _ _ (by assumption) (by assumption) hR) (tags_of trivial) (fun v2 G2 Ho2 hle2 hp => ?_)
 obtain ⟨lq, la, lb, lc, ld, rfl, hlq, hla, hlb, rfl⟩ := hp
 replace hc := hc.up hle2
 replace ho := ho.up hle2
 replace hga := hga.up hle2
 refine Wl.q rfl (Qy.move rfl) (Wl.q rfl (Qy.extract rfl rfl) (Wl.q rfl (Qy.extract rfl rfl) ?_))
 refine Wl.alloc 4 rfl T.zero25 (fun b5 => ?_)
 refine Wl.storeAll 4 T.size25 rfl rfl rfl rfl rfl rfl ?_
 refine Wl.q rfl (Qy.assign rfl) (Wl.done (Ar.next (Wc.seq (Wc.region rfl (Wl.q rfl (Qy.loadAll 0 T.agg25 rfl rfl rfl) ?_)))))
 refine Wl.call 5 rfl T.fn18 rfl (c18 _ p _ _ _ _) (tags_of trivial) (fun v3 G3 Ho3 hle3 hp => ?_)
 obtain ⟨bi3, rfl, rfl, hbi3⟩ := hp
 replace hla := hla.up hle3
 replace hlb := hlb.up hle3
 replace hc := hc.up hle3
 replace ho := ho.up hle3
 replace hga := hga.up hle3
 refine Wl.q rfl (Qy.assign rfl) (Wl.done (Ar.next (Wc.seq (Wc.region rfl (Wl.q rfl (Qy.loadAll 0 T.agg25 rfl rfl rfl) ?_)))))
 refine Wl.call0 rfl T.fn19 rfl (c19 _ p _ _ _ _ (by assumption) (by assumption) (by omega) (by omega)) ?_
 refine Wl.q rfl (Qy.assign rfl) (Wl.done (Ar.next (Wc.seq (Wc.seq (Wc.region rfl (Wl.q rfl (Qy.move rfl) (Wl.q rfl (Qy.eqlFuncNil (by kernel_rfl) rfl rfl) ?_)))))))
 refine Wl.q rfl (Qy.move rfl) (Wl.want rfl rfl ?_)
 refine Wl.call0 rfl T.fn13 rfl (c13 _) ?_
 refine Wl.want rfl rfl (Wl.q rfl (Qy.not rfl) (Wl.q rfl (Qy.pick rfl rfl) (Wl.done (Ar.next (Wc.condF rfl ?_)))))
 refine Wc.skip (Ar.next (Wc.seq (Wc.seq (Wc.region rfl (Wl.q rfl (Qy.move rfl) (Wl.q rfl (Qy.notD rfl) (Wl.done (Ar.next (Wc.condN rfl (by first | assumption | omega) ?_)))))))))
 refine Wc.skip (Ar.next (Wc.seq (Wc.region rfl (Wl.q rfl (Qy.move rfl) (Wl.q rfl (Qy.move rfl) ?_)))))
 apply Wl.joinAnd 6 65 71 rfl
 intro hg1
 refine Wl.want rfl rfl (Wl.q rfl (Qy.move rfl) (Wl.want rfl rfl (Wl.q rfl (Qy.len T.sl41 rfl) (Wl.want rfl rfl (Wl.q rfl (Qy.fieldAddr T.fa25_0 rfl) (Wl.want rfl rfl (Wl.q rfl (Qy.load 0 T.one3 rfl rfl rfl) (Wl.want rfl rfl (Wl.q rfl (Qy.eql rfl rfl) (Wl.q rfl (Qy.pick rfl rfl) ?_))))))))))
 exact Wl.back 6 0 rfl rfl rfl rfl rfl
 intro hg1
 refine Wl.pass rfl rfl rfl (Wl.pass rfl rfl rfl (Wl.pass rfl rfl rfl (Wl.pass rfl rfl rfl (Wl.pass rfl rfl rfl (Wl.q rfl (Qy.pick rfl rfl) ?_)))))
 exact Wl.back 6 0 rfl rfl rfl rfl rfl
 refine Wl.alloc 5 rfl T.zero4 (fun b6 => ?_)
 refine Wl.store 5 T.one4 rfl rfl rfl rfl rfl ?_
 refine Wl.done (Ar.next ?_)
 rotate_left
 · refine Ar.out1 (.inr rfl) (Ho := []) rfl (.one 2 rfl rfl T.one4 rfl) trivial ?_
   rfl
 refine Wc.meet (ι := Nat × Nat × PA × PA) (fun (bn, bw, y1, y2) => ([(14, .pointer (some ⟨bn, 0, none⟩)), (15, .pointer (some ⟨bw, 0, none⟩)), (13, Go.Value.pointer (Option.some (Go.Addr.mk b6 0 Option.none))), (11, Go.Value.func (Go.Fn.func 43) #[] #[Go.Value.pointer (Option.some (Go.Addr.mk bi3 0 Option.none))]), (10, Go.Value.int Go.IntKind.i64 0), (9, Go.Value.pointer (Option.some (Go.Addr.mk b5 0 Option.none))), (7, Go.Value.pointer (Option.some (Go.Addr.mk b4 0 Option.none))), (6, Go.Value.pointer (Option.some (Go.Addr.mk b3 0 Option.none))), (5, Go.Value.pointer (Option.some (Go.Addr.mk b2 0 Option.none))), (3, Go.Value.pointer (Option.some (Go.Addr.mk b1 0 Option.none)))], [(40, some bn, .cells #[.int .i64 p.ins, .int .i64 p.regs, .slice y1.a p.code.length y1.c, .slice y1.b p.outs.length y1.d] 25), (41, y1.a.map (·.block), Row 55 p.code y1.j), (42, y1.b.map (·.block), Row 3 p.outs y1.k), (43, some bw, .cells #[.int .i64 p.ins, .int .i64 p.regs, .slice y2.a p.code.length y2.c, .slice y2.b p.outs.length y2.d] 25), (44, y2.a.map (·.block), Row 55 p.code y2.j), (45, y2.b.map (·.block), Row 3 p.outs y2.k), (5, Option.some b6, Go.Obj.cells (List.toArray (List.set [Go.Value.bool Bool.false] 0 (Go.Value.bool (Decidable.decide (Fit ls ∧ (↑(List.length gl) : Int) = PV.ins p))))) 4), (4, Option.some b5, Go.Obj.cells #[Go.Value.int Go.IntKind.i64 (PV.ins lq), Go.Value.int Go.IntKind.i64 (PV.regs lq), Go.Value.slice la (List.length (PV.code lq)) lc, Go.Value.slice lb (List.length (PV.outs lq)) ld] 25), (3, Option.some b4, Go.Obj.cells (List.toArray (List.set [Go.Value.slice Option.none 0 0] 0 (Go.Value.slice go1 gn1 gc1))) 42), (2, Option.some b3, Go.Obj.cells #[Go.Value.bool Bool.false] 4), (1, Option.some b2, Go.Obj.cells #[Go.Value.int Go.IntKind.i64 st] 3), (0, Option.some b1, Go.Obj.cells #[Go.Value.int Go.IntKind.i64 (PV.ins p), Go.Value.int Go.IntKind.i64 (PV.regs p), Go.Value.slice ac (List.length (PV.code p)) cc, Go.Value.slice ao (List.length (PV.outs p)) co] 25)])) (fun (bn, bw, y1, y2) => (OwnA y1.a y1.c p.code y1.j ∧ OwnA y1.b y1.d p.outs y1.k) ∧ OwnA y2.a y2.c p.code y2.j ∧ OwnA y2.b y2.d p.outs y2.k) ?_ (fun ⟨bn, bw, y1, y2⟩ => fun (hk : (OwnA y1.a y1.c p.code y1.j ∧ OwnA y1.b y1.d p.outs y1.k) ∧ OwnA y2.a y2.c p.code y2.j ∧ OwnA y2.b y2.d p.outs y2.k) => ?_)
 · refine Wc.draw [0, 1, 2, 3, 4, 5] [] T.mixed rfl ?_
   refine Gm.q 0 [0] (by kernel_rfl) rfl rfl (Qy.loadAll 0 T.agg25 rfl rfl rfl) (Gm.q 2 [0] (by kernel_rfl) rfl rfl (Qy.loadAll 0 T.agg25 rfl rfl rfl) (Gm.three 1 4 5 ⟨rfl, rfl, rfl, rfl, rfl, rfl, trivial⟩ (by first | exact Imm.le_refl _ | assumption) (by kernel_rfl) rfl rfl rfl ?_ ?_ ?_))
   refine Wl.call 6 rfl T.fn21 rfl (c21 _ p _ _ _ _ (by assumption) (by assumption) (by omega) (by omega)) (tags_of trivial) (fun v4 G4 Ho4 hle4 hp => ?_)
   obtain ⟨na4, nb4, nc4, nd4, nj4, nk4, rfl, hna4, hnb4, rfl, rfl⟩ := hp
   refine Wl.on0 ?_
   refine Gm.three 3 4 5 ⟨rfl, rfl, rfl, rfl, rfl, rfl, trivial⟩ (by first | exact Imm.le_refl _ | assumption) (by kernel_rfl) rfl rfl rfl ?_ ?_ ?_
   refine Wl.call 18 rfl T.fn21 rfl (c21 _ p _ _ _ _ (by assumption) (by assumption) (by omega) (by omega)) (tags_of trivial) (fun v5 G5 Ho5 hle5 hp => ?_)
   obtain ⟨na5, nb5, nc5, nd5, nj5, nk5, rfl, hna5, hnb5, rfl, rfl⟩ := hp
   refine Wl.on0 ?_
   refine Gm.two 4 5 ⟨rfl, rfl, rfl, rfl, rfl, rfl, trivial⟩ (by first | exact Imm.le_refl _ | assumption) (by kernel_rfl) rfl rfl ?_ ?_
   refine Wl.alloc 30 rfl T.zero25 (fun b7 => ?_)
   refine Wl.on0 ?_
   refine Gm.one 5 ⟨rfl, rfl, rfl, rfl, rfl, rfl, trivial⟩ (by first | exact Imm.le_refl _ | assumption) (by kernel_rfl) rfl ?_
   refine Wl.alloc 31 rfl T.zero25 (fun b8 => ?_)
   refine Wl.on0 ?_
   refine Gm.one 6 ⟨rfl, rfl, rfl, rfl, rfl, rfl, trivial⟩ (by first | exact Imm.le_refl _ | assumption) (by kernel_rfl) rfl ?_
   refine Wl.storeAll 30 T.size25 rfl rfl rfl rfl rfl rfl ?_
   refine Wl.on0 ?_
   refine Gm.one 7 ⟨rfl, rfl, rfl, rfl, rfl, rfl, trivial⟩ (by first | exact Imm.le_refl _ | assumption) (by kernel_rfl) rfl ?_
   refine Wl.storeAll 31 T.size25 rfl rfl rfl rfl rfl rfl ?_
   refine Wl.on0 ?_
   refine Gm.doneA (by kernel_rfl) ⟨rfl, rfl, rfl, rfl, rfl, rfl, trivial⟩ (by first | exact Imm.le_refl _ | assumption) ?_
   rotate_left
   refine Wl.alloc 30 rfl T.zero25 (fun b7 => ?_)
   refine Wl.on0 ?_
   refine Gm.one 4 ⟨rfl, rfl, rfl, rfl, rfl, rfl, trivial⟩ (by first | exact Imm.le_refl _ | assumption) (by kernel_rfl) rfl ?_
   refine Wl.alloc 31 rfl T.zero25 (fun b8 => ?_)
   refine Wl.on0 ?_
   refine Gm.one 6 ⟨rfl, rfl, rfl, rfl, rfl, rfl, trivial⟩ (by first | exact Imm.le_refl _ | assumption) (by kernel_rfl) rfl ?_
   refine Wl.storeAll 31 T.size25 rfl rfl rfl rfl rfl rfl ?_
   refine Wl.on0 ?_
   refine Gm.one 7 ⟨rfl, rfl, rfl, rfl, rfl, rfl, trivial⟩ (by first | exact Imm.le_refl _ | assumption) (by kernel_rfl) rfl ?_
   refine Wl.storeAll 30 T.size25 rfl rfl rfl rfl rfl rfl ?_
   refine Wl.on0 ?_
   refine Gm.doneA (by kernel_rfl) ⟨rfl, rfl, rfl, rfl, rfl, rfl, trivial⟩ (by first | exact Imm.le_refl _ | assumption) ?_
   rotate_left
   refine Wl.alloc 18 rfl T.zero25 (fun b7 => ?_)
   refine Wl.on0 ?_
   refine Gm.two 3 5 ⟨rfl, rfl, rfl, rfl, rfl, rfl, trivial⟩ (by first | exact Imm.le_refl _ | assumption) (by kernel_rfl) rfl rfl ?_ ?_
   refine Wl.call 19 rfl T.fn21 rfl (c21 _ p _ _ _ _ (by assumption) (by assumption) (by omega) (by omega)) (tags_of trivial) (fun v5 G5 Ho5 hle5 hp => ?_)
   obtain ⟨na5, nb5, nc5, nd5, nj5, nk5, rfl, hna5, hnb5, rfl, rfl⟩ := hp
   refine Wl.on0 ?_
   refine Gm.one 5 ⟨rfl, rfl, rfl, rfl, rfl, rfl, trivial⟩ (by first | exact Imm.le_refl _ | assumption) (by kernel_rfl) rfl ?_
   refine Wl.alloc 31 rfl T.zero25 (fun b8 => ?_)
   refine Wl.on0 ?_
   refine Gm.one 6 ⟨rfl, rfl, rfl, rfl, rfl, rfl, trivial⟩ (by first | exact Imm.le_refl _ | assumption) (by kernel_rfl) rfl ?_
   refine Wl.storeAll 18 T.size25 rfl rfl rfl rfl rfl rfl ?_
   refine Wl.on0 ?_
   refine Gm.one 7 ⟨rfl, rfl, rfl, rfl, rfl, rfl, trivial⟩ (by first | exact Imm.le_refl _ | assumption) (by kernel_rfl) rfl ?_
   refine Wl.storeAll 31 T.size25 rfl rfl rfl rfl rfl rfl ?_
   refine Wl.on0 ?_
   refine Gm.doneA (by kernel_rfl) ⟨rfl, rfl, rfl, rfl, rfl, rfl, trivial⟩ (by first | exact Imm.le_refl _ | assumption) ?_
   rotate_left
   refine Wl.alloc 19 rfl T.zero25 (fun b8 => ?_)
   refine Wl.on0 ?_
   refine Gm.one 3 ⟨rfl, rfl, rfl, rfl, rfl, rfl, trivial⟩ (by first | exact Imm.le_refl _ | assumption) (by kernel_rfl) rfl ?_
   refine Wl.call 20 rfl T.fn21 rfl (c21 _ p _ _ _ _ (by assumption) (by assumption) (by omega) (by omega)) (tags_of trivial) (fun v5 G5 Ho5 hle5 hp => ?_)
   obtain ⟨na5, nb5, nc5, nd5, nj5, nk5, rfl, hna5, hnb5, rfl, rfl⟩ := hp
   refine Wl.on0 ?_
   refine Gm.one 6 ⟨rfl, rfl, rfl, rfl, rfl, rfl, trivial⟩ (by first | exact Imm.le_refl _ | assumption) (by kernel_rfl) rfl ?_
   refine Wl.storeAll 18 T.size25 rfl rfl rfl rfl rfl rfl ?_
   refine Wl.on0 ?_
   refine Gm.one 7 ⟨rfl, rfl, rfl, rfl, rfl, rfl, trivial⟩ (by first | exact Imm.le_refl _ | assumption) (by kernel_rfl) rfl ?_
   refine Wl.storeAll 19 T.size25 rfl rfl rfl rfl rfl rfl ?_
   refine Wl.on0 ?_
   refine Gm.doneA (by kernel_rfl) ⟨rfl, rfl, rfl, rfl, rfl, rfl, trivial⟩ (by first | exact Imm.le_refl _ | assumption) ?_
   rotate_left
   refine Wl.alloc 18 rfl T.zero25 (fun b7 => ?_)
   refine Wl.on0 ?_
   refine Gm.two 3 4 ⟨rfl, rfl, rfl, rfl, rfl, rfl, trivial⟩ (by first | exact Imm.le_refl _ | assumption) (by kernel_rfl) rfl rfl ?_ ?_
   refine Wl.call 19 rfl T.fn21 rfl (c21 _ p _ _ _ _ (by assumption) (by assumption) (by omega) (by omega)) (tags_of trivial) (fun v5 G5 Ho5 hle5 hp => ?_)
   obtain ⟨na5, nb5, nc5, nd5, nj5, nk5, rfl, hna5, hnb5, rfl, rfl⟩ := hp
   refine Wl.on0 ?_
   refine Gm.one 4 ⟨rfl, rfl, rfl, rfl, rfl, rfl, trivial⟩ (by first | exact Imm.le_refl _ | assumption) (by kernel_rfl) rfl ?_
   refine Wl.alloc 31 rfl T.zero25 (fun b8 => ?_)
   refine Wl.on0 ?_
   refine Gm.one 6 ⟨rfl, rfl, rfl, rfl, rfl, rfl, trivial⟩ (by first | exact Imm.le_refl _ | assumption) (by kernel_rfl) rfl ?_
   refine Wl.storeAll 31 T.size25 rfl rfl rfl rfl rfl rfl ?_
   refine Wl.on0 ?_
   refine Gm.one 7 ⟨rfl, rfl, rfl, rfl, rfl, rfl, trivial⟩ (by first | exact Imm.le_refl _ | assumption) (by kernel_rfl) rfl ?_
   refine Wl.storeAll 18 T.size25 rfl rfl rfl rfl rfl rfl ?_
   refine Wl.on0 ?_
   refine Gm.doneA (by kernel_rfl) ⟨rfl, rfl, rfl, rfl, rfl, rfl, trivial⟩ (by first | exact Imm.le_refl _ | assumption) ?_
   rotate_left
   refine Wl.alloc 19 rfl T.zero25 (fun b8 => ?_)
   refine Wl.on0 ?_
   refine Gm.one 3 ⟨rfl, rfl, rfl, rfl, rfl, rfl, trivial⟩ (by first | exact Imm.le_refl _ | assumption) (by kernel_rfl) rfl ?_
   refine Wl.call 20 rfl T.fn21 rfl (c21 _ p _ _ _ _ (by assumption) (by assumption) (by omega) (by omega)) (tags_of trivial) (fun v5 G5 Ho5 hle5 hp => ?_)
   obtain ⟨na5, nb5, nc5, nd5, nj5, nk5, rfl, hna5, hnb5, rfl, rfl⟩ := hp
   refine Wl.on0 ?_
   refine Gm.one 6 ⟨rfl, rfl, rfl, rfl, rfl, rfl, trivial⟩ (by first | exact Imm.le_refl _ | assumption) (by kernel_rfl) rfl ?_
   refine Wl.storeAll 19 T.size25 rfl rfl rfl rfl rfl rfl ?_
   refine Wl.on0 ?_
   refine Gm.one 7 ⟨rfl, rfl, rfl, rfl, rfl, rfl, trivial⟩ (by first | exact Imm.le_refl _ | assumption) (by kernel_rfl) rfl ?_
   refine Wl.storeAll 18 T.size25 rfl rfl rfl rfl rfl rfl ?_
   refine Wl.on0 ?_
   refine Gm.doneA (by kernel_rfl) ⟨rfl, rfl, rfl, rfl, rfl, rfl, trivial⟩ (by first | exact Imm.le_refl _ | assumption) ?_
   rotate_left
   refine Wl.alloc 6 rfl T.zero25 (fun b7 => ?_)
   refine Wl.on0 ?_
   refine Gm.two 1 5 ⟨rfl, rfl, rfl, rfl, rfl, rfl, trivial⟩ (by first | exact Imm.le_refl _ | assumption) (by kernel_rfl) rfl rfl ?_ ?_
   refine Wl.call 7 rfl T.fn21 rfl (c21 _ p _ _ _ _ (by assumption) (by assumption) (by omega) (by omega)) (tags_of trivial) (fun v4 G4 Ho4 hle4 hp => ?_)
   obtain ⟨na4, nb4, nc4, nd4, nj4, nk4, rfl, hna4, hnb4, rfl, rfl⟩ := hp
   refine Wl.on0 ?_
   refine Gm.two 3 5 ⟨rfl, rfl, rfl, rfl, rfl, rfl, trivial⟩ (by first | exact Imm.le_refl _ | assumption) (by kernel_rfl) rfl rfl ?_ ?_
   refine Wl.call 19 rfl T.fn21 rfl (c21 _ p _ _ _ _ (by assumption) (by assumption) (by omega) (by omega)) (tags_of trivial) (fun v5 G5 Ho5 hle5 hp => ?_)
   obtain ⟨na5, nb5, nc5, nd5, nj5, nk5, rfl, hna5, hnb5, rfl, rfl⟩ := hp
   refine Wl.on0 ?_
   refine Gm.one 5 ⟨rfl, rfl, rfl, rfl, rfl, rfl, trivial⟩ (by first | exact Imm.le_refl _ | assumption) (by kernel_rfl) rfl ?_
   refine Wl.alloc 31 rfl T.zero25 (fun b8 => ?_)
   refine Wl.on0 ?_
   refine Gm.one 6 ⟨rfl, rfl, rfl, rfl, rfl, rfl, trivial⟩ (by first | exact Imm.le_refl _ | assumption) (by kernel_rfl) rfl ?_
   refine Wl.storeAll 6 T.size25 rfl rfl rfl rfl rfl rfl ?_
   refine Wl.on0 ?_
   refine Gm.one 7 ⟨rfl, rfl, rfl, rfl, rfl, rfl, trivial⟩ (by first | exact Imm.le_refl _ | assumption) (by kernel_rfl) rfl ?_
   refine Wl.storeAll 31 T.size25 rfl rfl rfl rfl rfl rfl ?_
   refine Wl.on0 ?_
   refine Gm.doneA (by kernel_rfl) ⟨rfl, rfl, rfl, rfl, rfl, rfl, trivial⟩ (by first | exact Imm.le_refl _ | assumption) ?_
   rotate_left
   refine Wl.alloc 19 rfl T.zero25 (fun b8 => ?_)
   refine Wl.on0 ?_
   refine Gm.one 3 ⟨rfl, rfl, rfl, rfl, rfl, rfl, trivial⟩ (by first | exact Imm.le_refl _ | assumption) (by kernel_rfl) rfl ?_
   refine Wl.call 20 rfl T.fn21 rfl (c21 _ p _ _ _ _ (by assumption) (by assumption) (by omega) (by omega)) (tags_of trivial) (fun v5 G5 Ho5 hle5 hp => ?_)
   obtain ⟨na5, nb5, nc5, nd5, nj5, nk5, rfl, hna5, hnb5, rfl, rfl⟩ := hp
   refine Wl.on0 ?_
   refine Gm.one 6 ⟨rfl, rfl, rfl, rfl, rfl, rfl, trivial⟩ (by first | exact Imm.le_refl _ | assumption) (by kernel_rfl) rfl ?_
   refine Wl.storeAll 6 T.size25 rfl rfl rfl rfl rfl rfl ?_
   refine Wl.on0 ?_
   refine Gm.one 7 ⟨rfl, rfl, rfl, rfl, rfl, rfl, trivial⟩ (by first | exact Imm.le_refl _ | assumption) (by kernel_rfl) rfl ?_
   refine Wl.storeAll 19 T.size25 rfl rfl rfl rfl rfl rfl ?_
   refine Wl.on0 ?_
   refine Gm.doneA (by kernel_rfl) ⟨rfl, rfl, rfl, rfl, rfl, rfl, trivial⟩ (by first | exact Imm.le_refl _ | assumption) ?_
   rotate_left
   refine Wl.alloc 7 rfl T.zero25 (fun b8 => ?_)
   refine Wl.on0 ?_
   refine Gm.one 1 ⟨rfl, rfl, rfl, rfl, rfl, rfl, trivial⟩ (by first | exact Imm.le_refl _ | assumption) (by kernel_rfl) rfl ?_
   refine Wl.call 8 rfl T.fn21 rfl (c21 _ p _ _ _ _ (by assumption) (by assumption) (by omega) (by omega)) (tags_of trivial) (fun v4 G4 Ho4 hle4 hp => ?_)
   obtain ⟨na4, nb4, nc4, nd4, nj4, nk4, rfl, hna4, hnb4, rfl, rfl⟩ := hp
   refine Wl.on0 ?_
   refine Gm.one 3 ⟨rfl, rfl, rfl, rfl, rfl, rfl, trivial⟩ (by first | exact Imm.le_refl _ | assumption) (by kernel_rfl) rfl ?_
   refine Wl.call 20 rfl T.fn21 rfl (c21 _ p _ _ _ _ (by assumption) (by assumption) (by omega) (by omega)) (tags_of trivial) (fun v5 G5 Ho5 hle5 hp => ?_)
   obtain ⟨na5, nb5, nc5, nd5, nj5, nk5, rfl, hna5, hnb5, rfl, rfl⟩ := hp
   refine Wl.on0 ?_
   refine Gm.one 6 ⟨rfl, rfl, rfl, rfl, rfl, rfl, trivial⟩ (by first | exact Imm.le_refl _ | assumption) (by kernel_rfl) rfl ?_
   refine Wl.storeAll 6 T.size25 rfl rfl rfl rfl rfl rfl ?_
   refine Wl.on0 ?_
   refine Gm.one 7 ⟨rfl, rfl, rfl, rfl, rfl, rfl, trivial⟩ (by first | exact Imm.le_refl _ | assumption) (by kernel_rfl) rfl ?_
   refine Wl.storeAll 7 T.size25 rfl rfl rfl rfl rfl rfl ?_
   refine Wl.on0 ?_
   refine Gm.doneA (by kernel_rfl) ⟨rfl, rfl, rfl, rfl, rfl, rfl, trivial⟩ (by first | exact Imm.le_refl _ | assumption) ?_
   rotate_left
   refine Wl.alloc 6 rfl T.zero25 (fun b7 => ?_)
   refine Wl.on0 ?_
   refine Gm.two 1 4 ⟨rfl, rfl, rfl, rfl, rfl, rfl, trivial⟩ (by first | exact Imm.le_refl _ | assumption) (by kernel_rfl) rfl rfl ?_ ?_
   refine Wl.call 7 rfl T.fn21 rfl (c21 _ p _ _ _ _ (by assumption) (by assumption) (by omega) (by omega)) (tags_of trivial) (fun v4 G4 Ho4 hle4 hp => ?_)
   obtain ⟨na4, nb4, nc4, nd4, nj4, nk4, rfl, hna4, hnb4, rfl, rfl⟩ := hp
   refine Wl.on0 ?_
   refine Gm.two 3 4 ⟨rfl, rfl, rfl, rfl, rfl, rfl, trivial⟩ (by first | exact Imm.le_refl _ | assumption) (by kernel_rfl) rfl rfl ?_ ?_
   refine Wl.call 19 rfl T.fn21 rfl (c21 _ p _ _ _ _ (by assumption) (by assumption) (by omega) (by omega)) (tags_of trivial) (fun v5 G5 Ho5 hle5 hp => ?_)
   obtain ⟨na5, nb5, nc5, nd5, nj5, nk5, rfl, hna5, hnb5, rfl, rfl⟩ := hp
   refine Wl.on0 ?_
   refine Gm.one 4 ⟨rfl, rfl, rfl, rfl, rfl, rfl, trivial⟩ (by first | exact Imm.le_refl _ | assumption) (by kernel_rfl) rfl ?_
   refine Wl.alloc 31 rfl T.zero25 (fun b8 => ?_)
   refine Wl.on0 ?_
   refine Gm.one 6 ⟨rfl, rfl, rfl, rfl, rfl, rfl, trivial⟩ (by first | exact Imm.le_refl _ | assumption) (by kernel_rfl) rfl ?_
   refine Wl.storeAll 31 T.size25 rfl rfl rfl rfl rfl rfl ?_
   refine Wl.on0 ?_
   refine Gm.one 7 ⟨rfl, rfl, rfl, rfl, rfl, rfl, trivial⟩ (by first | exact Imm.le_refl _ | assumption) (by kernel_rfl) rfl ?_
   refine Wl.storeAll 6 T.size25 rfl rfl rfl rfl rfl rfl ?_
   refine Wl.on0 ?_
   refine Gm.doneA (by kernel_rfl) ⟨rfl, rfl, rfl, rfl, rfl, rfl, trivial⟩ (by first | exact Imm.le_refl _ | assumption) ?_
   rotate_left
   refine Wl.alloc 19 rfl T.zero25 (fun b8 => ?_)
   refine Wl.on0 ?_
   refine Gm.one 3 ⟨rfl, rfl, rfl, rfl, rfl, rfl, trivial⟩ (by first | exact Imm.le_refl _ | assumption) (by kernel_rfl) rfl ?_
   refine Wl.call 20 rfl T.fn21 rfl (c21 _ p _ _ _ _ (by assumption) (by assumption) (by omega) (by omega)) (tags_of trivial) (fun v5 G5 Ho5 hle5 hp => ?_)
   obtain ⟨na5, nb5, nc5, nd5, nj5, nk5, rfl, hna5, hnb5, rfl, rfl⟩ := hp
   refine Wl.on0 ?_
   refine Gm.one 6 ⟨rfl, rfl, rfl, rfl, rfl, rfl, trivial⟩ (by first | exact Imm.le_refl _ | assumption) (by kernel_rfl) rfl ?_
   refine Wl.storeAll 19 T.size25 rfl rfl rfl rfl rfl rfl ?_
   refine Wl.on0 ?_
   refine Gm.one 7 ⟨rfl, rfl, rfl, rfl, rfl, rfl, trivial⟩ (by first | exact Imm.le_refl _ | assumption) (by kernel_rfl) rfl ?_
   refine Wl.storeAll 6 T.size25 rfl rfl rfl rfl rfl rfl ?_
   refine Wl.on0 ?_
   refine Gm.doneA (by kernel_rfl) ⟨rfl, rfl, rfl, rfl, rfl, rfl, trivial⟩ (by first | exact Imm.le_refl _ | assumption) ?_
   rotate_left
   refine Wl.alloc 7 rfl T.zero25 (fun b8 => ?_)
   refine Wl.on0 ?_
   refine Gm.one 1 ⟨rfl, rfl, rfl, rfl, rfl, rfl, trivial⟩ (by first | exact Imm.le_refl _ | assumption) (by kernel_rfl) rfl ?_
   refine Wl.call 8 rfl T.fn21 rfl (c21 _ p _ _ _ _ (by assumption) (by assumption) (by omega) (by omega)) (tags_of trivial) (fun v4 G4 Ho4 hle4 hp => ?_)
   obtain ⟨na4, nb4, nc4, nd4, nj4, nk4, rfl, hna4, hnb4, rfl, rfl⟩ := hp
   refine Wl.on0 ?_
   refine Gm.one 3 ⟨rfl, rfl, rfl, rfl, rfl, rfl, trivial⟩ (by first | exact Imm.le_refl _ | assumption) (by kernel_rfl) rfl ?_
   refine Wl.call 20 rfl T.fn21 rfl (c21 _ p _ _ _ _ (by assumption) (by assumption) (by omega) (by omega)) (tags_of trivial) (fun v5 G5 Ho5 hle5 hp => ?_)
   obtain ⟨na5, nb5, nc5, nd5, nj5, nk5, rfl, hna5, hnb5, rfl, rfl⟩ := hp
   refine Wl.on0 ?_
   refine Gm.one 6 ⟨rfl, rfl, rfl, rfl, rfl, rfl, trivial⟩ (by first | exact Imm.le_refl _ | assumption) (by kernel_rfl) rfl ?_
   refine Wl.storeAll 7 T.size25 rfl rfl rfl rfl rfl rfl ?_
   refine Wl.on0 ?_
   refine Gm.one 7 ⟨rfl, rfl, rfl, rfl, rfl, rfl, trivial⟩ (by first | exact Imm.le_refl _ | assumption) (by kernel_rfl) rfl ?_
   refine Wl.storeAll 6 T.size25 rfl rfl rfl rfl rfl rfl ?_
   refine Wl.on0 ?_
   refine Gm.doneA (by kernel_rfl) ⟨rfl, rfl, rfl, rfl, rfl, rfl, trivial⟩ (by first | exact Imm.le_refl _ | assumption) ?_
   rotate_left
   · refine Ar.retag 30 40 rfl rfl (Ar.retag 31 43 rfl rfl (Ar.retag 16 41 rfl rfl (Ar.retag 17 42 rfl rfl (Ar.retag 28 44 rfl rfl (Ar.retag 29 45 rfl rfl ?_)))))
     refine Ar.meet ((b7, b8, ⟨na4, nb4, nc4, nd4, nj4, nk4⟩, ⟨na5, nb5, nc5, nd5, nj5, nk5⟩)) ?_ rfl ⟨rfl, rfl, rfl, rfl, rfl, rfl, rfl, rfl, rfl, rfl, trivial⟩ ⟨rfl, rfl, rfl, rfl, rfl, rfl, rfl, rfl, rfl, rfl, rfl, rfl, trivial⟩
     exact ⟨⟨hna4, hnb4⟩, hna5, hnb5⟩
   · refine Ar.retag 31 40 rfl rfl (Ar.retag 30 43 rfl rfl (Ar.retag 16 41 rfl rfl (Ar.retag 17 42 rfl rfl (Ar.retag 28 44 rfl rfl (Ar.retag 29 45 rfl rfl ?_)))))
     refine Ar.meet ((b8, b7, ⟨na4, nb4, nc4, nd4, nj4, nk4⟩, ⟨na5, nb5, nc5, nd5, nj5, nk5⟩)) ?_ rfl ⟨rfl, rfl, rfl, rfl, rfl, rfl, rfl, rfl, rfl, rfl, trivial⟩ ⟨rfl, rfl, rfl, rfl, rfl, rfl, rfl, rfl, rfl, rfl, rfl, rfl, trivial⟩
     exact ⟨⟨hna4, hnb4⟩, hna5, hnb5⟩
   · refine Ar.retag 18 40 rfl rfl (Ar.retag 31 43 rfl rfl (Ar.retag 16 41 rfl rfl (Ar.retag 17 42 rfl rfl (Ar.retag 29 44 rfl rfl (Ar.retag 30 45 rfl rfl ?_)))))
     refine Ar.meet ((b7, b8, ⟨na4, nb4, nc4, nd4, nj4, nk4⟩, ⟨na5, nb5, nc5, nd5, nj5, nk5⟩)) ?_ rfl ⟨rfl, rfl, rfl, rfl, rfl, rfl, rfl, rfl, rfl, rfl, trivial⟩ ⟨rfl, rfl, rfl, rfl, rfl, rfl, rfl, rfl, rfl, rfl, rfl, rfl, trivial⟩
     exact ⟨⟨hna4, hnb4⟩, hna5, hnb5⟩
   · refine Ar.retag 18 40 rfl rfl (Ar.retag 19 43 rfl rfl (Ar.retag 16 41 rfl rfl (Ar.retag 17 42 rfl rfl (Ar.retag 30 44 rfl rfl (Ar.retag 31 45 rfl rfl ?_)))))
     refine Ar.meet ((b7, b8, ⟨na4, nb4, nc4, nd4, nj4, nk4⟩, ⟨na5, nb5, nc5, nd5, nj5, nk5⟩)) ?_ rfl ⟨rfl, rfl, rfl, rfl, rfl, rfl, rfl, rfl, rfl, rfl, trivial⟩ ⟨rfl, rfl, rfl, rfl, rfl, rfl, rfl, rfl, rfl, rfl, rfl, rfl, trivial⟩
     exact ⟨⟨hna4, hnb4⟩, hna5, hnb5⟩
   · refine Ar.retag 31 40 rfl rfl (Ar.retag 18 43 rfl rfl (Ar.retag 16 41 rfl rfl (Ar.retag 17 42 rfl rfl (Ar.retag 29 44 rfl rfl (Ar.retag 30 45 rfl rfl ?_)))))
     refine Ar.meet ((b8, b7, ⟨na4, nb4, nc4, nd4, nj4, nk4⟩, ⟨na5, nb5, nc5, nd5, nj5, nk5⟩)) ?_ rfl ⟨rfl, rfl, rfl, rfl, rfl, rfl, rfl, rfl, rfl, rfl, trivial⟩ ⟨rfl, rfl, rfl, rfl, rfl, rfl, rfl, rfl, rfl, rfl, rfl, rfl, trivial⟩
     exact ⟨⟨hna4, hnb4⟩, hna5, hnb5⟩
   · refine Ar.retag 19 40 rfl rfl (Ar.retag 18 43 rfl rfl (Ar.retag 16 41 rfl rfl (Ar.retag 17 42 rfl rfl (Ar.retag 30 44 rfl rfl (Ar.retag 31 45 rfl rfl ?_)))))
     refine Ar.meet ((b8, b7, ⟨na4, nb4, nc4, nd4, nj4, nk4⟩, ⟨na5, nb5, nc5, nd5, nj5, nk5⟩)) ?_ rfl ⟨rfl, rfl, rfl, rfl, rfl, rfl, rfl, rfl, rfl, rfl, trivial⟩ ⟨rfl, rfl, rfl, rfl, rfl, rfl, rfl, rfl, rfl, rfl, rfl, rfl, trivial⟩
     exact ⟨⟨hna4, hnb4⟩, hna5, hnb5⟩
   · refine Ar.retag 6 40 rfl rfl (Ar.retag 31 43 rfl rfl (Ar.retag 17 41 rfl rfl (Ar.retag 18 42 rfl rfl (Ar.retag 29 44 rfl rfl (Ar.retag 30 45 rfl rfl ?_)))))
     refine Ar.meet ((b7, b8, ⟨na4, nb4, nc4, nd4, nj4, nk4⟩, ⟨na5, nb5, nc5, nd5, nj5, nk5⟩)) ?_ rfl ⟨rfl, rfl, rfl, rfl, rfl, rfl, rfl, rfl, rfl, rfl, trivial⟩ ⟨rfl, rfl, rfl, rfl, rfl, rfl, rfl, rfl, rfl, rfl, rfl, rfl, trivial⟩
     exact ⟨⟨hna4, hnb4⟩, hna5, hnb5⟩
   · refine Ar.retag 6 40 rfl rfl (Ar.retag 19 43 rfl rfl (Ar.retag 17 41 rfl rfl (Ar.retag 18 42 rfl rfl (Ar.retag 30 44 rfl rfl (Ar.retag 31 45 rfl rfl ?_)))))
     refine Ar.meet ((b7, b8, ⟨na4, nb4, nc4, nd4, nj4, nk4⟩, ⟨na5, nb5, nc5, nd5, nj5, nk5⟩)) ?_ rfl ⟨rfl, rfl, rfl, rfl, rfl, rfl, rfl, rfl, rfl, rfl, trivial⟩ ⟨rfl, rfl, rfl, rfl, rfl, rfl, rfl, rfl, rfl, rfl, rfl, rfl, trivial⟩
     exact ⟨⟨hna4, hnb4⟩, hna5, hnb5⟩
   · refine Ar.retag 6 40 rfl rfl (Ar.retag 7 43 rfl rfl (Ar.retag 18 41 rfl rfl (Ar.retag 19 42 rfl rfl (Ar.retag 30 44 rfl rfl (Ar.retag 31 45 rfl rfl ?_)))))
     refine Ar.meet ((b7, b8, ⟨na4, nb4, nc4, nd4, nj4, nk4⟩, ⟨na5, nb5, nc5, nd5, nj5, nk5⟩)) ?_ rfl ⟨rfl, rfl, rfl, rfl, rfl, rfl, rfl, rfl, rfl, rfl, trivial⟩ ⟨rfl, rfl, rfl, rfl, rfl, rfl, rfl, rfl, rfl, rfl, rfl, rfl, trivial⟩
     exact ⟨⟨hna4, hnb4⟩, hna5, hnb5⟩
   · refine Ar.retag 31 40 rfl rfl (Ar.retag 6 43 rfl rfl (Ar.retag 17 41 rfl rfl (Ar.retag 18 42 rfl rfl (Ar.retag 29 44 rfl rfl (Ar.retag 30 45 rfl rfl ?_)))))
     refine Ar.meet ((b8, b7, ⟨na4, nb4, nc4, nd4, nj4, nk4⟩, ⟨na5, nb5, nc5, nd5, nj5, nk5⟩)) ?_ rfl ⟨rfl, rfl, rfl, rfl, rfl, rfl, rfl, rfl, rfl, rfl, trivial⟩ ⟨rfl, rfl, rfl, rfl, rfl, rfl, rfl, rfl, rfl, rfl, rfl, rfl, trivial⟩
     exact ⟨⟨hna4, hnb4⟩, hna5, hnb5⟩
   · refine Ar.retag 19 40 rfl rfl (Ar.retag 6 43 rfl rfl (Ar.retag 17 41 rfl rfl (Ar.retag 18 42 rfl rfl (Ar.retag 30 44 rfl rfl (Ar.retag 31 45 rfl rfl ?_)))))
     refine Ar.meet ((b8, b7, ⟨na4, nb4, nc4, nd4, nj4, nk4⟩, ⟨na5, nb5, nc5, nd5, nj5, nk5⟩)) ?_ rfl ⟨rfl, rfl, rfl, rfl, rfl, rfl, rfl, rfl, rfl, rfl, trivial⟩ ⟨rfl, rfl, rfl, rfl, rfl, rfl, rfl, rfl, rfl, rfl, rfl, rfl, trivial⟩
     exact ⟨⟨hna4, hnb4⟩, hna5, hnb5⟩
   · refine Ar.retag 7 40 rfl rfl (Ar.retag 6 43 rfl rfl (Ar.retag 18 41 rfl rfl (Ar.retag 19 42 rfl rfl (Ar.retag 30 44 rfl rfl (Ar.retag 31 45 rfl rfl ?_)))))
     refine Ar.meet ((b8, b7, ⟨na4, nb4, nc4, nd4, nj4, nk4⟩, ⟨na5, nb5, nc5, nd5, nj5, nk5⟩)) ?_ rfl ⟨rfl, rfl, rfl, rfl, rfl, rfl, rfl, rfl, rfl, rfl, trivial⟩ ⟨rfl, rfl, rfl, rfl, rfl, rfl, rfl, rfl, rfl, rfl, rfl, rfl, trivial⟩
     exact ⟨⟨hna4, hnb4⟩, hna5, hnb5⟩
 obtain ⟨⟨ho1, ho2⟩, ho3, ho4⟩ := hk
 refine Wc.seq (Wc.region rfl ?_)
 refine Wl.alloc 46 rfl T.zero3 (fun b7 => ?_)
 refine Wl.store 46 T.one3 rfl rfl rfl rfl rfl ?_
 refine Wl.done (Ar.next (Wc.seq (Wc.region rfl ?_)))
 refine Wl.alloc 47 rfl T.zero4 (fun b8 => ?_)
 refine Wl.store 47 T.one4 rfl rfl rfl rfl rfl ?_
 refine Wl.done (Ar.next (Wc.seq (Wc.seq (Wc.region rfl (Wl.q rfl (Qy.move rfl) (Wl.done (Ar.next (Wc.block ?_))))))))
 have hcl : p.code.length ≤ 1024 := by omega
 have hT3 : TabOk G3 := ((hT.up hle1).up hle2).up hle3
 have hgrid : Fit ls ∧ (gl.length : Int) = p.ins → ∃ r : List SV, gn1 = r.length ∧ Arr G3 go1 r ∧ Grid G3 r ls := fun h => by
  obtain ⟨r, e1, e2, e3⟩ := hgr1 h.1
  exact ⟨r, e1, (e2.up hle2).up hle3, (e3.up hle2).up hle3⟩
 refine Wc.reH 47 (.cells #[.bool (decide (0 = lenR p + 1))] 4) rfl (by rw [decide_eq_false (by omega)]; rfl) ?_
 refine Wc.rangeGives (ι := Nat × PV × PA × PV × PA) 900 901 902 903 (fun (n, z, y1, v, y2) => [(40, some bn, .cells #[.int .i64 z.ins, .int .i64 z.regs, .slice y1.a z.code.length y1.c, .slice y1.b z.outs.length y1.d] 25), (41, y1.a.map (·.block), Row 55 z.code y1.j), (42, y1.b.map (·.block), Row 3 z.outs y1.k), (43, some bw, .cells #[.int .i64 v.ins, .int .i64 v.regs, .slice y2.a v.code.length y2.c, .slice y2.b v.outs.length y2.d] 25), (44, y2.a.map (·.block), Row 55 v.code y2.j), (45, y2.b.map (·.block), Row 3 v.outs y2.k), (46, some b7, .cells #[.int .i64 (n : Int)] 3), (47, some b8, .cells #[.bool (decide (n = lenR p + 1))] 4), (5, Option.some b6, Go.Obj.cells (List.toArray (List.set [Go.Value.bool Bool.false] 0 (Go.Value.bool (Decidable.decide (Fit ls ∧ (↑(List.length gl) : Int) = PV.ins p))))) 4), (4, Option.some b5, Go.Obj.cells #[Go.Value.int Go.IntKind.i64 (PV.ins lq), Go.Value.int Go.IntKind.i64 (PV.regs lq), Go.Value.slice la (List.length (PV.code lq)) lc, Go.Value.slice lb (List.length (PV.outs lq)) ld] 25), (3, Option.some b4, Go.Obj.cells (List.toArray (List.set [Go.Value.slice Option.none 0 0] 0 (Go.Value.slice go1 gn1 gc1))) 42), (2, Option.some b3, Go.Obj.cells #[Go.Value.bool Bool.false] 4), (1, Option.some b2, Go.Obj.cells #[Go.Value.int Go.IntKind.i64 st] 3), (0, Option.some b1, Go.Obj.cells #[Go.Value.int Go.IntKind.i64 (PV.ins p), Go.Value.int Go.IntKind.i64 (PV.regs p), Go.Value.slice ac (List.length (PV.code p)) cc, Go.Value.slice ao (List.length (PV.outs p)) co] 25)]) (fun k (n, z, y1, v, y2) => n = k ∧ z = zAt p k ∧ (0 < k ∧ k ≤ lenR p → v = nowS p (3 * ((k - 1) / 3))) ∧ (OwnA y1.a y1.c z.code y1.j ∧ OwnA y1.b y1.d z.outs y1.k) ∧ OwnA y2.a y2.c v.code y2.j ∧ OwnA y2.b y2.d v.outs y2.k) (fun c (n, z, y1, v, y2) => False) ((0, p, y1, p, y2)) rfl T.fn43 (fun _ _ => rfl) rfl (c43R _ hT3 p _ _ _ _ _ hc ho hbi3 hR) (⟨rfl, zAt_zero p, fun h => absurd h.1 (by omega), ⟨ho1, ho2⟩, ho3, ho4⟩) (Hp.got ⟨rfl, rfl, rfl, rfl, rfl, rfl, rfl, rfl, rfl, rfl, rfl, rfl, rfl, rfl, trivial⟩) ⟨rfl, fun _ => rfl⟩ rfl (fun k xk yk ⟨n, z, y1, v, y2⟩ l dd qq w0 hx hgd hi => ?_) (fun ⟨n, z, y1, v, y2⟩ dd hi => ?_) (fun ⟨n, z, y1, v, y2⟩ dd c hi => ?_)
 · obtain ⟨rfl, hz, hv, ⟨ho1, ho2⟩, ho3, ho4⟩ := hi
   have hlt : n < lenR p + 1 := by
    have := (List.getElem?_eq_some_iff.1 hx).1
    rw [rounds_len] at this; exact this
   have hall := rounds_all hR hx
   have hzn : z = nowS p n := by rw [hz]; unfold zAt; rw [if_pos (by omega)]
   have hRz : rightP z = true := by rw [hzn]; exact now_right hR n
   obtain ⟨xn, q⟩ := xk
   obtain ⟨hRq, hqi, hqo, hqc, hqf⟩ : rightP q = true ∧ q.ins = p.ins ∧ q.outs.length = p.outs.length ∧ q.code.length ≤ p.code.length ∧
    ∀ (gs os : List (List Int)) (N : Nat), (gs.length : Int) = p.ins → Flat N gs → followP p gs = some os → followP q gs = some os := hall
   obtain ⟨hgd1, hgd2⟩ : OwnA yk.a yk.c q.code yk.j ∧ OwnA yk.b yk.d q.outs yk.k := hgd
   obtain ⟨z1, z2, z3, z4, z5, z6, z7, z8⟩ := right_facts hRz
   obtain ⟨q1, q2, q3, q4, q5, q6, q7, q8⟩ := right_facts hRq
   have hl48 := len_le p
   have hqq : q = q := rfl
   have hqn : ¬ ¬ q = q := fun h => h rfl
   refine Wc.freezeRow 41 rfl ho1 (fun Ga hleA hA1 => Wc.freezeRow 42 rfl ho2 (fun Gb hleB hA2 => ?_))
   replace hA1 := hA1.up hleB
   have hlb := Imm.le_trans hleA hleB
   replace hc := hc.up hlb
   replace ho := ho.up hlb
   have hTb : TabOk Gb := hT3.up hlb
   refine Wc.reH 47 (.cells #[.bool false] 4) rfl (by rw [decide_eq_false (by omega)]) ?_
   refine Wc.reH 902 (Row 55 q.code yk.j) rfl rfl (Wc.reH 903 (Row 3 q.outs yk.k) rfl rfl ?_)
   refine Wc.re 78 rfl (show _ = Value.agg #[.int .i64 q.ins, .int .i64 q.regs, .slice yk.a q.code.length yk.c, .slice yk.b q.outs.length yk.d] from rfl) (Wc.re 77 rfl (show _ = Value.string xn from rfl) ?_)
   have hvf : 0 < n → n ≤ lenR p → v.code.length ≤ 16384 ∧ v.outs.length ≤ 128 := fun h h' => by
    have hRv : rightP v = true := by rw [hv ⟨h, h'⟩]; exact now_right hR _
    obtain ⟨v1, v2, v3, v4, v5, v6, v7, v8⟩ := right_facts hRv
    exact ⟨v4, v6⟩
   have htm : ((n : Nat) : Int).tmod 3 = ((n % 3 : Nat) : Int) := by rw [Int.tmod_eq_emod_of_nonneg (by omega)]; omega
   by_cases hJ : Fit ls ∧ (gl.length : Int) = p.ins
   · obtain ⟨r, hgr, hAg, hrs⟩ := hgrid hJ
     subst hgr
     replace hAg := hAg.up hlb
     replace hrs := hrs.up hlb
     have hev := fit_even hg0 hJ.1
     have hrl := hrs.1
     have hN9 : (ls[0]?.getD []).length ≤ 1048576 := by
      have h9 := fit_len hJ.1 (show 0 < ls.length by have := hJ.2; omega)
      omega
     have hcl2 : q.code.length ≤ 1024 := by omega
     have hgi : (r.length : Int) = p.ins := by have := hJ.2; omega
     have hfol : ∀ os, followP p ls = some os → followP q ls = some os := fun os h => hqf ls os _ (by omega) (fun z hz => (hev z hz).1) h
     rcases Nat.lt_or_ge n (lenR p) with hnl | hnl
     · have hxe : (⟨xn, q⟩ : NP) = ⟨nmOf n, nowS p (n + 1)⟩ := by rw [rounds_at p hnl] at hx; exact (Option.some.inj hx).symm
       have hxn : xn = nmOf n := congrArg NP.name hxe
       have hxq : q = passOf n z := by rw [hzn, ← now_succ]; exact congrArg NP.p hxe
       rcases (show n % 3 = 0 ∨ n % 3 = 1 ∨ n % 3 = 2 by omega) with h3 | h3 | h3
       · rcases Nat.eq_zero_or_pos n with h0 | h0
         · have t0 : ((n : Nat) : Int).tmod 3 = 0 := by rw [htm, h3]; rfl
           have hxl : xn = ⟨#[102, 111, 108, 100]⟩ := by rw [hxn]; unfold nmOf; rw [if_pos h3]
           have hP : ∀ (G9 : Imm) (_ : TabOk G9) (ac ao : Option Addr) (cc co : Nat), Arr G9 ac z.code → Arr G9 ao z.outs → Passes G9 7 z ac ao cc co q := fun G9 hT9 ac ao cc co h1 h2 => by
            rw [hxq]; unfold passOf; rw [if_pos h3]; exact c7A G9 hT9 z ac ao cc co h1 h2 hRz
           subst hxl
           refine Wc.seq (Wc.region rfl (Wl.q rfl (Qy.assign rfl) (Wl.done (Ar.next (Wc.region rfl ?_)))))
           refine Wl.alloc 904 rfl T.zero25 (fun b9 => ?_)
           refine Wl.storeAll 904 T.size25 rfl rfl rfl rfl rfl rfl ?_
           refine Wl.done (Ar.begin 900 rfl ?_)
           refine Wc.block (Wc.seq (Wc.region rfl (Wl.q rfl (Qy.assign rfl) (Wl.q rfl (Qy.assign rfl) (Wl.done (Ar.next (Wc.seq (Wc.region rfl (Wl.q rfl (Qy.build (cs := [_, _, _, _]) T.st25 rfl rfl rfl) ?_)))))))))
           refine Wl.alloc 905 rfl T.zero25 (fun b10 => ?_)
           refine Wl.storeAll 905 T.size25 rfl rfl rfl rfl rfl rfl ?_
           refine Wl.done (Ar.next (Wc.seq (Wc.block (Wc.seq (Wc.region rfl (Wl.q rfl (Qy.load 47 T.one4 rfl rfl rfl) (Wl.q rfl (Qy.assign rfl) (Wl.done (Ar.next (Wc.condF rfl ?_))))))))))
           refine Wc.seq (Wc.region rfl (Wl.q rfl (Qy.load 46 T.one3 rfl rfl rfl) (Wl.q rfl (Qy.urem rfl rfl (by omega)) ?_)))
           refine Wl.q rfl (Qy.eql rfl rfl) (Wl.q rfl (Qy.move rfl) (Wl.yes 91 rfl (by first | assumption | omega) ?_))
           refine Wl.want rfl rfl (Wl.q rfl (Qy.load 46 T.one3 rfl rfl rfl) (Wl.want rfl rfl (Wl.q rfl (Qy.gtr rfl rfl) (Wl.q rfl (Qy.pick rfl rfl) (Wl.q rfl (Qy.move rfl) (Wl.no 95 rfl (by first | assumption | omega) ?_))))))
           refine Wl.pass rfl rfl rfl (Wl.pass rfl rfl rfl (Wl.pass rfl rfl rfl (Wl.pass rfl rfl rfl (Wl.passU rfl rfl rfl (Wl.passU rfl rfl rfl (Wl.pass rfl rfl rfl (Wl.q rfl (Qy.pick rfl rfl) (Wl.q rfl (Qy.assign rfl) (Wl.done (Ar.next (Wc.condF rfl ?_)))))))))))
           refine Wc.seq (Wc.region rfl (Wl.q rfl (Qy.load 46 T.one3 rfl rfl rfl) (Wl.q rfl (Qy.urem rfl rfl (by omega)) ?_)))
           refine Wl.q rfl (Qy.eql rfl rfl) (Wl.q rfl (Qy.assign rfl) (Wl.done (Ar.next (Wc.condP rfl (by first | assumption | omega) ?_))))
           refine Wc.seq (Wc.region rfl (Wl.q rfl (Qy.assign rfl) (Wl.done (Ar.next (Wc.seq (Wc.region rfl (Wl.q rfl (Qy.loadAll 40 T.agg25 rfl rfl rfl) ?_)))))))
           refine Wl.call 906 rfl T.fn21 rfl (c21 _ _ _ _ _ _ (by assumption) (by assumption) (by omega) (by omega)) (tags_of trivial) (fun v4 G4 Ho4 hle4 hp => ?_)
           obtain ⟨na4, nb4, nc4, nd4, nj4, nk4, rfl, hna4, hnb4, rfl, rfl⟩ := hp
           refine Wl.storeAll 43 T.size25 rfl rfl rfl rfl rfl rfl ?_
           refine Wl.done (Ar.next (Wc.region rfl (Wl.q rfl (Qy.loadAll 40 T.agg25 rfl rfl rfl) ?_)))
           refine Wl.call 918 rfl T.fn7 rfl (hP _ (by assumption) _ _ _ _ (by assumption) (by assumption)) (tags_of trivial) (fun v5 G5 Ho5 hle5 hp => ?_)
           obtain ⟨qa5, qb5, qc5, qd5, rfl, hqA5, hqB5, rfl⟩ := hp
           replace hA2 := hA2.up hle5
           replace hA1 := hA1.up hle5
           replace hc := hc.up hle5
           replace ho := ho.up hle5
           replace hAg := hAg.up hle5
           replace hrs := hrs.up hle5
           refine Wl.q rfl (Qy.move rfl) (Wl.q rfl (Qy.extract rfl rfl) (Wl.q rfl (Qy.extract rfl rfl) ?_))
           refine Wl.storeAll 905 T.size25 rfl rfl rfl rfl rfl rfl ?_
           refine Wl.q rfl (Qy.assign rfl) (Wl.done ?_)
           refine Ar.outNormal ?_
           refine Ar.next (Wc.seq (Wc.seq (Wc.region rfl (Wl.q rfl (Qy.move rfl) (Wl.q rfl (Qy.move rfl) (Wl.q rfl (Qy.neqSS rfl rfl) ?_))))))
           refine Wl.q rfl (Qy.move rfl) (Wl.want rfl rfl (Wl.q rfl (Qy.move rfl) (Wl.want rfl rfl (Wl.q rfl (Qy.neq rfl rfl) (Wl.q rfl (Qy.pick rfl rfl) (Wl.q rfl (Qy.move rfl) (Wl.no 136 rfl (by first | assumption | omega) ?_)))))))
           refine Wl.want rfl rfl (Wl.q rfl (Qy.loadAll 904 T.agg25 rfl rfl rfl) (Wl.want rfl rfl (Wl.q rfl (Qy.loadAll 905 T.agg25 rfl rfl rfl) (Wl.want rfl rfl ?_))))
           refine Wl.callB 918 rfl T.fn22 rfl (fun Gx hGx hgx => (c22 _ _ _ _ _ _ _ _ _ _ _ (by first | exact Arr.up (by assumption) hGx | exact Arr.nil _ | exact Arr.own hgx 903 rfl (by assumption) | exact Arr.own hgx 902 rfl (by assumption) | exact Arr.own hgx 44 rfl (by assumption) | exact Arr.own hgx 45 rfl (by assumption)) (by first | exact Arr.up (by assumption) hGx | exact Arr.nil _ | exact Arr.own hgx 903 rfl (by assumption) | exact Arr.own hgx 902 rfl (by assumption) | exact Arr.own hgx 44 rfl (by assumption) | exact Arr.own hgx 45 rfl (by assumption)) (by first | exact Arr.up (by assumption) hGx | exact Arr.nil _ | exact Arr.own hgx 903 rfl (by assumption) | exact Arr.own hgx 902 rfl (by assumption) | exact Arr.own hgx 44 rfl (by assumption) | exact Arr.own hgx 45 rfl (by assumption)) (by first | exact Arr.up (by assumption) hGx | exact Arr.nil _ | exact Arr.own hgx 903 rfl (by assumption) | exact Arr.own hgx 902 rfl (by assumption) | exact Arr.own hgx 44 rfl (by assumption) | exact Arr.own hgx 45 rfl (by assumption)) (by omega) (by omega))) (fun v1 Gx1 G1 Ho1 hlx1 hp => ?_)
           obtain ⟨rfl, rfl, rfl⟩ := hp
           refine Wl.want rfl rfl (Wl.q rfl (Qy.notD rfl) (Wl.q rfl (Qy.pick rfl rfl) (Wl.q rfl (Qy.move rfl) (Wl.no 142 rfl (by first | assumption | omega) ?_))))
           refine Wl.want rfl rfl (Wl.q rfl (Qy.load 5 T.one4 rfl rfl rfl) (Wl.want rfl rfl (Wl.q rfl (Qy.move rfl) (Wl.yes 144 rfl (by first | assumption | omega) ?_))))
           refine Wl.want rfl rfl (Wl.q rfl (Qy.loadAll 0 T.agg25 rfl rfl rfl) (Wl.want rfl rfl (Wl.q rfl (Qy.loadAll 904 T.agg25 rfl rfl rfl) (Wl.want rfl rfl (Wl.q rfl (Qy.load 3 T.one42 rfl rfl rfl) (Wl.want rfl rfl ?_))))))
           refine Wl.callB 918 rfl T.fn26 rfl (fun Gx hGx hgx => (c26 _ p q _ _ _ _ _ _ _ _ _ _ r ls _ (by first | exact Arr.up (by assumption) hGx | exact Arr.nil _ | exact Arr.own hgx 903 rfl (by assumption) | exact Arr.own hgx 902 rfl (by assumption) | exact Arr.own hgx 44 rfl (by assumption) | exact Arr.own hgx 45 rfl (by assumption)) (by first | exact Arr.up (by assumption) hGx | exact Arr.nil _ | exact Arr.own hgx 903 rfl (by assumption) | exact Arr.own hgx 902 rfl (by assumption) | exact Arr.own hgx 44 rfl (by assumption) | exact Arr.own hgx 45 rfl (by assumption)) (by first | exact Arr.up (by assumption) hGx | exact Arr.nil _ | exact Arr.own hgx 903 rfl (by assumption) | exact Arr.own hgx 902 rfl (by assumption) | exact Arr.own hgx 44 rfl (by assumption) | exact Arr.own hgx 45 rfl (by assumption)) (by first | exact Arr.up (by assumption) hGx | exact Arr.nil _ | exact Arr.own hgx 903 rfl (by assumption) | exact Arr.own hgx 902 rfl (by assumption) | exact Arr.own hgx 44 rfl (by assumption) | exact Arr.own hgx 45 rfl (by assumption)) (by first | exact Arr.up (by assumption) hGx | exact Arr.nil _ | exact Arr.own hgx 903 rfl (by assumption) | exact Arr.own hgx 902 rfl (by assumption) | exact Arr.own hgx 44 rfl (by assumption) | exact Arr.own hgx 45 rfl (by assumption)) (hrs.up hGx) hev hN9 hR hRq hgi hcl hcl2 hqi hqo hfol)) (fun v2 Gx2 G2 Ho2 hlx2 hp => ?_)
           obtain ⟨rfl, rfl⟩ := hp
           refine Wl.want rfl rfl (Wl.q rfl (Qy.not rfl) (Wl.want rfl rfl (Wl.q rfl (Qy.pick rfl rfl) (Wl.q rfl (Qy.pick rfl rfl) (Wl.done (Ar.next (Wc.condF rfl ?_)))))))
           refine Wc.skip (Ar.next (Wc.seq (Wc.region rfl (Wl.q rfl (Qy.loadAll 905 T.agg25 rfl rfl rfl) ?_))))
           refine Wl.call 918 rfl T.fn21 rfl (c21 _ _ _ _ _ _ (by assumption) (by assumption) (by omega) (by omega)) (tags_of trivial) (fun v6 G6 Ho6 hle6 hp => ?_)
           obtain ⟨na6, nb6, nc6, nd6, nj6, nk6, rfl, hna6, hnb6, rfl, rfl⟩ := hp
           refine Wl.storeAll 40 T.size25 rfl rfl rfl rfl rfl rfl ?_
           refine Wl.done (Ar.next (Wc.seq (Wc.region rfl (Wl.q rfl (Qy.loadAll 904 T.agg25 rfl rfl rfl) ?_))))
           refine Wl.call 902 rfl T.fn27 rfl (c27 _ q _ _ _ _ _ _ hgd1 hgd2) (tags_of ⟨rfl, rfl, trivial⟩) (fun v8 G8 Ho8 hle8 hp => ?_)
           obtain ⟨rfl, rfl, rfl⟩ := hp
           refine Wl.done (Ar.next (Wc.region rfl (Wl.q rfl (Qy.load 46 T.one3 rfl rfl rfl) (Wl.q rfl (Qy.add rfl rfl (by omega)) ?_))))
           refine Wl.store 46 T.one3 rfl rfl rfl rfl rfl ?_
           refine Wl.done ?_
           refine Ar.outNormal ?_
           refine Ar.base ?_
           refine Ar.retag 928 41 rfl rfl (Ar.retag 929 42 rfl rfl ?_)
           refine Ar.retag 916 44 rfl rfl (Ar.retag 917 45 rfl rfl ?_)
           refine Ar.reH 47 (.cells #[.bool (decide (n + 1 = lenR p + 1))] 4) rfl (by rw [decide_eq_false (by omega)]) ?_
           refine Ar.roundEnd none (.inl ⟨rfl, rfl⟩) 900 rfl ⟨rfl, ((n + 1, q, ⟨na6, nb6, nc6, nd6, nj6, nk6⟩, z, ⟨na4, nb4, nc4, nd4, nj4, nk4⟩), none), rfl, .inl ⟨rfl, rfl, ?_⟩⟩ (Hp.got ⟨rfl, rfl, rfl, rfl, rfl, rfl, rfl, rfl, rfl, rfl, rfl, rfl, rfl, rfl, rfl, rfl, trivial⟩)
           exact ⟨rfl, by unfold zAt; rw [if_pos (by omega)]; exact congrArg NP.p hxe, fun h => (by rw [hzn]; congr 1; omega), ⟨hna6, hnb6⟩, hna4, hnb4⟩
         · have t0 : ((n : Nat) : Int).tmod 3 = 0 := by rw [htm, h3]; rfl
           have hxl : xn = ⟨#[102, 111, 108, 100]⟩ := by rw [hxn]; unfold nmOf; rw [if_pos h3]
           have hvz : ¬ v = z := by
            rw [hv ⟨h0, by omega⟩, hzn]
            intro h9
            have hlr : lenR p = 3 * lastR p + 3 := by unfold lenR; rfl
            have h8 := last_not p (n := (n - 1) / 3) (by omega)
            rw [show 3 * ((n - 1) / 3) + 3 = n by omega] at h8
            exact h8 h9.symm
           obtain ⟨hv1, hv2⟩ := hvf h0 (by omega)
           have hP : ∀ (G9 : Imm) (_ : TabOk G9) (ac ao : Option Addr) (cc co : Nat), Arr G9 ac z.code → Arr G9 ao z.outs → Passes G9 7 z ac ao cc co q := fun G9 hT9 ac ao cc co h1 h2 => by
            rw [hxq]; unfold passOf; rw [if_pos h3]; exact c7A G9 hT9 z ac ao cc co h1 h2 hRz
           subst hxl
           refine Wc.seq (Wc.region rfl (Wl.q rfl (Qy.assign rfl) (Wl.done (Ar.next (Wc.region rfl ?_)))))
           refine Wl.alloc 904 rfl T.zero25 (fun b9 => ?_)
           refine Wl.storeAll 904 T.size25 rfl rfl rfl rfl rfl rfl ?_
           refine Wl.done (Ar.begin 900 rfl ?_)
           refine Wc.block (Wc.seq (Wc.region rfl (Wl.q rfl (Qy.assign rfl) (Wl.q rfl (Qy.assign rfl) (Wl.done (Ar.next (Wc.seq (Wc.region rfl (Wl.q rfl (Qy.build (cs := [_, _, _, _]) T.st25 rfl rfl rfl) ?_)))))))))
           refine Wl.alloc 905 rfl T.zero25 (fun b10 => ?_)
           refine Wl.storeAll 905 T.size25 rfl rfl rfl rfl rfl rfl ?_
           refine Wl.done (Ar.next (Wc.seq (Wc.block (Wc.seq (Wc.region rfl (Wl.q rfl (Qy.load 47 T.one4 rfl rfl rfl) (Wl.q rfl (Qy.assign rfl) (Wl.done (Ar.next (Wc.condF rfl ?_))))))))))
           refine Wc.seq (Wc.region rfl (Wl.q rfl (Qy.load 46 T.one3 rfl rfl rfl) (Wl.q rfl (Qy.urem rfl rfl (by omega)) ?_)))
           refine Wl.q rfl (Qy.eql rfl rfl) (Wl.q rfl (Qy.move rfl) (Wl.yes 91 rfl (by first | assumption | omega) ?_))
           refine Wl.want rfl rfl (Wl.q rfl (Qy.load 46 T.one3 rfl rfl rfl) (Wl.want rfl rfl (Wl.q rfl (Qy.gtr rfl rfl) (Wl.q rfl (Qy.pick rfl rfl) (Wl.q rfl (Qy.move rfl) (Wl.yes 95 rfl (by first | assumption | omega) ?_))))))
           refine Wl.want rfl rfl (Wl.q rfl (Qy.loadAll 43 T.agg25 rfl rfl rfl) (Wl.want rfl rfl (Wl.q rfl (Qy.loadAll 40 T.agg25 rfl rfl rfl) (Wl.want rfl rfl ?_))))
           refine Wl.callB 906 rfl T.fn22 rfl (fun Gx hGx hgx => (c22 _ _ _ _ _ _ _ _ _ _ _ (by first | exact Arr.up (by assumption) hGx | exact Arr.nil _ | exact Arr.own hgx 903 rfl (by assumption) | exact Arr.own hgx 902 rfl (by assumption) | exact Arr.own hgx 44 rfl (by assumption) | exact Arr.own hgx 45 rfl (by assumption)) (by first | exact Arr.up (by assumption) hGx | exact Arr.nil _ | exact Arr.own hgx 903 rfl (by assumption) | exact Arr.own hgx 902 rfl (by assumption) | exact Arr.own hgx 44 rfl (by assumption) | exact Arr.own hgx 45 rfl (by assumption)) (by first | exact Arr.up (by assumption) hGx | exact Arr.nil _ | exact Arr.own hgx 903 rfl (by assumption) | exact Arr.own hgx 902 rfl (by assumption) | exact Arr.own hgx 44 rfl (by assumption) | exact Arr.own hgx 45 rfl (by assumption)) (by first | exact Arr.up (by assumption) hGx | exact Arr.nil _ | exact Arr.own hgx 903 rfl (by assumption) | exact Arr.own hgx 902 rfl (by assumption) | exact Arr.own hgx 44 rfl (by assumption) | exact Arr.own hgx 45 rfl (by assumption)) (by omega) (by omega))) (fun v1 Gx1 G1 Ho1 hlx1 hp => ?_)
           obtain ⟨rfl, rfl, rfl⟩ := hp
           refine Wl.want rfl rfl (Wl.q rfl (Qy.move rfl) (Wl.no 99 rfl (by first | assumption | omega) ?_))
           refine Wl.want rfl rfl (Wl.q rfl (Qy.load 46 T.one3 rfl rfl rfl) (Wl.want rfl rfl (Wl.q rfl (Qy.eql rfl rfl) (Wl.want rfl rfl (Wl.q rfl (Qy.pick rfl rfl) (Wl.q rfl (Qy.pick rfl rfl) (Wl.q rfl (Qy.assign rfl) (Wl.done (Ar.next (Wc.condN rfl (by first | assumption | omega) ?_))))))))))
           refine Wc.seq (Wc.region rfl (Wl.q rfl (Qy.load 46 T.one3 rfl rfl rfl) (Wl.q rfl (Qy.urem rfl rfl (by omega)) ?_)))
           refine Wl.q rfl (Qy.eql rfl rfl) (Wl.q rfl (Qy.assign rfl) (Wl.done (Ar.next (Wc.condP rfl (by first | assumption | omega) ?_))))
           refine Wc.seq (Wc.region rfl (Wl.q rfl (Qy.assign rfl) (Wl.done (Ar.next (Wc.seq (Wc.region rfl (Wl.q rfl (Qy.loadAll 40 T.agg25 rfl rfl rfl) ?_)))))))
           refine Wl.call 906 rfl T.fn21 rfl (c21 _ _ _ _ _ _ (by assumption) (by assumption) (by omega) (by omega)) (tags_of trivial) (fun v4 G4 Ho4 hle4 hp => ?_)
           obtain ⟨na4, nb4, nc4, nd4, nj4, nk4, rfl, hna4, hnb4, rfl, rfl⟩ := hp
           refine Wl.storeAll 43 T.size25 rfl rfl rfl rfl rfl rfl ?_
           refine Wl.done (Ar.next (Wc.region rfl (Wl.q rfl (Qy.loadAll 40 T.agg25 rfl rfl rfl) ?_)))
           refine Wl.call 918 rfl T.fn7 rfl (hP _ (by assumption) _ _ _ _ (by assumption) (by assumption)) (tags_of trivial) (fun v5 G5 Ho5 hle5 hp => ?_)
           obtain ⟨qa5, qb5, qc5, qd5, rfl, hqA5, hqB5, rfl⟩ := hp
           replace hA2 := hA2.up hle5
           replace hA1 := hA1.up hle5
           replace hc := hc.up hle5
           replace ho := ho.up hle5
           replace hAg := hAg.up hle5
           replace hrs := hrs.up hle5
           refine Wl.q rfl (Qy.move rfl) (Wl.q rfl (Qy.extract rfl rfl) (Wl.q rfl (Qy.extract rfl rfl) ?_))
           refine Wl.storeAll 905 T.size25 rfl rfl rfl rfl rfl rfl ?_
           refine Wl.q rfl (Qy.assign rfl) (Wl.done ?_)
           refine Ar.outNormal ?_
           refine Ar.next (Wc.seq (Wc.seq (Wc.region rfl (Wl.q rfl (Qy.move rfl) (Wl.q rfl (Qy.move rfl) (Wl.q rfl (Qy.neqSS rfl rfl) ?_))))))
           refine Wl.q rfl (Qy.move rfl) (Wl.want rfl rfl (Wl.q rfl (Qy.move rfl) (Wl.want rfl rfl (Wl.q rfl (Qy.neq rfl rfl) (Wl.q rfl (Qy.pick rfl rfl) (Wl.q rfl (Qy.move rfl) (Wl.no 136 rfl (by first | assumption | omega) ?_)))))))
           refine Wl.want rfl rfl (Wl.q rfl (Qy.loadAll 904 T.agg25 rfl rfl rfl) (Wl.want rfl rfl (Wl.q rfl (Qy.loadAll 905 T.agg25 rfl rfl rfl) (Wl.want rfl rfl ?_))))
           refine Wl.callB 918 rfl T.fn22 rfl (fun Gx hGx hgx => (c22 _ _ _ _ _ _ _ _ _ _ _ (by first | exact Arr.up (by assumption) hGx | exact Arr.nil _ | exact Arr.own hgx 903 rfl (by assumption) | exact Arr.own hgx 902 rfl (by assumption) | exact Arr.own hgx 44 rfl (by assumption) | exact Arr.own hgx 45 rfl (by assumption)) (by first | exact Arr.up (by assumption) hGx | exact Arr.nil _ | exact Arr.own hgx 903 rfl (by assumption) | exact Arr.own hgx 902 rfl (by assumption) | exact Arr.own hgx 44 rfl (by assumption) | exact Arr.own hgx 45 rfl (by assumption)) (by first | exact Arr.up (by assumption) hGx | exact Arr.nil _ | exact Arr.own hgx 903 rfl (by assumption) | exact Arr.own hgx 902 rfl (by assumption) | exact Arr.own hgx 44 rfl (by assumption) | exact Arr.own hgx 45 rfl (by assumption)) (by first | exact Arr.up (by assumption) hGx | exact Arr.nil _ | exact Arr.own hgx 903 rfl (by assumption) | exact Arr.own hgx 902 rfl (by assumption) | exact Arr.own hgx 44 rfl (by assumption) | exact Arr.own hgx 45 rfl (by assumption)) (by omega) (by omega))) (fun v2 Gx2 G2 Ho2 hlx2 hp => ?_)
           obtain ⟨rfl, rfl, rfl⟩ := hp
           refine Wl.want rfl rfl (Wl.q rfl (Qy.notD rfl) (Wl.q rfl (Qy.pick rfl rfl) (Wl.q rfl (Qy.move rfl) (Wl.no 142 rfl (by first | assumption | omega) ?_))))
           refine Wl.want rfl rfl (Wl.q rfl (Qy.load 5 T.one4 rfl rfl rfl) (Wl.want rfl rfl (Wl.q rfl (Qy.move rfl) (Wl.yes 144 rfl (by first | assumption | omega) ?_))))
           refine Wl.want rfl rfl (Wl.q rfl (Qy.loadAll 0 T.agg25 rfl rfl rfl) (Wl.want rfl rfl (Wl.q rfl (Qy.loadAll 904 T.agg25 rfl rfl rfl) (Wl.want rfl rfl (Wl.q rfl (Qy.load 3 T.one42 rfl rfl rfl) (Wl.want rfl rfl ?_))))))
           refine Wl.callB 918 rfl T.fn26 rfl (fun Gx hGx hgx => (c26 _ p q _ _ _ _ _ _ _ _ _ _ r ls _ (by first | exact Arr.up (by assumption) hGx | exact Arr.nil _ | exact Arr.own hgx 903 rfl (by assumption) | exact Arr.own hgx 902 rfl (by assumption) | exact Arr.own hgx 44 rfl (by assumption) | exact Arr.own hgx 45 rfl (by assumption)) (by first | exact Arr.up (by assumption) hGx | exact Arr.nil _ | exact Arr.own hgx 903 rfl (by assumption) | exact Arr.own hgx 902 rfl (by assumption) | exact Arr.own hgx 44 rfl (by assumption) | exact Arr.own hgx 45 rfl (by assumption)) (by first | exact Arr.up (by assumption) hGx | exact Arr.nil _ | exact Arr.own hgx 903 rfl (by assumption) | exact Arr.own hgx 902 rfl (by assumption) | exact Arr.own hgx 44 rfl (by assumption) | exact Arr.own hgx 45 rfl (by assumption)) (by first | exact Arr.up (by assumption) hGx | exact Arr.nil _ | exact Arr.own hgx 903 rfl (by assumption) | exact Arr.own hgx 902 rfl (by assumption) | exact Arr.own hgx 44 rfl (by assumption) | exact Arr.own hgx 45 rfl (by assumption)) (by first | exact Arr.up (by assumption) hGx | exact Arr.nil _ | exact Arr.own hgx 903 rfl (by assumption) | exact Arr.own hgx 902 rfl (by assumption) | exact Arr.own hgx 44 rfl (by assumption) | exact Arr.own hgx 45 rfl (by assumption)) (hrs.up hGx) hev hN9 hR hRq hgi hcl hcl2 hqi hqo hfol)) (fun v3 Gx3 G3 Ho3 hlx3 hp => ?_)
           obtain ⟨rfl, rfl⟩ := hp
           refine Wl.want rfl rfl (Wl.q rfl (Qy.not rfl) (Wl.want rfl rfl (Wl.q rfl (Qy.pick rfl rfl) (Wl.q rfl (Qy.pick rfl rfl) (Wl.done (Ar.next (Wc.condF rfl ?_)))))))
           refine Wc.skip (Ar.next (Wc.seq (Wc.region rfl (Wl.q rfl (Qy.loadAll 905 T.agg25 rfl rfl rfl) ?_))))
           refine Wl.call 918 rfl T.fn21 rfl (c21 _ _ _ _ _ _ (by assumption) (by assumption) (by omega) (by omega)) (tags_of trivial) (fun v6 G6 Ho6 hle6 hp => ?_)
           obtain ⟨na6, nb6, nc6, nd6, nj6, nk6, rfl, hna6, hnb6, rfl, rfl⟩ := hp
           refine Wl.storeAll 40 T.size25 rfl rfl rfl rfl rfl rfl ?_
           refine Wl.done (Ar.next (Wc.seq (Wc.region rfl (Wl.q rfl (Qy.loadAll 904 T.agg25 rfl rfl rfl) ?_))))
           refine Wl.call 902 rfl T.fn27 rfl (c27 _ q _ _ _ _ _ _ hgd1 hgd2) (tags_of ⟨rfl, rfl, trivial⟩) (fun v8 G8 Ho8 hle8 hp => ?_)
           obtain ⟨rfl, rfl, rfl⟩ := hp
           refine Wl.done (Ar.next (Wc.region rfl (Wl.q rfl (Qy.load 46 T.one3 rfl rfl rfl) (Wl.q rfl (Qy.add rfl rfl (by omega)) ?_))))
           refine Wl.store 46 T.one3 rfl rfl rfl rfl rfl ?_
           refine Wl.done ?_
           refine Ar.outNormal ?_
           refine Ar.base ?_
           refine Ar.retag 928 41 rfl rfl (Ar.retag 929 42 rfl rfl ?_)
           refine Ar.retag 916 44 rfl rfl (Ar.retag 917 45 rfl rfl ?_)
           refine Ar.reH 47 (.cells #[.bool (decide (n + 1 = lenR p + 1))] 4) rfl (by rw [decide_eq_false (by omega)]) ?_
           refine Ar.roundEnd none (.inl ⟨rfl, rfl⟩) 900 rfl ⟨rfl, ((n + 1, q, ⟨na6, nb6, nc6, nd6, nj6, nk6⟩, z, ⟨na4, nb4, nc4, nd4, nj4, nk4⟩), none), rfl, .inl ⟨rfl, rfl, ?_⟩⟩ (Hp.got ⟨rfl, rfl, rfl, rfl, rfl, rfl, rfl, rfl, rfl, rfl, rfl, rfl, rfl, rfl, rfl, rfl, trivial⟩)
           exact ⟨rfl, by unfold zAt; rw [if_pos (by omega)]; exact congrArg NP.p hxe, fun h => (by rw [hzn]; congr 1; omega), ⟨hna6, hnb6⟩, hna4, hnb4⟩
       · have t0 : ¬ ((n : Nat) : Int).tmod 3 = 0 := by rw [htm, h3]; decide
         have t1 : ((n : Nat) : Int).tmod 3 = 1 := by rw [htm, h3]; rfl
         have hxl : xn = ⟨#[115, 104, 97, 114, 101]⟩ := by rw [hxn]; unfold nmOf; rw [if_neg (by omega), if_pos h3]
         have hP : ∀ (G9 : Imm) (_ : TabOk G9) (ac ao : Option Addr) (cc co : Nat), Arr G9 ac z.code → Arr G9 ao z.outs → Passes G9 24 z ac ao cc co q := fun G9 hT9 ac ao cc co h1 h2 => by
          rw [hxq]; unfold passOf; rw [if_neg (by omega), if_pos h3]; exact c24A G9 z ac ao cc co h1 h2 hRz
         subst hxl
         refine Wc.seq (Wc.region rfl (Wl.q rfl (Qy.assign rfl) (Wl.done (Ar.next (Wc.region rfl ?_)))))
         refine Wl.alloc 904 rfl T.zero25 (fun b9 => ?_)
         refine Wl.storeAll 904 T.size25 rfl rfl rfl rfl rfl rfl ?_
         refine Wl.done (Ar.begin 900 rfl ?_)
         refine Wc.block (Wc.seq (Wc.region rfl (Wl.q rfl (Qy.assign rfl) (Wl.q rfl (Qy.assign rfl) (Wl.done (Ar.next (Wc.seq (Wc.region rfl (Wl.q rfl (Qy.build (cs := [_, _, _, _]) T.st25 rfl rfl rfl) ?_)))))))))
         refine Wl.alloc 905 rfl T.zero25 (fun b10 => ?_)
         refine Wl.storeAll 905 T.size25 rfl rfl rfl rfl rfl rfl ?_
         refine Wl.done (Ar.next (Wc.seq (Wc.block (Wc.seq (Wc.region rfl (Wl.q rfl (Qy.load 47 T.one4 rfl rfl rfl) (Wl.q rfl (Qy.assign rfl) (Wl.done (Ar.next (Wc.condF rfl ?_))))))))))
         refine Wc.seq (Wc.region rfl (Wl.q rfl (Qy.load 46 T.one3 rfl rfl rfl) (Wl.q rfl (Qy.urem rfl rfl (by omega)) ?_)))
         refine Wl.q rfl (Qy.eql rfl rfl) (Wl.q rfl (Qy.move rfl) (Wl.no 91 rfl (by first | assumption | omega) ?_))
         refine Wl.pass rfl rfl rfl (Wl.pass rfl rfl rfl (Wl.q rfl (Qy.pick rfl rfl) (Wl.q rfl (Qy.move rfl) (Wl.pass rfl rfl rfl (Wl.pass rfl rfl rfl (Wl.pass rfl rfl rfl (Wl.pass rfl rfl rfl (Wl.passU rfl rfl rfl (Wl.passU rfl rfl rfl (Wl.pass rfl rfl rfl (Wl.q rfl (Qy.pick rfl rfl) ?_)))))))))))
         refine Wl.q rfl (Qy.assign rfl) (Wl.done (Ar.next (Wc.condF rfl ?_)))
         refine Wc.seq (Wc.region rfl (Wl.q rfl (Qy.load 46 T.one3 rfl rfl rfl) (Wl.q rfl (Qy.urem rfl rfl (by omega)) ?_)))
         refine Wl.q rfl (Qy.eql rfl rfl) (Wl.q rfl (Qy.assign rfl) (Wl.done (Ar.next (Wc.condN rfl (by first | assumption | omega) ?_))))
         refine Wc.seq (Wc.region rfl (Wl.q rfl (Qy.load 46 T.one3 rfl rfl rfl) (Wl.q rfl (Qy.urem rfl rfl (by omega)) ?_)))
         refine Wl.q rfl (Qy.eql rfl rfl) (Wl.q rfl (Qy.assign rfl) (Wl.done (Ar.next (Wc.condP rfl (by first | assumption | omega) ?_))))
         refine Wc.seq (Wc.region rfl (Wl.q rfl (Qy.assign rfl) (Wl.done (Ar.next (Wc.region rfl (Wl.q rfl (Qy.loadAll 40 T.agg25 rfl rfl rfl) ?_))))))
         refine Wl.call 906 rfl T.fn24 rfl (hP _ (by assumption) _ _ _ _ (by assumption) (by assumption)) (tags_of trivial) (fun v4 G4 Ho4 hle4 hp => ?_)
         obtain ⟨qa4, qb4, qc4, qd4, rfl, hqA4, hqB4, rfl⟩ := hp
         replace hA2 := hA2.up hle4
         replace hA1 := hA1.up hle4
         replace hc := hc.up hle4
         replace ho := ho.up hle4
         replace hAg := hAg.up hle4
         replace hrs := hrs.up hle4
         refine Wl.q rfl (Qy.move rfl) (Wl.q rfl (Qy.extract rfl rfl) (Wl.q rfl (Qy.extract rfl rfl) ?_))
         refine Wl.storeAll 905 T.size25 rfl rfl rfl rfl rfl rfl ?_
         refine Wl.q rfl (Qy.assign rfl) (Wl.done ?_)
         refine Ar.outNormal ?_
         refine Ar.next (Wc.seq (Wc.seq (Wc.region rfl (Wl.q rfl (Qy.move rfl) (Wl.q rfl (Qy.move rfl) (Wl.q rfl (Qy.neqSS rfl rfl) ?_))))))
         refine Wl.q rfl (Qy.move rfl) (Wl.want rfl rfl (Wl.q rfl (Qy.move rfl) (Wl.want rfl rfl (Wl.q rfl (Qy.neq rfl rfl) (Wl.q rfl (Qy.pick rfl rfl) (Wl.q rfl (Qy.move rfl) (Wl.no 136 rfl (by first | assumption | omega) ?_)))))))
         refine Wl.want rfl rfl (Wl.q rfl (Qy.loadAll 904 T.agg25 rfl rfl rfl) (Wl.want rfl rfl (Wl.q rfl (Qy.loadAll 905 T.agg25 rfl rfl rfl) (Wl.want rfl rfl ?_))))
         refine Wl.callB 906 rfl T.fn22 rfl (fun Gx hGx hgx => (c22 _ _ _ _ _ _ _ _ _ _ _ (by first | exact Arr.up (by assumption) hGx | exact Arr.nil _ | exact Arr.own hgx 903 rfl (by assumption) | exact Arr.own hgx 902 rfl (by assumption) | exact Arr.own hgx 44 rfl (by assumption) | exact Arr.own hgx 45 rfl (by assumption)) (by first | exact Arr.up (by assumption) hGx | exact Arr.nil _ | exact Arr.own hgx 903 rfl (by assumption) | exact Arr.own hgx 902 rfl (by assumption) | exact Arr.own hgx 44 rfl (by assumption) | exact Arr.own hgx 45 rfl (by assumption)) (by first | exact Arr.up (by assumption) hGx | exact Arr.nil _ | exact Arr.own hgx 903 rfl (by assumption) | exact Arr.own hgx 902 rfl (by assumption) | exact Arr.own hgx 44 rfl (by assumption) | exact Arr.own hgx 45 rfl (by assumption)) (by first | exact Arr.up (by assumption) hGx | exact Arr.nil _ | exact Arr.own hgx 903 rfl (by assumption) | exact Arr.own hgx 902 rfl (by assumption) | exact Arr.own hgx 44 rfl (by assumption) | exact Arr.own hgx 45 rfl (by assumption)) (by omega) (by omega))) (fun v1 Gx1 G1 Ho1 hlx1 hp => ?_)
         obtain ⟨rfl, rfl, rfl⟩ := hp
         refine Wl.want rfl rfl (Wl.q rfl (Qy.notD rfl) (Wl.q rfl (Qy.pick rfl rfl) (Wl.q rfl (Qy.move rfl) (Wl.no 142 rfl (by first | assumption | omega) ?_))))
         refine Wl.want rfl rfl (Wl.q rfl (Qy.load 5 T.one4 rfl rfl rfl) (Wl.want rfl rfl (Wl.q rfl (Qy.move rfl) (Wl.yes 144 rfl (by first | assumption | omega) ?_))))
         refine Wl.want rfl rfl (Wl.q rfl (Qy.loadAll 0 T.agg25 rfl rfl rfl) (Wl.want rfl rfl (Wl.q rfl (Qy.loadAll 904 T.agg25 rfl rfl rfl) (Wl.want rfl rfl (Wl.q rfl (Qy.load 3 T.one42 rfl rfl rfl) (Wl.want rfl rfl ?_))))))
         refine Wl.callB 906 rfl T.fn26 rfl (fun Gx hGx hgx => (c26 _ p q _ _ _ _ _ _ _ _ _ _ r ls _ (by first | exact Arr.up (by assumption) hGx | exact Arr.nil _ | exact Arr.own hgx 903 rfl (by assumption) | exact Arr.own hgx 902 rfl (by assumption) | exact Arr.own hgx 44 rfl (by assumption) | exact Arr.own hgx 45 rfl (by assumption)) (by first | exact Arr.up (by assumption) hGx | exact Arr.nil _ | exact Arr.own hgx 903 rfl (by assumption) | exact Arr.own hgx 902 rfl (by assumption) | exact Arr.own hgx 44 rfl (by assumption) | exact Arr.own hgx 45 rfl (by assumption)) (by first | exact Arr.up (by assumption) hGx | exact Arr.nil _ | exact Arr.own hgx 903 rfl (by assumption) | exact Arr.own hgx 902 rfl (by assumption) | exact Arr.own hgx 44 rfl (by assumption) | exact Arr.own hgx 45 rfl (by assumption)) (by first | exact Arr.up (by assumption) hGx | exact Arr.nil _ | exact Arr.own hgx 903 rfl (by assumption) | exact Arr.own hgx 902 rfl (by assumption) | exact Arr.own hgx 44 rfl (by assumption) | exact Arr.own hgx 45 rfl (by assumption)) (by first | exact Arr.up (by assumption) hGx | exact Arr.nil _ | exact Arr.own hgx 903 rfl (by assumption) | exact Arr.own hgx 902 rfl (by assumption) | exact Arr.own hgx 44 rfl (by assumption) | exact Arr.own hgx 45 rfl (by assumption)) (hrs.up hGx) hev hN9 hR hRq hgi hcl hcl2 hqi hqo hfol)) (fun v2 Gx2 G2 Ho2 hlx2 hp => ?_)
         obtain ⟨rfl, rfl⟩ := hp
         refine Wl.want rfl rfl (Wl.q rfl (Qy.not rfl) (Wl.want rfl rfl (Wl.q rfl (Qy.pick rfl rfl) (Wl.q rfl (Qy.pick rfl rfl) (Wl.done (Ar.next (Wc.condF rfl ?_)))))))
         refine Wc.skip (Ar.next (Wc.seq (Wc.region rfl (Wl.q rfl (Qy.loadAll 905 T.agg25 rfl rfl rfl) ?_))))
         refine Wl.call 906 rfl T.fn21 rfl (c21 _ _ _ _ _ _ (by assumption) (by assumption) (by omega) (by omega)) (tags_of trivial) (fun v5 G5 Ho5 hle5 hp => ?_)
         obtain ⟨na5, nb5, nc5, nd5, nj5, nk5, rfl, hna5, hnb5, rfl, rfl⟩ := hp
         refine Wl.storeAll 40 T.size25 rfl rfl rfl rfl rfl rfl ?_
         refine Wl.done (Ar.next (Wc.seq (Wc.region rfl (Wl.q rfl (Qy.loadAll 904 T.agg25 rfl rfl rfl) ?_))))
         refine Wl.call 902 rfl T.fn27 rfl (c27 _ q _ _ _ _ _ _ hgd1 hgd2) (tags_of ⟨rfl, rfl, trivial⟩) (fun v8 G8 Ho8 hle8 hp => ?_)
         obtain ⟨rfl, rfl, rfl⟩ := hp
         refine Wl.done (Ar.next (Wc.region rfl (Wl.q rfl (Qy.load 46 T.one3 rfl rfl rfl) (Wl.q rfl (Qy.add rfl rfl (by omega)) ?_))))
         refine Wl.store 46 T.one3 rfl rfl rfl rfl rfl ?_
         refine Wl.done ?_
         refine Ar.outNormal ?_
         refine Ar.base ?_
         refine Ar.retag 916 41 rfl rfl (Ar.retag 917 42 rfl rfl ?_)
         refine Ar.reH 47 (.cells #[.bool (decide (n + 1 = lenR p + 1))] 4) rfl (by rw [decide_eq_false (by omega)]) ?_
         refine Ar.roundEnd none (.inl ⟨rfl, rfl⟩) 900 rfl ⟨rfl, ((n + 1, q, ⟨na5, nb5, nc5, nd5, nj5, nk5⟩, v, y2), none), rfl, .inl ⟨rfl, rfl, ?_⟩⟩ (Hp.got ⟨rfl, rfl, rfl, rfl, rfl, rfl, rfl, rfl, rfl, rfl, rfl, rfl, rfl, rfl, rfl, rfl, trivial⟩)
         exact ⟨rfl, by unfold zAt; rw [if_pos (by omega)]; exact congrArg NP.p hxe, fun h => (by rw [hv ⟨by omega, by omega⟩]; congr 1; omega), ⟨hna5, hnb5⟩, ho3, ho4⟩
       · have t0 : ¬ ((n : Nat) : Int).tmod 3 = 0 := by rw [htm, h3]; decide
         have t1 : ¬ ((n : Nat) : Int).tmod 3 = 1 := by rw [htm, h3]; decide
         have hxl : xn = ⟨#[100, 101, 97, 100]⟩ := by rw [hxn]; unfold nmOf; rw [if_neg (by omega), if_neg (by omega)]
         have hP : ∀ (G9 : Imm) (_ : TabOk G9) (ac ao : Option Addr) (cc co : Nat), Arr G9 ac z.code → Arr G9 ao z.outs → Passes G9 25 z ac ao cc co q := fun G9 hT9 ac ao cc co h1 h2 => by
          rw [hxq]; unfold passOf; rw [if_neg (by omega), if_neg (by omega)]; exact c25A G9 z ac ao cc co h1 h2 hRz
         subst hxl
         refine Wc.seq (Wc.region rfl (Wl.q rfl (Qy.assign rfl) (Wl.done (Ar.next (Wc.region rfl ?_)))))
         refine Wl.alloc 904 rfl T.zero25 (fun b9 => ?_)
         refine Wl.storeAll 904 T.size25 rfl rfl rfl rfl rfl rfl ?_
         refine Wl.done (Ar.begin 900 rfl ?_)
         refine Wc.block (Wc.seq (Wc.region rfl (Wl.q rfl (Qy.assign rfl) (Wl.q rfl (Qy.assign rfl) (Wl.done (Ar.next (Wc.seq (Wc.region rfl (Wl.q rfl (Qy.build (cs := [_, _, _, _]) T.st25 rfl rfl rfl) ?_)))))))))
         refine Wl.alloc 905 rfl T.zero25 (fun b10 => ?_)
         refine Wl.storeAll 905 T.size25 rfl rfl rfl rfl rfl rfl ?_
         refine Wl.done (Ar.next (Wc.seq (Wc.block (Wc.seq (Wc.region rfl (Wl.q rfl (Qy.load 47 T.one4 rfl rfl rfl) (Wl.q rfl (Qy.assign rfl) (Wl.done (Ar.next (Wc.condF rfl ?_))))))))))
         refine Wc.seq (Wc.region rfl (Wl.q rfl (Qy.load 46 T.one3 rfl rfl rfl) (Wl.q rfl (Qy.urem rfl rfl (by omega)) ?_)))
         refine Wl.q rfl (Qy.eql rfl rfl) (Wl.q rfl (Qy.move rfl) (Wl.no 91 rfl (by first | assumption | omega) ?_))
         refine Wl.pass rfl rfl rfl (Wl.pass rfl rfl rfl (Wl.q rfl (Qy.pick rfl rfl) (Wl.q rfl (Qy.move rfl) (Wl.pass rfl rfl rfl (Wl.pass rfl rfl rfl (Wl.pass rfl rfl rfl (Wl.pass rfl rfl rfl (Wl.passU rfl rfl rfl (Wl.passU rfl rfl rfl (Wl.pass rfl rfl rfl (Wl.q rfl (Qy.pick rfl rfl) ?_)))))))))))
         refine Wl.q rfl (Qy.assign rfl) (Wl.done (Ar.next (Wc.condF rfl ?_)))
         refine Wc.seq (Wc.region rfl (Wl.q rfl (Qy.load 46 T.one3 rfl rfl rfl) (Wl.q rfl (Qy.urem rfl rfl (by omega)) ?_)))
         refine Wl.q rfl (Qy.eql rfl rfl) (Wl.q rfl (Qy.assign rfl) (Wl.done (Ar.next (Wc.condN rfl (by first | assumption | omega) ?_))))
         refine Wc.seq (Wc.region rfl (Wl.q rfl (Qy.load 46 T.one3 rfl rfl rfl) (Wl.q rfl (Qy.urem rfl rfl (by omega)) ?_)))
         refine Wl.q rfl (Qy.eql rfl rfl) (Wl.q rfl (Qy.assign rfl) (Wl.done (Ar.next (Wc.condN rfl (by first | assumption | omega) ?_))))
         refine Wc.seq (Wc.region rfl (Wl.q rfl (Qy.assign rfl) (Wl.done (Ar.next (Wc.region rfl (Wl.q rfl (Qy.loadAll 40 T.agg25 rfl rfl rfl) ?_))))))
         refine Wl.call 906 rfl T.fn25 rfl (hP _ (by assumption) _ _ _ _ (by assumption) (by assumption)) (tags_of trivial) (fun v4 G4 Ho4 hle4 hp => ?_)
         obtain ⟨qa4, qb4, qc4, qd4, rfl, hqA4, hqB4, rfl⟩ := hp
         replace hA2 := hA2.up hle4
         replace hA1 := hA1.up hle4
         replace hc := hc.up hle4
         replace ho := ho.up hle4
         replace hAg := hAg.up hle4
         replace hrs := hrs.up hle4
         refine Wl.q rfl (Qy.move rfl) (Wl.q rfl (Qy.extract rfl rfl) (Wl.q rfl (Qy.extract rfl rfl) ?_))
         refine Wl.storeAll 905 T.size25 rfl rfl rfl rfl rfl rfl ?_
         refine Wl.q rfl (Qy.assign rfl) (Wl.done ?_)
         refine Ar.outNormal ?_
         refine Ar.next (Wc.seq (Wc.seq (Wc.region rfl (Wl.q rfl (Qy.move rfl) (Wl.q rfl (Qy.move rfl) (Wl.q rfl (Qy.neqSS rfl rfl) ?_))))))
         refine Wl.q rfl (Qy.move rfl) (Wl.want rfl rfl (Wl.q rfl (Qy.move rfl) (Wl.want rfl rfl (Wl.q rfl (Qy.neq rfl rfl) (Wl.q rfl (Qy.pick rfl rfl) (Wl.q rfl (Qy.move rfl) (Wl.no 136 rfl (by first | assumption | omega) ?_)))))))
         refine Wl.want rfl rfl (Wl.q rfl (Qy.loadAll 904 T.agg25 rfl rfl rfl) (Wl.want rfl rfl (Wl.q rfl (Qy.loadAll 905 T.agg25 rfl rfl rfl) (Wl.want rfl rfl ?_))))
         refine Wl.callB 906 rfl T.fn22 rfl (fun Gx hGx hgx => (c22 _ _ _ _ _ _ _ _ _ _ _ (by first | exact Arr.up (by assumption) hGx | exact Arr.nil _ | exact Arr.own hgx 903 rfl (by assumption) | exact Arr.own hgx 902 rfl (by assumption) | exact Arr.own hgx 44 rfl (by assumption) | exact Arr.own hgx 45 rfl (by assumption)) (by first | exact Arr.up (by assumption) hGx | exact Arr.nil _ | exact Arr.own hgx 903 rfl (by assumption) | exact Arr.own hgx 902 rfl (by assumption) | exact Arr.own hgx 44 rfl (by assumption) | exact Arr.own hgx 45 rfl (by assumption)) (by first | exact Arr.up (by assumption) hGx | exact Arr.nil _ | exact Arr.own hgx 903 rfl (by assumption) | exact Arr.own hgx 902 rfl (by assumption) | exact Arr.own hgx 44 rfl (by assumption) | exact Arr.own hgx 45 rfl (by assumption)) (by first | exact Arr.up (by assumption) hGx | exact Arr.nil _ | exact Arr.own hgx 903 rfl (by assumption) | exact Arr.own hgx 902 rfl (by assumption) | exact Arr.own hgx 44 rfl (by assumption) | exact Arr.own hgx 45 rfl (by assumption)) (by omega) (by omega))) (fun v1 Gx1 G1 Ho1 hlx1 hp => ?_)
         obtain ⟨rfl, rfl, rfl⟩ := hp
         refine Wl.want rfl rfl (Wl.q rfl (Qy.notD rfl) (Wl.q rfl (Qy.pick rfl rfl) (Wl.q rfl (Qy.move rfl) (Wl.no 142 rfl (by first | assumption | omega) ?_))))
         refine Wl.want rfl rfl (Wl.q rfl (Qy.load 5 T.one4 rfl rfl rfl) (Wl.want rfl rfl (Wl.q rfl (Qy.move rfl) (Wl.yes 144 rfl (by first | assumption | omega) ?_))))
         refine Wl.want rfl rfl (Wl.q rfl (Qy.loadAll 0 T.agg25 rfl rfl rfl) (Wl.want rfl rfl (Wl.q rfl (Qy.loadAll 904 T.agg25 rfl rfl rfl) (Wl.want rfl rfl (Wl.q rfl (Qy.load 3 T.one42 rfl rfl rfl) (Wl.want rfl rfl ?_))))))
         refine Wl.callB 906 rfl T.fn26 rfl (fun Gx hGx hgx => (c26 _ p q _ _ _ _ _ _ _ _ _ _ r ls _ (by first | exact Arr.up (by assumption) hGx | exact Arr.nil _ | exact Arr.own hgx 903 rfl (by assumption) | exact Arr.own hgx 902 rfl (by assumption) | exact Arr.own hgx 44 rfl (by assumption) | exact Arr.own hgx 45 rfl (by assumption)) (by first | exact Arr.up (by assumption) hGx | exact Arr.nil _ | exact Arr.own hgx 903 rfl (by assumption) | exact Arr.own hgx 902 rfl (by assumption) | exact Arr.own hgx 44 rfl (by assumption) | exact Arr.own hgx 45 rfl (by assumption)) (by first | exact Arr.up (by assumption) hGx | exact Arr.nil _ | exact Arr.own hgx 903 rfl (by assumption) | exact Arr.own hgx 902 rfl (by assumption) | exact Arr.own hgx 44 rfl (by assumption) | exact Arr.own hgx 45 rfl (by assumption)) (by first | exact Arr.up (by assumption) hGx | exact Arr.nil _ | exact Arr.own hgx 903 rfl (by assumption) | exact Arr.own hgx 902 rfl (by assumption) | exact Arr.own hgx 44 rfl (by assumption) | exact Arr.own hgx 45 rfl (by assumption)) (by first | exact Arr.up (by assumption) hGx | exact Arr.nil _ | exact Arr.own hgx 903 rfl (by assumption) | exact Arr.own hgx 902 rfl (by assumption) | exact Arr.own hgx 44 rfl (by assumption) | exact Arr.own hgx 45 rfl (by assumption)) (hrs.up hGx) hev hN9 hR hRq hgi hcl hcl2 hqi hqo hfol)) (fun v2 Gx2 G2 Ho2 hlx2 hp => ?_)
         obtain ⟨rfl, rfl⟩ := hp
         refine Wl.want rfl rfl (Wl.q rfl (Qy.not rfl) (Wl.want rfl rfl (Wl.q rfl (Qy.pick rfl rfl) (Wl.q rfl (Qy.pick rfl rfl) (Wl.done (Ar.next (Wc.condF rfl ?_)))))))
         refine Wc.skip (Ar.next (Wc.seq (Wc.region rfl (Wl.q rfl (Qy.loadAll 905 T.agg25 rfl rfl rfl) ?_))))
         refine Wl.call 906 rfl T.fn21 rfl (c21 _ _ _ _ _ _ (by assumption) (by assumption) (by omega) (by omega)) (tags_of trivial) (fun v5 G5 Ho5 hle5 hp => ?_)
         obtain ⟨na5, nb5, nc5, nd5, nj5, nk5, rfl, hna5, hnb5, rfl, rfl⟩ := hp
         refine Wl.storeAll 40 T.size25 rfl rfl rfl rfl rfl rfl ?_
         refine Wl.done (Ar.next (Wc.seq (Wc.region rfl (Wl.q rfl (Qy.loadAll 904 T.agg25 rfl rfl rfl) ?_))))
         refine Wl.call 902 rfl T.fn27 rfl (c27 _ q _ _ _ _ _ _ hgd1 hgd2) (tags_of ⟨rfl, rfl, trivial⟩) (fun v8 G8 Ho8 hle8 hp => ?_)
         obtain ⟨rfl, rfl, rfl⟩ := hp
         refine Wl.done (Ar.next (Wc.region rfl (Wl.q rfl (Qy.load 46 T.one3 rfl rfl rfl) (Wl.q rfl (Qy.add rfl rfl (by omega)) ?_))))
         refine Wl.store 46 T.one3 rfl rfl rfl rfl rfl ?_
         refine Wl.done ?_
         refine Ar.outNormal ?_
         refine Ar.base ?_
         refine Ar.retag 916 41 rfl rfl (Ar.retag 917 42 rfl rfl ?_)
         refine Ar.reH 47 (.cells #[.bool (decide (n + 1 = lenR p + 1))] 4) rfl (by rw [decide_eq_false (by omega)]) ?_
         refine Ar.roundEnd none (.inl ⟨rfl, rfl⟩) 900 rfl ⟨rfl, ((n + 1, q, ⟨na5, nb5, nc5, nd5, nj5, nk5⟩, v, y2), none), rfl, .inl ⟨rfl, rfl, ?_⟩⟩ (Hp.got ⟨rfl, rfl, rfl, rfl, rfl, rfl, rfl, rfl, rfl, rfl, rfl, rfl, rfl, rfl, rfl, rfl, trivial⟩)
         exact ⟨rfl, by unfold zAt; rw [if_pos (by omega)]; exact congrArg NP.p hxe, fun h => (by rw [hv ⟨by omega, by omega⟩]; congr 1; omega), ⟨hna5, hnb5⟩, ho3, ho4⟩
     · have hlr : lenR p = 3 * lastR p + 3 := by unfold lenR; rfl
       have hne : n = lenR p := by omega
       have hxe : (⟨xn, q⟩ : NP) = ⟨packN, orderP (nowS p n)⟩ := by rw [hne, rounds_last p] at hx; rw [hne]; exact (Option.some.inj hx).symm
       have hxl : xn = ⟨#[112, 97, 99, 107]⟩ := by
        have h9 := congrArg NP.name hxe
        unfold packN at h9
        exact h9
       have hxq : q = orderP z := by rw [hzn]; exact congrArg NP.p hxe
       have hxe2 : q = lastP p := by unfold lastP; rw [← hne]; exact congrArg NP.p hxe
       by_cases hvz : v = z
       · have t0 : ((n : Nat) : Int).tmod 3 = 0 := by rw [htm]; have : n % 3 = 0 := (by omega); rw [this]; rfl
         obtain ⟨hv1, hv2⟩ := hvf (by omega) (by omega)
         have hP : ∀ (G9 : Imm) (_ : TabOk G9) (ac ao : Option Addr) (cc co : Nat), Arr G9 ac z.code → Arr G9 ao z.outs → Passes G9 23 z ac ao cc co q := fun G9 hT9 ac ao cc co h1 h2 => by
          rw [hxq]; exact c23A G9 z ac ao cc co h1 h2 hRz
         subst hxl
         refine Wc.seq (Wc.region rfl (Wl.q rfl (Qy.assign rfl) (Wl.done (Ar.next (Wc.region rfl ?_)))))
         refine Wl.alloc 904 rfl T.zero25 (fun b9 => ?_)
         refine Wl.storeAll 904 T.size25 rfl rfl rfl rfl rfl rfl ?_
         refine Wl.done (Ar.begin 900 rfl ?_)
         refine Wc.block (Wc.seq (Wc.region rfl (Wl.q rfl (Qy.assign rfl) (Wl.q rfl (Qy.assign rfl) (Wl.done (Ar.next (Wc.seq (Wc.region rfl (Wl.q rfl (Qy.build (cs := [_, _, _, _]) T.st25 rfl rfl rfl) ?_)))))))))
         refine Wl.alloc 905 rfl T.zero25 (fun b10 => ?_)
         refine Wl.storeAll 905 T.size25 rfl rfl rfl rfl rfl rfl ?_
         refine Wl.done (Ar.next (Wc.seq (Wc.block (Wc.seq (Wc.region rfl (Wl.q rfl (Qy.load 47 T.one4 rfl rfl rfl) (Wl.q rfl (Qy.assign rfl) (Wl.done (Ar.next (Wc.condF rfl ?_))))))))))
         refine Wc.seq (Wc.region rfl (Wl.q rfl (Qy.load 46 T.one3 rfl rfl rfl) (Wl.q rfl (Qy.urem rfl rfl (by omega)) ?_)))
         refine Wl.q rfl (Qy.eql rfl rfl) (Wl.q rfl (Qy.move rfl) (Wl.yes 91 rfl (by first | assumption | omega) ?_))
         refine Wl.want rfl rfl (Wl.q rfl (Qy.load 46 T.one3 rfl rfl rfl) (Wl.want rfl rfl (Wl.q rfl (Qy.gtr rfl rfl) (Wl.q rfl (Qy.pick rfl rfl) (Wl.q rfl (Qy.move rfl) (Wl.yes 95 rfl (by first | assumption | omega) ?_))))))
         refine Wl.want rfl rfl (Wl.q rfl (Qy.loadAll 43 T.agg25 rfl rfl rfl) (Wl.want rfl rfl (Wl.q rfl (Qy.loadAll 40 T.agg25 rfl rfl rfl) (Wl.want rfl rfl ?_))))
         refine Wl.callB 906 rfl T.fn22 rfl (fun Gx hGx hgx => (c22 _ _ _ _ _ _ _ _ _ _ _ (by first | exact Arr.up (by assumption) hGx | exact Arr.nil _ | exact Arr.own hgx 903 rfl (by assumption) | exact Arr.own hgx 902 rfl (by assumption) | exact Arr.own hgx 44 rfl (by assumption) | exact Arr.own hgx 45 rfl (by assumption)) (by first | exact Arr.up (by assumption) hGx | exact Arr.nil _ | exact Arr.own hgx 903 rfl (by assumption) | exact Arr.own hgx 902 rfl (by assumption) | exact Arr.own hgx 44 rfl (by assumption) | exact Arr.own hgx 45 rfl (by assumption)) (by first | exact Arr.up (by assumption) hGx | exact Arr.nil _ | exact Arr.own hgx 903 rfl (by assumption) | exact Arr.own hgx 902 rfl (by assumption) | exact Arr.own hgx 44 rfl (by assumption) | exact Arr.own hgx 45 rfl (by assumption)) (by first | exact Arr.up (by assumption) hGx | exact Arr.nil _ | exact Arr.own hgx 903 rfl (by assumption) | exact Arr.own hgx 902 rfl (by assumption) | exact Arr.own hgx 44 rfl (by assumption) | exact Arr.own hgx 45 rfl (by assumption)) (by omega) (by omega))) (fun v1 Gx1 G1 Ho1 hlx1 hp => ?_)
         obtain ⟨rfl, rfl, rfl⟩ := hp
         refine Wl.want rfl rfl (Wl.q rfl (Qy.move rfl) (Wl.yes 99 rfl (by first | assumption | omega) ?_))
         refine Wl.pass rfl rfl rfl (Wl.pass rfl rfl rfl (Wl.want rfl rfl (Wl.q rfl (Qy.pick rfl rfl) (Wl.q rfl (Qy.pick rfl rfl) (Wl.q rfl (Qy.assign rfl) (Wl.done (Ar.next (Wc.condT rfl ?_))))))))
         refine Wc.seq (Wc.region rfl (Wl.q rfl (Qy.assign rfl) (Wl.done (Ar.next (Wc.seq (Wc.region rfl (Wl.q rfl (Qy.loadAll 40 T.agg25 rfl rfl rfl) ?_)))))))
         refine Wl.call 906 rfl T.fn23 rfl (hP _ (by assumption) _ _ _ _ (by assumption) (by assumption)) (tags_of trivial) (fun v4 G4 Ho4 hle4 hp => ?_)
         obtain ⟨qa4, qb4, qc4, qd4, rfl, hqA4, hqB4, rfl⟩ := hp
         replace hA2 := hA2.up hle4
         replace hA1 := hA1.up hle4
         replace hc := hc.up hle4
         replace ho := ho.up hle4
         replace hAg := hAg.up hle4
         replace hrs := hrs.up hle4
         refine Wl.q rfl (Qy.move rfl) (Wl.q rfl (Qy.extract rfl rfl) (Wl.q rfl (Qy.extract rfl rfl) ?_))
         refine Wl.storeAll 905 T.size25 rfl rfl rfl rfl rfl rfl ?_
         refine Wl.q rfl (Qy.assign rfl) (Wl.done (Ar.next (Wc.region rfl ?_)))
         refine Wl.store 47 T.one4 rfl rfl rfl rfl rfl ?_
         refine Wl.done ?_
         refine Ar.outNormal ?_
         refine Ar.next (Wc.seq (Wc.seq (Wc.region rfl (Wl.q rfl (Qy.move rfl) (Wl.q rfl (Qy.move rfl) (Wl.q rfl (Qy.neqSS rfl rfl) ?_))))))
         refine Wl.q rfl (Qy.move rfl) (Wl.want rfl rfl (Wl.q rfl (Qy.move rfl) (Wl.want rfl rfl (Wl.q rfl (Qy.neq rfl rfl) (Wl.q rfl (Qy.pick rfl rfl) (Wl.q rfl (Qy.move rfl) (Wl.no 136 rfl (by first | assumption | omega) ?_)))))))
         refine Wl.want rfl rfl (Wl.q rfl (Qy.loadAll 904 T.agg25 rfl rfl rfl) (Wl.want rfl rfl (Wl.q rfl (Qy.loadAll 905 T.agg25 rfl rfl rfl) (Wl.want rfl rfl ?_))))
         refine Wl.callB 906 rfl T.fn22 rfl (fun Gx hGx hgx => (c22 _ _ _ _ _ _ _ _ _ _ _ (by first | exact Arr.up (by assumption) hGx | exact Arr.nil _ | exact Arr.own hgx 903 rfl (by assumption) | exact Arr.own hgx 902 rfl (by assumption) | exact Arr.own hgx 44 rfl (by assumption) | exact Arr.own hgx 45 rfl (by assumption)) (by first | exact Arr.up (by assumption) hGx | exact Arr.nil _ | exact Arr.own hgx 903 rfl (by assumption) | exact Arr.own hgx 902 rfl (by assumption) | exact Arr.own hgx 44 rfl (by assumption) | exact Arr.own hgx 45 rfl (by assumption)) (by first | exact Arr.up (by assumption) hGx | exact Arr.nil _ | exact Arr.own hgx 903 rfl (by assumption) | exact Arr.own hgx 902 rfl (by assumption) | exact Arr.own hgx 44 rfl (by assumption) | exact Arr.own hgx 45 rfl (by assumption)) (by first | exact Arr.up (by assumption) hGx | exact Arr.nil _ | exact Arr.own hgx 903 rfl (by assumption) | exact Arr.own hgx 902 rfl (by assumption) | exact Arr.own hgx 44 rfl (by assumption) | exact Arr.own hgx 45 rfl (by assumption)) (by omega) (by omega))) (fun v2 Gx2 G2 Ho2 hlx2 hp => ?_)
         obtain ⟨rfl, rfl, rfl⟩ := hp
         refine Wl.want rfl rfl (Wl.q rfl (Qy.notD rfl) (Wl.q rfl (Qy.pick rfl rfl) (Wl.q rfl (Qy.move rfl) (Wl.no 142 rfl (by first | assumption | omega) ?_))))
         refine Wl.want rfl rfl (Wl.q rfl (Qy.load 5 T.one4 rfl rfl rfl) (Wl.want rfl rfl (Wl.q rfl (Qy.move rfl) (Wl.yes 144 rfl (by first | assumption | omega) ?_))))
         refine Wl.want rfl rfl (Wl.q rfl (Qy.loadAll 0 T.agg25 rfl rfl rfl) (Wl.want rfl rfl (Wl.q rfl (Qy.loadAll 904 T.agg25 rfl rfl rfl) (Wl.want rfl rfl (Wl.q rfl (Qy.load 3 T.one42 rfl rfl rfl) (Wl.want rfl rfl ?_))))))
         refine Wl.callB 906 rfl T.fn26 rfl (fun Gx hGx hgx => (c26 _ p q _ _ _ _ _ _ _ _ _ _ r ls _ (by first | exact Arr.up (by assumption) hGx | exact Arr.nil _ | exact Arr.own hgx 903 rfl (by assumption) | exact Arr.own hgx 902 rfl (by assumption) | exact Arr.own hgx 44 rfl (by assumption) | exact Arr.own hgx 45 rfl (by assumption)) (by first | exact Arr.up (by assumption) hGx | exact Arr.nil _ | exact Arr.own hgx 903 rfl (by assumption) | exact Arr.own hgx 902 rfl (by assumption) | exact Arr.own hgx 44 rfl (by assumption) | exact Arr.own hgx 45 rfl (by assumption)) (by first | exact Arr.up (by assumption) hGx | exact Arr.nil _ | exact Arr.own hgx 903 rfl (by assumption) | exact Arr.own hgx 902 rfl (by assumption) | exact Arr.own hgx 44 rfl (by assumption) | exact Arr.own hgx 45 rfl (by assumption)) (by first | exact Arr.up (by assumption) hGx | exact Arr.nil _ | exact Arr.own hgx 903 rfl (by assumption) | exact Arr.own hgx 902 rfl (by assumption) | exact Arr.own hgx 44 rfl (by assumption) | exact Arr.own hgx 45 rfl (by assumption)) (by first | exact Arr.up (by assumption) hGx | exact Arr.nil _ | exact Arr.own hgx 903 rfl (by assumption) | exact Arr.own hgx 902 rfl (by assumption) | exact Arr.own hgx 44 rfl (by assumption) | exact Arr.own hgx 45 rfl (by assumption)) (hrs.up hGx) hev hN9 hR hRq hgi hcl hcl2 hqi hqo hfol)) (fun v3 Gx3 G3 Ho3 hlx3 hp => ?_)
         obtain ⟨rfl, rfl⟩ := hp
         refine Wl.want rfl rfl (Wl.q rfl (Qy.not rfl) (Wl.want rfl rfl (Wl.q rfl (Qy.pick rfl rfl) (Wl.q rfl (Qy.pick rfl rfl) (Wl.done (Ar.next (Wc.condF rfl ?_)))))))
         refine Wc.skip (Ar.next (Wc.seq (Wc.region rfl (Wl.q rfl (Qy.loadAll 905 T.agg25 rfl rfl rfl) ?_))))
         refine Wl.call 906 rfl T.fn21 rfl (c21 _ _ _ _ _ _ (by assumption) (by assumption) (by omega) (by omega)) (tags_of trivial) (fun v5 G5 Ho5 hle5 hp => ?_)
         obtain ⟨na5, nb5, nc5, nd5, nj5, nk5, rfl, hna5, hnb5, rfl, rfl⟩ := hp
         refine Wl.storeAll 40 T.size25 rfl rfl rfl rfl rfl rfl ?_
         refine Wl.done (Ar.next (Wc.seq (Wc.region rfl (Wl.q rfl (Qy.loadAll 904 T.agg25 rfl rfl rfl) ?_))))
         refine Wl.call 902 rfl T.fn27 rfl (c27 _ q _ _ _ _ _ _ hgd1 hgd2) (tags_of ⟨rfl, rfl, trivial⟩) (fun v8 G8 Ho8 hle8 hp => ?_)
         obtain ⟨rfl, rfl, rfl⟩ := hp
         refine Wl.done (Ar.next (Wc.region rfl (Wl.q rfl (Qy.load 46 T.one3 rfl rfl rfl) (Wl.q rfl (Qy.add rfl rfl (by omega)) ?_))))
         refine Wl.store 46 T.one3 rfl rfl rfl rfl rfl ?_
         refine Wl.done ?_
         refine Ar.outNormal ?_
         refine Ar.base ?_
         refine Ar.retag 916 41 rfl rfl (Ar.retag 917 42 rfl rfl ?_)
         refine Ar.reH 47 (.cells #[.bool (decide (n + 1 = lenR p + 1))] 4) rfl (by rw [decide_eq_true (by omega)]; rfl) ?_
         refine Ar.roundEnd none (.inl ⟨rfl, rfl⟩) 900 rfl ⟨rfl, ((n + 1, q, ⟨na5, nb5, nc5, nd5, nj5, nk5⟩, v, y2), none), rfl, .inl ⟨rfl, rfl, ?_⟩⟩ (Hp.got ⟨rfl, rfl, rfl, rfl, rfl, rfl, rfl, rfl, rfl, rfl, rfl, rfl, rfl, rfl, rfl, rfl, trivial⟩)
         exact ⟨rfl, by unfold zAt; rw [if_neg (by omega)]; exact hxe2, fun h => absurd h.2 (by omega), ⟨hna5, hnb5⟩, ho3, ho4⟩
       · have hn48 : n = 48 := by
          rcases last_yes p with h9 | h9
          · omega
          · exact absurd (by rw [hv ⟨by omega, by omega⟩, hzn, hne, hlr, show 3 * ((3 * lastR p + 3 - 1) / 3) = 3 * lastR p by omega]; exact h9.symm) hvz
         have t0 : ((n : Nat) : Int).tmod 3 = 0 := by rw [htm]; have : n % 3 = 0 := (by omega); rw [this]; rfl
         have n48 : ((n : Nat) : Int) = 48 := by omega
         obtain ⟨hv1, hv2⟩ := hvf (by omega) (by omega)
         have hP : ∀ (G9 : Imm) (_ : TabOk G9) (ac ao : Option Addr) (cc co : Nat), Arr G9 ac z.code → Arr G9 ao z.outs → Passes G9 23 z ac ao cc co q := fun G9 hT9 ac ao cc co h1 h2 => by
          rw [hxq]; exact c23A G9 z ac ao cc co h1 h2 hRz
         subst hxl
         refine Wc.seq (Wc.region rfl (Wl.q rfl (Qy.assign rfl) (Wl.done (Ar.next (Wc.region rfl ?_)))))
         refine Wl.alloc 904 rfl T.zero25 (fun b9 => ?_)
         refine Wl.storeAll 904 T.size25 rfl rfl rfl rfl rfl rfl ?_
         refine Wl.done (Ar.begin 900 rfl ?_)
         refine Wc.block (Wc.seq (Wc.region rfl (Wl.q rfl (Qy.assign rfl) (Wl.q rfl (Qy.assign rfl) (Wl.done (Ar.next (Wc.seq (Wc.region rfl (Wl.q rfl (Qy.build (cs := [_, _, _, _]) T.st25 rfl rfl rfl) ?_)))))))))
         refine Wl.alloc 905 rfl T.zero25 (fun b10 => ?_)
         refine Wl.storeAll 905 T.size25 rfl rfl rfl rfl rfl rfl ?_
         refine Wl.done (Ar.next (Wc.seq (Wc.block (Wc.seq (Wc.region rfl (Wl.q rfl (Qy.load 47 T.one4 rfl rfl rfl) (Wl.q rfl (Qy.assign rfl) (Wl.done (Ar.next (Wc.condF rfl ?_))))))))))
         refine Wc.seq (Wc.region rfl (Wl.q rfl (Qy.load 46 T.one3 rfl rfl rfl) (Wl.q rfl (Qy.urem rfl rfl (by omega)) ?_)))
         refine Wl.q rfl (Qy.eql rfl rfl) (Wl.q rfl (Qy.move rfl) (Wl.yes 91 rfl (by first | assumption | omega) ?_))
         refine Wl.want rfl rfl (Wl.q rfl (Qy.load 46 T.one3 rfl rfl rfl) (Wl.want rfl rfl (Wl.q rfl (Qy.gtr rfl rfl) (Wl.q rfl (Qy.pick rfl rfl) (Wl.q rfl (Qy.move rfl) (Wl.yes 95 rfl (by first | assumption | omega) ?_))))))
         refine Wl.want rfl rfl (Wl.q rfl (Qy.loadAll 43 T.agg25 rfl rfl rfl) (Wl.want rfl rfl (Wl.q rfl (Qy.loadAll 40 T.agg25 rfl rfl rfl) (Wl.want rfl rfl ?_))))
         refine Wl.callB 906 rfl T.fn22 rfl (fun Gx hGx hgx => (c22 _ _ _ _ _ _ _ _ _ _ _ (by first | exact Arr.up (by assumption) hGx | exact Arr.nil _ | exact Arr.own hgx 903 rfl (by assumption) | exact Arr.own hgx 902 rfl (by assumption) | exact Arr.own hgx 44 rfl (by assumption) | exact Arr.own hgx 45 rfl (by assumption)) (by first | exact Arr.up (by assumption) hGx | exact Arr.nil _ | exact Arr.own hgx 903 rfl (by assumption) | exact Arr.own hgx 902 rfl (by assumption) | exact Arr.own hgx 44 rfl (by assumption) | exact Arr.own hgx 45 rfl (by assumption)) (by first | exact Arr.up (by assumption) hGx | exact Arr.nil _ | exact Arr.own hgx 903 rfl (by assumption) | exact Arr.own hgx 902 rfl (by assumption) | exact Arr.own hgx 44 rfl (by assumption) | exact Arr.own hgx 45 rfl (by assumption)) (by first | exact Arr.up (by assumption) hGx | exact Arr.nil _ | exact Arr.own hgx 903 rfl (by assumption) | exact Arr.own hgx 902 rfl (by assumption) | exact Arr.own hgx 44 rfl (by assumption) | exact Arr.own hgx 45 rfl (by assumption)) (by omega) (by omega))) (fun v1 Gx1 G1 Ho1 hlx1 hp => ?_)
         obtain ⟨rfl, rfl, rfl⟩ := hp
         refine Wl.want rfl rfl (Wl.q rfl (Qy.move rfl) (Wl.no 99 rfl (by first | assumption | omega) ?_))
         refine Wl.want rfl rfl (Wl.q rfl (Qy.load 46 T.one3 rfl rfl rfl) (Wl.want rfl rfl (Wl.q rfl (Qy.eql rfl rfl) (Wl.want rfl rfl (Wl.q rfl (Qy.pick rfl rfl) (Wl.q rfl (Qy.pick rfl rfl) (Wl.q rfl (Qy.assign rfl) (Wl.done (Ar.next (Wc.condP rfl (by first | assumption | omega) ?_))))))))))
         refine Wc.seq (Wc.region rfl (Wl.q rfl (Qy.assign rfl) (Wl.done (Ar.next (Wc.seq (Wc.region rfl (Wl.q rfl (Qy.loadAll 40 T.agg25 rfl rfl rfl) ?_)))))))
         refine Wl.call 906 rfl T.fn23 rfl (hP _ (by assumption) _ _ _ _ (by assumption) (by assumption)) (tags_of trivial) (fun v4 G4 Ho4 hle4 hp => ?_)
         obtain ⟨qa4, qb4, qc4, qd4, rfl, hqA4, hqB4, rfl⟩ := hp
         replace hA2 := hA2.up hle4
         replace hA1 := hA1.up hle4
         replace hc := hc.up hle4
         replace ho := ho.up hle4
         replace hAg := hAg.up hle4
         replace hrs := hrs.up hle4
         refine Wl.q rfl (Qy.move rfl) (Wl.q rfl (Qy.extract rfl rfl) (Wl.q rfl (Qy.extract rfl rfl) ?_))
         refine Wl.storeAll 905 T.size25 rfl rfl rfl rfl rfl rfl ?_
         refine Wl.q rfl (Qy.assign rfl) (Wl.done (Ar.next (Wc.region rfl ?_)))
         refine Wl.store 47 T.one4 rfl rfl rfl rfl rfl ?_
         refine Wl.done ?_
         refine Ar.outNormal ?_
         refine Ar.next (Wc.seq (Wc.seq (Wc.region rfl (Wl.q rfl (Qy.move rfl) (Wl.q rfl (Qy.move rfl) (Wl.q rfl (Qy.neqSS rfl rfl) ?_))))))
         refine Wl.q rfl (Qy.move rfl) (Wl.want rfl rfl (Wl.q rfl (Qy.move rfl) (Wl.want rfl rfl (Wl.q rfl (Qy.neq rfl rfl) (Wl.q rfl (Qy.pick rfl rfl) (Wl.q rfl (Qy.move rfl) (Wl.no 136 rfl (by first | assumption | omega) ?_)))))))
         refine Wl.want rfl rfl (Wl.q rfl (Qy.loadAll 904 T.agg25 rfl rfl rfl) (Wl.want rfl rfl (Wl.q rfl (Qy.loadAll 905 T.agg25 rfl rfl rfl) (Wl.want rfl rfl ?_))))
         refine Wl.callB 906 rfl T.fn22 rfl (fun Gx hGx hgx => (c22 _ _ _ _ _ _ _ _ _ _ _ (by first | exact Arr.up (by assumption) hGx | exact Arr.nil _ | exact Arr.own hgx 903 rfl (by assumption) | exact Arr.own hgx 902 rfl (by assumption) | exact Arr.own hgx 44 rfl (by assumption) | exact Arr.own hgx 45 rfl (by assumption)) (by first | exact Arr.up (by assumption) hGx | exact Arr.nil _ | exact Arr.own hgx 903 rfl (by assumption) | exact Arr.own hgx 902 rfl (by assumption) | exact Arr.own hgx 44 rfl (by assumption) | exact Arr.own hgx 45 rfl (by assumption)) (by first | exact Arr.up (by assumption) hGx | exact Arr.nil _ | exact Arr.own hgx 903 rfl (by assumption) | exact Arr.own hgx 902 rfl (by assumption) | exact Arr.own hgx 44 rfl (by assumption) | exact Arr.own hgx 45 rfl (by assumption)) (by first | exact Arr.up (by assumption) hGx | exact Arr.nil _ | exact Arr.own hgx 903 rfl (by assumption) | exact Arr.own hgx 902 rfl (by assumption) | exact Arr.own hgx 44 rfl (by assumption) | exact Arr.own hgx 45 rfl (by assumption)) (by omega) (by omega))) (fun v2 Gx2 G2 Ho2 hlx2 hp => ?_)
         obtain ⟨rfl, rfl, rfl⟩ := hp
         refine Wl.want rfl rfl (Wl.q rfl (Qy.notD rfl) (Wl.q rfl (Qy.pick rfl rfl) (Wl.q rfl (Qy.move rfl) (Wl.no 142 rfl (by first | assumption | omega) ?_))))
         refine Wl.want rfl rfl (Wl.q rfl (Qy.load 5 T.one4 rfl rfl rfl) (Wl.want rfl rfl (Wl.q rfl (Qy.move rfl) (Wl.yes 144 rfl (by first | assumption | omega) ?_))))
         refine Wl.want rfl rfl (Wl.q rfl (Qy.loadAll 0 T.agg25 rfl rfl rfl) (Wl.want rfl rfl (Wl.q rfl (Qy.loadAll 904 T.agg25 rfl rfl rfl) (Wl.want rfl rfl (Wl.q rfl (Qy.load 3 T.one42 rfl rfl rfl) (Wl.want rfl rfl ?_))))))
         refine Wl.callB 906 rfl T.fn26 rfl (fun Gx hGx hgx => (c26 _ p q _ _ _ _ _ _ _ _ _ _ r ls _ (by first | exact Arr.up (by assumption) hGx | exact Arr.nil _ | exact Arr.own hgx 903 rfl (by assumption) | exact Arr.own hgx 902 rfl (by assumption) | exact Arr.own hgx 44 rfl (by assumption) | exact Arr.own hgx 45 rfl (by assumption)) (by first | exact Arr.up (by assumption) hGx | exact Arr.nil _ | exact Arr.own hgx 903 rfl (by assumption) | exact Arr.own hgx 902 rfl (by assumption) | exact Arr.own hgx 44 rfl (by assumption) | exact Arr.own hgx 45 rfl (by assumption)) (by first | exact Arr.up (by assumption) hGx | exact Arr.nil _ | exact Arr.own hgx 903 rfl (by assumption) | exact Arr.own hgx 902 rfl (by assumption) | exact Arr.own hgx 44 rfl (by assumption) | exact Arr.own hgx 45 rfl (by assumption)) (by first | exact Arr.up (by assumption) hGx | exact Arr.nil _ | exact Arr.own hgx 903 rfl (by assumption) | exact Arr.own hgx 902 rfl (by assumption) | exact Arr.own hgx 44 rfl (by assumption) | exact Arr.own hgx 45 rfl (by assumption)) (by first | exact Arr.up (by assumption) hGx | exact Arr.nil _ | exact Arr.own hgx 903 rfl (by assumption) | exact Arr.own hgx 902 rfl (by assumption) | exact Arr.own hgx 44 rfl (by assumption) | exact Arr.own hgx 45 rfl (by assumption)) (hrs.up hGx) hev hN9 hR hRq hgi hcl hcl2 hqi hqo hfol)) (fun v3 Gx3 G3 Ho3 hlx3 hp => ?_)
         obtain ⟨rfl, rfl⟩ := hp
         refine Wl.want rfl rfl (Wl.q rfl (Qy.not rfl) (Wl.want rfl rfl (Wl.q rfl (Qy.pick rfl rfl) (Wl.q rfl (Qy.pick rfl rfl) (Wl.done (Ar.next (Wc.condF rfl ?_)))))))
         refine Wc.skip (Ar.next (Wc.seq (Wc.region rfl (Wl.q rfl (Qy.loadAll 905 T.agg25 rfl rfl rfl) ?_))))
         refine Wl.call 906 rfl T.fn21 rfl (c21 _ _ _ _ _ _ (by assumption) (by assumption) (by omega) (by omega)) (tags_of trivial) (fun v5 G5 Ho5 hle5 hp => ?_)
         obtain ⟨na5, nb5, nc5, nd5, nj5, nk5, rfl, hna5, hnb5, rfl, rfl⟩ := hp
         refine Wl.storeAll 40 T.size25 rfl rfl rfl rfl rfl rfl ?_
         refine Wl.done (Ar.next (Wc.seq (Wc.region rfl (Wl.q rfl (Qy.loadAll 904 T.agg25 rfl rfl rfl) ?_))))
         refine Wl.call 902 rfl T.fn27 rfl (c27 _ q _ _ _ _ _ _ hgd1 hgd2) (tags_of ⟨rfl, rfl, trivial⟩) (fun v8 G8 Ho8 hle8 hp => ?_)
         obtain ⟨rfl, rfl, rfl⟩ := hp
         refine Wl.done (Ar.next (Wc.region rfl (Wl.q rfl (Qy.load 46 T.one3 rfl rfl rfl) (Wl.q rfl (Qy.add rfl rfl (by omega)) ?_))))
         refine Wl.store 46 T.one3 rfl rfl rfl rfl rfl ?_
         refine Wl.done ?_
         refine Ar.outNormal ?_
         refine Ar.base ?_
         refine Ar.retag 916 41 rfl rfl (Ar.retag 917 42 rfl rfl ?_)
         refine Ar.reH 47 (.cells #[.bool (decide (n + 1 = lenR p + 1))] 4) rfl (by rw [decide_eq_true (by omega)]; rfl) ?_
         refine Ar.roundEnd none (.inl ⟨rfl, rfl⟩) 900 rfl ⟨rfl, ((n + 1, q, ⟨na5, nb5, nc5, nd5, nj5, nk5⟩, v, y2), none), rfl, .inl ⟨rfl, rfl, ?_⟩⟩ (Hp.got ⟨rfl, rfl, rfl, rfl, rfl, rfl, rfl, rfl, rfl, rfl, rfl, rfl, rfl, rfl, rfl, rfl, trivial⟩)
         exact ⟨rfl, by unfold zAt; rw [if_neg (by omega)]; exact hxe2, fun h => absurd h.2 (by omega), ⟨hna5, hnb5⟩, ho3, ho4⟩
   · have _h9 := hJ
     rcases Nat.lt_or_ge n (lenR p) with hnl | hnl
     · have hxe : (⟨xn, q⟩ : NP) = ⟨nmOf n, nowS p (n + 1)⟩ := by rw [rounds_at p hnl] at hx; exact (Option.some.inj hx).symm
       have hxn : xn = nmOf n := congrArg NP.name hxe
       have hxq : q = passOf n z := by rw [hzn, ← now_succ]; exact congrArg NP.p hxe
       rcases (show n % 3 = 0 ∨ n % 3 = 1 ∨ n % 3 = 2 by omega) with h3 | h3 | h3
       · rcases Nat.eq_zero_or_pos n with h0 | h0
         · have t0 : ((n : Nat) : Int).tmod 3 = 0 := by rw [htm, h3]; rfl
           have hxl : xn = ⟨#[102, 111, 108, 100]⟩ := by rw [hxn]; unfold nmOf; rw [if_pos h3]
           have hP : ∀ (G9 : Imm) (_ : TabOk G9) (ac ao : Option Addr) (cc co : Nat), Arr G9 ac z.code → Arr G9 ao z.outs → Passes G9 7 z ac ao cc co q := fun G9 hT9 ac ao cc co h1 h2 => by
            rw [hxq]; unfold passOf; rw [if_pos h3]; exact c7A G9 hT9 z ac ao cc co h1 h2 hRz
           subst hxl
           refine Wc.seq (Wc.region rfl (Wl.q rfl (Qy.assign rfl) (Wl.done (Ar.next (Wc.region rfl ?_)))))
           refine Wl.alloc 904 rfl T.zero25 (fun b9 => ?_)
           refine Wl.storeAll 904 T.size25 rfl rfl rfl rfl rfl rfl ?_
           refine Wl.done (Ar.begin 900 rfl ?_)
           refine Wc.block (Wc.seq (Wc.region rfl (Wl.q rfl (Qy.assign rfl) (Wl.q rfl (Qy.assign rfl) (Wl.done (Ar.next (Wc.seq (Wc.region rfl (Wl.q rfl (Qy.build (cs := [_, _, _, _]) T.st25 rfl rfl rfl) ?_)))))))))
           refine Wl.alloc 905 rfl T.zero25 (fun b10 => ?_)
           refine Wl.storeAll 905 T.size25 rfl rfl rfl rfl rfl rfl ?_
           refine Wl.done (Ar.next (Wc.seq (Wc.block (Wc.seq (Wc.region rfl (Wl.q rfl (Qy.load 47 T.one4 rfl rfl rfl) (Wl.q rfl (Qy.assign rfl) (Wl.done (Ar.next (Wc.condF rfl ?_))))))))))
           refine Wc.seq (Wc.region rfl (Wl.q rfl (Qy.load 46 T.one3 rfl rfl rfl) (Wl.q rfl (Qy.urem rfl rfl (by omega)) ?_)))
           refine Wl.q rfl (Qy.eql rfl rfl) (Wl.q rfl (Qy.move rfl) (Wl.yes 91 rfl (by first | assumption | omega) ?_))
           refine Wl.want rfl rfl (Wl.q rfl (Qy.load 46 T.one3 rfl rfl rfl) (Wl.want rfl rfl (Wl.q rfl (Qy.gtr rfl rfl) (Wl.q rfl (Qy.pick rfl rfl) (Wl.q rfl (Qy.move rfl) (Wl.no 95 rfl (by first | assumption | omega) ?_))))))
           refine Wl.pass rfl rfl rfl (Wl.pass rfl rfl rfl (Wl.pass rfl rfl rfl (Wl.pass rfl rfl rfl (Wl.passU rfl rfl rfl (Wl.passU rfl rfl rfl (Wl.pass rfl rfl rfl (Wl.q rfl (Qy.pick rfl rfl) (Wl.q rfl (Qy.assign rfl) (Wl.done (Ar.next (Wc.condF rfl ?_)))))))))))
           refine Wc.seq (Wc.region rfl (Wl.q rfl (Qy.load 46 T.one3 rfl rfl rfl) (Wl.q rfl (Qy.urem rfl rfl (by omega)) ?_)))
           refine Wl.q rfl (Qy.eql rfl rfl) (Wl.q rfl (Qy.assign rfl) (Wl.done (Ar.next (Wc.condP rfl (by first | assumption | omega) ?_))))
           refine Wc.seq (Wc.region rfl (Wl.q rfl (Qy.assign rfl) (Wl.done (Ar.next (Wc.seq (Wc.region rfl (Wl.q rfl (Qy.loadAll 40 T.agg25 rfl rfl rfl) ?_)))))))
           refine Wl.call 906 rfl T.fn21 rfl (c21 _ _ _ _ _ _ (by assumption) (by assumption) (by omega) (by omega)) (tags_of trivial) (fun v4 G4 Ho4 hle4 hp => ?_)
           obtain ⟨na4, nb4, nc4, nd4, nj4, nk4, rfl, hna4, hnb4, rfl, rfl⟩ := hp
           refine Wl.storeAll 43 T.size25 rfl rfl rfl rfl rfl rfl ?_
           refine Wl.done (Ar.next (Wc.region rfl (Wl.q rfl (Qy.loadAll 40 T.agg25 rfl rfl rfl) ?_)))
           refine Wl.call 918 rfl T.fn7 rfl (hP _ (by assumption) _ _ _ _ (by assumption) (by assumption)) (tags_of trivial) (fun v5 G5 Ho5 hle5 hp => ?_)
           obtain ⟨qa5, qb5, qc5, qd5, rfl, hqA5, hqB5, rfl⟩ := hp
           replace hA2 := hA2.up hle5
           replace hA1 := hA1.up hle5
           replace hc := hc.up hle5
           replace ho := ho.up hle5
           refine Wl.q rfl (Qy.move rfl) (Wl.q rfl (Qy.extract rfl rfl) (Wl.q rfl (Qy.extract rfl rfl) ?_))
           refine Wl.storeAll 905 T.size25 rfl rfl rfl rfl rfl rfl ?_
           refine Wl.q rfl (Qy.assign rfl) (Wl.done ?_)
           refine Ar.outNormal ?_
           refine Ar.next (Wc.seq (Wc.seq (Wc.region rfl (Wl.q rfl (Qy.move rfl) (Wl.q rfl (Qy.move rfl) (Wl.q rfl (Qy.neqSS rfl rfl) ?_))))))
           refine Wl.q rfl (Qy.move rfl) (Wl.want rfl rfl (Wl.q rfl (Qy.move rfl) (Wl.want rfl rfl (Wl.q rfl (Qy.neq rfl rfl) (Wl.q rfl (Qy.pick rfl rfl) (Wl.q rfl (Qy.move rfl) (Wl.no 136 rfl (by first | assumption | omega) ?_)))))))
           refine Wl.want rfl rfl (Wl.q rfl (Qy.loadAll 904 T.agg25 rfl rfl rfl) (Wl.want rfl rfl (Wl.q rfl (Qy.loadAll 905 T.agg25 rfl rfl rfl) (Wl.want rfl rfl ?_))))
           refine Wl.callB 918 rfl T.fn22 rfl (fun Gx hGx hgx => (c22 _ _ _ _ _ _ _ _ _ _ _ (by first | exact Arr.up (by assumption) hGx | exact Arr.nil _ | exact Arr.own hgx 903 rfl (by assumption) | exact Arr.own hgx 902 rfl (by assumption) | exact Arr.own hgx 44 rfl (by assumption) | exact Arr.own hgx 45 rfl (by assumption)) (by first | exact Arr.up (by assumption) hGx | exact Arr.nil _ | exact Arr.own hgx 903 rfl (by assumption) | exact Arr.own hgx 902 rfl (by assumption) | exact Arr.own hgx 44 rfl (by assumption) | exact Arr.own hgx 45 rfl (by assumption)) (by first | exact Arr.up (by assumption) hGx | exact Arr.nil _ | exact Arr.own hgx 903 rfl (by assumption) | exact Arr.own hgx 902 rfl (by assumption) | exact Arr.own hgx 44 rfl (by assumption) | exact Arr.own hgx 45 rfl (by assumption)) (by first | exact Arr.up (by assumption) hGx | exact Arr.nil _ | exact Arr.own hgx 903 rfl (by assumption) | exact Arr.own hgx 902 rfl (by assumption) | exact Arr.own hgx 44 rfl (by assumption) | exact Arr.own hgx 45 rfl (by assumption)) (by omega) (by omega))) (fun v1 Gx1 G1 Ho1 hlx1 hp => ?_)
           obtain ⟨rfl, rfl, rfl⟩ := hp
           refine Wl.want rfl rfl (Wl.q rfl (Qy.notD rfl) (Wl.q rfl (Qy.pick rfl rfl) (Wl.q rfl (Qy.move rfl) (Wl.no 142 rfl (by first | assumption | omega) ?_))))
           refine Wl.want rfl rfl (Wl.q rfl (Qy.load 5 T.one4 rfl rfl rfl) (Wl.want rfl rfl (Wl.q rfl (Qy.move rfl) (Wl.no 144 rfl (by first | assumption | omega) ?_))))
           refine Wl.pass rfl rfl rfl (Wl.pass rfl rfl rfl (Wl.pass rfl rfl rfl (Wl.pass rfl rfl rfl (Wl.pass rfl rfl rfl (Wl.want rfl rfl (Wl.q rfl (Qy.pick rfl rfl) (Wl.q rfl (Qy.pick rfl rfl) (Wl.done (Ar.next (Wc.condF rfl ?_))))))))))
           refine Wc.skip (Ar.next (Wc.seq (Wc.region rfl (Wl.q rfl (Qy.loadAll 905 T.agg25 rfl rfl rfl) ?_))))
           refine Wl.call 918 rfl T.fn21 rfl (c21 _ _ _ _ _ _ (by assumption) (by assumption) (by omega) (by omega)) (tags_of trivial) (fun v6 G6 Ho6 hle6 hp => ?_)
           obtain ⟨na6, nb6, nc6, nd6, nj6, nk6, rfl, hna6, hnb6, rfl, rfl⟩ := hp
           refine Wl.storeAll 40 T.size25 rfl rfl rfl rfl rfl rfl ?_
           refine Wl.done (Ar.next (Wc.seq (Wc.region rfl (Wl.q rfl (Qy.loadAll 904 T.agg25 rfl rfl rfl) ?_))))
           refine Wl.call 902 rfl T.fn27 rfl (c27 _ q _ _ _ _ _ _ hgd1 hgd2) (tags_of ⟨rfl, rfl, trivial⟩) (fun v8 G8 Ho8 hle8 hp => ?_)
           obtain ⟨rfl, rfl, rfl⟩ := hp
           refine Wl.done (Ar.next (Wc.region rfl (Wl.q rfl (Qy.load 46 T.one3 rfl rfl rfl) (Wl.q rfl (Qy.add rfl rfl (by omega)) ?_))))
           refine Wl.store 46 T.one3 rfl rfl rfl rfl rfl ?_
           refine Wl.done ?_
           refine Ar.outNormal ?_
           refine Ar.base ?_
           refine Ar.retag 928 41 rfl rfl (Ar.retag 929 42 rfl rfl ?_)
           refine Ar.retag 916 44 rfl rfl (Ar.retag 917 45 rfl rfl ?_)
           refine Ar.reH 47 (.cells #[.bool (decide (n + 1 = lenR p + 1))] 4) rfl (by rw [decide_eq_false (by omega)]) ?_
           refine Ar.roundEnd none (.inl ⟨rfl, rfl⟩) 900 rfl ⟨rfl, ((n + 1, q, ⟨na6, nb6, nc6, nd6, nj6, nk6⟩, z, ⟨na4, nb4, nc4, nd4, nj4, nk4⟩), none), rfl, .inl ⟨rfl, rfl, ?_⟩⟩ (Hp.got ⟨rfl, rfl, rfl, rfl, rfl, rfl, rfl, rfl, rfl, rfl, rfl, rfl, rfl, rfl, rfl, rfl, trivial⟩)
           exact ⟨rfl, by unfold zAt; rw [if_pos (by omega)]; exact congrArg NP.p hxe, fun h => (by rw [hzn]; congr 1; omega), ⟨hna6, hnb6⟩, hna4, hnb4⟩
         · have t0 : ((n : Nat) : Int).tmod 3 = 0 := by rw [htm, h3]; rfl
           have hxl : xn = ⟨#[102, 111, 108, 100]⟩ := by rw [hxn]; unfold nmOf; rw [if_pos h3]
           have hvz : ¬ v = z := by
            rw [hv ⟨h0, by omega⟩, hzn]
            intro h9
            have hlr : lenR p = 3 * lastR p + 3 := by unfold lenR; rfl
            have h8 := last_not p (n := (n - 1) / 3) (by omega)
            rw [show 3 * ((n - 1) / 3) + 3 = n by omega] at h8
            exact h8 h9.symm
           obtain ⟨hv1, hv2⟩ := hvf h0 (by omega)
           have hP : ∀ (G9 : Imm) (_ : TabOk G9) (ac ao : Option Addr) (cc co : Nat), Arr G9 ac z.code → Arr G9 ao z.outs → Passes G9 7 z ac ao cc co q := fun G9 hT9 ac ao cc co h1 h2 => by
            rw [hxq]; unfold passOf; rw [if_pos h3]; exact c7A G9 hT9 z ac ao cc co h1 h2 hRz
           subst hxl
           refine Wc.seq (Wc.region rfl (Wl.q rfl (Qy.assign rfl) (Wl.done (Ar.next (Wc.region rfl ?_)))))
           refine Wl.alloc 904 rfl T.zero25 (fun b9 => ?_)
           refine Wl.storeAll 904 T.size25 rfl rfl rfl rfl rfl rfl ?_
           refine Wl.done (Ar.begin 900 rfl ?_)
           refine Wc.block (Wc.seq (Wc.region rfl (Wl.q rfl (Qy.assign rfl) (Wl.q rfl (Qy.assign rfl) (Wl.done (Ar.next (Wc.seq (Wc.region rfl (Wl.q rfl (Qy.build (cs := [_, _, _, _]) T.st25 rfl rfl rfl) ?_)))))))))
           refine Wl.alloc 905 rfl T.zero25 (fun b10 => ?_)
           refine Wl.storeAll 905 T.size25 rfl rfl rfl rfl rfl rfl ?_
           refine Wl.done (Ar.next (Wc.seq (Wc.block (Wc.seq (Wc.region rfl (Wl.q rfl (Qy.load 47 T.one4 rfl rfl rfl) (Wl.q rfl (Qy.assign rfl) (Wl.done (Ar.next (Wc.condF rfl ?_))))))))))
           refine Wc.seq (Wc.region rfl (Wl.q rfl (Qy.load 46 T.one3 rfl rfl rfl) (Wl.q rfl (Qy.urem rfl rfl (by omega)) ?_)))
           refine Wl.q rfl (Qy.eql rfl rfl) (Wl.q rfl (Qy.move rfl) (Wl.yes 91 rfl (by first | assumption | omega) ?_))
           refine Wl.want rfl rfl (Wl.q rfl (Qy.load 46 T.one3 rfl rfl rfl) (Wl.want rfl rfl (Wl.q rfl (Qy.gtr rfl rfl) (Wl.q rfl (Qy.pick rfl rfl) (Wl.q rfl (Qy.move rfl) (Wl.yes 95 rfl (by first | assumption | omega) ?_))))))
           refine Wl.want rfl rfl (Wl.q rfl (Qy.loadAll 43 T.agg25 rfl rfl rfl) (Wl.want rfl rfl (Wl.q rfl (Qy.loadAll 40 T.agg25 rfl rfl rfl) (Wl.want rfl rfl ?_))))
           refine Wl.callB 906 rfl T.fn22 rfl (fun Gx hGx hgx => (c22 _ _ _ _ _ _ _ _ _ _ _ (by first | exact Arr.up (by assumption) hGx | exact Arr.nil _ | exact Arr.own hgx 903 rfl (by assumption) | exact Arr.own hgx 902 rfl (by assumption) | exact Arr.own hgx 44 rfl (by assumption) | exact Arr.own hgx 45 rfl (by assumption)) (by first | exact Arr.up (by assumption) hGx | exact Arr.nil _ | exact Arr.own hgx 903 rfl (by assumption) | exact Arr.own hgx 902 rfl (by assumption) | exact Arr.own hgx 44 rfl (by assumption) | exact Arr.own hgx 45 rfl (by assumption)) (by first | exact Arr.up (by assumption) hGx | exact Arr.nil _ | exact Arr.own hgx 903 rfl (by assumption) | exact Arr.own hgx 902 rfl (by assumption) | exact Arr.own hgx 44 rfl (by assumption) | exact Arr.own hgx 45 rfl (by assumption)) (by first | exact Arr.up (by assumption) hGx | exact Arr.nil _ | exact Arr.own hgx 903 rfl (by assumption) | exact Arr.own hgx 902 rfl (by assumption) | exact Arr.own hgx 44 rfl (by assumption) | exact Arr.own hgx 45 rfl (by assumption)) (by omega) (by omega))) (fun v1 Gx1 G1 Ho1 hlx1 hp => ?_)
           obtain ⟨rfl, rfl, rfl⟩ := hp
           refine Wl.want rfl rfl (Wl.q rfl (Qy.move rfl) (Wl.no 99 rfl (by first | assumption | omega) ?_))
           refine Wl.want rfl rfl (Wl.q rfl (Qy.load 46 T.one3 rfl rfl rfl) (Wl.want rfl rfl (Wl.q rfl (Qy.eql rfl rfl) (Wl.want rfl rfl (Wl.q rfl (Qy.pick rfl rfl) (Wl.q rfl (Qy.pick rfl rfl) (Wl.q rfl (Qy.assign rfl) (Wl.done (Ar.next (Wc.condN rfl (by first | assumption | omega) ?_))))))))))
           refine Wc.seq (Wc.region rfl (Wl.q rfl (Qy.load 46 T.one3 rfl rfl rfl) (Wl.q rfl (Qy.urem rfl rfl (by omega)) ?_)))
           refine Wl.q rfl (Qy.eql rfl rfl) (Wl.q rfl (Qy.assign rfl) (Wl.done (Ar.next (Wc.condP rfl (by first | assumption | omega) ?_))))
           refine Wc.seq (Wc.region rfl (Wl.q rfl (Qy.assign rfl) (Wl.done (Ar.next (Wc.seq (Wc.region rfl (Wl.q rfl (Qy.loadAll 40 T.agg25 rfl rfl rfl) ?_)))))))
           refine Wl.call 906 rfl T.fn21 rfl (c21 _ _ _ _ _ _ (by assumption) (by assumption) (by omega) (by omega)) (tags_of trivial) (fun v4 G4 Ho4 hle4 hp => ?_)
           obtain ⟨na4, nb4, nc4, nd4, nj4, nk4, rfl, hna4, hnb4, rfl, rfl⟩ := hp
           refine Wl.storeAll 43 T.size25 rfl rfl rfl rfl rfl rfl ?_
           refine Wl.done (Ar.next (Wc.region rfl (Wl.q rfl (Qy.loadAll 40 T.agg25 rfl rfl rfl) ?_)))
           refine Wl.call 918 rfl T.fn7 rfl (hP _ (by assumption) _ _ _ _ (by assumption) (by assumption)) (tags_of trivial) (fun v5 G5 Ho5 hle5 hp => ?_)
           obtain ⟨qa5, qb5, qc5, qd5, rfl, hqA5, hqB5, rfl⟩ := hp
           replace hA2 := hA2.up hle5
           replace hA1 := hA1.up hle5
           replace hc := hc.up hle5
           replace ho := ho.up hle5
           refine Wl.q rfl (Qy.move rfl) (Wl.q rfl (Qy.extract rfl rfl) (Wl.q rfl (Qy.extract rfl rfl) ?_))
           refine Wl.storeAll 905 T.size25 rfl rfl rfl rfl rfl rfl ?_
           refine Wl.q rfl (Qy.assign rfl) (Wl.done ?_)
           refine Ar.outNormal ?_
           refine Ar.next (Wc.seq (Wc.seq (Wc.region rfl (Wl.q rfl (Qy.move rfl) (Wl.q rfl (Qy.move rfl) (Wl.q rfl (Qy.neqSS rfl rfl) ?_))))))
           refine Wl.q rfl (Qy.move rfl) (Wl.want rfl rfl (Wl.q rfl (Qy.move rfl) (Wl.want rfl rfl (Wl.q rfl (Qy.neq rfl rfl) (Wl.q rfl (Qy.pick rfl rfl) (Wl.q rfl (Qy.move rfl) (Wl.no 136 rfl (by first | assumption | omega) ?_)))))))
           refine Wl.want rfl rfl (Wl.q rfl (Qy.loadAll 904 T.agg25 rfl rfl rfl) (Wl.want rfl rfl (Wl.q rfl (Qy.loadAll 905 T.agg25 rfl rfl rfl) (Wl.want rfl rfl ?_))))
           refine Wl.callB 918 rfl T.fn22 rfl (fun Gx hGx hgx => (c22 _ _ _ _ _ _ _ _ _ _ _ (by first | exact Arr.up (by assumption) hGx | exact Arr.nil _ | exact Arr.own hgx 903 rfl (by assumption) | exact Arr.own hgx 902 rfl (by assumption) | exact Arr.own hgx 44 rfl (by assumption) | exact Arr.own hgx 45 rfl (by assumption)) (by first | exact Arr.up (by assumption) hGx | exact Arr.nil _ | exact Arr.own hgx 903 rfl (by assumption) | exact Arr.own hgx 902 rfl (by assumption) | exact Arr.own hgx 44 rfl (by assumption) | exact Arr.own hgx 45 rfl (by assumption)) (by first | exact Arr.up (by assumption) hGx | exact Arr.nil _ | exact Arr.own hgx 903 rfl (by assumption) | exact Arr.own hgx 902 rfl (by assumption) | exact Arr.own hgx 44 rfl (by assumption) | exact Arr.own hgx 45 rfl (by assumption)) (by first | exact Arr.up (by assumption) hGx | exact Arr.nil _ | exact Arr.own hgx 903 rfl (by assumption) | exact Arr.own hgx 902 rfl (by assumption) | exact Arr.own hgx 44 rfl (by assumption) | exact Arr.own hgx 45 rfl (by assumption)) (by omega) (by omega))) (fun v2 Gx2 G2 Ho2 hlx2 hp => ?_)
           obtain ⟨rfl, rfl, rfl⟩ := hp
           refine Wl.want rfl rfl (Wl.q rfl (Qy.notD rfl) (Wl.q rfl (Qy.pick rfl rfl) (Wl.q rfl (Qy.move rfl) (Wl.no 142 rfl (by first | assumption | omega) ?_))))
           refine Wl.want rfl rfl (Wl.q rfl (Qy.load 5 T.one4 rfl rfl rfl) (Wl.want rfl rfl (Wl.q rfl (Qy.move rfl) (Wl.no 144 rfl (by first | assumption | omega) ?_))))
           refine Wl.pass rfl rfl rfl (Wl.pass rfl rfl rfl (Wl.pass rfl rfl rfl (Wl.pass rfl rfl rfl (Wl.pass rfl rfl rfl (Wl.want rfl rfl (Wl.q rfl (Qy.pick rfl rfl) (Wl.q rfl (Qy.pick rfl rfl) (Wl.done (Ar.next (Wc.condF rfl ?_))))))))))
           refine Wc.skip (Ar.next (Wc.seq (Wc.region rfl (Wl.q rfl (Qy.loadAll 905 T.agg25 rfl rfl rfl) ?_))))
           refine Wl.call 918 rfl T.fn21 rfl (c21 _ _ _ _ _ _ (by assumption) (by assumption) (by omega) (by omega)) (tags_of trivial) (fun v6 G6 Ho6 hle6 hp => ?_)
           obtain ⟨na6, nb6, nc6, nd6, nj6, nk6, rfl, hna6, hnb6, rfl, rfl⟩ := hp
           refine Wl.storeAll 40 T.size25 rfl rfl rfl rfl rfl rfl ?_
           refine Wl.done (Ar.next (Wc.seq (Wc.region rfl (Wl.q rfl (Qy.loadAll 904 T.agg25 rfl rfl rfl) ?_))))
           refine Wl.call 902 rfl T.fn27 rfl (c27 _ q _ _ _ _ _ _ hgd1 hgd2) (tags_of ⟨rfl, rfl, trivial⟩) (fun v8 G8 Ho8 hle8 hp => ?_)
           obtain ⟨rfl, rfl, rfl⟩ := hp
           refine Wl.done (Ar.next (Wc.region rfl (Wl.q rfl (Qy.load 46 T.one3 rfl rfl rfl) (Wl.q rfl (Qy.add rfl rfl (by omega)) ?_))))
           refine Wl.store 46 T.one3 rfl rfl rfl rfl rfl ?_
           refine Wl.done ?_
           refine Ar.outNormal ?_
           refine Ar.base ?_
           refine Ar.retag 928 41 rfl rfl (Ar.retag 929 42 rfl rfl ?_)
           refine Ar.retag 916 44 rfl rfl (Ar.retag 917 45 rfl rfl ?_)
           refine Ar.reH 47 (.cells #[.bool (decide (n + 1 = lenR p + 1))] 4) rfl (by rw [decide_eq_false (by omega)]) ?_
           refine Ar.roundEnd none (.inl ⟨rfl, rfl⟩) 900 rfl ⟨rfl, ((n + 1, q, ⟨na6, nb6, nc6, nd6, nj6, nk6⟩, z, ⟨na4, nb4, nc4, nd4, nj4, nk4⟩), none), rfl, .inl ⟨rfl, rfl, ?_⟩⟩ (Hp.got ⟨rfl, rfl, rfl, rfl, rfl, rfl, rfl, rfl, rfl, rfl, rfl, rfl, rfl, rfl, rfl, rfl, trivial⟩)
           exact ⟨rfl, by unfold zAt; rw [if_pos (by omega)]; exact congrArg NP.p hxe, fun h => (by rw [hzn]; congr 1; omega), ⟨hna6, hnb6⟩, hna4, hnb4⟩
       · have t0 : ¬ ((n : Nat) : Int).tmod 3 = 0 := by rw [htm, h3]; decide
         have t1 : ((n : Nat) : Int).tmod 3 = 1 := by rw [htm, h3]; rfl
         have hxl : xn = ⟨#[115, 104, 97, 114, 101]⟩ := by rw [hxn]; unfold nmOf; rw [if_neg (by omega), if_pos h3]
         have hP : ∀ (G9 : Imm) (_ : TabOk G9) (ac ao : Option Addr) (cc co : Nat), Arr G9 ac z.code → Arr G9 ao z.outs → Passes G9 24 z ac ao cc co q := fun G9 hT9 ac ao cc co h1 h2 => by
          rw [hxq]; unfold passOf; rw [if_neg (by omega), if_pos h3]; exact c24A G9 z ac ao cc co h1 h2 hRz
         subst hxl
         refine Wc.seq (Wc.region rfl (Wl.q rfl (Qy.assign rfl) (Wl.done (Ar.next (Wc.region rfl ?_)))))
         refine Wl.alloc 904 rfl T.zero25 (fun b9 => ?_)
         refine Wl.storeAll 904 T.size25 rfl rfl rfl rfl rfl rfl ?_
         refine Wl.done (Ar.begin 900 rfl ?_)
         refine Wc.block (Wc.seq (Wc.region rfl (Wl.q rfl (Qy.assign rfl) (Wl.q rfl (Qy.assign rfl) (Wl.done (Ar.next (Wc.seq (Wc.region rfl (Wl.q rfl (Qy.build (cs := [_, _, _, _]) T.st25 rfl rfl rfl) ?_)))))))))
         refine Wl.alloc 905 rfl T.zero25 (fun b10 => ?_)
         refine Wl.storeAll 905 T.size25 rfl rfl rfl rfl rfl rfl ?_
         refine Wl.done (Ar.next (Wc.seq (Wc.block (Wc.seq (Wc.region rfl (Wl.q rfl (Qy.load 47 T.one4 rfl rfl rfl) (Wl.q rfl (Qy.assign rfl) (Wl.done (Ar.next (Wc.condF rfl ?_))))))))))
         refine Wc.seq (Wc.region rfl (Wl.q rfl (Qy.load 46 T.one3 rfl rfl rfl) (Wl.q rfl (Qy.urem rfl rfl (by omega)) ?_)))
         refine Wl.q rfl (Qy.eql rfl rfl) (Wl.q rfl (Qy.move rfl) (Wl.no 91 rfl (by first | assumption | omega) ?_))
         refine Wl.pass rfl rfl rfl (Wl.pass rfl rfl rfl (Wl.q rfl (Qy.pick rfl rfl) (Wl.q rfl (Qy.move rfl) (Wl.pass rfl rfl rfl (Wl.pass rfl rfl rfl (Wl.pass rfl rfl rfl (Wl.pass rfl rfl rfl (Wl.passU rfl rfl rfl (Wl.passU rfl rfl rfl (Wl.pass rfl rfl rfl (Wl.q rfl (Qy.pick rfl rfl) ?_)))))))))))
         refine Wl.q rfl (Qy.assign rfl) (Wl.done (Ar.next (Wc.condF rfl ?_)))
         refine Wc.seq (Wc.region rfl (Wl.q rfl (Qy.load 46 T.one3 rfl rfl rfl) (Wl.q rfl (Qy.urem rfl rfl (by omega)) ?_)))
         refine Wl.q rfl (Qy.eql rfl rfl) (Wl.q rfl (Qy.assign rfl) (Wl.done (Ar.next (Wc.condN rfl (by first | assumption | omega) ?_))))
         refine Wc.seq (Wc.region rfl (Wl.q rfl (Qy.load 46 T.one3 rfl rfl rfl) (Wl.q rfl (Qy.urem rfl rfl (by omega)) ?_)))
         refine Wl.q rfl (Qy.eql rfl rfl) (Wl.q rfl (Qy.assign rfl) (Wl.done (Ar.next (Wc.condP rfl (by first | assumption | omega) ?_))))
         refine Wc.seq (Wc.region rfl (Wl.q rfl (Qy.assign rfl) (Wl.done (Ar.next (Wc.region rfl (Wl.q rfl (Qy.loadAll 40 T.agg25 rfl rfl rfl) ?_))))))
         refine Wl.call 906 rfl T.fn24 rfl (hP _ (by assumption) _ _ _ _ (by assumption) (by assumption)) (tags_of trivial) (fun v4 G4 Ho4 hle4 hp => ?_)
         obtain ⟨qa4, qb4, qc4, qd4, rfl, hqA4, hqB4, rfl⟩ := hp
         replace hA2 := hA2.up hle4
         replace hA1 := hA1.up hle4
         replace hc := hc.up hle4
         replace ho := ho.up hle4
         refine Wl.q rfl (Qy.move rfl) (Wl.q rfl (Qy.extract rfl rfl) (Wl.q rfl (Qy.extract rfl rfl) ?_))
         refine Wl.storeAll 905 T.size25 rfl rfl rfl rfl rfl rfl ?_
         refine Wl.q rfl (Qy.assign rfl) (Wl.done ?_)
         refine Ar.outNormal ?_
         refine Ar.next (Wc.seq (Wc.seq (Wc.region rfl (Wl.q rfl (Qy.move rfl) (Wl.q rfl (Qy.move rfl) (Wl.q rfl (Qy.neqSS rfl rfl) ?_))))))
         refine Wl.q rfl (Qy.move rfl) (Wl.want rfl rfl (Wl.q rfl (Qy.move rfl) (Wl.want rfl rfl (Wl.q rfl (Qy.neq rfl rfl) (Wl.q rfl (Qy.pick rfl rfl) (Wl.q rfl (Qy.move rfl) (Wl.no 136 rfl (by first | assumption | omega) ?_)))))))
         refine Wl.want rfl rfl (Wl.q rfl (Qy.loadAll 904 T.agg25 rfl rfl rfl) (Wl.want rfl rfl (Wl.q rfl (Qy.loadAll 905 T.agg25 rfl rfl rfl) (Wl.want rfl rfl ?_))))
         refine Wl.callB 906 rfl T.fn22 rfl (fun Gx hGx hgx => (c22 _ _ _ _ _ _ _ _ _ _ _ (by first | exact Arr.up (by assumption) hGx | exact Arr.nil _ | exact Arr.own hgx 903 rfl (by assumption) | exact Arr.own hgx 902 rfl (by assumption) | exact Arr.own hgx 44 rfl (by assumption) | exact Arr.own hgx 45 rfl (by assumption)) (by first | exact Arr.up (by assumption) hGx | exact Arr.nil _ | exact Arr.own hgx 903 rfl (by assumption) | exact Arr.own hgx 902 rfl (by assumption) | exact Arr.own hgx 44 rfl (by assumption) | exact Arr.own hgx 45 rfl (by assumption)) (by first | exact Arr.up (by assumption) hGx | exact Arr.nil _ | exact Arr.own hgx 903 rfl (by assumption) | exact Arr.own hgx 902 rfl (by assumption) | exact Arr.own hgx 44 rfl (by assumption) | exact Arr.own hgx 45 rfl (by assumption)) (by first | exact Arr.up (by assumption) hGx | exact Arr.nil _ | exact Arr.own hgx 903 rfl (by assumption) | exact Arr.own hgx 902 rfl (by assumption) | exact Arr.own hgx 44 rfl (by assumption) | exact Arr.own hgx 45 rfl (by assumption)) (by omega) (by omega))) (fun v1 Gx1 G1 Ho1 hlx1 hp => ?_)
         obtain ⟨rfl, rfl, rfl⟩ := hp
         refine Wl.want rfl rfl (Wl.q rfl (Qy.notD rfl) (Wl.q rfl (Qy.pick rfl rfl) (Wl.q rfl (Qy.move rfl) (Wl.no 142 rfl (by first | assumption | omega) ?_))))
         refine Wl.want rfl rfl (Wl.q rfl (Qy.load 5 T.one4 rfl rfl rfl) (Wl.want rfl rfl (Wl.q rfl (Qy.move rfl) (Wl.no 144 rfl (by first | assumption | omega) ?_))))
         refine Wl.pass rfl rfl rfl (Wl.pass rfl rfl rfl (Wl.pass rfl rfl rfl (Wl.pass rfl rfl rfl (Wl.pass rfl rfl rfl (Wl.want rfl rfl (Wl.q rfl (Qy.pick rfl rfl) (Wl.q rfl (Qy.pick rfl rfl) (Wl.done (Ar.next (Wc.condF rfl ?_))))))))))
         refine Wc.skip (Ar.next (Wc.seq (Wc.region rfl (Wl.q rfl (Qy.loadAll 905 T.agg25 rfl rfl rfl) ?_))))
         refine Wl.call 906 rfl T.fn21 rfl (c21 _ _ _ _ _ _ (by assumption) (by assumption) (by omega) (by omega)) (tags_of trivial) (fun v5 G5 Ho5 hle5 hp => ?_)
         obtain ⟨na5, nb5, nc5, nd5, nj5, nk5, rfl, hna5, hnb5, rfl, rfl⟩ := hp
         refine Wl.storeAll 40 T.size25 rfl rfl rfl rfl rfl rfl ?_
         refine Wl.done (Ar.next (Wc.seq (Wc.region rfl (Wl.q rfl (Qy.loadAll 904 T.agg25 rfl rfl rfl) ?_))))
         refine Wl.call 902 rfl T.fn27 rfl (c27 _ q _ _ _ _ _ _ hgd1 hgd2) (tags_of ⟨rfl, rfl, trivial⟩) (fun v8 G8 Ho8 hle8 hp => ?_)
         obtain ⟨rfl, rfl, rfl⟩ := hp
         refine Wl.done (Ar.next (Wc.region rfl (Wl.q rfl (Qy.load 46 T.one3 rfl rfl rfl) (Wl.q rfl (Qy.add rfl rfl (by omega)) ?_))))
         refine Wl.store 46 T.one3 rfl rfl rfl rfl rfl ?_
         refine Wl.done ?_
         refine Ar.outNormal ?_
         refine Ar.base ?_
         refine Ar.retag 916 41 rfl rfl (Ar.retag 917 42 rfl rfl ?_)
         refine Ar.reH 47 (.cells #[.bool (decide (n + 1 = lenR p + 1))] 4) rfl (by rw [decide_eq_false (by omega)]) ?_
         refine Ar.roundEnd none (.inl ⟨rfl, rfl⟩) 900 rfl ⟨rfl, ((n + 1, q, ⟨na5, nb5, nc5, nd5, nj5, nk5⟩, v, y2), none), rfl, .inl ⟨rfl, rfl, ?_⟩⟩ (Hp.got ⟨rfl, rfl, rfl, rfl, rfl, rfl, rfl, rfl, rfl, rfl, rfl, rfl, rfl, rfl, rfl, rfl, trivial⟩)
         exact ⟨rfl, by unfold zAt; rw [if_pos (by omega)]; exact congrArg NP.p hxe, fun h => (by rw [hv ⟨by omega, by omega⟩]; congr 1; omega), ⟨hna5, hnb5⟩, ho3, ho4⟩
       · have t0 : ¬ ((n : Nat) : Int).tmod 3 = 0 := by rw [htm, h3]; decide
         have t1 : ¬ ((n : Nat) : Int).tmod 3 = 1 := by rw [htm, h3]; decide
         have hxl : xn = ⟨#[100, 101, 97, 100]⟩ := by rw [hxn]; unfold nmOf; rw [if_neg (by omega), if_neg (by omega)]
         have hP : ∀ (G9 : Imm) (_ : TabOk G9) (ac ao : Option Addr) (cc co : Nat), Arr G9 ac z.code → Arr G9 ao z.outs → Passes G9 25 z ac ao cc co q := fun G9 hT9 ac ao cc co h1 h2 => by
          rw [hxq]; unfold passOf; rw [if_neg (by omega), if_neg (by omega)]; exact c25A G9 z ac ao cc co h1 h2 hRz
         subst hxl
         refine Wc.seq (Wc.region rfl (Wl.q rfl (Qy.assign rfl) (Wl.done (Ar.next (Wc.region rfl ?_)))))
         refine Wl.alloc 904 rfl T.zero25 (fun b9 => ?_)
         refine Wl.storeAll 904 T.size25 rfl rfl rfl rfl rfl rfl ?_
         refine Wl.done (Ar.begin 900 rfl ?_)
         refine Wc.block (Wc.seq (Wc.region rfl (Wl.q rfl (Qy.assign rfl) (Wl.q rfl (Qy.assign rfl) (Wl.done (Ar.next (Wc.seq (Wc.region rfl (Wl.q rfl (Qy.build (cs := [_, _, _, _]) T.st25 rfl rfl rfl) ?_)))))))))
         refine Wl.alloc 905 rfl T.zero25 (fun b10 => ?_)
         refine Wl.storeAll 905 T.size25 rfl rfl rfl rfl rfl rfl ?_
         refine Wl.done (Ar.next (Wc.seq (Wc.block (Wc.seq (Wc.region rfl (Wl.q rfl (Qy.load 47 T.one4 rfl rfl rfl) (Wl.q rfl (Qy.assign rfl) (Wl.done (Ar.next (Wc.condF rfl ?_))))))))))
         refine Wc.seq (Wc.region rfl (Wl.q rfl (Qy.load 46 T.one3 rfl rfl rfl) (Wl.q rfl (Qy.urem rfl rfl (by omega)) ?_)))
         refine Wl.q rfl (Qy.eql rfl rfl) (Wl.q rfl (Qy.move rfl) (Wl.no 91 rfl (by first | assumption | omega) ?_))
         refine Wl.pass rfl rfl rfl (Wl.pass rfl rfl rfl (Wl.q rfl (Qy.pick rfl rfl) (Wl.q rfl (Qy.move rfl) (Wl.pass rfl rfl rfl (Wl.pass rfl rfl rfl (Wl.pass rfl rfl rfl (Wl.pass rfl rfl rfl (Wl.passU rfl rfl rfl (Wl.passU rfl rfl rfl (Wl.pass rfl rfl rfl (Wl.q rfl (Qy.pick rfl rfl) ?_)))))))))))
         refine Wl.q rfl (Qy.assign rfl) (Wl.done (Ar.next (Wc.condF rfl ?_)))
         refine Wc.seq (Wc.region rfl (Wl.q rfl (Qy.load 46 T.one3 rfl rfl rfl) (Wl.q rfl (Qy.urem rfl rfl (by omega)) ?_)))
         refine Wl.q rfl (Qy.eql rfl rfl) (Wl.q rfl (Qy.assign rfl) (Wl.done (Ar.next (Wc.condN rfl (by first | assumption | omega) ?_))))
         refine Wc.seq (Wc.region rfl (Wl.q rfl (Qy.load 46 T.one3 rfl rfl rfl) (Wl.q rfl (Qy.urem rfl rfl (by omega)) ?_)))
         refine Wl.q rfl (Qy.eql rfl rfl) (Wl.q rfl (Qy.assign rfl) (Wl.done (Ar.next (Wc.condN rfl (by first | assumption | omega) ?_))))
         refine Wc.seq (Wc.region rfl (Wl.q rfl (Qy.assign rfl) (Wl.done (Ar.next (Wc.region rfl (Wl.q rfl (Qy.loadAll 40 T.agg25 rfl rfl rfl) ?_))))))
         refine Wl.call 906 rfl T.fn25 rfl (hP _ (by assumption) _ _ _ _ (by assumption) (by assumption)) (tags_of trivial) (fun v4 G4 Ho4 hle4 hp => ?_)
         obtain ⟨qa4, qb4, qc4, qd4, rfl, hqA4, hqB4, rfl⟩ := hp
         replace hA2 := hA2.up hle4
         replace hA1 := hA1.up hle4
         replace hc := hc.up hle4
         replace ho := ho.up hle4
         refine Wl.q rfl (Qy.move rfl) (Wl.q rfl (Qy.extract rfl rfl) (Wl.q rfl (Qy.extract rfl rfl) ?_))
         refine Wl.storeAll 905 T.size25 rfl rfl rfl rfl rfl rfl ?_
         refine Wl.q rfl (Qy.assign rfl) (Wl.done ?_)
         refine Ar.outNormal ?_
         refine Ar.next (Wc.seq (Wc.seq (Wc.region rfl (Wl.q rfl (Qy.move rfl) (Wl.q rfl (Qy.move rfl) (Wl.q rfl (Qy.neqSS rfl rfl) ?_))))))
         refine Wl.q rfl (Qy.move rfl) (Wl.want rfl rfl (Wl.q rfl (Qy.move rfl) (Wl.want rfl rfl (Wl.q rfl (Qy.neq rfl rfl) (Wl.q rfl (Qy.pick rfl rfl) (Wl.q rfl (Qy.move rfl) (Wl.no 136 rfl (by first | assumption | omega) ?_)))))))
         refine Wl.want rfl rfl (Wl.q rfl (Qy.loadAll 904 T.agg25 rfl rfl rfl) (Wl.want rfl rfl (Wl.q rfl (Qy.loadAll 905 T.agg25 rfl rfl rfl) (Wl.want rfl rfl ?_))))
         refine Wl.callB 906 rfl T.fn22 rfl (fun Gx hGx hgx => (c22 _ _ _ _ _ _ _ _ _ _ _ (by first | exact Arr.up (by assumption) hGx | exact Arr.nil _ | exact Arr.own hgx 903 rfl (by assumption) | exact Arr.own hgx 902 rfl (by assumption) | exact Arr.own hgx 44 rfl (by assumption) | exact Arr.own hgx 45 rfl (by assumption)) (by first | exact Arr.up (by assumption) hGx | exact Arr.nil _ | exact Arr.own hgx 903 rfl (by assumption) | exact Arr.own hgx 902 rfl (by assumption) | exact Arr.own hgx 44 rfl (by assumption) | exact Arr.own hgx 45 rfl (by assumption)) (by first | exact Arr.up (by assumption) hGx | exact Arr.nil _ | exact Arr.own hgx 903 rfl (by assumption) | exact Arr.own hgx 902 rfl (by assumption) | exact Arr.own hgx 44 rfl (by assumption) | exact Arr.own hgx 45 rfl (by assumption)) (by first | exact Arr.up (by assumption) hGx | exact Arr.nil _ | exact Arr.own hgx 903 rfl (by assumption) | exact Arr.own hgx 902 rfl (by assumption) | exact Arr.own hgx 44 rfl (by assumption) | exact Arr.own hgx 45 rfl (by assumption)) (by omega) (by omega))) (fun v1 Gx1 G1 Ho1 hlx1 hp => ?_)
         obtain ⟨rfl, rfl, rfl⟩ := hp
         refine Wl.want rfl rfl (Wl.q rfl (Qy.notD rfl) (Wl.q rfl (Qy.pick rfl rfl) (Wl.q rfl (Qy.move rfl) (Wl.no 142 rfl (by first | assumption | omega) ?_))))
         refine Wl.want rfl rfl (Wl.q rfl (Qy.load 5 T.one4 rfl rfl rfl) (Wl.want rfl rfl (Wl.q rfl (Qy.move rfl) (Wl.no 144 rfl (by first | assumption | omega) ?_))))
         refine Wl.pass rfl rfl rfl (Wl.pass rfl rfl rfl (Wl.pass rfl rfl rfl (Wl.pass rfl rfl rfl (Wl.pass rfl rfl rfl (Wl.want rfl rfl (Wl.q rfl (Qy.pick rfl rfl) (Wl.q rfl (Qy.pick rfl rfl) (Wl.done (Ar.next (Wc.condF rfl ?_))))))))))
         refine Wc.skip (Ar.next (Wc.seq (Wc.region rfl (Wl.q rfl (Qy.loadAll 905 T.agg25 rfl rfl rfl) ?_))))
         refine Wl.call 906 rfl T.fn21 rfl (c21 _ _ _ _ _ _ (by assumption) (by assumption) (by omega) (by omega)) (tags_of trivial) (fun v5 G5 Ho5 hle5 hp => ?_)
         obtain ⟨na5, nb5, nc5, nd5, nj5, nk5, rfl, hna5, hnb5, rfl, rfl⟩ := hp
         refine Wl.storeAll 40 T.size25 rfl rfl rfl rfl rfl rfl ?_
         refine Wl.done (Ar.next (Wc.seq (Wc.region rfl (Wl.q rfl (Qy.loadAll 904 T.agg25 rfl rfl rfl) ?_))))
         refine Wl.call 902 rfl T.fn27 rfl (c27 _ q _ _ _ _ _ _ hgd1 hgd2) (tags_of ⟨rfl, rfl, trivial⟩) (fun v8 G8 Ho8 hle8 hp => ?_)
         obtain ⟨rfl, rfl, rfl⟩ := hp
         refine Wl.done (Ar.next (Wc.region rfl (Wl.q rfl (Qy.load 46 T.one3 rfl rfl rfl) (Wl.q rfl (Qy.add rfl rfl (by omega)) ?_))))
         refine Wl.store 46 T.one3 rfl rfl rfl rfl rfl ?_
         refine Wl.done ?_
         refine Ar.outNormal ?_
         refine Ar.base ?_
         refine Ar.retag 916 41 rfl rfl (Ar.retag 917 42 rfl rfl ?_)
         refine Ar.reH 47 (.cells #[.bool (decide (n + 1 = lenR p + 1))] 4) rfl (by rw [decide_eq_false (by omega)]) ?_
         refine Ar.roundEnd none (.inl ⟨rfl, rfl⟩) 900 rfl ⟨rfl, ((n + 1, q, ⟨na5, nb5, nc5, nd5, nj5, nk5⟩, v, y2), none), rfl, .inl ⟨rfl, rfl, ?_⟩⟩ (Hp.got ⟨rfl, rfl, rfl, rfl, rfl, rfl, rfl, rfl, rfl, rfl, rfl, rfl, rfl, rfl, rfl, rfl, trivial⟩)
         exact ⟨rfl, by unfold zAt; rw [if_pos (by omega)]; exact congrArg NP.p hxe, fun h => (by rw [hv ⟨by omega, by omega⟩]; congr 1; omega), ⟨hna5, hnb5⟩, ho3, ho4⟩
     · have hlr : lenR p = 3 * lastR p + 3 := by unfold lenR; rfl
       have hne : n = lenR p := by omega
       have hxe : (⟨xn, q⟩ : NP) = ⟨packN, orderP (nowS p n)⟩ := by rw [hne, rounds_last p] at hx; rw [hne]; exact (Option.some.inj hx).symm
       have hxl : xn = ⟨#[112, 97, 99, 107]⟩ := by
        have h9 := congrArg NP.name hxe
        unfold packN at h9
        exact h9
       have hxq : q = orderP z := by rw [hzn]; exact congrArg NP.p hxe
       have hxe2 : q = lastP p := by unfold lastP; rw [← hne]; exact congrArg NP.p hxe
       by_cases hvz : v = z
       · have t0 : ((n : Nat) : Int).tmod 3 = 0 := by rw [htm]; have : n % 3 = 0 := (by omega); rw [this]; rfl
         obtain ⟨hv1, hv2⟩ := hvf (by omega) (by omega)
         have hP : ∀ (G9 : Imm) (_ : TabOk G9) (ac ao : Option Addr) (cc co : Nat), Arr G9 ac z.code → Arr G9 ao z.outs → Passes G9 23 z ac ao cc co q := fun G9 hT9 ac ao cc co h1 h2 => by
          rw [hxq]; exact c23A G9 z ac ao cc co h1 h2 hRz
         subst hxl
         refine Wc.seq (Wc.region rfl (Wl.q rfl (Qy.assign rfl) (Wl.done (Ar.next (Wc.region rfl ?_)))))
         refine Wl.alloc 904 rfl T.zero25 (fun b9 => ?_)
         refine Wl.storeAll 904 T.size25 rfl rfl rfl rfl rfl rfl ?_
         refine Wl.done (Ar.begin 900 rfl ?_)
         refine Wc.block (Wc.seq (Wc.region rfl (Wl.q rfl (Qy.assign rfl) (Wl.q rfl (Qy.assign rfl) (Wl.done (Ar.next (Wc.seq (Wc.region rfl (Wl.q rfl (Qy.build (cs := [_, _, _, _]) T.st25 rfl rfl rfl) ?_)))))))))
         refine Wl.alloc 905 rfl T.zero25 (fun b10 => ?_)
         refine Wl.storeAll 905 T.size25 rfl rfl rfl rfl rfl rfl ?_
         refine Wl.done (Ar.next (Wc.seq (Wc.block (Wc.seq (Wc.region rfl (Wl.q rfl (Qy.load 47 T.one4 rfl rfl rfl) (Wl.q rfl (Qy.assign rfl) (Wl.done (Ar.next (Wc.condF rfl ?_))))))))))
         refine Wc.seq (Wc.region rfl (Wl.q rfl (Qy.load 46 T.one3 rfl rfl rfl) (Wl.q rfl (Qy.urem rfl rfl (by omega)) ?_)))
         refine Wl.q rfl (Qy.eql rfl rfl) (Wl.q rfl (Qy.move rfl) (Wl.yes 91 rfl (by first | assumption | omega) ?_))
         refine Wl.want rfl rfl (Wl.q rfl (Qy.load 46 T.one3 rfl rfl rfl) (Wl.want rfl rfl (Wl.q rfl (Qy.gtr rfl rfl) (Wl.q rfl (Qy.pick rfl rfl) (Wl.q rfl (Qy.move rfl) (Wl.yes 95 rfl (by first | assumption | omega) ?_))))))
         refine Wl.want rfl rfl (Wl.q rfl (Qy.loadAll 43 T.agg25 rfl rfl rfl) (Wl.want rfl rfl (Wl.q rfl (Qy.loadAll 40 T.agg25 rfl rfl rfl) (Wl.want rfl rfl ?_))))
         refine Wl.callB 906 rfl T.fn22 rfl (fun Gx hGx hgx => (c22 _ _ _ _ _ _ _ _ _ _ _ (by first | exact Arr.up (by assumption) hGx | exact Arr.nil _ | exact Arr.own hgx 903 rfl (by assumption) | exact Arr.own hgx 902 rfl (by assumption) | exact Arr.own hgx 44 rfl (by assumption) | exact Arr.own hgx 45 rfl (by assumption)) (by first | exact Arr.up (by assumption) hGx | exact Arr.nil _ | exact Arr.own hgx 903 rfl (by assumption) | exact Arr.own hgx 902 rfl (by assumption) | exact Arr.own hgx 44 rfl (by assumption) | exact Arr.own hgx 45 rfl (by assumption)) (by first | exact Arr.up (by assumption) hGx | exact Arr.nil _ | exact Arr.own hgx 903 rfl (by assumption) | exact Arr.own hgx 902 rfl (by assumption) | exact Arr.own hgx 44 rfl (by assumption) | exact Arr.own hgx 45 rfl (by assumption)) (by first | exact Arr.up (by assumption) hGx | exact Arr.nil _ | exact Arr.own hgx 903 rfl (by assumption) | exact Arr.own hgx 902 rfl (by assumption) | exact Arr.own hgx 44 rfl (by assumption) | exact Arr.own hgx 45 rfl (by assumption)) (by omega) (by omega))) (fun v1 Gx1 G1 Ho1 hlx1 hp => ?_)
         obtain ⟨rfl, rfl, rfl⟩ := hp
         refine Wl.want rfl rfl (Wl.q rfl (Qy.move rfl) (Wl.yes 99 rfl (by first | assumption | omega) ?_))
         refine Wl.pass rfl rfl rfl (Wl.pass rfl rfl rfl (Wl.want rfl rfl (Wl.q rfl (Qy.pick rfl rfl) (Wl.q rfl (Qy.pick rfl rfl) (Wl.q rfl (Qy.assign rfl) (Wl.done (Ar.next (Wc.condT rfl ?_))))))))
         refine Wc.seq (Wc.region rfl (Wl.q rfl (Qy.assign rfl) (Wl.done (Ar.next (Wc.seq (Wc.region rfl (Wl.q rfl (Qy.loadAll 40 T.agg25 rfl rfl rfl) ?_)))))))
         refine Wl.call 906 rfl T.fn23 rfl (hP _ (by assumption) _ _ _ _ (by assumption) (by assumption)) (tags_of trivial) (fun v4 G4 Ho4 hle4 hp => ?_)
         obtain ⟨qa4, qb4, qc4, qd4, rfl, hqA4, hqB4, rfl⟩ := hp
         replace hA2 := hA2.up hle4
         replace hA1 := hA1.up hle4
         replace hc := hc.up hle4
         replace ho := ho.up hle4
         refine Wl.q rfl (Qy.move rfl) (Wl.q rfl (Qy.extract rfl rfl) (Wl.q rfl (Qy.extract rfl rfl) ?_))
         refine Wl.storeAll 905 T.size25 rfl rfl rfl rfl rfl rfl ?_
         refine Wl.q rfl (Qy.assign rfl) (Wl.done (Ar.next (Wc.region rfl ?_)))
         refine Wl.store 47 T.one4 rfl rfl rfl rfl rfl ?_
         refine Wl.done ?_
         refine Ar.outNormal ?_
         refine Ar.next (Wc.seq (Wc.seq (Wc.region rfl (Wl.q rfl (Qy.move rfl) (Wl.q rfl (Qy.move rfl) (Wl.q rfl (Qy.neqSS rfl rfl) ?_))))))
         refine Wl.q rfl (Qy.move rfl) (Wl.want rfl rfl (Wl.q rfl (Qy.move rfl) (Wl.want rfl rfl (Wl.q rfl (Qy.neq rfl rfl) (Wl.q rfl (Qy.pick rfl rfl) (Wl.q rfl (Qy.move rfl) (Wl.no 136 rfl (by first | assumption | omega) ?_)))))))
         refine Wl.want rfl rfl (Wl.q rfl (Qy.loadAll 904 T.agg25 rfl rfl rfl) (Wl.want rfl rfl (Wl.q rfl (Qy.loadAll 905 T.agg25 rfl rfl rfl) (Wl.want rfl rfl ?_))))
         refine Wl.callB 906 rfl T.fn22 rfl (fun Gx hGx hgx => (c22 _ _ _ _ _ _ _ _ _ _ _ (by first | exact Arr.up (by assumption) hGx | exact Arr.nil _ | exact Arr.own hgx 903 rfl (by assumption) | exact Arr.own hgx 902 rfl (by assumption) | exact Arr.own hgx 44 rfl (by assumption) | exact Arr.own hgx 45 rfl (by assumption)) (by first | exact Arr.up (by assumption) hGx | exact Arr.nil _ | exact Arr.own hgx 903 rfl (by assumption) | exact Arr.own hgx 902 rfl (by assumption) | exact Arr.own hgx 44 rfl (by assumption) | exact Arr.own hgx 45 rfl (by assumption)) (by first | exact Arr.up (by assumption) hGx | exact Arr.nil _ | exact Arr.own hgx 903 rfl (by assumption) | exact Arr.own hgx 902 rfl (by assumption) | exact Arr.own hgx 44 rfl (by assumption) | exact Arr.own hgx 45 rfl (by assumption)) (by first | exact Arr.up (by assumption) hGx | exact Arr.nil _ | exact Arr.own hgx 903 rfl (by assumption) | exact Arr.own hgx 902 rfl (by assumption) | exact Arr.own hgx 44 rfl (by assumption) | exact Arr.own hgx 45 rfl (by assumption)) (by omega) (by omega))) (fun v2 Gx2 G2 Ho2 hlx2 hp => ?_)
         obtain ⟨rfl, rfl, rfl⟩ := hp
         refine Wl.want rfl rfl (Wl.q rfl (Qy.notD rfl) (Wl.q rfl (Qy.pick rfl rfl) (Wl.q rfl (Qy.move rfl) (Wl.no 142 rfl (by first | assumption | omega) ?_))))
         refine Wl.want rfl rfl (Wl.q rfl (Qy.load 5 T.one4 rfl rfl rfl) (Wl.want rfl rfl (Wl.q rfl (Qy.move rfl) (Wl.no 144 rfl (by first | assumption | omega) ?_))))
         refine Wl.pass rfl rfl rfl (Wl.pass rfl rfl rfl (Wl.pass rfl rfl rfl (Wl.pass rfl rfl rfl (Wl.pass rfl rfl rfl (Wl.want rfl rfl (Wl.q rfl (Qy.pick rfl rfl) (Wl.q rfl (Qy.pick rfl rfl) (Wl.done (Ar.next (Wc.condF rfl ?_))))))))))
         refine Wc.skip (Ar.next (Wc.seq (Wc.region rfl (Wl.q rfl (Qy.loadAll 905 T.agg25 rfl rfl rfl) ?_))))
         refine Wl.call 906 rfl T.fn21 rfl (c21 _ _ _ _ _ _ (by assumption) (by assumption) (by omega) (by omega)) (tags_of trivial) (fun v5 G5 Ho5 hle5 hp => ?_)
         obtain ⟨na5, nb5, nc5, nd5, nj5, nk5, rfl, hna5, hnb5, rfl, rfl⟩ := hp
         refine Wl.storeAll 40 T.size25 rfl rfl rfl rfl rfl rfl ?_
         refine Wl.done (Ar.next (Wc.seq (Wc.region rfl (Wl.q rfl (Qy.loadAll 904 T.agg25 rfl rfl rfl) ?_))))
         refine Wl.call 902 rfl T.fn27 rfl (c27 _ q _ _ _ _ _ _ hgd1 hgd2) (tags_of ⟨rfl, rfl, trivial⟩) (fun v8 G8 Ho8 hle8 hp => ?_)
         obtain ⟨rfl, rfl, rfl⟩ := hp
         refine Wl.done (Ar.next (Wc.region rfl (Wl.q rfl (Qy.load 46 T.one3 rfl rfl rfl) (Wl.q rfl (Qy.add rfl rfl (by omega)) ?_))))
         refine Wl.store 46 T.one3 rfl rfl rfl rfl rfl ?_
         refine Wl.done ?_
         refine Ar.outNormal ?_
         refine Ar.base ?_
         refine Ar.retag 916 41 rfl rfl (Ar.retag 917 42 rfl rfl ?_)
         refine Ar.reH 47 (.cells #[.bool (decide (n + 1 = lenR p + 1))] 4) rfl (by rw [decide_eq_true (by omega)]; rfl) ?_
         refine Ar.roundEnd none (.inl ⟨rfl, rfl⟩) 900 rfl ⟨rfl, ((n + 1, q, ⟨na5, nb5, nc5, nd5, nj5, nk5⟩, v, y2), none), rfl, .inl ⟨rfl, rfl, ?_⟩⟩ (Hp.got ⟨rfl, rfl, rfl, rfl, rfl, rfl, rfl, rfl, rfl, rfl, rfl, rfl, rfl, rfl, rfl, rfl, trivial⟩)
         exact ⟨rfl, by unfold zAt; rw [if_neg (by omega)]; exact hxe2, fun h => absurd h.2 (by omega), ⟨hna5, hnb5⟩, ho3, ho4⟩
       · have hn48 : n = 48 := by
          rcases last_yes p with h9 | h9
          · omega
          · exact absurd (by rw [hv ⟨by omega, by omega⟩, hzn, hne, hlr, show 3 * ((3 * lastR p + 3 - 1) / 3) = 3 * lastR p by omega]; exact h9.symm) hvz
         have t0 : ((n : Nat) : Int).tmod 3 = 0 := by rw [htm]; have : n % 3 = 0 := (by omega); rw [this]; rfl
         have n48 : ((n : Nat) : Int) = 48 := by omega
         obtain ⟨hv1, hv2⟩ := hvf (by omega) (by omega)
         have hP : ∀ (G9 : Imm) (_ : TabOk G9) (ac ao : Option Addr) (cc co : Nat), Arr G9 ac z.code → Arr G9 ao z.outs → Passes G9 23 z ac ao cc co q := fun G9 hT9 ac ao cc co h1 h2 => by
          rw [hxq]; exact c23A G9 z ac ao cc co h1 h2 hRz
         subst hxl
         refine Wc.seq (Wc.region rfl (Wl.q rfl (Qy.assign rfl) (Wl.done (Ar.next (Wc.region rfl ?_)))))
         refine Wl.alloc 904 rfl T.zero25 (fun b9 => ?_)
         refine Wl.storeAll 904 T.size25 rfl rfl rfl rfl rfl rfl ?_
         refine Wl.done (Ar.begin 900 rfl ?_)
         refine Wc.block (Wc.seq (Wc.region rfl (Wl.q rfl (Qy.assign rfl) (Wl.q rfl (Qy.assign rfl) (Wl.done (Ar.next (Wc.seq (Wc.region rfl (Wl.q rfl (Qy.build (cs := [_, _, _, _]) T.st25 rfl rfl rfl) ?_)))))))))
         refine Wl.alloc 905 rfl T.zero25 (fun b10 => ?_)
         refine Wl.storeAll 905 T.size25 rfl rfl rfl rfl rfl rfl ?_
         refine Wl.done (Ar.next (Wc.seq (Wc.block (Wc.seq (Wc.region rfl (Wl.q rfl (Qy.load 47 T.one4 rfl rfl rfl) (Wl.q rfl (Qy.assign rfl) (Wl.done (Ar.next (Wc.condF rfl ?_))))))))))
         refine Wc.seq (Wc.region rfl (Wl.q rfl (Qy.load 46 T.one3 rfl rfl rfl) (Wl.q rfl (Qy.urem rfl rfl (by omega)) ?_)))
         refine Wl.q rfl (Qy.eql rfl rfl) (Wl.q rfl (Qy.move rfl) (Wl.yes 91 rfl (by first | assumption | omega) ?_))
         refine Wl.want rfl rfl (Wl.q rfl (Qy.load 46 T.one3 rfl rfl rfl) (Wl.want rfl rfl (Wl.q rfl (Qy.gtr rfl rfl) (Wl.q rfl (Qy.pick rfl rfl) (Wl.q rfl (Qy.move rfl) (Wl.yes 95 rfl (by first | assumption | omega) ?_))))))
         refine Wl.want rfl rfl (Wl.q rfl (Qy.loadAll 43 T.agg25 rfl rfl rfl) (Wl.want rfl rfl (Wl.q rfl (Qy.loadAll 40 T.agg25 rfl rfl rfl) (Wl.want rfl rfl ?_))))
         refine Wl.callB 906 rfl T.fn22 rfl (fun Gx hGx hgx => (c22 _ _ _ _ _ _ _ _ _ _ _ (by first | exact Arr.up (by assumption) hGx | exact Arr.nil _ | exact Arr.own hgx 903 rfl (by assumption) | exact Arr.own hgx 902 rfl (by assumption) | exact Arr.own hgx 44 rfl (by assumption) | exact Arr.own hgx 45 rfl (by assumption)) (by first | exact Arr.up (by assumption) hGx | exact Arr.nil _ | exact Arr.own hgx 903 rfl (by assumption) | exact Arr.own hgx 902 rfl (by assumption) | exact Arr.own hgx 44 rfl (by assumption) | exact Arr.own hgx 45 rfl (by assumption)) (by first | exact Arr.up (by assumption) hGx | exact Arr.nil _ | exact Arr.own hgx 903 rfl (by assumption) | exact Arr.own hgx 902 rfl (by assumption) | exact Arr.own hgx 44 rfl (by assumption) | exact Arr.own hgx 45 rfl (by assumption)) (by first | exact Arr.up (by assumption) hGx | exact Arr.nil _ | exact Arr.own hgx 903 rfl (by assumption) | exact Arr.own hgx 902 rfl (by assumption) | exact Arr.own hgx 44 rfl (by assumption) | exact Arr.own hgx 45 rfl (by assumption)) (by omega) (by omega))) (fun v1 Gx1 G1 Ho1 hlx1 hp => ?_)
         obtain ⟨rfl, rfl, rfl⟩ := hp
         refine Wl.want rfl rfl (Wl.q rfl (Qy.move rfl) (Wl.no 99 rfl (by first | assumption | omega) ?_))
         refine Wl.want rfl rfl (Wl.q rfl (Qy.load 46 T.one3 rfl rfl rfl) (Wl.want rfl rfl (Wl.q rfl (Qy.eql rfl rfl) (Wl.want rfl rfl (Wl.q rfl (Qy.pick rfl rfl) (Wl.q rfl (Qy.pick rfl rfl) (Wl.q rfl (Qy.assign rfl) (Wl.done (Ar.next (Wc.condP rfl (by first | assumption | omega) ?_))))))))))
         refine Wc.seq (Wc.region rfl (Wl.q rfl (Qy.assign rfl) (Wl.done (Ar.next (Wc.seq (Wc.region rfl (Wl.q rfl (Qy.loadAll 40 T.agg25 rfl rfl rfl) ?_)))))))
         refine Wl.call 906 rfl T.fn23 rfl (hP _ (by assumption) _ _ _ _ (by assumption) (by assumption)) (tags_of trivial) (fun v4 G4 Ho4 hle4 hp => ?_)
         obtain ⟨qa4, qb4, qc4, qd4, rfl, hqA4, hqB4, rfl⟩ := hp
         replace hA2 := hA2.up hle4
         replace hA1 := hA1.up hle4
         replace hc := hc.up hle4
         replace ho := ho.up hle4
         refine Wl.q rfl (Qy.move rfl) (Wl.q rfl (Qy.extract rfl rfl) (Wl.q rfl (Qy.extract rfl rfl) ?_))
         refine Wl.storeAll 905 T.size25 rfl rfl rfl rfl rfl rfl ?_
         refine Wl.q rfl (Qy.assign rfl) (Wl.done (Ar.next (Wc.region rfl ?_)))
         refine Wl.store 47 T.one4 rfl rfl rfl rfl rfl ?_
         refine Wl.done ?_
         refine Ar.outNormal ?_
         refine Ar.next (Wc.seq (Wc.seq (Wc.region rfl (Wl.q rfl (Qy.move rfl) (Wl.q rfl (Qy.move rfl) (Wl.q rfl (Qy.neqSS rfl rfl) ?_))))))
         refine Wl.q rfl (Qy.move rfl) (Wl.want rfl rfl (Wl.q rfl (Qy.move rfl) (Wl.want rfl rfl (Wl.q rfl (Qy.neq rfl rfl) (Wl.q rfl (Qy.pick rfl rfl) (Wl.q rfl (Qy.move rfl) (Wl.no 136 rfl (by first | assumption | omega) ?_)))))))
         refine Wl.want rfl rfl (Wl.q rfl (Qy.loadAll 904 T.agg25 rfl rfl rfl) (Wl.want rfl rfl (Wl.q rfl (Qy.loadAll 905 T.agg25 rfl rfl rfl) (Wl.want rfl rfl ?_))))
         refine Wl.callB 906 rfl T.fn22 rfl (fun Gx hGx hgx => (c22 _ _ _ _ _ _ _ _ _ _ _ (by first | exact Arr.up (by assumption) hGx | exact Arr.nil _ | exact Arr.own hgx 903 rfl (by assumption) | exact Arr.own hgx 902 rfl (by assumption) | exact Arr.own hgx 44 rfl (by assumption) | exact Arr.own hgx 45 rfl (by assumption)) (by first | exact Arr.up (by assumption) hGx | exact Arr.nil _ | exact Arr.own hgx 903 rfl (by assumption) | exact Arr.own hgx 902 rfl (by assumption) | exact Arr.own hgx 44 rfl (by assumption) | exact Arr.own hgx 45 rfl (by assumption)) (by first | exact Arr.up (by assumption) hGx | exact Arr.nil _ | exact Arr.own hgx 903 rfl (by assumption) | exact Arr.own hgx 902 rfl (by assumption) | exact Arr.own hgx 44 rfl (by assumption) | exact Arr.own hgx 45 rfl (by assumption)) (by first | exact Arr.up (by assumption) hGx | exact Arr.nil _ | exact Arr.own hgx 903 rfl (by assumption) | exact Arr.own hgx 902 rfl (by assumption) | exact Arr.own hgx 44 rfl (by assumption) | exact Arr.own hgx 45 rfl (by assumption)) (by omega) (by omega))) (fun v2 Gx2 G2 Ho2 hlx2 hp => ?_)
         obtain ⟨rfl, rfl, rfl⟩ := hp
         refine Wl.want rfl rfl (Wl.q rfl (Qy.notD rfl) (Wl.q rfl (Qy.pick rfl rfl) (Wl.q rfl (Qy.move rfl) (Wl.no 142 rfl (by first | assumption | omega) ?_))))
         refine Wl.want rfl rfl (Wl.q rfl (Qy.load 5 T.one4 rfl rfl rfl) (Wl.want rfl rfl (Wl.q rfl (Qy.move rfl) (Wl.no 144 rfl (by first | assumption | omega) ?_))))
         refine Wl.pass rfl rfl rfl (Wl.pass rfl rfl rfl (Wl.pass rfl rfl rfl (Wl.pass rfl rfl rfl (Wl.pass rfl rfl rfl (Wl.want rfl rfl (Wl.q rfl (Qy.pick rfl rfl) (Wl.q rfl (Qy.pick rfl rfl) (Wl.done (Ar.next (Wc.condF rfl ?_))))))))))
         refine Wc.skip (Ar.next (Wc.seq (Wc.region rfl (Wl.q rfl (Qy.loadAll 905 T.agg25 rfl rfl rfl) ?_))))
         refine Wl.call 906 rfl T.fn21 rfl (c21 _ _ _ _ _ _ (by assumption) (by assumption) (by omega) (by omega)) (tags_of trivial) (fun v5 G5 Ho5 hle5 hp => ?_)
         obtain ⟨na5, nb5, nc5, nd5, nj5, nk5, rfl, hna5, hnb5, rfl, rfl⟩ := hp
         refine Wl.storeAll 40 T.size25 rfl rfl rfl rfl rfl rfl ?_
         refine Wl.done (Ar.next (Wc.seq (Wc.region rfl (Wl.q rfl (Qy.loadAll 904 T.agg25 rfl rfl rfl) ?_))))
         refine Wl.call 902 rfl T.fn27 rfl (c27 _ q _ _ _ _ _ _ hgd1 hgd2) (tags_of ⟨rfl, rfl, trivial⟩) (fun v8 G8 Ho8 hle8 hp => ?_)
         obtain ⟨rfl, rfl, rfl⟩ := hp
         refine Wl.done (Ar.next (Wc.region rfl (Wl.q rfl (Qy.load 46 T.one3 rfl rfl rfl) (Wl.q rfl (Qy.add rfl rfl (by omega)) ?_))))
         refine Wl.store 46 T.one3 rfl rfl rfl rfl rfl ?_
         refine Wl.done ?_
         refine Ar.outNormal ?_
         refine Ar.base ?_
         refine Ar.retag 916 41 rfl rfl (Ar.retag 917 42 rfl rfl ?_)
         refine Ar.reH 47 (.cells #[.bool (decide (n + 1 = lenR p + 1))] 4) rfl (by rw [decide_eq_true (by omega)]; rfl) ?_
         refine Ar.roundEnd none (.inl ⟨rfl, rfl⟩) 900 rfl ⟨rfl, ((n + 1, q, ⟨na5, nb5, nc5, nd5, nj5, nk5⟩, v, y2), none), rfl, .inl ⟨rfl, rfl, ?_⟩⟩ (Hp.got ⟨rfl, rfl, rfl, rfl, rfl, rfl, rfl, rfl, rfl, rfl, rfl, rfl, rfl, rfl, rfl, rfl, trivial⟩)
         exact ⟨rfl, by unfold zAt; rw [if_neg (by omega)]; exact hxe2, fun h => absurd h.2 (by omega), ⟨hna5, hnb5⟩, ho3, ho4⟩
 · obtain ⟨hn, hz, hv, ⟨ho1, ho2⟩, ho3, ho4⟩ := hi
   have hnl := rounds_len p
   have hlz : lq = z := by rw [hz, hlq]; unfold zAt; rw [if_neg (by omega)]
   have hRz : rightP z = true := by rw [← hlz, hlq]; unfold lastP; exact order_right (now_right hR _)
   obtain ⟨z1, z2, z3, z4, z5, z6, z7, z8⟩ := right_facts hRz
   refine Ar.reH 47 (.cells #[.bool true] 4) rfl (by rw [decide_eq_true (by omega)]) ?_
   refine Ar.outNormal ?_
   refine Ar.next (Wc.seq (Wc.region rfl ?_))
   refine Wl.alloc 902 rfl T.zero3 (fun b9 => ?_)
   refine Wl.store 902 T.one3 rfl rfl rfl rfl rfl ?_
   refine Wl.done (Ar.next (Wc.seq (Wc.seq (Wc.region rfl (Wl.q rfl (Qy.move rfl) (Wl.done (Ar.next (Wc.block ?_))))))))
   refine Wc.rangeGives (ι := Nat) 930 931 932 933 (fun i => [(902, some b9, .cells #[.int .i64 (i : Int)] 3), (47, Option.some b8, Go.Obj.cells #[Go.Value.bool Bool.true] 4), (901, Option.some dd, Go.Obj.deferred (Option.some [])), (40, Option.some bn, Go.Obj.cells #[Go.Value.int Go.IntKind.i64 (PV.ins z), Go.Value.int Go.IntKind.i64 (PV.regs z), Go.Value.slice (PA.a y1) (List.length (PV.code z)) (PA.c y1), Go.Value.slice (PA.b y1) (List.length (PV.outs z)) (PA.d y1)] 25), (41, Option.map (fun x => Go.Addr.block x) (PA.a y1), Go.Sl.Row (α := Go.Sl.Instr) 55 (PV.code z) (PA.j y1)), (42, Option.map (fun x => Go.Addr.block x) (PA.b y1), Go.Sl.Row (α := Int) 3 (PV.outs z) (PA.k y1)), (43, Option.some bw, Go.Obj.cells #[Go.Value.int Go.IntKind.i64 (PV.ins v), Go.Value.int Go.IntKind.i64 (PV.regs v), Go.Value.slice (PA.a y2) (List.length (PV.code v)) (PA.c y2), Go.Value.slice (PA.b y2) (List.length (PV.outs v)) (PA.d y2)] 25), (44, Option.map (fun x => Go.Addr.block x) (PA.a y2), Go.Sl.Row (α := Go.Sl.Instr) 55 (PV.code v) (PA.j y2)), (45, Option.map (fun x => Go.Addr.block x) (PA.b y2), Go.Sl.Row (α := Int) 3 (PV.outs v) (PA.k y2)), (46, Option.some b7, Go.Obj.cells #[Go.Value.int Go.IntKind.i64 (↑n : Int)] 3), (5, Option.some b6, Go.Obj.cells (List.toArray (List.set [Go.Value.bool Bool.false] 0 (Go.Value.bool (Decidable.decide (Fit ls ∧ (↑(List.length gl) : Int) = PV.ins p))))) 4), (4, Option.some b5, Go.Obj.cells #[Go.Value.int Go.IntKind.i64 (PV.ins lq), Go.Value.int Go.IntKind.i64 (PV.regs lq), Go.Value.slice la (List.length (PV.code lq)) lc, Go.Value.slice lb (List.length (PV.outs lq)) ld] 25), (3, Option.some b4, Go.Obj.cells (List.toArray (List.set [Go.Value.slice Option.none 0 0] 0 (Go.Value.slice go1 gn1 gc1))) 42), (2, Option.some b3, Go.Obj.cells #[Go.Value.bool Bool.false] 4), (1, Option.some b2, Go.Obj.cells #[Go.Value.int Go.IntKind.i64 st] 3), (0, Option.some b1, Go.Obj.cells #[Go.Value.int Go.IntKind.i64 (PV.ins p), Go.Value.int Go.IntKind.i64 (PV.regs p), Go.Value.slice ac (List.length (PV.code p)) cc, Go.Value.slice ao (List.length (PV.outs p)) co] 25)]) (fun k i => i = k ∧ k ≤ (roundsP p).length) (fun c i => c = Code.exit 5 ∧ (i : Int) = st) (0) rfl T.fn43 (fun _ _ => rfl) rfl (c43R _ hT3 p _ _ _ _ _ hc ho hbi3 hR) (⟨rfl, Nat.zero_le _⟩) (Hp.got ⟨rfl, rfl, rfl, rfl, rfl, rfl, rfl, rfl, rfl, rfl, rfl, rfl, rfl, rfl, rfl, rfl, trivial⟩) ⟨rfl, fun _ => rfl⟩ rfl (fun k xk yk i l dd qq w0 hx hgd hi => ?_) (fun i dd hi => ?_) (fun i dd c hi => ?_)
   · obtain ⟨rfl, hik⟩ := hi
     have hlt := (List.getElem?_eq_some_iff.1 hx).1
     have h48 := len_le p
     refine Wc.skip (Ar.begin 930 rfl ?_)
     refine Wc.block (Wc.seq (Wc.region rfl (Wl.q rfl (Qy.load 902 T.one3 rfl rfl rfl) (Wl.q rfl (Qy.add rfl rfl (by omega)) ?_))))
     refine Wl.store 902 T.one3 rfl rfl rfl rfl rfl ?_
     refine Wl.done (Ar.next (Wc.seq (Wc.region rfl (Wl.q rfl (Qy.load 902 T.one3 rfl rfl rfl) (Wl.q rfl (Qy.load 1 T.one3 rfl rfl rfl) (Wl.q rfl (Qy.eql rfl rfl) (Wl.done (Ar.next ?_))))))))
     refine Wc.cond rfl (fun hc2 => ?_) (fun hc2 => ?_)
     refine Wc.exit ?_
     refine Ar.outExit rfl ?_
     rotate_left
     refine Wc.skip ?_
     refine Ar.outNormal ?_
     rotate_left
     · refine Ar.base ?_
       refine Ar.roundEnd (some (.exit 5)) (.inr (.inr ⟨_, rfl, rfl⟩)) 930 rfl ⟨rfl, (i + 1, some (.exit 5)), rfl, .inr ⟨rfl, _, rfl, ?_⟩⟩ (Hp.got ⟨rfl, rfl, rfl, rfl, rfl, rfl, rfl, rfl, rfl, rfl, rfl, rfl, rfl, rfl, rfl, rfl, rfl, rfl, trivial⟩)
       exact ⟨rfl, by omega⟩
     · refine Ar.base ?_
       refine Ar.roundEnd none (.inl ⟨rfl, rfl⟩) 930 rfl ⟨rfl, (i + 1, none), rfl, .inl ⟨rfl, rfl, ?_⟩⟩ (Hp.got ⟨rfl, rfl, rfl, rfl, rfl, rfl, rfl, rfl, rfl, rfl, rfl, rfl, rfl, rfl, rfl, rfl, rfl, rfl, trivial⟩)
       exact ⟨rfl, by omega⟩
   · obtain ⟨hik, _⟩ := hi
     refine Ar.outNormal ?_
     refine Ar.next (Wc.seq (Wc.region rfl (Wl.q rfl (Qy.load 47 T.one4 rfl rfl rfl) (Wl.q rfl (Qy.move rfl) (Wl.want rfl rfl (Wl.q rfl (Qy.move rfl) (Wl.want rfl rfl (Wl.q rfl (Qy.eql rfl rfl) (Wl.q rfl (Qy.pick rfl rfl) (Wl.q rfl (Qy.move rfl) (Wl.yes 171 rfl (by first | assumption | omega) ?_)))))))))))
     refine Wl.want rfl rfl (Wl.q rfl (Qy.loadAll 4 T.agg25 rfl rfl rfl) (Wl.want rfl rfl (Wl.q rfl (Qy.loadAll 40 T.agg25 rfl rfl rfl) (Wl.want rfl rfl ?_))))
     refine Wl.callB 932 rfl T.fn22 rfl (fun Gx hGx hgx => (c22 _ _ _ _ _ _ _ _ _ _ _ (Arr.up (by assumption) hGx) (Arr.up (by assumption) hGx) (Arr.own hgx 41 rfl (by assumption)) (Arr.own hgx 42 rfl (by assumption)) (by first | omega | (rw [hlz]; omega)) (by first | omega | (rw [hlz]; omega)))) (fun v1 Gx1 G1 Ho1 hlx1 hp => ?_)
     obtain ⟨rfl, rfl, rfl⟩ := hp
     refine Wl.q rfl (Qy.pick rfl rfl) (Wl.q rfl (Qy.move rfl) (Wl.yes 176 rfl (by first | assumption | omega) ?_))
     refine Wl.want rfl rfl (Wl.q rfl (Qy.load 902 T.one3 rfl rfl rfl) (Wl.want rfl rfl (Wl.q rfl (Qy.load 1 T.one3 rfl rfl rfl) (Wl.want rfl rfl (Wl.q rfl (Qy.eql rfl rfl) (Wl.want rfl rfl (Wl.q rfl (Qy.move rfl) ?_)))))))
     apply Wl.joinOr 4 180 184 rfl
     intro hg1
     refine Wl.want rfl rfl (Wl.q rfl (Qy.load 902 T.one3 rfl rfl rfl) (Wl.want rfl rfl (Wl.q rfl (Qy.load 46 T.one3 rfl rfl rfl) (Wl.want rfl rfl (Wl.q rfl (Qy.eql rfl rfl) (Wl.want rfl rfl (Wl.q rfl (Qy.pick rfl rfl) ?_)))))))
     exact Wl.back 4 0 rfl rfl rfl rfl rfl
     intro hg1
     refine Wl.pass rfl rfl rfl (Wl.pass rfl rfl rfl (Wl.pass rfl rfl rfl (Wl.want rfl rfl (Wl.q rfl (Qy.pick rfl rfl) ?_))))
     exact Wl.back 4 0 rfl rfl rfl rfl rfl
     refine Wl.q rfl (Qy.pick rfl rfl) ?_
     refine Wl.store 2 T.one4 rfl rfl rfl rfl rfl ?_
     refine Wl.done (Ar.next (Wc.ret (Ar.collect (.inr rfl) 931 rfl ?_)))
     refine Ar.collect (.inr rfl) 901 rfl ?_
     refine Ar.outOf (.inr rfl) ?_
     refine Ar.out1 (.inr rfl) (Ho := []) rfl (.one 2 rfl rfl T.one4 rfl) trivial ?_
     rw [decide_eq_true (.inr (by omega))]
   · obtain ⟨rfl, hist⟩ := hi
     refine Wc.exit (Ar.here ?_)
     refine Ar.next (Wc.seq (Wc.region rfl (Wl.q rfl (Qy.load 47 T.one4 rfl rfl rfl) (Wl.q rfl (Qy.move rfl) (Wl.want rfl rfl (Wl.q rfl (Qy.move rfl) (Wl.want rfl rfl (Wl.q rfl (Qy.eql rfl rfl) (Wl.q rfl (Qy.pick rfl rfl) (Wl.q rfl (Qy.move rfl) (Wl.yes 171 rfl (by first | assumption | omega) ?_)))))))))))
     refine Wl.want rfl rfl (Wl.q rfl (Qy.loadAll 4 T.agg25 rfl rfl rfl) (Wl.want rfl rfl (Wl.q rfl (Qy.loadAll 40 T.agg25 rfl rfl rfl) (Wl.want rfl rfl ?_))))
     refine Wl.callB 932 rfl T.fn22 rfl (fun Gx hGx hgx => (c22 _ _ _ _ _ _ _ _ _ _ _ (Arr.up (by assumption) hGx) (Arr.up (by assumption) hGx) (Arr.own hgx 41 rfl (by assumption)) (Arr.own hgx 42 rfl (by assumption)) (by first | omega | (rw [hlz]; omega)) (by first | omega | (rw [hlz]; omega)))) (fun v1 Gx1 G1 Ho1 hlx1 hp => ?_)
     obtain ⟨rfl, rfl, rfl⟩ := hp
     refine Wl.q rfl (Qy.pick rfl rfl) (Wl.q rfl (Qy.move rfl) (Wl.yes 176 rfl (by first | assumption | omega) ?_))
     refine Wl.want rfl rfl (Wl.q rfl (Qy.load 902 T.one3 rfl rfl rfl) (Wl.want rfl rfl (Wl.q rfl (Qy.load 1 T.one3 rfl rfl rfl) (Wl.want rfl rfl (Wl.q rfl (Qy.eql rfl rfl) (Wl.want rfl rfl (Wl.q rfl (Qy.move rfl) (Wl.yes 180 rfl (by first | assumption | omega) ?_))))))))
     refine Wl.pass rfl rfl rfl (Wl.pass rfl rfl rfl (Wl.pass rfl rfl rfl (Wl.want rfl rfl (Wl.q rfl (Qy.pick rfl rfl) (Wl.q rfl (Qy.pick rfl rfl) ?_)))))
     refine Wl.store 2 T.one4 rfl rfl rfl rfl rfl ?_
     refine Wl.done (Ar.next (Wc.ret (Ar.collect (.inr rfl) 931 rfl ?_)))
     refine Ar.collect (.inr rfl) 901 rfl ?_
     refine Ar.outOf (.inr rfl) ?_
     refine Ar.out1 (.inr rfl) (Ho := []) rfl (.one 2 rfl rfl T.one4 rfl) trivial ?_
     rfl
 · exact hi.elim
theorem c4 (G : Imm) (hT : TabOk G) (p : PV) (ac ao ga : Option Addr) (cc co gc : Nat) (gl : List SV) (ls : List (List Int)) (st : Int) (hc : Arr G ac p.code) (ho : Arr G ao p.outs) (hga : Arr G ga gl) (hg : IGrid G gl ls) (h1 : p.code.length ≤ 1048576) (h2 : p.outs.length ≤ 1048576) (h3 : gl.length ≤ 1099511627776) (h4 : ∀ l ∈ ls, l.length ≤ 1099511627776) :
 Does Tryd.prog 4 [.agg #[.int .i64 p.ins, .int .i64 p.regs, .slice ac p.code.length cc, .slice ao p.outs.length co], .slice ga gl.length gc, .int .i64 st] G [] (fun v G' Ho => v = .bool true) := by
 by_cases hR : rightP p = true
 · exact c4R G hT p ac ao ga cc co gc gl ls st hc ho hga hg h3 h4 hR
 · exact c4W G p ac ao ga cc co gc gl ls st hc ho hga hg h1 h2 h3 h4 hR
end Go.Proofs.YtbppmiimeccclaaDoor
