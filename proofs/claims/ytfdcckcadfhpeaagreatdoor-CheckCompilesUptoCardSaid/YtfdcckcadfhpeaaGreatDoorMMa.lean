/- uJ of the proof (part 1): what the rows' text needs of the texts that lead to it. -/
import Derived.CallsIn
import Derived.OrdersIn
import Derived.TacticsIn
import Derived.RangeFuncIn
import Derived.RangeFuncLeaves
import Derived.Laws.World
import Derived.Laws.Sem
import Derived.WalkKit
import Derived.Laws.StructEq
import Derived.Great.FillDense
import Derived.Laws.Slices
import Derived.Great.BuildSlice
import Derived.MapKept
import Derived.WideKeyRuns
import Derived.RangeFuncRecord
import Derived.RangeFuncNested
import Derived.Laws.Bits64b
import Derived.Test.YtfdcckcadfhpeaaGreatDoorProg
import Derived.JoinedCond
import Derived.Carry
import Derived.ChangeSame
import Derived.ChangeShapes
import Derived.RowKit
import Derived.Deep.Slices
import Derived.Test.YtfdcckcadfhpeaaGreatDoorCards
import Derived.Test.YtfdcckcadfhpeaaGreatDoorTie
import Derived.Test.YtfdcckcadfhpeaaGreatDoorRows
import Derived.Lib.SmallJoins
import Derived.Deep.DeepHandedRow
import Derived.Lib.LaidTab
import Derived.Test.YtfdcckcadfhpeaaGreatDoorIy
import Derived.Test.YtfdcckcadfhpeaaGreatDoorGm
import Derived.KernelRfl
import Derived.Laws.BitsLemmas
import Derived.Deep.AppendSrc
set_option linter.unusedVariables false
set_option linter.unusedSimpArgs false
set_option linter.unusedSectionVars false
set_option maxHeartbeats 4000000
set_option maxRecDepth 100000
namespace Go
abbrev U:=@rfl
abbrev I3:=trivial
abbrev I6:=Go.Program
abbrev I7:=Go.Operand
abbrev I8:=Go.World
abbrev I9:=Go.TypeId
abbrev J0:=@Option
theorem sU {p:Prop} (h:p:=by omega):p:=h
theorem Ff {p:Prop} (h:p:=by first | assumption | exact Lu Vt):p:=h
theorem yF {p:Prop} (h:p:=by first | exact A2.le_refl _ | repeat (first | assumption | refine A2.le_trans ?_ sV)):p:=h
theorem Qj {p:Prop} (h:p:=by first | exact Arr.up sV hGx | exact Arr.nil _ | exact Arr.own hgx 76 U Ff | exact Arr.own hgx 81 U Ff | exact Arr.own hgx 7 U Ff | exact Arr.own hgx 2 U Ff | exact Arr.own hgx 72 U Ff | exact Arr.own hgx 10 U Ff | exact Arr.own hgx 13 U Ff):p:=h
theorem Qk {p:Prop} (h:p:=by first | exact Arr.up sV hGx | exact Arr.nil _ | exact Arr.own hgx 76 U Ff | exact Arr.own hgx 81 U Ff | exact Arr.own hgx 13 U Ff | exact Arr.own hgx 10 U Ff | exact Arr.own hgx 72 U Ff | exact Arr.own hgx 2 U Ff | exact Arr.own hgx 7 U Ff):p:=h
theorem sX {p:Prop} (h:p:=by kernel_rfl):p:=h
theorem Al {p:Prop} (h:p:=by repeat (first | exact GS _ _ | refine GU U ?_)):p:=h
theorem Us {p:Prop} (h:p:=by first | exact I3 | with_reducible rfl | assumption | exact cL xL | exact bN xL | omega | rfl):p:=h
theorem xL {p:Prop} (h:p:=by first | assumption | omega):p:=h
theorem Vp {p:Prop} (h:p:=by first | rfl | (rw [aG];first | rfl | (rw [bN hL];rfl) | (rw [cL hL];rfl) | (rw [bN hO];rfl) | (rw [cL hO];rfl))):p:=h
theorem Am {p:Prop} (h:p:=by first | exact .inl U | exact .inr U):p:=h
theorem tI {p:Prop} (h:p:=by decide):p:=h
theorem Hl {p:Prop} (h:p:=by repeat (first | assumption | refine A2.le_trans ?_ sV)):p:=h
theorem IW {p:Prop} (h:p:=by first | exact Arr.up sV hGx | exact Arr.nil _ | exact Arr.own hgx 2 U Ff | exact Arr.own hgx 7 U Ff | exact Arr.own hgx 10 U Ff | exact Arr.own hgx 13 U Ff):p:=h
theorem Vq {p:Prop} (h:p:=by first | omega | (simp only [aD,aU,cD,maxLen];omega)):p:=h
theorem Nt {p:Prop} (h:p:=by apply c72 <;> first | assumption | omega | rfl):p:=h
theorem xI {p:Prop} (h:p:=by decide +kernel):p:=h
theorem tW {p:Prop} (h:p:=by simp):p:=h
theorem Fc {p:Prop} (h:p:=by rw [aI]):p:=h
theorem IX {p:Prop} (h:p:=by simp only [aD,aU,cD];omega):p:=h
theorem BL {p:Prop} (h:p:=by apply c70 <;> first | assumption | omega | rfl):p:=h
theorem Ql {p:Prop} (h:p:=by rw [aM];omega):p:=h
theorem Qm {p:Prop} (h:p:=by rw [aT];omega):p:=h
theorem Qn {p:Prop} (h:p:=by unfold near at hp;omega):p:=h
theorem Vr {p:Prop} (h:p:=by rw [aU];omega):p:=h
theorem IY {p:Prop} (h:p:=by rw [cD];simp only [maxLen];omega):p:=h
theorem PQ {p:Prop} (h:p:=by first | omega | (simp only [aU,cD];omega)):p:=h
theorem Qo {p:Prop} (h:p:=by simp only [maxLen];omega):p:=h
theorem yA {p:Prop} (h:p:=by cases h):p:=h
theorem PR {p:Prop} (h:p:=by first | assumption | exact A3.nil | exact Lu tW):p:=h
theorem Vs {p:Prop} (h:p:=by unfold near at *;omega):p:=h
theorem BM {p:Prop} (h:p:=by rw [eK];omega):p:=h
theorem PS {p:Prop} (h:p:=by first | assumption | exact aH _):p:=h
theorem IZ {p:Prop} (h:p:=by rw [cD];omega):p:=h
theorem PT {p:Prop} (h:p:=by rw [nL w (ρ t).1 _ _ bt _ g1]):p:=h
theorem Jl {p:Prop} (h:p:=by cases ht):p:=h
theorem Nu {p:Prop} (h:p:=by simp [hp]):p:=h
theorem ai {p:Prop} (h:p:=by unfold tM;rw [aE h34];exact aL _ aQ):p:=h
theorem Vt {p:Prop} (h:p:=by simp [maxLen]):p:=h
theorem aj {p:Prop} (h:p:=by first | exact I3 | with_reducible rfl | assumption | omega | rfl):p:=h
theorem BN {p:Prop} (h:p:=by rw [hsz];omega):p:=h
theorem sV {p:Prop} (h:p:=by assumption):p:=h
end Go
namespace Go.Sl
abbrev aA:=@List.getElem?_eq_getElem
abbrev aC:=@if_neg
abbrev aD:=@List.length_append
abbrev aE:=@if_pos
abbrev aF:=@Bool.and_eq_true
abbrev aG:=@Int.toNat_natCast
abbrev aH:=@Nat.le_refl
abbrev aI:=@List.length_set
abbrev aJ:=@Nat.eq_of_beq_eq_true
abbrev aL:=@List.mem_cons_of_mem
abbrev aM:=@List.length_replicate
abbrev aN:=@Nat.lt_or_ge
abbrev aO:=@decide_eq_true_eq
abbrev aP:=@Nat.zero_le
abbrev aQ:=@List.mem_cons_self
abbrev aR:=@Go.Result.andThen_ok
abbrev aT:=@List.length_map
abbrev aU:=@List.length_cons
abbrev aW:=@List.getElem?_eq_some_iff
abbrev bA:=@List.append_assoc
abbrev bB:=@Go.run_underlying
abbrev bC:=@List.getElem?_append_left
abbrev bD:=@Nat.le_of_ble_eq_true
abbrev bI:=@List.take_length
abbrev bK:=@Go.Sem.run_bind
abbrev bM:=@List.length_take
abbrev bN:=@decide_eq_false
abbrev bO:=@Go.Sem.run_pure
abbrev bP:=@Nat.le_trans
abbrev bQ:=@List.getElem?_map
abbrev bR:=@Decidable.not_not
abbrev bT:=@Int.mul_assoc
abbrev bU:=@Option.some.injEq
abbrev bV:=@List.getElem?_eq_none
abbrev bX:=@Array.getElem?_eq_some_iff
abbrev bY:=@List.getElem_mem
abbrev bZ:=@Nat.lt_of_lt_of_le
abbrev cA:=@Int.mul_zero
abbrev cD:=@List.length_nil
abbrev cE:=@List.getElem?_set
abbrev cK:=@List.append_nil
abbrev cL:=@decide_eq_true
abbrev cM:=@List.length_range
abbrev cN:=@Int.toNat_of_nonneg
abbrev cP:=@Nat.zero_add
abbrev cR:=@Nat.lt_succ_self
abbrev cS:=@List.getElem?_append_right
abbrev cT:=@List.mem_map
abbrev cV:=@Classical.byContradiction
abbrev dA:=@List.take_add_one
abbrev dC:=@List.drop_eq_getElem_cons
abbrev dD:=@List.mem_cons
abbrev dH:=@Int.mul_comm
abbrev dI:=@Option.getD_some
abbrev dO:=@Nat.le_succ
abbrev dP:=@List.take_zero
abbrev dQ:=@List.all_eq_true
abbrev dR:=@List.mem_append
abbrev dT:=@List.eq_nil_of_length_eq_zero
abbrev dU:=@List.take_of_length_le
abbrev dV:=@Int.add_zero
abbrev dX:=@Option.bind_some
abbrev dY:=@List.map_cons
abbrev dZ:=@List.getElem?_replicate
abbrev eD:=@List.mem_singleton
abbrev eF:=@List.getElem?_range
abbrev eI:=@Prod.mk.injEq
abbrev eK:=@List.length_drop
abbrev eM:=@List.mem_or_eq_of_mem_set
abbrev eN:=@Int.one_mul
abbrev eQ:=@if_false
abbrev eR:=@Int.zero_mul
abbrev eV:=@Int.mul_add
abbrev eW:=@Bool.not_eq_true'
abbrev eZ:=@List.take_append_drop
abbrev fA:=@decide_eq_false_iff_not
abbrev fC:=@Nat.add_mul
abbrev fE:=@Int.mul_le_mul_of_nonneg_left
abbrev fJ:=@List.nil_append
abbrev fK:=@Option.map_eq_some_iff
abbrev fL:=@List.ext_getElem?
abbrev fM:=@Int.natAbs_mul
abbrev fN:=@Int.le_of_lt
abbrev fQ:=@Nat.eq_zero_or_pos
abbrev fV:=@Option.map_some
abbrev fW:=@Nat.min_eq_left
abbrev fX:=@Go.mem_ready
abbrev fZ:=@List.take_append_of_le_length
abbrev gB:=@List.findIdx?_eq_none_iff
abbrev gC:=@Go.MapKept.run_getObj_map
abbrev gE:=@List.getElem_map
abbrev gF:=@List.length_singleton
abbrev gH:=@List.take_succ_eq_append_getElem
abbrev gI:=@Int.pow_succ
abbrev gJ:=@Array.getD_eq_getD_getElem?
abbrev gL:=@if_true
abbrev gO:=@Nat.mul_le_mul
abbrev gP:=@List.mem_iff_getElem
abbrev gQ:=@Go.World.putObj_heap_same
abbrev gR:=@Go.MapKept.run_setObj_map
abbrev gS:=@List.ext_getElem
abbrev gT:=@List.drop_eq_nil_of_le
abbrev gU:=@Array.getElem?_eq_none
abbrev gX:=@of_decide_eq_true
abbrev hJ:=@List.drop_append_of_le_length
abbrev hU:=@Int.neg_mul
abbrev iB:=@Classical.choose_spec
abbrev iC:=@List.nodup_cons
abbrev iD:=@List.getElem?_cons_succ
abbrev iE:=@Int.mul_one
abbrev iH:=@Option.none_or
abbrev iI:=@Go.IntWalk.i64_in
abbrev iM:=@List.mem_filter
abbrev iN:=@Array.getElem?_setIfInBounds_ne
abbrev iQ:=@Nat.add_sub_cancel
abbrev iR:=@List.getElem?_drop
abbrev iS:=@List.eq_nil_iff_forall_not_mem
abbrev iT:=@Int.mul_le_mul_of_nonneg_right
abbrev iX:=@Nat.sub_self
abbrev iY:=@Nat.add_zero
abbrev iZ:=@List.eq_of_mem_replicate
abbrev jB:=@Go.getD_set_ne
abbrev jC:=@Nat.mul_le_mul_right
abbrev jD:=@List.mem_range
abbrev jE:=@List.mem_append_left
abbrev jF:=@Int.mul_neg
abbrev jG:=@List.length_zipWith
abbrev jI:=@List.all_cons
abbrev jQ:=@List.mem_append_right
abbrev jR:=@List.getElem?_toArray
abbrev jT:=@List.findIdx?_eq_some_iff_getElem
abbrev jU:=@Option.some.inj
abbrev jV:=@List.map_append
abbrev jW:=@Int.ofNat_eq_natCast
abbrev kA:=@Ne.symm
abbrev kB:=@List.replicate_succ
abbrev kC:=@Int.tdiv_mul_cancel
abbrev kD:=@decide_eq_decide
abbrev kI:=@List.findIdx?_cons
abbrev kL:=@Option.map_none
abbrev kM:=@List.cons.injEq
abbrev kN:=@Int.natCast_mul
abbrev kP:=@Bool.or_eq_true
abbrev kQ:=@Nat.lt_irrefl
abbrev kR:=@Nat.add_assoc
abbrev kW:=@List.getElem?_concat_length
abbrev lF:=@Nat.pow_le_pow_right
abbrev lG:=@List.nodup_nil
abbrev lH:=@Int.le_refl
abbrev lJ:=@Array.mem_toList_iff
abbrev lK:=@Array.getElem?_append_left
abbrev lU:=@Int.pow_zero
abbrev lX:=@List.map_congr_left
abbrev lZ:=@Bool.and_true
abbrev mB:=@Nat.div_add_mod
abbrev mC:=@Int.natAbs_tdiv
abbrev mD:=@of_decide_eq_false
abbrev mF:=@List.zip_cons_cons
abbrev mG:=@List.getElem?_take
abbrev mH:=@Int.natCast_nonneg
abbrev mI:=@Int.lt_of_lt_of_le
abbrev mJ:=@Bool.false_eq_true
abbrev mK:=@cond_true
abbrev mQ:=@Option.bind_eq_some_iff
abbrev mS:=@Nat.sub_zero
abbrev mT:=@Nat.le_of_eq
abbrev mU:=@List.flatten_cons
abbrev mV:=@Go.IntWalk.u32_in
abbrev mW:=@Int.zero_add
abbrev mX:=@Int.lt_trichotomy
abbrev mY:=@Iff.rfl
abbrev nA:=@Nat.mod_eq_of_lt
abbrev nB:=@List.drop_length
abbrev nF:=@Array.eq_empty_of_size_eq_zero
abbrev nK:=@Bool.true_and
abbrev nL:=@Go.setRow_heap
abbrev nP:=@List.getElem?_modify
abbrev nR:=@BitVec.ofInt_natCast
abbrev nW:=@List.drop_succ_cons
abbrev nX:=@Array.length_toList
abbrev oC:=@Nat.zero_mul
abbrev oD:=@List.drop_length_add_append
abbrev oE:=@Int.sub_zero
abbrev oI:=@List.drop_zero
abbrev oK:=@Go.IntWalk.u64_in
abbrev oL:=@Int.eq_of_mul_eq_mul_right
abbrev oQ:=@BitVec.toNat_ofNat
abbrev oT:=@Go.run_storeCells_at
abbrev oU:=@Go.fenced_calm
abbrev oV:=@List.size_toArray
abbrev oW:=@List.nodup_append
abbrev oY:=@Int.sub_mul
abbrev oZ:=@Int.mul_sub
abbrev pA:=@Int.add_mul
abbrev pD:=@Go.getD_set_true
abbrev pF:=@Int.mul_ediv_cancel_left
abbrev pK:=@Option.bind_none
abbrev pL:=@List.map_toArray
abbrev pN:=@Array.toList_map
abbrev pO:=@cond_false
abbrev pS:=@Nat.succ_mul
abbrev pT:=@Nat.mod_lt
abbrev pU:=@Nat.min_self
abbrev pV:=@List.map_nil
abbrev pW:=@List.map_map
abbrev pX:=@List.getElem?_set_self
abbrev pY:=@Int.sub_self
abbrev pZ:=@Int.ofNat_le
abbrev qA:=@Int.ediv_eq_zero_of_lt
abbrev qC:=@Array.ext'
abbrev qF:=@Go.Act.put_comm
abbrev qG:=@Nat.le_antisymm
abbrev qH:=@Bool.and_eq_false_iff
abbrev qI:=@Array.getElem?_toList
abbrev qJ:=@Array.getElem?_modify
abbrev qM:=@Nat.le_zero
abbrev qN:=@List.reverse_reverse
abbrev qO:=@List.range_eq_range'
abbrev qP:=@List.mem_of_mem_take
abbrev qQ:=@Int.natAbs_pow
abbrev qU:=@Bool.or_eq_false_iff
abbrev qV:=@Bool.and_eq_true_iff
abbrev rA:=@Go.run_enterLoop_outer
abbrev rB:=@Nat.pow_le_pow_left
abbrev rC:=@List.length_pos_iff
abbrev rF:=@Nat.le_of_dvd
abbrev rH:=@Bool.or_false
abbrev rI:=@Go.run_loadCells_list
abbrev rK:=@Nat.sub_add_cancel
abbrev rL:=@List.getElem_range
abbrev rP:=@not_false_eq_true
abbrev rW:=@Nat.ne_of_lt
abbrev rX:=@Nat.mul_comm
abbrev rY:=@List.all_eq_false
abbrev rZ:=@Int.zero_pow
abbrev sA:=@Int.ne_of_gt
abbrev sB:=@Int.mul_left_comm
abbrev sC:=@Int.gcd_dvd_right
abbrev sD:=@Classical.not_not
abbrev sF:=@Go.World.size_alloc
abbrev sM:=@List.range'_succ
abbrev sN:=@List.not_mem_nil
abbrev sO:=@List.mem_reverse
abbrev sP:=@Go.IntKind.wrap_u32
abbrev sQ:=@Int.gcd_dvd_left
open Go
def FF (r:J0 Nat):Fence:={ fn:=fun _=>True,depth:=none,alive:=false,round:=r }
theorem WH (r:J0 Nat) (n:Nat):(FF r).room n:=fun _ h=>by simp [FF] at h
theorem yS {r:J0 Nat} {n:Nat} {P:I6} {f:FuncId} {args:Array Value} {w:I8} {R:Ending→I8→Prop} :
 CallsIn (FF r) n P f args w R↔Calls P f args w R:=
 ⟨fun h=>(callsIn_wide (n:=0)).1 ⟨I3,fun cs _=>h.2 cs (WH _ _)⟩,fun h=>⟨I3,fun cs _=>((callsIn_wide (n:=0)).2 h).2 cs (room_wide _)⟩⟩
def An (P:I6) (o:Oper) (a:Act) (w:I8) (K:Act→I8→Prop):Prop:=
 match (execOp a.eval o).run P w with
 | .ok (.value v) w'=>K (a.put o.dst v) w'
 | .ok .skip w'=>K (a.put o.dst undef) w'
 | .ok (.enter f args) w'=>Calls P f args w' (fun e w''=>∃ v,e=.returned v∧K (a.put o.dst v) w'')
 | .ok (.round l f tmps assign body) w'=>RoundIn Fence.wide 0 P l f tmps assign body w' (fun e w''=>∃ v,e=.returned v∧K (a.put o.dst v) w'')
 | _=>False
def uW (o:Oper):Bool:=match o.op with | .defer _=>false | _=>true
theorem BO {o:Oper} (h:uW o=true):∀ c,o.op≠.defer c:=by
 intro c hc;simp [uW,hc] at h
theorem Gn {P:I6} {o:Oper} {a:Act} {w:I8} {K K':Act→I8→Prop} (hK:∀ a w,K a w→K' a w) (h:An P o a w K):An P o a w K':=by
 unfold An at *;generalize (execOp a.eval o).run P w=r at *;cases r with
 | ok x w' =>
   cases x <;> simp only at h ⊢ <;> first
    | exact hK _ _ h
    | exact h.mono fun e w ⟨v,hv,hk⟩=>⟨v,hv,hK _ _ hk⟩
 | halt x w'=>exact h
theorem Qp {P:I6} {o:Oper} {a:Act} {w:I8} {K:Act→I8→Prop} {Q:Exit→Act→I8→Prop} {r:J0 Nat} {n:Nat}
 (hd:uW o=true) (h:An P o a w K):o.wpIn (FF r) n P a w K Q:=by
 refine ⟨fun _ _=>trivial,?_⟩;rw [Oper.semAt_eq _ _ _ (BO hd)];unfold An at h;split at h
 · rename_i v w' hr;rw [hr];exact h
 · rename_i w' hr;rw [hr];exact h
 · rename_i f args w' hr;rw [hr];exact ⟨fun h=>by simp [FF] at h,yS.2 (h.mono fun e w'' ⟨v,hv,hk⟩=>by subst hv;exact hk)⟩
 · rename_i l f tmps assign body w' hr;rw [hr];exact ⟨fun h=>by simp [FF] at h,I3,fun c cs _=>(h.mono fun e w'' ⟨v,hv,hk⟩=>by subst hv;exact hk).2 c cs (room_wide _)⟩
 exact h.elim
def uG (P:I6) (ops:Array Oper):List Oper→Act→I8→(Act→I8→Prop)→Prop
 | [],a,w,K=>K a w
 | o :: rest,a,w,K=>if Region.wanted o (yielded ops a.tmps) then An P o a w (fun a w=>uG P ops rest a w K) else uG P ops rest (a.put o.dst undef) w K
theorem Cw {P:I6} {ops:Array Oper} {Q:Exit→Act→I8→Prop} {r:J0 Nat} {n:Nat} :
 ∀ (l:List Oper) (a:Act) (w:I8),l.all uW=true→uG P ops l a w (Q .normal)→wpListIn (FF r) n P ops Q l a w
 | [],_,_,_,h=>h
 | o :: rest,a,w,hd,h=>by
   simp only [jI,aF] at hd;unfold uG at h;unfold wpListIn;split <;> rename_i hw
   · rw [aE hw] at h;exact Qp hd.1 (Gn (fun a w h=>Cw rest a w hd.2 h) h)
   rw [aC hw] at h;exact ⟨fun _ _=>trivial,Cw rest _ _ hd.2 h⟩
theorem Ik {P:I6} {ops:Array Oper} {K K':Act→I8→Prop} (hK:∀ a w,K a w→K' a w):∀ (l:List Oper) (a:Act) (w:I8),uG P ops l a w K→uG P ops l a w K'
 | [],_,_,h=>hK _ _ h
 | o :: rest,a,w,h=>by
   unfold uG at h ⊢;split <;> rename_i hw
   · rw [aE hw] at h;exact Gn (fun a w h=>Ik hK rest a w h) h
   rw [aC hw] at h;exact Ik hK rest _ _ h
theorem Em {P:I6} {ops:Array Oper} {K:Act→I8→Prop}:∀ (l l':List Oper) (a:Act) (w:I8),
 uG P ops l a w (fun a w=>uG P ops l' a w K)→uG P ops (l++l') a w K
 | [],_,_,_,h=>h
 | o :: rest,l',a,w,h=>by
   unfold uG at h;simp only [List.cons_append];unfold uG;split <;> rename_i hw
   · rw [aE hw] at h;exact Gn (fun a w h=>Em rest l' a w h) h
   rw [aC hw] at h;exact Em rest l' _ _ h
abbrev B0:=List (Nat×Value)
def B0.get:B0→Nat→J0 Value
 | [],_=>none
 | (i,v) :: e,j=>bif Nat.beq i j then some v else B0.get e j
def B0.ev (e:B0):I7→J0 Value
 | .tmp t=>e.get t
 | .const v=>some v
 | .global g=>some (.pointer (some ⟨g,0,none⟩))
 | .func f=>some (.func (.func f) #[] #[])
def B0.evs (e:B0):List I7→J0 (List Value)
 | []=>some []
 | x :: xs=>match e.ev x,B0.evs e xs with
   | some v,some vs=>some (v :: vs)
   | _,_=>none
theorem Yp (e:B0) (i j:Nat) (v:Value):B0.get ((i,v) :: e) j=if i=j then some v else e.get j:=by
 show (bif Nat.beq i j then some v else B0.get e j)=_;by_cases h:i=j
 · subst h;simp
 have:Nat.beq i j=false:=by cases hb:Nat.beq i j with | false=>rfl | true=>exact absurd (aJ hb) h
 simp [this,h]
abbrev jA:=@Yp
abbrev Hp:=List (Nat×J0 Nat×Obj)
def Hp.get:Hp→Nat→J0 (J0 Nat×Obj)
 | [],_=>none
 | (i,x) :: h,j=>bif Nat.beq i j then some x else Hp.get h j
theorem BP (h:Hp) (i j:Nat) (x:J0 Nat×Obj):Hp.get ((i,x) :: h) j=if i=j then some x else h.get j:=by
 show (bif Nat.beq i j then some x else Hp.get h j)=_;by_cases e:i=j
 · subst e;simp
 have:Nat.beq i j=false:=by cases hb:Nat.beq i j with | false=>rfl | true=>exact absurd (aJ hb) e
 simp [this,e]
abbrev bF:=@BP
def Hp.has (h:Hp) (b:Nat):Prop:=∃ t o,h.get t=some (some b,o)
abbrev A2:=Nat→J0 Obj
def A2.le (G G':A2):Prop:=∀ b o,G b=some o→G' b=some o
theorem A2.le_refl (G:A2):G.le G:=fun _ _ h=>h
abbrev cX:=@A2.le_refl
theorem A2.le_trans {A B C:A2} (h:A.le B) (k:B.le C):A.le C:=fun b o x=>k b o (h b o x)
abbrev bL:=@A2.le_trans
structure B3 (H:Hp) (G:A2) (w:World):Prop where
 own:∀ t b o,H.get t=some (some b,o)→w.heap[b]?=some o
 one:∀ t t' b o o',H.get t=some (some b,o)→H.get t'=some (some b,o')→t=t'
 imm:∀ b o,G b=some o→w.heap[b]?=some o
 off:∀ t b o,H.get t=some (some b,o)→G b=none
structure D9 (X:Nat→Prop) (w w':World):Prop where
 os:w'.os=w.os
 tape:w'.tape=w.tape
 output:w'.output=w.output
 size:w.heap.size≤w'.heap.size
 same:∀ k,k<w.heap.size→¬X k→w'.heap[k]?=w.heap[k]?
theorem D9.refl (X:Nat→Prop) (w:I8):D9 X w w:=⟨U,U,U,aH _,fun _ _ _=>rfl⟩
abbrev kZ:=@D9.refl
theorem D9.trans {X:Nat→Prop} {a b c:I8} (h:D9 X a b) (k:D9 X b c):D9 X a c:=
 ⟨k.os.trans h.os,k.tape.trans h.tape,k.output.trans h.output,bP h.size k.size,fun i hi hx=>(k.same i (bZ hi h.size) hx).trans (h.same i hi hx)⟩
theorem D9.mono {X Y:Nat→Prop} {a b:I8} (h:D9 X a b) (hx:∀ k,k<a.heap.size→X k→Y k):D9 Y a b:=
 ⟨h.os,h.tape,h.output,h.size,fun i hi hy=>h.same i hi (fun x=>hy (hx i hi x))⟩
theorem alloc_old (w:I8) (o:Obj) (k:Nat) (hk:k<w.heap.size):(w.alloc o).heap[k]?=w.heap[k]?:=by
 show (w.heap.push o)[k]?=_;rw [Array.getElem?_push,aC (rW hk)]
theorem uS (w:I8) (o:Obj):(w.alloc o).heap[w.heap.size]?=some o:=by
 show (w.heap.push o)[w.heap.size]?=_;rw [Array.getElem?_push,aE rfl]
theorem D9.alloc {X:Nat→Prop} {w0 w:I8} (h:D9 X w0 w) (o:Obj):D9 X w0 (w.alloc o):=
 h.trans ⟨U,U,U,by simp,fun k hk _=>alloc_old w o k hk⟩
theorem D9.drew {X:Nat→Prop} {w0 w:I8} (h:D9 X w0 w):D9 X w0 w.drew:=h.trans ⟨U,U,U,aH _,fun _ _ _=>rfl⟩
structure Bs where
 n:Nat
 W:I8
 X:Nat→Prop
 G0:A2
structure St where
 e:B0
 D:List Deferred
 H:Hp
 G:A2
structure A5 (B:Bs) (S:St) (a:Act) (w:World):Prop where
 size:a.tmps.size=B.n
 defers:a.defers=S.D
 env:∀ i v,S.e.get i=some v→a.tmps[i]?=some v
 mem:B3 S.H S.G w
 upd:D9 B.X B.W w
 mine:∀ t b o,S.H.get t=some (some b,o)→B.W.heap.size≤b∨B.X b
 le:B.G0.le S.G
 new:∀ b,S.G b≠none→B.G0 b=none→B.W.heap.size≤b∨B.X b
theorem A5.eval {B:Bs} {S:St} {a:Act} {w:I8} (h:A5 B S a w) {x:I7} {v:Value} (hx:S.e.ev x=some v):a.eval x=v:=by
 cases x with
 | tmp t =>
   have:=h.env t v hx;simp [Act.eval,this]
 | const u=>simpa [B0.ev,Act.eval] using hx
 | global g=>simpa [B0.ev,Act.eval] using hx
 | func f=>simpa [B0.ev,Act.eval] using hx
theorem A5.evals {B:Bs} {S:St} {a:Act} {w:I8} (h:A5 B S a w):∀ {xs:List I7} {vs:List Value},S.e.evs xs=some vs→xs.map a.eval=vs
 | [],vs,hx=>by simp [B0.evs] at hx;simp [←hx]
 | x :: xs,vs,hx=>by
   unfold B0.evs at hx;split at hx
   · rename_i v us h1 h2;simp only [bU] at hx;subst hx;simp [h.eval h1,h.evals h2]
   cases hx
theorem A5.args {B:Bs} {S:St} {a:Act} {w:I8} (h:A5 B S a w) {xs:Array I7} {vs:List Value} (hx:S.e.evs xs.toList=some vs):xs.map a.eval=vs.toArray:=by
 rw [←h.evals hx,←pN]
theorem A5.put {B:Bs} {e:B0} {D:List Deferred} {H:Hp} {G:A2} {a:Act} {w:I8} (h:A5 B ⟨e,D,H,G⟩ a w) {d:Nat} (hd:Nat.ble (d+1) B.n=true) (v:Value) :
 A5 B ⟨(d,v) :: e,D,H,G⟩ (a.put (some d) v) w:=by
 have hd':d<a.tmps.size:=by rw [h.size];exact bD hd
 refine ⟨by rw [←h.size];exact Array.size_setIfInBounds,h.defers,?_,h.mem,h.upd,h.mine,h.le,h.new⟩;intro i u hu;rw [jA] at hu;have hh:(a.put (some d) v).tmps[i]?=if d=i then (if d<a.tmps.size then some v else none) else a.tmps[i]?:=by
  show (a.tmps.setIfInBounds d v)[i]?=_;rw [Array.getElem?_setIfInBounds]
 rw [hh];by_cases hi:d=i
 · rw [aE hi] at hu ⊢;rw [aE hd'];exact hu
 rw [aC hi] at hu ⊢;exact h.env i u hu
theorem A5.weaken {B:Bs} {e e':B0} {D:List Deferred} {H H':Hp} {G:A2} {a:Act} {w:I8} (h:A5 B ⟨e,D,H,G⟩ a w)
 (he:∀ i v,e'.get i=some v→e.get i=some v) (hH:∀ t x,H'.get t=some x→H.get t=some x):A5 B ⟨e',D,H',G⟩ a w:=
 ⟨h.size,h.defers,fun i v x=>h.env i v (he i v x),⟨fun t b o x=>h.mem.own t b o (hH _ _ x),fun t t' b o o' x y=>h.mem.one t t' b o o' (hH _ _ x) (hH _ _ y),h.mem.imm,fun t b o x=>h.mem.off t b o (hH _ _ x)⟩,
  h.upd,fun t b o x=>h.mine t b o (hH _ _ x),h.le,h.new⟩
theorem B3.lt {H:Hp} {G:A2} {w:I8} (h:B3 H G w) {t b:Nat} {o:Obj} (ht:H.get t=some (some b,o)):b<w.heap.size:=
 (bX.1 (h.own t b o ht)).1
theorem B3.ltG {H:Hp} {G:A2} {w:I8} (h:B3 H G w) {b:Nat} {o:Obj} (ht:G b=some o):b<w.heap.size:=
 (bX.1 (h.imm b o ht)).1
theorem B3.grow {H:Hp} {G:A2} {w w':I8} (h:B3 H G w) (hs:∀ k,k<w.heap.size→w'.heap[k]?=w.heap[k]?):B3 H G w':=
 ⟨fun t b o x=>(hs b (h.lt x)).trans (h.own t b o x),h.one,fun b o x=>(hs b (h.ltG x)).trans (h.imm b o x),h.off⟩
theorem A5.grow {B:Bs} {S:St} {a:Act} {w w':I8} (h:A5 B S a w) (hu:D9 (fun _=>False) w w'):A5 B S a w':=
 ⟨h.size,h.defers,h.env,h.mem.grow (fun k hk=>hu.same k hk id),h.upd.trans (hu.mono (fun _ _ x=>x.elim)),h.mine,h.le,h.new⟩
theorem A5.drew {B:Bs} {S:St} {a:Act} {w:I8} (h:A5 B S a w):A5 B S a { w with drawn:=w.drawn+1 }:=h.grow ⟨U,U,U,aH _,fun _ _ _=>rfl⟩
theorem A5.alloc {B:Bs} {e:B0} {D:List Deferred} {H:Hp} {G:A2} {a:Act} {w:I8} (h:A5 B ⟨e,D,H,G⟩ a w) (t:Nat) (o:Obj) :
 A5 B ⟨e,D,(t,some w.heap.size,o) :: H,G⟩ a (w.alloc o):=by
 have hold:∀ k,k<w.heap.size→(w.alloc o).heap[k]?=w.heap[k]?:=fun k hk=>alloc_old w o k hk;have hnew:(w.alloc o).heap[w.heap.size]?=some o:=uS w o;have hG:G w.heap.size=none:=by
  cases hg:G w.heap.size with
  | none=>rfl
  | some x=>exact absurd (h.mem.ltG hg) (kQ _)
 refine ⟨h.size,h.defers,h.env,⟨?_,?_,(h.mem.grow hold).imm,?_⟩,h.upd.alloc o,?_,h.le,h.new⟩
 · intro t' b o' x;rw [bF] at x;split at x
   · simp only [bU,eI] at x;obtain ⟨rfl,rfl⟩:=x;exact hnew
   exact (h.mem.grow hold).own t' b o' x
 · intro t1 t2 b o1 o2 x y;rw [bF] at x y;split at x <;> split at y
   · omega
   · simp only [bU,eI] at x;obtain ⟨rfl,rfl⟩:=x;exact absurd (h.mem.lt y) (kQ _)
   · simp only [bU,eI] at y;obtain ⟨rfl,rfl⟩:=y;exact absurd (h.mem.lt x) (kQ _)
   exact h.mem.one _ _ _ _ _ x y
 · intro t' b o' x;rw [bF] at x;split at x
   · simp only [bU,eI] at x;obtain ⟨rfl,rfl⟩:=x;exact hG
   exact h.mem.off t' b o' x
 intro t' b o' x;rw [bF] at x;split at x
 · simp only [bU,eI] at x;obtain ⟨rfl,rfl⟩:=x;exact .inl h.upd.size
 exact h.mine t' b o' x
theorem A5.set {B:Bs} {e:B0} {D:List Deferred} {H:Hp} {G:A2} {a:Act} {w w':I8} (h:A5 B ⟨e,D,H,G⟩ a w) {t b:Nat} {o o':Obj} (ht:H.get t=some (some b,o))
 (hu:D9 (·=b) w w') (hb:w'.heap[b]?=some o'):A5 B ⟨e,D,(t,some b,o') :: H,G⟩ a w':=by
 have hl:b<w.heap.size:=h.mem.lt ht;have key:∀ t' b1 o1,t≠t'→H.get t'=some (some b1,o1)→b1≠b:=fun t' b1 o1 hne x e=>hne (h.mem.one t t' b o o1 ht (e▸x));refine ⟨h.size,h.defers,h.env,⟨?_,?_,?_,?_⟩,?_,?_,h.le,h.new⟩
 · intro t' b1 o1 x;rw [bF] at x;split at x
   · simp only [bU,eI] at x;obtain ⟨rfl,rfl⟩:=x;exact hb
   rename_i hne;rw [hu.same b1 (h.mem.lt x) (key t' b1 o1 hne x)];exact h.mem.own t' b1 o1 x
 · intro t1 t2 b1 o1 o2 x y;rw [bF] at x y;split at x <;> split at y
   · omega
   · rename_i hne;simp only [bU,eI] at x;obtain ⟨rfl,rfl⟩:=x;exact absurd U (key _ _ _ hne y)
   · rename_i hne _;simp only [bU,eI] at y;obtain ⟨rfl,rfl⟩:=y;exact absurd U (key _ _ _ hne x)
   exact h.mem.one _ _ _ _ _ x y
 · intro b1 o1 x;have hne:b1≠b:=fun e=>by have h1:G b=none:=h.mem.off t b o ht;have h2:G b1=some o1:=x;rw [e,h1] at h2;cases h2
   rw [hu.same b1 (h.mem.ltG x) hne];exact h.mem.imm b1 o1 x
 · intro t' b1 o1 x;rw [bF] at x;split at x
   · simp only [bU,eI] at x;obtain ⟨rfl,rfl⟩:=x;exact h.mem.off t b o ht
   exact h.mem.off t' b1 o1 x
 · refine ⟨hu.os.trans h.upd.os,hu.tape.trans h.upd.tape,hu.output.trans h.upd.output,bP h.upd.size hu.size,fun k hk hx=>?_⟩;have hne:k≠b:=fun e=>by
    rcases h.mine t b o ht with h1 | h1
    · omega
    exact hx (e▸h1)
   exact (hu.same k (bZ hk h.upd.size) hne).trans (h.upd.same k hk hx)
 intro t' b1 o1 x;rw [bF] at x;split at x
 · simp only [bU,eI] at x;obtain ⟨rfl,rfl⟩:=x;exact h.mine t b o ht
 exact h.mine t' b1 o1 x
def Wl (P:I6) (ops:Array Oper) (l:List Oper) (B:Bs) (S:St) (K:Act→I8→Prop):Prop:=∀ a w,A5 B S a w→uG P ops l a w K
def Wc (r:J0 Nat) (P:I6) (c:Code) (B:Bs) (S:St) (Q:Exit→Act→I8→Prop):Prop:=∀ a w,A5 B S a w→c.wpIn (FF r) 0 P Q a w
def Ar (Q:Exit→Act→I8→Prop) (x:Exit) (B:Bs) (S:St):Prop:=∀ a w,A5 B S a w→Q x a w
section code
variable {r:J0 Nat} {P:I6} {B:Bs} {S:St} {Q:Exit→Act→I8→Prop}
theorem Wc.region {id:Nat} {l:List Oper} (hd:l.all uW=true) (h:Wl P l.toArray l B S (Q .normal)):Wc r P (.region id l.toArray false) B S Q:=
 fun a w hh=>wpIn_region_lit (Cw l a w hd (h a w hh))
abbrev dE:=@Wc.region
theorem Wc.seq {x y:Code} (h:Wc r P x B S (Exit.then (y.wpIn (FF r) 0 P Q) Q)):Wc r P (.seq x y) B S Q:=fun a w hh=>wpIn_seq (h a w hh)
abbrev dG:=@Wc.seq
theorem Wc.skip (h:Ar Q .normal B S):Wc r P .skip B S Q:=fun a w hh=>wpIn_skip (h a w hh)
abbrev kG:=@Wc.skip
theorem Wc.label {l:Nat} (h:Ar Q .normal B S):Wc r P (.label l) B S Q:=fun a w hh=>wpIn_label (h a w hh)
theorem Wc.exit {id:Nat} (h:Ar Q (.exit id) B S):Wc r P (.exit id) B S Q:=fun a w hh=>wpIn_exit (h a w hh)
theorem Wc.ret (h:Ar Q .ret B S):Wc r P .ret B S Q:=fun a w hh=>wpIn_ret (h a w hh)
abbrev mR:=@Wc.ret
theorem Wc.block {id:Nat} {c:Code} (h:Wc r P c B S (Exit.inBlock id Q)):Wc r P (.block id c) B S Q:=fun a w hh=>wpIn_block (h a w hh)
theorem br {c:I7} {x y:Code} {t:Bool} (hc:S.e.ev c=some (.bool t)) (ht:t=true→Wc r P x B S Q) (hf:t=false→Wc r P y B S Q):Wc r P (.cond c x y) B S Q:=
 fun a w hh=>wpIn_cond_split (hh.eval hc) (fun e=>ht e a w hh) (fun e=>hf e a w hh)
abbrev mE:=@br
theorem Wc.cond {c:I7} {x y:Code} {p:Prop} [Decidable p] (hc:S.e.ev c=some (.bool (decide p))) (ht:p→Wc r P x B S Q) (hf:¬p→Wc r P y B S Q):Wc r P (.cond c x y) B S Q:=
 mE hc (fun h=>ht (gX h)) (fun h=>hf (mD h))
abbrev oA:=@Wc.cond
theorem PU {c:I7} {x y:Code} (hc:S.e.ev c=some (.bool true)) (ht:Wc r P x B S Q):Wc r P (.cond c x y) B S Q:=mE hc (fun _=>ht) (fun h=>by cases h)
theorem BQ {c:I7} {x y:Code} (hc:S.e.ev c=some (.bool false)) (hf:Wc r P y B S Q):Wc r P (.cond c x y) B S Q:=mE hc (fun h=>by cases h) (fun _=>hf)
theorem Wl.done {ops:Array Oper} {x:Exit} (h:Ar Q x B S):Wl P ops [] B S (Q x):=h
abbrev eC:=@Wl.done
theorem Ar.next {y:Code} (h:Wc r P y B S Q):Ar (Exit.then (y.wpIn (FF r) 0 P Q) Q) .normal B S:=h
abbrev cH:=@Ar.next
theorem BR {K:Act→I8→Prop} {id:Nat} (h:Ar Q (.exit id) B S):Ar (Exit.then K Q) (.exit id) B S:=h
abbrev qW:=@BR
theorem GJ {K:Act→I8→Prop} (h:Ar Q .ret B S):Ar (Exit.then K Q) .ret B S:=h
abbrev qD:=@GJ
theorem Yq {id:Nat} (h:Ar Q .normal B S):Ar (Exit.inBlock id Q) .normal B S:=h
abbrev sE:=@Yq
theorem Lr {id:Nat} (h:Ar Q .ret B S):Ar (Exit.inBlock id Q) .ret B S:=h
theorem JA {id:Nat} (h:Ar Q .normal B S):Ar (Exit.inBlock id Q) (.exit id) B S:=fun a w hh=>by simp only [Exit.inBlock,gL];exact h a w hh
theorem GK {id id':Nat} (hne:Nat.beq id' id=false) (h:Ar Q (.exit id') B S):Ar (Exit.inBlock id Q) (.exit id') B S:=fun a w hh=>by
 have:id'≠id:=fun e=>by subst e;simp at hne
 simp only [Exit.inBlock,this,eQ];exact h a w hh
def B0.sub (e:B0):B0→Prop
 | []=>True
 | (i,v) :: l=>e.get i=some v∧B0.sub e l
def Hp.sub (h:Hp):Hp→Prop
 | []=>True
 | (i,x) :: l=>h.get i=some x∧Hp.sub h l
theorem Fi {e:B0}:∀ {l:B0},e.sub l→∀ i v,l.get i=some v→e.get i=some v
 | [],_,i,v,h=>by simp [B0.get] at h
 | (j,u) :: l,hs,i,v,h=>by
   rw [jA] at h;split at h
   · rename_i hj;subst hj;simp only [bU] at h;subst h;exact hs.1
   exact Fi hs.2 i v h
theorem Qq {e:Hp}:∀ {l:Hp},e.sub l→∀ i v,l.get i=some v→e.get i=some v
 | [],_,i,v,h=>by simp [Hp.get] at h
 | (j,u) :: l,hs,i,v,h=>by
   rw [bF] at h;split at h
   · rename_i hj;subst hj;simp only [bU] at h;subst h;exact hs.1
   exact Qq hs.2 i v h
abbrev kK:=@Qq
theorem A5.sub {e e':B0} {D:List Deferred} {H H':Hp} {G:A2} {a:Act} {w:I8} (h:A5 B ⟨e,D,H,G⟩ a w) (he:e.sub e') (hH:H.sub H'):A5 B ⟨e',D,H',G⟩ a w:=
 h.weaken (Fi he) (kK hH)
def Fj {ι:Type} (B:Bs) (I:ι→St) (φ:ι→Prop) (μ:ι→Nat) (m:Nat):Act→I8→Prop:=fun a w=>∃ j,φ j∧μ j<m∧A5 B (I j) a w
theorem Jm {ι:Type} {c:Code} (I:ι→St) (φ:ι→Prop) (μ:ι→Nat) (i0:ι) (h0:φ i0) (hs:∀ a w,A5 B S a w→A5 B (I i0) a w)
 (hb:∀ i,φ i→Wc r P c B (I i) (Exit.then (Fj B I φ μ (μ i)) Q)):Wc r P (.loop c) B S Q:=by
 intro a w hh b k cs hro hb' hr;have key:∀ m i a w,μ i=m→φ i→A5 B (I i) a w→
  ∃ e a' w',Q e a' w'∧ArrivesIn (Machine.fenced P (FF r)) P (lone (b.atR a (.code c :: .inLoop c :: k)) cs w) b k cs e a' w':=by
  intro m;induction m using Nat.strongRecOn with
  | _ m ih =>
    intro i a w hm hφ hI;obtain ⟨x,a₁,w₁,hq,harr⟩:=hb i hφ a w hI b (.inLoop c :: k) cs hro hb' hr;cases x with
    | normal =>
      obtain ⟨j,hj,hlt,hI'⟩:=hq;obtain ⟨e₂,a₂,w₂,hq₂,harr₂⟩:=ih (μ j) (hm▸hlt) j a₁ w₁ U hj hI';exact ⟨e₂,a₂,w₂,hq₂,.of_steps (StepsIn.trans harr (.one (oU hb' hr U) stepR_inLoop)) harr₂⟩
    | exit id=>exact ⟨_,a₁,w₁,hq,.pass (x:=.inLoop c) U (fun _ _=>.inl tW) harr⟩
    | goto l=>exact ⟨_,a₁,w₁,hq,.pass (x:=.inLoop c) U (fun _ _=>.inl tW) harr⟩
    | ret=>exact ⟨_,a₁,w₁,hq,.pass (x:=.inLoop c) U (fun _ _=>.inl tW) harr⟩
    | panic ch=>exact ⟨_,a₁,w₁,hq,.pass (x:=.inLoop c) U (fun _ _=>.inl tW) harr⟩
    | outgrown=>exact ⟨_,a₁,w₁,hq,.pass (x:=.inLoop c) U (fun _ _=>.inl tW) harr⟩
 obtain ⟨e,a',w',hq,harr⟩:=key _ i0 a w U h0 (hs a w hh);exact ⟨e,a',w',hq,.of_steps (.one (oU hb' hr U) stepR_loop) harr⟩
theorem Wc.loop {ι:Type} {c:Code} {e:B0} {D:List Deferred} {H:Hp} {G:A2} (I:ι→B0×Hp) (φ:ι→Prop) (μ:ι→Nat) (i0:ι) (h0:φ i0)
 (he:e.sub (I i0).1) (hH:H.sub (I i0).2)
 (hb:∀ i,φ i→Wc r P c B ⟨(I i).1,D,(I i).2,G⟩ (Exit.then (Fj B (fun i=>⟨(I i).1,D,(I i).2,G⟩) φ μ (μ i)) Q)):Wc r P (.loop c) B ⟨e,D,H,G⟩ Q:=
 Jm (fun i=>⟨(I i).1,D,(I i).2,G⟩) φ μ i0 h0 (fun _ _ h=>h.sub he hH) hb
abbrev fY:=@Wc.loop
theorem Ar.again {ι:Type} {I:ι→St} {φ:ι→Prop} {μ:ι→Nat} {m:Nat} {e:B0} {D:List Deferred} {H:Hp} {G:A2} (j:ι) (hφ:φ j) (hμ:μ j<m)
 (hI:I j=⟨(I j).e,D,(I j).H,G⟩) (he:e.sub (I j).e) (hH:H.sub (I j).H):Ar (Exit.then (Fj B I φ μ m) Q) .normal B ⟨e,D,H,G⟩:=
 fun a w hh=>⟨j,hφ,hμ,by rw [hI];exact hh.sub he hH⟩
abbrev gW:=@Ar.again
end code
def wZ (P:I6) (t:I9):Bool:=
 (match P.underlying t with | some (.struct _) | some (.array _ _) | none=>false | some _=>true) && ((P.info? t).map (·.size) == some 1)
def yH (P:I6) (t k:Nat):Bool:=
 (match P.underlying t with | some (.struct _) | some (.array _ _)=>true | _=>false) && ((P.info? t).map (·.size) == some k)
section types
variable {P:I6} {t k:Nat} (w:I8)
theorem run_sizeOf {n:Nat} (h:(P.info? t).map (·.size)=some n):(sizeOf t).run P w=.ok n w:=by
 cases hi:P.info? t with
 | none=>simp [hi] at h
 | some i=>simp [hi] at h;simp [sizeOf,typeInfo,hi,h]
theorem yI (h:wZ P t=true):(isAgg t).run P w=.ok false w:=by
 unfold wZ at h;cases hu:P.underlying t with
 | none=>simp [hu] at h
 | some d=>cases d <;> simp [hu] at h <;> simp [isAgg,bB hu]
theorem Di (h:yH P t k=true):(isAgg t).run P w=.ok true w:=by
 unfold yH at h;cases hu:P.underlying t with
 | none=>simp [hu] at h
 | some d=>cases d <;> simp [hu] at h <;> simp [isAgg,bB hu]
theorem PW (h:wZ P t=true):(P.info? t).map (·.size)=some 1:=by
 unfold wZ at h;simp at h;simpa using h.2
theorem Qr (h:yH P t k=true):(P.info? t).map (·.size)=some k:=by
 unfold yH at h;simp at h;simpa using h.2
end types
theorem cell_of_block {w:I8} {b off:Nat} {cs:List Value} {ty:I9} {fz:Nat×Nat} (h:w.heap[b]?=some (.cells cs.toArray ty fz)) :
 w.cell? ⟨b,off,none⟩=cs[off]?:=by simp [World.cell?,h]
def A2.cell (G:A2) (b off:Nat):J0 Value:=match G b with | some (.cells c _ _)=>c[off]? | _=>none
def A2.row (G:A2) (b off:Nat) (vs:List Value):Prop:=∀ i v,vs[i]?=some v→G.cell b (off+i)=some v
theorem B3.cellG {H:Hp} {G:A2} {w:I8} (h:B3 H G w) {b off:Nat} {v:Value} (hc:G.cell b off=some v):w.cell? ⟨b,off,none⟩=some v:=by
 unfold A2.cell at hc;split at hc
 · rename_i c ty fz hb;simp [World.cell?,h.imm b _ hb,hc]
 cases hc
theorem Nv {G G':A2} (h:G.le G') {b off:Nat} {v:Value} (hc:G.cell b off=some v):G'.cell b off=some v:=by
 unfold A2.cell at *;split at hc
 · rename_i c ty fz hb;rw [h b _ hb];exact hc
 cases hc
theorem GL {G G':A2} (h:G.le G') {b off:Nat} {vs:List Value} (hc:G.row b off vs):G'.row b off vs:=fun i v hv=>Nv h (hc i v hv)
theorem add_lit (b o n:Nat):Addr.add ⟨b,o,none⟩ n=⟨b,o+n,none⟩:=by unfold Addr.add;split <;> simp_all
structure F9 (e:B0) (H:Hp) (G:A2) (a:Act) (w:World):Prop where
 env:∀ i v,e.get i=some v→a.tmps[i]?=some v
 mem:B3 H G w
section look
variable {e:B0} {H:Hp} {G:A2} {a:Act} {w:I8}
theorem A5.look {B:Bs} {D:List Deferred} (h:A5 B ⟨e,D,H,G⟩ a w):F9 e H G a w:=⟨h.env,h.mem⟩
theorem F9.eval (h:F9 e H G a w) {x:I7} {v:Value} (hx:e.ev x=some v):a.eval x=v:=by
 cases x with
 | tmp t=>simp [Act.eval,h.env t v hx]
 | const u=>simpa [B0.ev,Act.eval] using hx
 | global g=>simpa [B0.ev,Act.eval] using hx
 | func f=>simpa [B0.ev,Act.eval] using hx
theorem F9.evals (h:F9 e H G a w):∀ {xs:List I7} {vs:List Value},e.evs xs=some vs→xs.map a.eval=vs
 | [],vs,hx=>by simp [B0.evs] at hx;simp [←hx]
 | x :: xs,vs,hx=>by
   unfold B0.evs at hx;split at hx
   · rename_i v us h1 h2;simp only [bU] at hx;subst hx;simp [h.eval h1,h.evals h2]
   cases hx
theorem F9.args (h:F9 e H G a w) {xs:Array I7} {vs:List Value} (hx:e.evs xs.toList=some vs):xs.map a.eval=vs.toArray:=by
 rw [←h.evals hx,←pN]
end look
def Qy (P:I6) (o:Op) (ty:I9) (e:B0) (H:Hp) (G:A2) (v:Value):Prop:=
 ∀ (a:Act) (w:I8) (dst:J0 Tmp) (pos:String) (after:Array Edge) (g:J0 (Nat×Bool)),F9 e H G a w→(execOp a.eval ⟨dst,o,ty,pos,after,g⟩).run P w=.ok (.value v) w
section qy
variable {P:I6} {e:B0} {H:Hp} {G:A2} {ty:I9}
theorem Qy.move {x:I7} {v:Value} (hx:e.ev x=some v):Qy P (.move x) ty e H G v:=fun a w _ _ _ _ hh=>by simp [execOp,hh.eval hx]
abbrev dF:=@Qy.move
theorem Qy.assign {x:I7} {v:Value} (hx:e.ev x=some v):Qy P (.assign x) ty e H G v:=fun a w _ _ _ _ hh=>by simp [execOp,hh.eval hx]
abbrev jL:=@Qy.assign
theorem Qy.pick {c x y:I7} {b:Bool} {v:Value} (hc:e.ev c=some (.bool b)) (hv:e.ev (bif b then x else y)=some v):Qy P (.pick c x y) ty e H G v:=fun a w _ _ _ _ hh=>by
 cases b
 · simp only [pO] at hv;simp [execOp,asBool,hh.eval hc,hh.eval hv]
 simp only [mK] at hv;simp [execOp,asBool,hh.eval hc,hh.eval hv]
theorem Qy.not {t:I9} {x:I7} {b:Bool} (hx:e.ev x=some (.bool b)):Qy P (.unOp .not t x) ty e H G (.bool (!b)):=fun a w _ _ _ _ hh=>by simp [execOp,Op.unary,hh.eval hx]
theorem WI {t:I9} {x:I7} {p:Prop} [Decidable p] (hx:e.ev x=some (.bool (decide p))):Qy P (.unOp .not t x) ty e H G (.bool (decide (¬p))):=fun a w _ _ _ _ hh=>by simp [execOp,Op.unary,hh.eval hx]
abbrev eJ:=@WI
section cmp
variable {t t':I9} {x y:I7} {k:IntKind} {m n:Int} (hx:e.ev x=some (.int k m)) (hy:e.ev y=some (.int k n))
include hx hy
theorem Qy.eql:Qy P (.binOp .eql t x y t') ty e H G (.bool (decide (m=n))):=fun a w _ _ _ _ hh=>by simp [execOp,hh.eval hx,hh.eval hy,binOp,Op.intCmp,eqGuard];rfl
theorem Qy.neq:Qy P (.binOp .neq t x y t') ty e H G (.bool (decide (m≠n))):=fun a w _ _ _ _ hh=>by
 simp only [execOp,hh.eval hx,hh.eval hy,binOp,Op.intCmp,eqGuard];by_cases h:m=n <;> simp [h]
theorem Qy.lss:Qy P (.binOp .lss t x y t') ty e H G (.bool (decide (m<n))):=fun a w _ _ _ _ hh=>by simp [execOp,hh.eval hx,hh.eval hy,binOp,Op.intCmp,eqGuard]
theorem Qy.leq:Qy P (.binOp .leq t x y t') ty e H G (.bool (decide (m≤n))):=fun a w _ _ _ _ hh=>by simp [execOp,hh.eval hx,hh.eval hy,binOp,Op.intCmp,eqGuard]
theorem Qy.gtr:Qy P (.binOp .gtr t x y t') ty e H G (.bool (decide (n<m))):=fun a w _ _ _ _ hh=>by simp [execOp,hh.eval hx,hh.eval hy,binOp,Op.intCmp,eqGuard]
theorem Qy.geq:Qy P (.binOp .geq t x y t') ty e H G (.bool (decide (n≤m))):=fun a w _ _ _ _ hh=>by simp [execOp,hh.eval hx,hh.eval hy,binOp,Op.intCmp,eqGuard]
theorem Pb:Qy P (.binOp .add t x y t') ty e H G (.int k (k.wrap (m+n))):=fun a w _ _ _ _ hh=>by simp [execOp,hh.eval hx,hh.eval hy,binOp,Op.intArith,eqGuard]
theorem Jn:Qy P (.binOp .sub t x y t') ty e H G (.int k (k.wrap (m - n))):=fun a w _ _ _ _ hh=>by simp [execOp,hh.eval hx,hh.eval hy,binOp,Op.intArith,eqGuard]
theorem WJ:Qy P (.binOp .mul t x y t') ty e H G (.int k (k.wrap (m*n))):=fun a w _ _ _ _ hh=>by simp [execOp,hh.eval hx,hh.eval hy,binOp,Op.intArith,eqGuard]
abbrev kV:=@WJ
theorem Pc (h0:n≠0):Qy P (.binOp .quo t x y t') ty e H G (.int k (k.wrap (m.tdiv n))):=fun a w _ _ _ _ hh=>by simp [execOp,hh.eval hx,hh.eval hy,binOp,Op.intDiv,eqGuard,h0]
theorem Qy.rem (h0:n≠0):Qy P (.binOp .rem t x y t') ty e H G (.int k (m.tmod n)):=fun a w _ _ _ _ hh=>by simp [execOp,hh.eval hx,hh.eval hy,binOp,Op.intDiv,eqGuard,h0]
abbrev sJ:=@Qy.rem
theorem WK:Qy P (.binOp .and t x y t') ty e H G (.int k (bits .and k m n)):=fun a w _ _ _ _ hh=>by simp [execOp,hh.eval hx,hh.eval hy,binOp,eqGuard];rfl
abbrev mA:=@WK
theorem PX:Qy P (.binOp .or t x y t') ty e H G (.int k (bits .or k m n)):=fun a w _ _ _ _ hh=>by simp [execOp,hh.eval hx,hh.eval hy,binOp,eqGuard];rfl
end cmp
theorem Qy.shl {t t':I9} {x y:I7} {k k':IntKind} {m n:Int} (hx:e.ev x=some (.int k m)) (hy:e.ev y=some (.int k' n)) (h0:0≤n) :
 Qy P (.binOp .shl t x y t') ty e H G (.int k (k.wrap (m*2 ^ (min n.toNat k.bits)))):=fun a w _ _ _ _ hh=>by
 simp [execOp,hh.eval hx,hh.eval hy,binOp,Op.shift,eqGuard,Int.not_lt.2 h0]
theorem Qy.shr {t t':I9} {x y:I7} {k k':IntKind} {m n:Int} (hx:e.ev x=some (.int k m)) (hy:e.ev y=some (.int k' n)) (h0:0≤n) :
 Qy P (.binOp .shr t x y t') ty e H G (.int k (m.fdiv (2 ^ (min n.toNat k.bits)))):=fun a w _ _ _ _ hh=>by
 simp [execOp,hh.eval hx,hh.eval hy,binOp,Op.shift,eqGuard,Int.not_lt.2 h0]
abbrev pE:=@Qy.shr
section arith64
variable {t t':I9} {x y:I7} {m n:Int} (hx:e.ev x=some (.int .i64 m)) (hy:e.ev y=some (.int .i64 n))
include hx hy
theorem Qy.add (hb:-9223372036854775808≤m+n∧m+n≤9223372036854775807):Qy P (.binOp .add t x y t') ty e H G (.int .i64 (m+n)):=by
 have:=Pb (P:=P) (H:=H) (G:=G) (ty:=ty) (t:=t) (t':=t') hx hy;rwa [iI _ hb] at this
theorem Qy.sub (hb:-9223372036854775808≤m - n∧m - n≤9223372036854775807):Qy P (.binOp .sub t x y t') ty e H G (.int .i64 (m - n)):=by
 have:=Jn (P:=P) (H:=H) (G:=G) (ty:=ty) (t:=t) (t':=t') hx hy;rwa [iI _ hb] at this
theorem Qy.mul (hb:-9223372036854775808≤m*n∧m*n≤9223372036854775807):Qy P (.binOp .mul t x y t') ty e H G (.int .i64 (m*n)):=by
 have:=kV (P:=P) (H:=H) (G:=G) (ty:=ty) (t:=t) (t':=t') hx hy;rwa [iI _ hb] at this
abbrev kH:=@Qy.mul
theorem Qy.quo (h0:n≠0) (hb:-9223372036854775808≤m.tdiv n∧m.tdiv n≤9223372036854775807):Qy P (.binOp .quo t x y t') ty e H G (.int .i64 (m.tdiv n)):=by
 have:=Pc (P:=P) (H:=H) (G:=G) (ty:=ty) (t:=t) (t':=t') hx hy h0;rwa [iI _ hb] at this
abbrev nV:=@Qy.quo
end arith64
theorem Qy.neg {t:I9} {x:I7} {m:Int} (hx:e.ev x=some (.int .i64 m)) (hb:-9223372036854775807≤m∧m≤9223372036854775808):Qy P (.unOp .neg t x) ty e H G (.int .i64 (-m)):=
 fun a w _ _ _ _ hh=>by simp [execOp,Op.unary,Op.intArith,hh.eval hx,iI _ (show -9223372036854775808≤-m∧-m≤9223372036854775807 by omega)]
abbrev qL:=@Qy.neg
theorem WL {t:I9} {x:I7} {k:IntKind} {m:Int} (hx:e.ev x=some (.int k m)):Qy P (.unOp .neg t x) ty e H G (.int k (k.wrap (0 - m))):=
 fun a w _ _ _ _ hh=>by simp [execOp,Op.unary,Op.intArith,hh.eval hx]
abbrev nI:=@WL
theorem WM {s t:I9} {x:I7} {k k':IntKind} {m:Int} (hs:(P.underlying s).isSome=true) (ht:P.underlying t=some (.int k')) (hx:e.ev x=some (.int k m)) :
 Qy P (.convert s t x) ty e H G (.int k' (k'.wrap m)):=fun a w _ _ _ _ hh=>by
 cases hu:P.underlying s with
 | none=>simp [hu] at hs
 | some u=>simp [execOp,hh.eval hx,convert,bB hu,bB ht,Conv.intToInt]
abbrev lS:=@WM
theorem Pd {t t':I9} {x y:I7} {m n:Bool} (ht:P.underlying t=some .bool) (hx:e.ev x=some (.bool m)) (hy:e.ev y=some (.bool n)) :
 Qy P (.binOp .eql t x y t') ty e H G (.bool (decide (m=n))):=fun a w _ _ _ _ hh=>by
 have:=run_equalIn_bool' (P:=P) w 9999 t m n ht;simp [execOp,hh.eval hx,hh.eval hy,binOp,eqGuard,Op.equal,Op.maxDepth,this];rfl
theorem Yr {t t':I9} {x y:I7} {m n:Bool} (ht:P.underlying t=some .bool) (hx:e.ev x=some (.bool m)) (hy:e.ev y=some (.bool n)) :
 Qy P (.binOp .neq t x y t') ty e H G (.bool (decide (m≠n))):=fun a w _ _ _ _ hh=>by
 have:=run_equalIn_bool' (P:=P) w 9999 t m n ht;simp [execOp,hh.eval hx,hh.eval hy,binOp,eqGuard,Op.equal,Op.maxDepth,this];cases m <;> cases n <;> rfl
def Cx (P:I6) (s f off:Nat):Prop:=∀ b o w,(Instr.fieldAt s (.pointer (some ⟨b,o,none⟩)) f).run P w=.ok (.pointer (some ⟨b,o+off,none⟩)) w
theorem Qy.fieldAddr {s f:Nat} {x:I7} {b o off:Nat} (hf:Cx P s f off) (hx:e.ev x=some (.pointer (some ⟨b,o,none⟩))) :
 Qy P (.fieldAddr s x f) ty e H G (.pointer (some ⟨b,o+off,none⟩)):=fun a w _ _ _ _ hh=>by simp [execOp,hh.eval hx,hf b o w]
abbrev fT:=@Qy.fieldAddr
theorem Qy.nilCheck {x:I7} {ad:Addr} (hx:e.ev x=some (.pointer (some ad))):Qy P (.nilCheck x) ty e H G (.pointer (some ad)):=fun a w _ _ _ _ hh=>by simp [execOp,hh.eval hx]
abbrev qK:=@Qy.nilCheck
theorem Ys {x:I7} {r:J0 Nat} (hx:e.ev x=some (.map r)):Qy P (.nilCheck x) ty e H G (.map r):=fun a w _ _ _ _ hh=>by simp [execOp,hh.eval hx]
theorem Yt {x:I7} {f:FuncId} {fs cs:Array Value} (hx:e.ev x=some (.func (.func f) fs cs)):Qy P (.nilCheck x) ty e H G (.func (.func f) fs cs):=fun a w _ _ _ _ hh=>by simp [execOp,hh.eval hx]
theorem Yu {x:I7} {f:Nat} {fs cs:Array Value} (hx:e.ev x=some (.func (.yield f) fs cs)):Qy P (.nilCheck x) ty e H G (.func (.yield f) fs cs):=fun a w _ _ _ _ hh=>by simp [execOp,hh.eval hx]
theorem zI {T:I9} {ad:Addr} {w:I8} {v:Value} (h1:wZ P T=true) (hc:w.cell? ad=some v):(Instr.loadAt T (.pointer (some ad))).run P w=.ok v w:=by
 simp [Instr.loadAt,Instr.sureAddr,loadVar,yI w h1,hc]
theorem zJ {T k:I9} {b off:Nat} {w:I8} {vs:List Value} (h1:yH P T k=true) (hl:vs.length=k) (hc:∀ j v,vs[j]?=some v→w.cell? ⟨b,off+j,none⟩=some v) :
 (Instr.loadAt T (.pointer (some ⟨b,off,none⟩))).run P w=.ok (.agg vs.toArray) w:=by
 subst hl;have:=rI (P:=P) w ⟨b,off,none⟩ vs (fun j v hv=>by rw [add_lit];exact hc j v hv);simp [Instr.loadAt,Instr.sureAddr,loadVar,Di w h1,run_sizeOf w (Qr h1),this]
theorem Qy.load {T:I9} {x:I7} {b off:Nat} {cs:List Value} {bt:I9} {fz:Nat×Nat} {v:Value} (t:Nat) (h1:wZ P T=true)
 (hx:e.ev x=some (.pointer (some ⟨b,off,none⟩))) (ht:H.get t=some (some b,.cells cs.toArray bt fz)) (hv:cs[off]?=some v):Qy P (.load T x) ty e H G v:=fun a w _ _ _ _ hh=>by
 have hc:w.cell? ⟨b,off,none⟩=some v:=by rw [cell_of_block (hh.mem.own t b _ ht)];exact hv
 simp [execOp,hh.eval hx,zI h1 hc]
abbrev jP:=@Qy.load
theorem PY {T k:I9} {x:I7} {b off:Nat} {cs:List Value} {bt:I9} {fz:Nat×Nat} {vs:List Value} (t:Nat) (h1:yH P T k=true)
 (hx:e.ev x=some (.pointer (some ⟨b,off,none⟩))) (ht:H.get t=some (some b,.cells cs.toArray bt fz)) (hv:(cs.drop off).take k=vs) (hl:vs.length=k):Qy P (.load T x) ty e H G (.agg vs.toArray):=
 fun a w _ _ _ _ hh=>by
  have hc:∀ j v,vs[j]?=some v→w.cell? ⟨b,off+j,none⟩=some v:=fun j v hj=>by
   rw [cell_of_block (hh.mem.own t b _ ht)];subst hv;rw [mG] at hj;split at hj
   · simpa using hj
   cases hj
  simp [execOp,hh.eval hx,zJ h1 hl hc]
abbrev iG:=@PY
theorem GM {T k:I9} {x:I7} {b:Nat} {cs:List Value} {bt:I9} {fz:Nat×Nat} (t:Nat) (h1:yH P T k=true)
 (hx:e.ev x=some (.pointer (some ⟨b,0,none⟩))) (ht:H.get t=some (some b,.cells cs.toArray bt fz)) (hl:cs.length=k):Qy P (.load T x) ty e H G (.agg cs.toArray):=
 iG t h1 hx ht (by rw [oI,←hl,bI]) hl
theorem PZ {T:I9} {x:I7} {b off:Nat} {v:Value} (h1:wZ P T=true) (hx:e.ev x=some (.pointer (some ⟨b,off,none⟩))) (hv:G.cell b off=some v):Qy P (.load T x) ty e H G v:=
 fun a w _ _ _ _ hh=>by simp [execOp,hh.eval hx,zI h1 (hh.mem.cellG hv)]
abbrev eE:=@PZ
theorem LZ {T k:I9} {x:I7} {b off:Nat} {vs:List Value} (h1:yH P T k=true) (hx:e.ev x=some (.pointer (some ⟨b,off,none⟩))) (hv:G.row b off vs) (hl:vs.length=k) :
 Qy P (.load T x) ty e H G (.agg vs.toArray):=fun a w _ _ _ _ hh=>by simp [execOp,hh.eval hx,zJ h1 hl (fun j v hj=>hh.mem.cellG (hv j v hj))]
abbrev jK:=@LZ
theorem Qy.extract {x:I7} {i:Nat} {vs:List Value} {v:Value} (hx:e.ev x=some (.tuple vs.toArray)) (hv:vs[i]?=some v):Qy P (.extract x i) ty e H G v:=
 fun a w _ _ _ _ hh=>by simp [execOp,hh.eval hx,Instr.extract,hv]
theorem Qy.makeFunc {f:FuncId} {xs ys:Array I7} {us vs:List Value} (hx:e.evs xs.toList=some us) (hy:e.evs ys.toList=some vs):Qy P (.makeFunc (.func f) xs ys) ty e H G (.func (.func f) us.toArray vs.toArray):=
 fun a w _ _ _ _ hh=>by simp [execOp,Instr.makeFunc,hh.args hx,hh.args hy]
abbrev mO:=@Qy.makeFunc
def tR (P:I6) (T E sz:Nat):Prop:=P.underlying T=some (.slice E)∧(P.info? E).map (·.size)=some sz
theorem Qy.len {T:I9} {x:I7} {ad:J0 Addr} {n c:Nat} {E sz:Nat} (hT:tR P T E sz) (hx:e.ev x=some (.slice ad n c)) :
 Qy P (.call { callee:=.builtin .len,args:=#[x],argTypes:=#[T] }) ty e H G (.int .i64 n):=fun a w _ _ _ _ hh=>by
 simp [execOp,resolve,invoke,builtin,Builtin.len_,hh.eval hx,bB hT.1,goInt]
theorem Qy.cap {T:I9} {x:I7} {ad:J0 Addr} {n c:Nat} {E sz:Nat} (hT:tR P T E sz) (hx:e.ev x=some (.slice ad n c)) :
 Qy P (.call { callee:=.builtin .cap,args:=#[x],argTypes:=#[T] }) ty e H G (.int .i64 c):=fun a w _ _ _ _ hh=>by
 simp [execOp,resolve,invoke,builtin,Builtin.cap_,hh.eval hx,bB hT.1,goInt]
theorem Qy.min {ts:Array I9} {x y:I7} {k:IntKind} {m n:Int} (hx:e.ev x=some (.int k m)) (hy:e.ev y=some (.int k n)) :
 Qy P (.call { callee:=.builtin .min,args:=#[x,y],argTypes:=ts }) ty e H G (.int k (if n<m then n else m)):=fun a w _ _ _ _ hh=>by
 simp [execOp,resolve,invoke,builtin,Builtin.min_,Builtin.min2,hh.eval hx,hh.eval hy]
theorem Qy.max {ts:Array I9} {x y:I7} {k:IntKind} {m n:Int} (hx:e.ev x=some (.int k m)) (hy:e.ev y=some (.int k n)) :
 Qy P (.call { callee:=.builtin .max,args:=#[x,y],argTypes:=ts }) ty e H G (.int k (if m<n then n else m)):=fun a w _ _ _ _ hh=>by
 simp [execOp,resolve,invoke,builtin,Builtin.max_,Builtin.max2,hh.eval hx,hh.eval hy]
theorem Qy.indexAddr {T:I9} {x i:I7} {b o n c:Nat} {k:IntKind} {m:Int} {E sz:Nat} (hT:tR P T E sz) (hx:e.ev x=some (.slice (some ⟨b,o,none⟩) n c))
 (hi:e.ev i=some (.int k m)) (hb:0≤m∧m<n):Qy P (.indexAddr T x i) ty e H G (.pointer (some ⟨b,o+m.toNat*sz,none⟩)):=fun a w _ _ _ _ hh=>by
 simp [execOp,Instr.indexAt,hh.eval hx,hh.eval hi,asIntOf,bB hT.1,hb,run_sizeOf w hT.2,add_lit]
abbrev oB:=@Qy.indexAddr
def H9 (G:A2) (a:J0 Addr) (n sz:Nat) (cs:List Value):Prop:=
 cs.length=n*sz∧(n=0∨∃ b o,a=some ⟨b,o,none⟩∧G.row b o cs)
def ab (a:J0 Addr):Nat:=match a with | some x=>x.block | none=>0
def ao (a:J0 Addr):Nat:=match a with | some x=>x.off | none=>0
theorem H9.le {G G':A2} (h:G.le G') {a:J0 Addr} {n sz:Nat} {cs:List Value} (hs:H9 G a n sz cs):H9 G' a n sz cs:=
 ⟨hs.1,hs.2.imp id fun ⟨b,o,ha,hr⟩=>⟨b,o,ha,GL h hr⟩⟩
theorem H9.addr {G:A2} {a:J0 Addr} {n sz:Nat} {cs:List Value} (hs:H9 G a n sz cs) (hn:0<n):a=some ⟨ab a,ao a,none⟩:=by
 rcases hs.2 with h0 | ⟨b,o,rfl,_⟩
 · omega
 rfl
theorem H9.row {G:A2} {a:J0 Addr} {n sz:Nat} {cs:List Value} (hs:H9 G a n sz cs) (hn:0<n):G.row (ab a) (ao a) cs:=by
 rcases hs.2 with h0 | ⟨b,o,rfl,h⟩
 · omega
 exact h
theorem Ut {T:I9} {x i:I7} {ad:J0 Addr} {n c:Nat} {k:IntKind} {m:Int} {E sz:Nat} {cs:List Value} (hT:tR P T E sz) (hx:e.ev x=some (.slice ad n c))
 (hi:e.ev i=some (.int k m)) (hs:H9 G ad n sz cs) (hb:0≤m∧m<n):Qy P (.indexAddr T x i) ty e H G (.pointer (some ⟨ab ad,ao ad+m.toNat*sz,none⟩)):=by
 have ha:=hs.addr sU;rw [ha] at hx;exact oB hT hx hi hb
def B7 (a:J0 Addr) (c l sz:Nat):J0 Addr:=if c=l then a else a.map (·.add (l*sz))
theorem H9.sub {a:J0 Addr} {n sz c l:Nat} {cs:List Value} (hs:H9 G a n sz cs) (hl:l≤n) (hc:n≤c):H9 G (B7 a c l sz) (n - l) sz (cs.drop (l*sz)):=by
 refine ⟨by rw [eK,hs.1,Nat.sub_mul],?_⟩;rcases hs.2 with h0 | ⟨b,o,rfl,hr⟩
 · exact .inl sU
 unfold B7;split
 · rename_i h;have h1:n=l:=sU;refine .inr ⟨b,o,U,fun i v hi=>?_⟩;have h2:cs.length≤l*sz:=by rw [hs.1,h1];exact aH _
   rw [gT h2] at hi;simp at hi
 refine .inr ⟨b,o+l*sz,by simp [add_lit],fun i v hi=>?_⟩;rw [kR];exact hr _ _ (by simpa using hi)
end qy
section ops
variable {P:I6} {ops:Array Oper} {rest:List Oper} {B:Bs} {e:B0} {D:List Deferred} {H:Hp} {G:A2} {K:Act→I8→Prop}
 {ty:I9} {pos:String} {after:Array Edge} {d:Nat}
theorem Wl.q {o:Op} {v:Value} (hn:Nat.ble (d+1) B.n=true) (hq:Qy P o ty e H G v) (h:Wl P ops rest B ⟨(d,v) :: e,D,H,G⟩ K) :
 Wl P ops (⟨some d,o,ty,pos,after,none⟩ :: rest) B ⟨e,D,H,G⟩ K:=by
 intro a w hh;unfold uG;rw [aE (by simp [Region.wanted])];unfold An;rw [hq a w _ _ _ _ hh.look];exact h _ _ (hh.put hn v)
abbrev fS:=@Wl.q
theorem BS {o:Op} {v:Nat→Value} (t:Nat) {ob:Obj} (hn:Nat.ble (d+1) B.n=true)
 (hr:∀ a w,A5 B ⟨e,D,H,G⟩ a w→(execOp a.eval ⟨some d,o,ty,pos,after,none⟩).run P w=.ok (.value (v w.heap.size)) (w.alloc ob))
 (h:∀ b,Wl P ops rest B ⟨(d,v b) :: e,D,(t,some b,ob) :: H,G⟩ K):Wl P ops (⟨some d,o,ty,pos,after,none⟩ :: rest) B ⟨e,D,H,G⟩ K:=by
 intro a w hh;unfold uG;rw [aE (by simp [Region.wanted])];unfold An;rw [hr a w hh];exact h _ _ _ ((hh.alloc t ob).put hn _)
abbrev nM:=@BS
theorem MA {dst:J0 Nat} {o:Op} {v:Value} {t b:Nat} {ob ob':Obj} {x:Next} (ht:H.get t=some (some b,ob))
 (hx:(x=.skip∧dst=none)∨(x=.value v∧∃ d,dst=some d∧Nat.ble (d+1) B.n=true))
 (hr:∀ a w,A5 B ⟨e,D,H,G⟩ a w→∃ w',(execOp a.eval ⟨dst,o,ty,pos,after,none⟩).run P w=.ok x w'∧D9 (·=b) w w'∧w'.heap[b]?=some ob')
 (h:Wl P ops rest B ⟨(match dst with | some d=>(d,v) :: e | none=>e),D,(t,some b,ob') :: H,G⟩ K) :
 Wl P ops (⟨dst,o,ty,pos,after,none⟩ :: rest) B ⟨e,D,H,G⟩ K:=by
 intro a w hh;obtain ⟨w',hrun,hu,hb⟩:=hr a w hh;unfold uG;rw [aE (by simp [Region.wanted])];unfold An;rw [hrun];rcases hx with ⟨rfl,rfl⟩ | ⟨rfl,d,rfl,hn⟩
 · exact h _ _ (hh.set ht hu hb)
 exact h _ _ ((hh.set ht hu hb).put hn v)
abbrev pG:=@MA
theorem Wl.want {dst:J0 Nat} {o:Op} {j:Nat} {want:Bool} {t:Nat} (hj:(ops[j]?).bind (·.dst)=some t) (he:e.get t=some (.bool want))
 (h:Wl P ops (⟨dst,o,ty,pos,after,none⟩ :: rest) B ⟨e,D,H,G⟩ K):Wl P ops (⟨dst,o,ty,pos,after,some (j,want)⟩ :: rest) B ⟨e,D,H,G⟩ K:=by
 intro a w hh;have h1:=h a w hh;unfold uG at h1 ⊢;rw [aE (by simp [Region.wanted])] at h1;have hy:yielded ops a.tmps j=some want:=by simp [yielded,hj,hh.env t _ he]
 rw [aE (by simp [Region.wanted,hy])];exact h1
abbrev pP:=@Wl.want
theorem Wl.pass {o:Op} {j:Nat} {want:Bool} {t:Nat} (hj:(ops[j]?).bind (·.dst)=some t) (he:e.get t=some (.bool (!want))) (hn:Nat.ble (d+1) B.n=true)
 (h:Wl P ops rest B ⟨(d,undef) :: e,D,H,G⟩ K):Wl P ops (⟨some d,o,ty,pos,after,some (j,want)⟩ :: rest) B ⟨e,D,H,G⟩ K:=by
 intro a w hh;unfold uG;have hy:yielded ops a.tmps j=some (!want):=by simp [yielded,hj,hh.env t _ he]
 rw [aC (by simp [Region.wanted,hy])];exact h _ _ (hh.put hn undef)
theorem Vu {v:Value} (h:v.oneCell'=true):v.cells=#[v]:=by cases v <;> simp_all [Value.oneCell',Value.cells]
theorem wT (w:I8) (g:Nat) (c:Array Value):D9 (·=g) w (w.setRow g c):=
 ⟨U,U,U,by simp [World.setRow],fun k _ hk=>setRow_other w g k _ hk⟩
theorem Uu (cs:List Value) (off:Nat) (v:Value) (h:off<cs.length):cs.take off++[v]++cs.drop (off+1)=cs.set off v:=by
 rw [List.set_eq_take_append_cons_drop,aE h];simp
theorem Cy {T:I9} {b off:Nat} {w:I8} {cs vs:List Value} {bt:I9} {v:Value} (hs:(P.info? T).map (·.size)=some vs.length) (hv:v.cells=vs.toArray)
 (h1:vs.all (·.oneCell')=true) (hb:w.heap[b]?=some (.cells cs.toArray bt (0,0))) (ho:off+vs.length≤cs.length) :
 (Instr.storeAt T (.pointer (some ⟨b,off,none⟩)) v).run P w=.ok () (w.setRow b (cs.take off++vs++cs.drop (off+vs.length)).toArray):=by
 have hst:=oT P b off bt vs 0 cs.toArray w hb (by simpa using ho) (by simpa using h1);simp only [iY] at hst;simp [Instr.storeAt,Instr.sureAddr,storeVar,run_sizeOf w hs,hv,hst]
theorem Wl.store {T:I9} {x y:I7} {b off:Nat} {cs:List Value} {bt:I9} {v:Value} (t:Nat) (hs:wZ P T=true)
 (hx:e.ev x=some (.pointer (some ⟨b,off,none⟩))) (hy:e.ev y=some v) (h1:v.oneCell'=true) (ht:H.get t=some (some b,.cells cs.toArray bt (0,0))) (ho:Nat.ble (off+1) cs.length=true)
 (h:Wl P ops rest B ⟨e,D,(t,some b,.cells (cs.set off v).toArray bt (0,0)) :: H,G⟩ K):Wl P ops (⟨none,.store T x y,ty,pos,after,none⟩ :: rest) B ⟨e,D,H,G⟩ K:=
 pG (v:=undef) (x:=.skip) ht (.inl ⟨U,U⟩) (fun a w hh=>by
  have ho':=bD ho;have hb:=hh.mem.own t b _ ht;have:=Cy (P:=P) (T:=T) (off:=off) (cs:=cs) (vs:=[v]) (PW hs) (by rw [Vu h1]) (by simp [h1]) hb ho';refine ⟨_,by simp [execOp,hh.eval hx,hh.eval hy,this];rfl,wT w b _,?_⟩;rw [nL w b _ _ bt _ hb,←Uu cs off v ho'];simp) h
theorem MB {T:I9} {x y:I7} {b off k:Nat} {cs vs:List Value} {bt:I9} (t:Nat) (hs:(P.info? T).map (·.size)=some k)
 (hx:e.ev x=some (.pointer (some ⟨b,off,none⟩))) (hy:e.ev y=some (.agg vs.toArray)) (hk:vs.length=k) (h1:vs.all (·.oneCell')=true) (ht:H.get t=some (some b,.cells cs.toArray bt (0,0))) (ho:Nat.ble (off+vs.length) cs.length=true)
 (h:Wl P ops rest B ⟨e,D,(t,some b,.cells (cs.take off++vs++cs.drop (off+vs.length)).toArray bt (0,0)) :: H,G⟩ K):Wl P ops (⟨none,.store T x y,ty,pos,after,none⟩ :: rest) B ⟨e,D,H,G⟩ K:=
 pG (v:=undef) (x:=.skip) ht (.inl ⟨U,U⟩) (fun a w hh=>by
  have ho':=bD ho;have hb:=hh.mem.own t b _ ht;have:=Cy (P:=P) (T:=T) (off:=off) (cs:=cs) (vs:=vs) (v:=.agg vs.toArray) (by rw [hk];exact hs) U h1 hb ho';refine ⟨_,by simp [execOp,hh.eval hx,hh.eval hy,this];rfl,wT w b _,?_⟩;rw [nL w b _ _ bt _ hb,bA]) h
abbrev oG:=@MB
theorem BT {T:I9} {x y:I7} {b k:Nat} {cs vs:List Value} {bt:I9} (t:Nat) (hs:(P.info? T).map (·.size)=some k)
 (hx:e.ev x=some (.pointer (some ⟨b,0,none⟩))) (hy:e.ev y=some (.agg vs.toArray)) (hk:vs.length=k) (h1:vs.all (·.oneCell')=true) (ht:H.get t=some (some b,.cells cs.toArray bt (0,0))) (ho:Nat.beq vs.length cs.length=true)
 (h:Wl P ops rest B ⟨e,D,(t,some b,.cells vs.toArray bt (0,0)) :: H,G⟩ K):Wl P ops (⟨none,.store T x y,ty,pos,after,none⟩ :: rest) B ⟨e,D,H,G⟩ K:=by
 have hl:vs.length=cs.length:=aJ ho;refine oG t hs hx hy hk h1 ht (by rw [hl];simp) ?_;rw [dP,fJ,cP,hl,nB,cK];exact h
theorem Wl.box {T:I9} {x:I7} {v:Value} {cs:List Value} (t:Nat) (hn:Nat.ble (d+1) B.n=true) (hx:e.ev x=some v) (hv:v.cells=cs.toArray)
 (h:∀ b,Wl P ops rest B ⟨(d,.pointer (some ⟨b,0,none⟩)) :: e,D,(t,some b,.cells cs.toArray T (0,0)) :: H,G⟩ K) :
 Wl P ops (⟨some d,.box T x,ty,pos,after,none⟩ :: rest) B ⟨e,D,H,G⟩ K:=
 nM (v:=fun b=>.pointer (some ⟨b,0,none⟩)) t hn (fun a w hh=>by simp [execOp,Instr.box,newVar,newRow,hh.eval hx,hv]) h
def C7 (P:I6) (T:I9) (cs:List Value):Prop:=∀ w,∃ z,(zeroValue T).run P w=.ok z w∧z.cells=cs.toArray
theorem C7.of {P:I6} {T:I9} {cs:List Value} (h:((P.info? T).bind (·.zero)).map (·.cells)=some cs.toArray):C7 P T cs:=fun w=>by
 cases hi:P.info? T with
 | none=>simp [hi] at h
 | some i =>
   cases hz:i.zero with
   | none=>simp [hi,hz] at h
   | some z=>exact ⟨z,by simp [zeroValue,typeInfo,hi,hz],by simpa [hi,hz] using h⟩
abbrev lM:=@C7.of
theorem Wl.alloc {T:I9} {cs:List Value} (t:Nat) (hn:Nat.ble (d+1) B.n=true) (hz:C7 P T cs)
 (h:∀ b,Wl P ops rest B ⟨(d,.pointer (some ⟨b,0,none⟩)) :: e,D,(t,some b,.cells cs.toArray T (0,0)) :: H,G⟩ K) :
 Wl P ops (⟨some d,.alloc T,ty,pos,after,none⟩ :: rest) B ⟨e,D,H,G⟩ K:=
 nM (v:=fun b=>.pointer (some ⟨b,0,none⟩)) t hn (fun a w hh=>by
  obtain ⟨z,hz,hc⟩:=hz w;simp [execOp,Instr.alloc,newVar,newRow,hz,hc]) h
abbrev aV:=@Wl.alloc
end ops
theorem Uv (A B:Hp) (i:Nat):Hp.get (A++B) i=(Hp.get A i).or (Hp.get B i):=by
 induction A with
 | nil=>rfl
 | cons x A ih =>
   obtain ⟨j,v⟩:=x;show Hp.get ((j,v) :: (A++B)) i=_;rw [bF,bF,ih];split <;> rfl
abbrev eL:=@Uv
def Hp.shift (k:Nat):Hp→Hp
 | []=>[]
 | (t,x) :: h=>(k+t,x) :: Hp.shift k h
def Hp.kill (k:Nat):Hp→Hp
 | []=>[]
 | (t,_) :: h=>(k+t,none,default) :: Hp.kill k h
theorem Yv (k:Nat) (h:Hp) (i:Nat):(h.shift k).get i=if k≤i then h.get (i - k) else none:=by
 induction h with
 | nil=>simp [Hp.shift,Hp.get]
 | cons x h ih =>
   obtain ⟨t,x⟩:=x;show Hp.get ((k+t,x) :: Hp.shift k h) i=_;rw [bF,ih,bF];by_cases hi:k≤i
   · rw [aE hi,aE hi];by_cases ht:k+t=i
     · rw [aE ht,aE (by omega)]
     rw [aC ht,aC (by omega)]
   rw [aC hi,aC hi,aC (by omega)]
abbrev fU:=@Yv
theorem Ls {k:Nat} {h:Hp} {i:Nat} {x:J0 Nat×Obj} (hx:(h.kill k).get i=some x):x.1=none:=by
 induction h with
 | nil=>simp [Hp.kill,Hp.get] at hx
 | cons y h ih =>
   obtain ⟨t,y⟩:=y;have hx':Hp.get ((k+t,none,default) :: Hp.kill k h) i=some x:=hx;rw [bF] at hx';split at hx'
   · simp only [bU] at hx';rw [←hx']
   exact ih hx'
theorem Lt {k:Nat} {h:Hp} {i:Nat} (hx:(h.kill k).get i=none):∀ t x,h.get t=some x→i≠k+t:=by
 induction h with
 | nil=>intro t x h;simp [Hp.get] at h
 | cons y h ih =>
   obtain ⟨t,y⟩:=y;intro t' x hg he;have hx':Hp.get ((k+t,none,default) :: Hp.kill k h) i=none:=hx;rw [bF] at hx' hg;split at hx'
   · cases hx'
   rename_i hne;split at hg
   · rename_i h2;omega
   exact ih hx' t' x hg he
def B6 (G:A2) (Hi:Hp) (w:I8) (post:Value→A2→Hp→Prop):Ending→I8→Prop:=fun x w' =>
 ∃ v G' Ho,x=.returned v∧B3 Ho G' w'∧G.le G'∧D9 Hi.has w w'∧(∀ b,G' b≠none→G b=none→w.heap.size≤b∨Hi.has b)∧
  (∀ t b o,Ho.get t=some (some b,o)→w.heap.size≤b∨Hi.has b)∧post v G' Ho
def Does (P:I6) (f:FuncId) (args:List Value) (G:A2) (Hi:Hp) (post:Value→A2→Hp→Prop):Prop:=
 ∀ w,B3 Hi G w→Calls P f args.toArray w (B6 G Hi w post)
theorem Does.mono {P:I6} {f:FuncId} {args:List Value} {G:A2} {Hi:Hp} {post post':Value→A2→Hp→Prop} (h:Does P f args G Hi post)
 (hp:∀ v G' Ho,G.le G'→post v G' Ho→post' v G' Ho):Does P f args G Hi post':=
 fun w hw=>(h w hw).mono fun _ _ ⟨v,G',Ho,h1,h2,h3,h4,h5,h6,h7⟩=>⟨v,G',Ho,h1,h2,h3,h4,h5,h6,hp v G' Ho h3 h7⟩
section
variable {P:I6} {B:Bs} {e:B0} {D:List Deferred} {H:Hp} {G:A2}
theorem A5.called {a:Act} {w w':I8} (hh:A5 B ⟨e,D,H,G⟩ a w) {Hi:Hp} (k:Nat) (hHi:∀ t x,Hi.get t=some x→H.get (k+t)=some x)
 {G':A2} {Ho:Hp} (h2:B3 Ho G' w') (h3:G.le G') (h4:D9 Hi.has w w') (h5:∀ b,G' b≠none→G b=none→w.heap.size≤b∨Hi.has b)
 (h6:∀ t b o,Ho.get t=some (some b,o)→w.heap.size≤b∨Hi.has b):A5 B ⟨e,D,Ho.shift k++(Hi.kill k++H),G'⟩ a w':=by
 have hin:∀ b,Hi.has b→∃ t o,H.get (k+t)=some (some b,o)∧Hi.get t=some (some b,o):=fun b ⟨t,o,h⟩=>⟨t,o,hHi t _ h,h⟩
 have hmine:∀ b,Hi.has b→B.W.heap.size≤b∨B.X b:=fun b hb=>by obtain ⟨t,o,h,_⟩:=hin b hb;exact hh.mine _ b o h
 -- what is left of H: its blocks are none of Hi's
 have hleft:∀ i b o,(Hi.kill k++H).get i=some (some b,o)→H.get i=some (some b,o)∧¬Hi.has b:=by
  intro i b o hx;rw [eL] at hx;cases hk:(Hi.kill k).get i with
  | some x =>
    rw [hk] at hx;have h1:=Ls hk;have hx':x=(some b,o):=by simpa using hx
    rw [hx'] at h1;cases h1
  | none =>
    rw [hk] at hx;simp only [iH] at hx;refine ⟨hx,fun hb=>?_⟩;obtain ⟨t,o',h1,h1'⟩:=hin b hb;have:=hh.mem.one _ _ b _ _ hx h1;exact Lt hk t _ h1' this
 have hsplit:∀ i b o,(Ho.shift k++(Hi.kill k++H)).get i=some (some b,o)→(k≤i∧Ho.get (i - k)=some (some b,o))∨(H.get i=some (some b,o)∧¬Hi.has b):=by
  intro i b o hx;rw [eL,fU] at hx;by_cases hi:k≤i
  · rw [aE hi] at hx;cases hg:Ho.get (i - k) with
    | some x=>rw [hg] at hx;exact .inl ⟨hi,by simpa using hx⟩
    | none=>rw [hg] at hx;simp only [iH] at hx;exact .inr (hleft i b o hx)
  rw [aC hi] at hx;simp only [iH] at hx;exact .inr (hleft i b o hx)
 have hfar:∀ t b o i o',Ho.get t=some (some b,o)→H.get i=some (some b,o')→¬Hi.has b→False:=fun t b o i o' h1 h2 h3=>by
  rcases h6 t b o h1 with h | h
  · have:b<w.heap.size:=hh.mem.lt h2;omega
  exact h3 h
 refine ⟨hh.size,hh.defers,hh.env,⟨?_,?_,h2.imm,?_⟩,?_,?_,bL hh.le h3,?_⟩
 · intro i b o hx;rcases hsplit i b o hx with ⟨_,h⟩ | ⟨h,hn⟩
   · exact h2.own _ b o h
   rw [h4.same b (hh.mem.lt h) hn];exact hh.mem.own _ b o h
 · intro i j b o o' hx hy;rcases hsplit i b o hx with ⟨hi,h⟩ | ⟨h,hn⟩ <;> rcases hsplit j b o' hy with ⟨hj,h'⟩ | ⟨h',hn'⟩
   · have:=h2.one _ _ b _ _ h h';omega
   · exact (hfar _ b _ _ _ h h' hn').elim
   · exact (hfar _ b _ _ _ h' h hn).elim
   exact hh.mem.one _ _ b _ _ h h'
 · intro i b o hx;rcases hsplit i b o hx with ⟨_,h⟩ | ⟨h,hn⟩
   · exact h2.off _ b o h
   have hg:G b=none:=hh.mem.off i b o h;cases hb:G' b with
   | none=>exact hb
   | some x =>
     rcases h5 b (by rw [hb];simp) hg with h' | h'
     · have:b<w.heap.size:=hh.mem.lt h;omega
     exact (hn h').elim
 · refine ⟨h4.os.trans hh.upd.os,h4.tape.trans hh.upd.tape,h4.output.trans hh.upd.output,bP hh.upd.size h4.size,fun b hb hx=>?_⟩;by_cases hi:Hi.has b
   · rcases hmine b hi with h' | h'
     · omega
     exact (hx h').elim
   exact (h4.same b (bZ hb hh.upd.size) hi).trans (hh.upd.same b hb hx)
 · intro i b o hx;rcases hsplit i b o hx with ⟨_,h⟩ | ⟨h,_⟩
   · rcases h6 _ b o h with h' | h'
     · exact .inl (bP hh.upd.size h')
     exact hmine b h'
   exact hh.mine i b o h
 intro b hb h0;by_cases hg:G b=none
 · rcases h5 b hb hg with h' | h'
   · exact .inl (bP hh.upd.size h')
   exact hmine b h'
 exact hh.new b hg h0
section call
variable {ops:Array Oper} {rest:List Oper} {K:Act→I8→Prop} {ty:I9} {pos:String} {after:Array Edge} {d:Nat}
theorem xV {f : FuncId} {fn : Func} (w : I8) (args : Array Value) (hf : P.funcs[f]? = some fn) (hb : fn.body.isSome = true) (hn : (fn.name == "runtime.NumGoroutine") = false) :
 (callFunc f args).run P w=.ok (.enter f args) w:=by
 have h1:fn.body≠none:=by intro h;simp [h] at hb
 have h2 : fn.name ≠ "runtime.NumGoroutine" := by simpa using hn
 simp [callFunc,hf,h1,h2]
def vF (P : I6) (f : FuncId) : Prop := ∃ fn, P.funcs[f]? = some fn ∧ fn.body.isSome = true ∧ (fn.name == "runtime.NumGoroutine") = false
theorem QA {g:I7} {f:FuncId} {fst cap:List Value} {xs:Array I7} {ats:Array I9} {vs:List Value} {Hi:Hp} {post:Value→A2→Hp→Prop} (k:Nat)
 (hn:Nat.ble (d+1) B.n=true) (hf:vF P f) (hg:e.ev g=some (.func (.func f) fst.toArray cap.toArray)) (hx:e.evs xs.toList=some vs)
 (hF:Does P f (fst++vs++cap) G Hi post) (hHi:∀ t x,Hi.get t=some x→H.get (k+t)=some x)
 (h:∀ v G' Ho,G.le G'→post v G' Ho→Wl P ops rest B ⟨(d,v) :: e,D,Ho.shift k++(Hi.kill k++H),G'⟩ K) :
 Wl P ops (⟨some d,.call { callee:=.value g,args:=xs,argTypes:=ats },ty,pos,after,none⟩ :: rest) B ⟨e,D,H,G⟩ K:=by
 intro a w hh;obtain ⟨fn,h1,h2,h3⟩:=hf;unfold uG;rw [aE (by simp [Region.wanted])];unfold An;have hrun:(execOp a.eval ⟨some d,.call { callee:=.value g,args:=xs,argTypes:=ats },ty,pos,after,none⟩).run P w=.ok (.enter f (fst++vs++cap).toArray) w:=by
  simp [execOp,resolve,Deferred.ofValue,invoke,hh.eval hg,hh.args hx,xV w _ h1 h2 h3]
 rw [hrun];have hw:B3 Hi G w:=⟨fun t b o x=>hh.mem.own _ b o (hHi _ _ x),fun t t' b o o' x y=>by have:=hh.mem.one _ _ b _ _ (hHi _ _ x) (hHi _ _ y);omega,hh.mem.imm,fun t b o x=>hh.mem.off _ b o (hHi _ _ x)⟩
 refine (hF w hw).mono fun x w' ⟨v,G',Ho,h1,h2,h3,h4,h5,h6,h7⟩=>⟨v,h1,?_⟩
 exact h v G' Ho h3 h7 _ _ ((hh.called k hHi h2 h3 h4 h5 h6).put hn v)
abbrev kX:=@QA
theorem Wl.call {f:FuncId} {xs:Array I7} {ats:Array I9} {vs:List Value} {Hi:Hp} {post:Value→A2→Hp→Prop} (k:Nat)
 (hn:Nat.ble (d+1) B.n=true) (hf:vF P f) (hx:e.evs xs.toList=some vs)
 (hF:Does P f vs G Hi post) (hHi:∀ t x,Hi.get t=some x→H.get (k+t)=some x)
 (h:∀ v G' Ho,G.le G'→post v G' Ho→Wl P ops rest B ⟨(d,v) :: e,D,Ho.shift k++(Hi.kill k++H),G'⟩ K) :
 Wl P ops (⟨some d,.call { callee:=.value (.func f),args:=xs,argTypes:=ats },ty,pos,after,none⟩ :: rest) B ⟨e,D,H,G⟩ K:=
 kX (fst:=[]) (cap:=[]) k hn hf U hx (by simpa using hF) hHi h
abbrev fF:=@Wl.call
theorem QB {f:FuncId} {xs:Array I7} {ats:Array I9} {vs:List Value} {r:Value}
 (hn:Nat.ble (d+1) B.n=true) (hf:vF P f) (hx:e.evs xs.toList=some vs)
 (hF:Does P f vs G [] (fun v G' Ho=>v=r∧G'=G∧Ho=[]))
 (h:Wl P ops rest B ⟨(d,r) :: e,D,H,G⟩ K) :
 Wl P ops (⟨some d,.call { callee:=.value (.func f),args:=xs,argTypes:=ats },ty,pos,after,none⟩ :: rest) B ⟨e,D,H,G⟩ K:=
 fF 0 hn hf hx hF (fun t x h=>by simp [Hp.get] at h) (fun v G' Ho _ ⟨h1,h2,h3⟩=>by subst h1 h2 h3;exact h)
abbrev oH:=@QB
end call
def wB:Nat→List Value→B0
 | _,[]=>[]
 | i,v :: vs=>(i,v) :: wB (i+1) vs
theorem Fk:∀ (vs:List Value) (i j:Nat) (v:Value),(wB i vs).get j=some v→i≤j∧vs[j - i]?=some v
 | [],i,j,v,h=>by simp [wB,B0.get] at h
 | u :: vs,i,j,v,h=>by
   have h':B0.get ((i,u) :: wB (i+1) vs) j=some v:=h;rw [jA] at h';split at h'
   · rename_i hij;subst hij;simpa using h'
   obtain ⟨h1,h2⟩:=Fk vs (i+1) j v h';refine ⟨by omega,?_⟩;rw [show j - i=(j - (i+1))+1 by omega];simpa using h2
abbrev qS:=@Fk
def GN (P:I6) (fn:Func) (G:A2) (Hi:Hp) (w:I8) (post:Value→A2→Hp→Prop):Exit→Act→I8→Prop:=bodyPost P fn (B6 G Hi w post)
theorem Does.enter {f:FuncId} {fn:Func} {c:Code} {n:Nat} {args:List Value} {Hi:Hp} {post:Value→A2→Hp→Prop} (hf:P.funcs[f]?=some fn) (hb:fn.body=some c) (hn:fn.ntmps=n)
 (hl:Nat.ble args.length n=true) (h:∀ w,Wc none P c ⟨n,w,Hi.has,G⟩ ⟨wB 0 args,[],Hi,G⟩ (GN P fn G Hi w post)):Does P f args G Hi post:=by
 intro w hw;have hl':=bD hl;refine yS.1 (callsIn_of_wp (F:=FF none) (n:=0) hf hb I3 (h w _ w ?_));refine ⟨?_,U,?_,hw,kZ _ _,fun t b o hx=>.inr ⟨t,o,hx⟩,cX _,fun b h1 h2=>(h1 h2).elim⟩
 · simp [hn];omega
 intro i v hi;obtain ⟨_,h2⟩:=qS args 0 i v hi;have h2':args[i]?=some v:=by simpa using h2
 have hlt:i<args.length:=(aW.1 h2').1;show (args.toArray++Array.replicate (fn.ntmps - args.toArray.size) undef)[i]?=some v;rw [lK (by simpa using hlt)];simpa using h2'
abbrev jN:=@Does.enter
def F1 (P:I6) (S:St) (x:ResultVar) (v:Value):Prop:=
 (∃ t,x=.tmp t∧S.e.get t=some v)∨
 (∃ t T b tag cs bt fz,x=.cell t T∧S.e.get t=some (.pointer (some ⟨b,0,none⟩))∧S.H.get tag=some (some b,.cells cs bt fz)∧
  ((yH P T cs.size=true∧v=.agg cs)∨(wZ P T=true∧cs[0]?=some v)))
theorem F1.tmp {S:St} {t:Nat} {v:Value} (h:S.e.get t=some v):F1 P S (.tmp t) v:=.inl ⟨t,U,h⟩
theorem F1.agg {S:St} {t T b:Nat} {cs:List Value} {bt:I9} {fz:Nat×Nat} (tag:Nat) (h:S.e.get t=some (.pointer (some ⟨b,0,none⟩))) (hH:S.H.get tag=some (some b,.cells cs.toArray bt fz))
 (hT:yH P T cs.length=true):F1 P S (.cell t T) (.agg cs.toArray):=.inr ⟨t,T,b,tag,cs.toArray,bt,fz,U,h,hH,.inl ⟨by simpa using hT,rfl⟩⟩
def Bw (tmps:Array Value):ResultVar→Sem Value:=fun
 | .tmp t=>pure (tmps.getD t undef)
 | .cell a t=>do loadVar t (←asAddr (tmps.getD a undef))
theorem F1.run {S:St} {x:ResultVar} {v:Value} {a:Act} {w:I8} (h:F1 P S x v) (hh:A5 B S a w):(Bw a.tmps x).run P w=.ok v w:=by
 rcases h with ⟨t,rfl,ht⟩ | ⟨t,T,b,tag,cs,bt,fz,rfl,ht,hH,hT⟩
 · have:=hh.env t v ht;simp [Bw,this]
 have h1:=hh.env t _ ht;have h2:=hh.mem.own tag b _ hH;simp only [Bw];have h3:a.tmps.getD t undef=.pointer (some ⟨b,0,none⟩):=by simp [h1]
 rw [h3];rcases hT with ⟨hT,rfl⟩ | ⟨hT,hv⟩
 · have hl:=zJ (P:=P) (T:=T) (b:=b) (off:=0) (w:=w) (vs:=cs.toList) hT tW (fun j v hj=>by
    simp only [cP];rw [cell_of_block (cs:=cs.toList) (by simpa using h2)];exact hj)
   simpa [Instr.loadAt,Instr.sureAddr,asAddr] using hl
 have hl:=zI (P:=P) (T:=T) (ad:=⟨b,0,none⟩) (w:=w) (v:=v) hT (by rw [cell_of_block (cs:=cs.toList) (by simpa using h2)];simpa using hv);simpa [Instr.loadAt,Instr.sureAddr,asAddr] using hl
theorem yT (fn:Func) (tmps:Array Value):results fn tmps=(do let vs ←fn.results.mapM (Bw tmps);pure (if h:vs.size=1 then vs[0] else .tuple vs)):=rfl
section ret
variable {fn:Func} {G0:A2} {Hi:Hp} {w0:I8} {post:Value→A2→Hp→Prop} {n:Nat} {v:Value} {x:Exit}
theorem Ar.out (hx:x=.normal∨x=.ret) {Ho:Hp} (hHo:H.sub Ho) (hr:∀ a w,A5 ⟨n,w0,Hi.has,G0⟩ ⟨e,[],H,G⟩ a w→(results fn a.tmps).run P w=.ok v w)
 (hp:post v G Ho):Ar (GN P fn G0 Hi w0 post) x ⟨n,w0,Hi.has,G0⟩ ⟨e,[],H,G⟩:=by
 intro a w hh;have hH:=hh.weaken (e':=e) (H':=Ho) (fun _ _ h=>h) (kK hHo);have key:a.defers=[]∧∃ v,(results fn a.tmps).run P w=.ok v w∧B6 G0 Hi w0 post (.returned v) w:=
  ⟨hh.defers,v,hr a w hh,v,G,Ho,U,hH.mem,hh.le,hh.upd,hh.new,hH.mine,hp⟩
 rcases hx with rfl | rfl <;> exact key
theorem WN (hx:x=.normal∨x=.ret) {Ho:Hp} (hres:fn.results=#[]) (hHo:H.sub Ho) (hp:post (.tuple #[]) G Ho):Ar (GN P fn G0 Hi w0 post) x ⟨n,w0,Hi.has,G0⟩ ⟨e,[],H,G⟩:=
 Ar.out hx hHo (fun a w _=>by simp [yT,hres]) hp
abbrev jX:=@WN
theorem WO (hx:x=.normal∨x=.ret) {Ho:Hp} {r1:ResultVar} {v1:Value} (hres:fn.results=#[r1]) (h1:F1 P ⟨e,[],H,G⟩ r1 v1) (hHo:H.sub Ho) (hp:post v1 G Ho) :
 Ar (GN P fn G0 Hi w0 post) x ⟨n,w0,Hi.has,G0⟩ ⟨e,[],H,G⟩:=
 Ar.out hx hHo (fun a w hh=>by simp [yT,hres,h1.run hh]) hp
abbrev cW:=@WO
theorem WP (hx:x=.normal∨x=.ret) {Ho:Hp} {r1 r2:ResultVar} {v1 v2:Value} (hres:fn.results=#[r1,r2]) (h1:F1 P ⟨e,[],H,G⟩ r1 v1) (h2:F1 P ⟨e,[],H,G⟩ r2 v2) (hHo:H.sub Ho)
 (hp:post (.tuple #[v1,v2]) G Ho):Ar (GN P fn G0 Hi w0 post) x ⟨n,w0,Hi.has,G0⟩ ⟨e,[],H,G⟩:=
 Ar.out hx hHo (fun a w hh=>by simp [yT,hres,h1.run hh,h2.run hh]) hp
abbrev gD:=@WP
theorem Yw (hx:x=.normal∨x=.ret) {Ho:Hp} {r1 r2 r3:ResultVar} {v1 v2 v3:Value} (hres:fn.results=#[r1,r2,r3]) (h1:F1 P ⟨e,[],H,G⟩ r1 v1) (h2:F1 P ⟨e,[],H,G⟩ r2 v2)
 (h3:F1 P ⟨e,[],H,G⟩ r3 v3) (hHo:H.sub Ho) (hp:post (.tuple #[v1,v2,v3]) G Ho):Ar (GN P fn G0 Hi w0 post) x ⟨n,w0,Hi.has,G0⟩ ⟨e,[],H,G⟩:=
 Ar.out hx hHo (fun a w hh=>by simp [yT,hres,h1.run hh,h2.run hh,h3.run hh]) hp
theorem Pe (hx:x=.normal∨x=.ret) {Ho:Hp} {r1 r2 r3 r4:ResultVar} {v1 v2 v3 v4:Value} (hres:fn.results=#[r1,r2,r3,r4]) (h1:F1 P ⟨e,[],H,G⟩ r1 v1) (h2:F1 P ⟨e,[],H,G⟩ r2 v2)
 (h3:F1 P ⟨e,[],H,G⟩ r3 v3) (h4:F1 P ⟨e,[],H,G⟩ r4 v4) (hHo:H.sub Ho) (hp:post (.tuple #[v1,v2,v3,v4]) G Ho):Ar (GN P fn G0 Hi w0 post) x ⟨n,w0,Hi.has,G0⟩ ⟨e,[],H,G⟩:=
 Ar.out hx hHo (fun a w hh=>by simp [yT,hres,h1.run hh,h2.run hh,h3.run hh,h4.run hh]) hp
end ret
def A2.with (G:A2) (b:Nat) (o:Obj):A2:=fun k=>if k=b then some o else G k
theorem A5.freeze {a:Act} {w:I8} (hh:A5 B ⟨e,D,H,G⟩ a w) {t b:Nat} {o:Obj} (ht:H.get t=some (some b,o)) :
 A5 B ⟨e,D,(t,none,default) :: H,G.with b o⟩ a w∧G.le (G.with b o):=by
 have hG:G b=none:=hh.mem.off t b o ht;have hle:G.le (G.with b o):=fun k x hk=>by
  unfold A2.with
  split
  · rename_i h;subst h;rw [hG] at hk;cases hk
  exact hk
 have hget:∀ i b' o',Hp.get ((t,none,default) :: H) i=some (some b',o')→t≠i∧H.get i=some (some b',o'):=fun i b' o' hx=>by
  rw [bF] at hx;split at hx
  · simp at hx
  rename_i h;exact ⟨h,hx⟩
 refine ⟨⟨hh.size,hh.defers,hh.env,⟨?_,?_,?_,?_⟩,hh.upd,?_,bL hh.le hle,?_⟩,hle⟩
 · intro i b' o' hx;exact hh.mem.own i b' o' (hget i b' o' hx).2
 · intro i j b' o1 o2 hx hy;exact hh.mem.one i j b' o1 o2 (hget _ _ _ hx).2 (hget _ _ _ hy).2
 · intro k x hk;have hk':(if k=b then some o else G k)=some x:=hk;split at hk'
   · rename_i h;subst h;simp only [bU] at hk';subst hk';exact hh.mem.own t k o ht
   exact hh.mem.imm k x hk'
 · intro i b' o' hx;obtain ⟨hne,hg⟩:=hget i b' o' hx;show (if b'=b then some o else G b')=none;split
   · rename_i h;subst h;exact (hne (hh.mem.one _ _ _ _ _ ht hg)).elim
   exact hh.mem.off i b' o' hg
 · intro i b' o' hx;exact hh.mine i b' o' (hget i b' o' hx).2
 intro k hk h0;have hk':(if k=b then some o else G k)≠none:=hk;split at hk'
 · rename_i h;subst h;exact hh.mine t k o ht
 exact hh.new k hk' h0
section freeze
variable {ops:Array Oper} {l:List Oper} {K:Act→I8→Prop} {r:J0 Nat} {c:Code} {Q:Exit→Act→I8→Prop} {x:Exit}
theorem Wc.freeze (t:Nat) {b:Nat} {o:Obj} (ht:H.get t=some (some b,o)) (h:∀ G',G.le G'→G' b=some o→Wc r P c B ⟨e,D,(t,none,default) :: H,G'⟩ Q):Wc r P c B ⟨e,D,H,G⟩ Q:=
 fun a w hh=>h _ (hh.freeze ht).2 (by simp [A2.with]) a w (hh.freeze ht).1
theorem Ar.freeze (t:Nat) {b:Nat} {o:Obj} (ht:H.get t=some (some b,o)) (h:∀ G',G.le G'→G' b=some o→Ar Q x B ⟨e,D,(t,none,default) :: H,G'⟩):Ar Q x B ⟨e,D,H,G⟩:=
 fun a w hh=>h _ (hh.freeze ht).2 (by simp [A2.with]) a w (hh.freeze ht).1
abbrev sT:=@Ar.freeze
end freeze
end
section gm
variable {P:I6} {ops:Array Oper} {K:Act→I8→Prop}
def stp (P:I6) (ops:Array Oper) (i:Nat) (K:Act→I8→Prop) (a:Act) (w:I8):Prop:=
 match ops[i]? with
 | none=>K a w
 | some o=>if Region.wanted o (yielded ops a.tmps) then An P o a w K else K (a.put o.dst undef) w
theorem Qs {i:Nat} {a:Act} {w:I8} {K K':Act→I8→Prop} (h:∀ a w,K a w→K' a w) (hh:stp P ops i K a w):stp P ops i K' a w:=by
 unfold stp at *;split
 · rename_i ho;simp only [ho] at hh;exact h _ _ hh
 rename_i o ho;simp only [ho] at hh;split
 · rename_i hw;simp only [hw,gL] at hh;exact Gn h hh
 rename_i hw;simp only [hw] at hh;exact h _ _ hh
def gm (P:I6) (ops:Array Oper) (K:Act→I8→Prop) (C:Array Bool→I8→Prop):Nat→Array Bool→Act→I8→Prop
 | 0,listed,a,w=>C listed w∧Region.ready .any ops listed=[]∧K a w
 | f+1,listed,a,w=>C listed w∧(Region.ready .any ops listed=[]→K a w)∧
   ∀ i∈Region.ready .any ops listed,stp P ops i (gm P ops K C f (listed.setIfInBounds i true)) a w
theorem MC {i:Nat} {a:Act} {w:I8} {K:Act→I8→Prop} {Q:Exit→Act→I8→Prop} {r:J0 Nat} {n:Nat} (hd:ops.toList.all uW=true)
 (h:stp P ops i K a w):wpOpIn (FF r) n P ops Q i K a w:=by
 unfold stp at h;unfold wpOpIn;split
 · rename_i ho;simp only [ho] at h;exact h
 rename_i o ho;simp only [ho] at h;have hdo:uW o=true:=by
  have:=dQ.1 hd o (by rw [lJ];exact Array.mem_of_getElem? ho);exact this
 split
 · rename_i hw;simp only [hw,gL] at h;exact Qp hdo h
 rename_i hw;simp only [hw] at h;exact ⟨fun _ _=>trivial,h⟩
theorem Qt {Q:Exit→Act→I8→Prop} {r:J0 Nat} {n:Nat} {C:Array Bool→I8→Prop} (hd:ops.toList.all uW=true):∀ (f:Nat) (listed:Array Bool) (a:Act) (w:I8),
 gm P ops (Q .normal) C f listed a w→wpAnyIn (FF r) n P .any ops Q f listed a w
 | 0,_,_,_,h=>⟨h.2.1,h.2.2⟩
 | f+1,_,_,_,h=>⟨h.2.1,fun i hi=>MC hd (Qs (fun a w h=>Qt hd f _ a w h) (h.2.2 i hi))⟩
def yl (P:I6) (ops:Array Oper) (o:Oper) (a:Act) (C:I8→Prop) (v:Value):Prop:=
 (Region.wanted o (yielded ops a.tmps)=true∧∀ w,C w→(execOp a.eval o).run P w=.ok (.value v) w)∨(Region.wanted o (yielded ops a.tmps)=false∧v=undef)
theorem yl.stp {i:Nat} {o:Oper} {v:Value} {a:Act} {w:I8} {C:I8→Prop} {K:Act→I8→Prop} (hi:ops[i]?=some o) (hy:yl P ops o a C v) (hC:C w) (h:K (a.put o.dst v) w):stp P ops i K a w:=by
 unfold Go.Sl.stp;simp only [hi];rcases hy with ⟨hw,hv⟩ | ⟨hw,rfl⟩
 · simp only [hw,gL,An,hv w hC];exact h
 simp only [hw,mJ,eQ];exact h
theorem WQ {j:Nat} {oi oj:Oper} {v:Value} {C:I8→Prop} (hj:ops[j]?=some oj) (hap:oi.apart ops oj=true) (hsi:∀ cs b,oi.op≠.select cs b) (hsj:∀ cs b,oj.op≠.select cs b)
 {K:Act→I8→Prop} {a:Act} {w:I8} (hy:yl P ops oi a C v) (h:stp P ops j K (a.put oi.dst v) w) :
 stp P ops j (fun a' w'=>yl P ops oi a' C v∧K (a'.put oi.dst v) w') a w:=by
 obtain ⟨h1,h2,h3⟩:=Oper.apart_spec hap;have keep:∀ u,yl P ops oi (a.put oj.dst u) C v:=fun u=>by
  unfold yl at *;rw [execOp_put oi hsi a oj.dst u h3,wanted_put oi a oj.dst u h3];exact hy
 unfold stp at *;simp only [hj] at *;rw [wanted_put oj a oi.dst v h1] at h;split
 · rename_i hw;simp only [hw,gL] at h;unfold An at *;rw [execOp_put oj hsj a oi.dst v h1] at h;generalize (execOp a.eval oj).run P w=r at *;cases r with
   | ok x w' =>
     cases x <;> simp only at h ⊢
     case value u=>exact ⟨keep u,by rw [←qF a v u h2];exact h⟩
     case skip=>exact ⟨keep undef,by rw [←qF a v undef h2];exact h⟩
     case enter f args=>exact h.mono fun x w'' ⟨u,hu,hk⟩=>⟨u,hu,keep u,by rw [←qF a v u h2];exact hk⟩
     case round l f tmps assign body=>exact h.mono fun x w'' ⟨u,hu,hk⟩=>⟨u,hu,keep u,by rw [←qF a v u h2];exact hk⟩
   | halt x w'=>exact h
 rename_i hw;simp only [hw] at h;exact ⟨keep undef,by rw [←qF a v undef h2];exact h⟩
theorem BU {i:Nat} {oi:Oper} {v:Value} {C:Array Bool→I8→Prop} {Wr:List Nat} {Cq:I8→Prop} (hi:ops[i]?=some oi) (hsel:Region.noSelect ops=true)
 (hC:∀ L w,(∀ j∈Wr,L.getD j false=false)→C L w→Cq w) (hset:∀ L w,C (L.setIfInBounds i true) w→C L w)
 (hedge:∀ j∈Wr,∀ oj,ops[j]?=some oj→∃ e∈oj.after,Region.binds .any e=true∧e.on=i) :
 ∀ (f:Nat) (listed:Array Bool) (a:Act) (w:I8),
  (∀ j oj,ops[j]?=some oj→j≠i→listed.getD j true=false→(∀ e∈oj.after,Region.binds .any e=true→e.on≠i)→oi.apart ops oj=true)→
  (∀ j∈Wr,listed.getD j false=false)→i∈Region.ready .any ops listed→yl P ops oi a Cq v→
  gm P ops K C f (listed.setIfInBounds i true) (a.put oi.dst v) w→gm P ops K C (f+1) listed a w:=by
 intro f;induction f with
 | zero =>
   intro listed a w _ hWr hr hy H;have hc:=hset _ _ H.1;refine ⟨hc,fun h=>(by rw [h] at hr;cases hr),fun j hj=>?_⟩;by_cases hji:j=i
   · subst hji;exact hy.stp hi (hC _ _ hWr hc) H
   · have:=ready_mono hj hji;rw [H.2.1] at this;cases this
 | succ f ih =>
   intro listed a w hfree hWr hr hy H;have hc:=hset _ _ H.1;refine ⟨hc,fun h=>(by rw [h] at hr;cases hr),fun j hj=>?_⟩;by_cases hji:j=i
   · subst hji;exact hy.stp hi (hC _ _ hWr hc) H
   have h1:=H.2.2 j (ready_mono hj hji);obtain ⟨hjun,oj,hoj,hall⟩:=fX.1 hj;have hnot:∀ e∈oj.after,Region.binds .any e=true→e.on≠i:=fun e he hb heq=>by
    have h1:=hall e he hb;have h0:=(fX.1 hr).1;rw [heq] at h1;rcases aN i listed.size with h' | h'
    · simp [h'] at h0 h1;rw [h0] at h1;cases h1
    simp [gU h'] at h1
   have h2:=WQ hoj (hfree j oj hoj hji hjun hnot) (fun cs b=>Region.noSelect_spec hsel i oi cs b hi) (fun cs b=>Region.noSelect_spec hsel j oj cs b hoj) hy h1;have hfree':∀ k ok,ops[k]?=some ok→k≠i→(listed.setIfInBounds j true).getD k true=false→
    (∀ e∈ok.after,Region.binds .any e=true→e.on≠i)→oi.apart ops ok=true:=fun k ok hk hki hun hno=>by
    refine hfree k ok hk hki ?_ hno;by_cases hjk:j=k
    · subst hjk;exact hjun
    rw [jB true hjk] at hun;exact hun
   have hWr':∀ k∈Wr,(listed.setIfInBounds j true).getD k false=false:=fun k hk=>by
    have hjk:j≠k:=fun e=>by
     subst e;obtain ⟨e,he,hb,hon⟩:=hedge j hk oj hoj;exact hnot e he hb hon
    rw [jB false hjk];exact hWr k hk
   refine Qs (fun a' w' h3=>?_) h2;obtain ⟨hy',hg⟩:=h3;refine ih (listed.setIfInBounds j true) a' w' hfree' hWr' (ready_mono hr (kA hji)) hy' ?_;rw [Array.setIfInBounds_comm _ _ hji];exact hg
end gm
theorem Hm (p:Nat→Bool):∀ (H:Hp) (t:Nat),Hp.get (H.filter fun x=>p x.1) t=if p t then H.get t else none
 | [],t=>by simp [Hp.get]
 | (i,x) :: H,t=>by
   have ih:=Hm p H t;rw [List.filter_cons];split
   · rename_i hp;show Hp.get ((i,x) :: H.filter fun x=>p x.1) t=_;rw [bF,bF,ih];by_cases h:i=t
     · subst h;simp [show p i=true from hp]
     simp [h]
   rename_i hp;rw [ih,bF];by_cases h:i=t
   · subst h;simp [show ¬p i=true from hp]
   simp [h]
def Hp.live (wr:List (Nat×Nat)) (L:Array Bool) (H:Hp):Hp:=H.filter fun x=>wr.all fun q=>!(Nat.beq q.1 x.1 && L.getD q.2 false)
theorem Nw (wr:List (Nat×Nat)) (L:Array Bool) (H:Hp) (t:Nat):(H.live wr L).get t=if (wr.all fun q=>!(Nat.beq q.1 t && L.getD q.2 false)) then H.get t else none:=
 Hm (fun t=>wr.all fun q=>!(Nat.beq q.1 t && L.getD q.2 false)) H t
def Hp.only (H:Hp):List Nat→Hp
 | []=>[]
 | t :: ts=>match H.get t with | some x=>(t,x) :: Hp.only H ts | none=>Hp.only H ts
theorem Fl (H:Hp):∀ ts,H.sub (H.only ts)
 | []=>trivial
 | t :: ts=>by
   unfold Hp.only;split
   · rename_i x hx;exact ⟨hx,Fl H ts⟩
   exact Fl H ts
abbrev bH:=@Fl
theorem BV {H:Hp} {ts:List Nat} {p:Nat×J0 Nat×Obj} (hp:p∈H.only ts):p.1∈ts:=by
 induction ts with
 | nil=>simp [Hp.only] at hp
 | cons t ts ih =>
   unfold Hp.only at hp;split at hp
   · rcases dD.1 hp with rfl | hp
     · exact aQ
     exact aL _ (ih hp)
   exact aL _ (ih hp)
theorem Hp.get_mem:∀ {L:Hp} {i:Nat} {x:J0 Nat×Obj},L.get i=some x→(i,x)∈L
 | [],i,x,h=>by simp [Hp.get] at h
 | (j,y) :: L,i,x,h=>by
   rw [bF] at h;split at h
   · rename_i hj;subst hj;cases h;exact aQ
   exact aL _ (Hp.get_mem h)
theorem B3.part {H H':Hp} {G G':A2} {w:I8} (h:B3 H G w) (hs:∀ t x,H'.get t=some x→H.get t=some x) (hG:G'.le G):B3 H' G' w:=
 ⟨fun t b o x=>h.own t b o (hs _ _ x),fun t t' b o o' x y=>h.one t t' b o o' (hs _ _ x) (hs _ _ y),fun b o x=>h.imm b o (hG b o x),fun t b o x=>by
  have h1:=h.off t b o (hs _ _ x);cases hg:G' b with
  | none=>rfl
  | some y=>rw [hG b y hg] at h1;cases h1⟩
def zK (ops:Array Oper) (listed:Array Bool) (wr:List (Nat×Nat)) (i:Nat) (ts:List Nat):Bool:=
 Region.noSelect ops && ops.toList.all uW && (Region.ready .any ops listed).contains i && Region.free .any ops listed i &&
  wr.all fun q=>!Nat.beq q.2 i && (!(ts.any (Nat.beq q.1)) || (!(listed.getD q.2 false) && (match ops[q.2]? with | some oj=>oj.after.any (fun e=>Region.binds .any e && e.on == i) | none=>true)))
def im (wr:List (Nat×Nat)) (H0:Hp) (G0:A2):Array Bool→I8→Prop:=fun L w=>B3 (H0.live wr L) G0 w
def Gm (P:I6) (ops:Array Oper) (f:Nat) (listed:Array Bool) (wr:List (Nat×Nat)) (H0:Hp) (G0:A2) (B:Bs) (S:St) (K:Act→I8→Prop):Prop:=∀ a w,A5 B S a w→gm P ops K (im wr H0 G0) f listed a w
section
variable {P:I6} {ops:Array Oper} {B:Bs} {e:B0} {D:List Deferred} {H H0:Hp} {G G0:A2} {K:Act→I8→Prop} {f:Nat} {listed:Array Bool} {wr:List (Nat×Nat)}
 {ty:I9} {pos:String} {after:Array Edge} {d:Nat}
theorem Wc.draw {r:J0 Nat} {id:Nat} {l:List Oper} {Q:Exit→Act→I8→Prop} (ts:List Nat) (wr:List (Nat×Nat)) (hm:P.follows .mixedOrders=true) (hd:l.all uW=true)
 (h:Gm P l.toArray l.length (Array.replicate l.length false) wr (H.only ts) G B ⟨e,D,H,G⟩ (Q .normal)):Wc r P (.region id l.toArray true) B ⟨e,D,H,G⟩ Q:=fun a w hh=>by
 have:=Qt (r:=r) (n:=0) (by simpa using hd) _ _ _ _ (h a _ hh.drew);exact wpIn_region_any hm (by simpa using this)
abbrev lO:=@Wc.draw
theorem Qu {l:List Oper} {o:Oper} {v:Value} {i:Nat} {ts:List Nat} (hB:zK l.toArray listed wr i ts=true) (ho:l[i]?=some o) {a:Act} {w:I8}
 (hy:yl P l.toArray o a (fun w=>B3 (H0.only ts) G0 w) v) (h:gm P l.toArray K (im wr H0 G0) f (listed.setIfInBounds i true) (a.put o.dst v) w):gm P l.toArray K (im wr H0 G0) (f+1) listed a w:=by
 simp only [zK,aF] at hB;obtain ⟨⟨⟨⟨h1,h2⟩,h3⟩,h4⟩,h5⟩:=hB;have ho':l.toArray[i]?=some o:=by simpa using ho
 have hq:∀ q∈wr,q.2≠i∧(q.1∈ts→listed.getD q.2 false=false∧∀ oj,l.toArray[q.2]?=some oj→∃ e∈oj.after,Region.binds .any e=true∧e.on=i):=fun q hq=>by
  have:=dQ.1 h5 q hq;simp only [aF,kP,eW] at this;obtain ⟨g1,g2⟩:=this;refine ⟨fun e=>by rw [e] at g1;simp at g1,fun hm=>?_⟩;rcases g2 with g2 | ⟨g2,g3⟩
  · have:(ts.any (Nat.beq q.1))=true:=List.any_eq_true.2 ⟨q.1,hm,by simp⟩;rw [this] at g2;cases g2
  refine ⟨g2,fun oj hoj=>?_⟩;rw [hoj] at g3;obtain ⟨e,he,hb⟩:=Array.any_eq_true'.1 g3;simp only [aF,beq_iff_eq] at hb;exact ⟨e,he,hb⟩
 refine BU (Wr:=(wr.filter fun q=>decide (q.1∈ts)).map (·.2)) (Cq:=fun w=>B3 (H0.only ts) G0 w) ho' h1 ?_ ?_ ?_ f listed a w (Region.free_spec ho' h4) ?_ (by simpa using h3) hy h
 · intro L w hL hc;refine B3.part hc (fun t x hx=>?_) (cX _);have hm:=BV (Hp.get_mem hx);have hx':=kK (bH H0 ts) t x hx;rw [Nw,aE ?_];exact hx';rw [dQ];intro q hqm;by_cases he:q.1=t
   · have hm':q.1∈ts:=by rw [he];exact hm
     have:=hL q.2 (cT.2 ⟨q,iM.2 ⟨hqm,by simpa using hm'⟩,rfl⟩);rw [this];simp
   have:Nat.beq q.1 t=false:=by cases hb:Nat.beq q.1 t with | false=>rfl | true=>exact absurd (aJ hb) he
   simp [this]
 · intro L w hc;refine B3.part hc (fun t x hx=>?_) (cX _);rw [Nw] at hx ⊢;have e:(wr.all fun q=>!(Nat.beq q.1 t && (L.setIfInBounds i true).getD q.2 false))=(wr.all fun q=>!(Nat.beq q.1 t && L.getD q.2 false)):=by
    rw [Bool.eq_iff_iff,dQ,dQ];constructor
    · intro h q hqm;have h':=h q hqm;rw [jB false (kA (hq q hqm).1)] at h';exact h'
    intro h q hqm;rw [jB false (kA (hq q hqm).1)];exact h q hqm
   rw [e];exact hx
 · intro j hj oj hoj;obtain ⟨q,hqm,rfl⟩:=cT.1 hj;obtain ⟨hqm,hts⟩:=iM.1 hqm;exact ((hq q hqm).2 (by simpa using hts)).2 oj hoj
 intro j hj;obtain ⟨q,hqm,rfl⟩:=cT.1 hj;obtain ⟨hqm,hts⟩:=iM.1 hqm;exact ((hq q hqm).2 (by simpa using hts)).1
theorem Gm.q {l:List Oper} {o:Op} {v:Value} (i:Nat) (ts:List Nat) (hB:zK l.toArray listed wr i ts=true) (ho:l[i]?=some ⟨some d,o,ty,pos,after,none⟩) (hn:Nat.ble (d+1) B.n=true)
 (hq:Qy P o ty e (H0.only ts) G0 v) (h:Gm P l.toArray f (listed.setIfInBounds i true) wr H0 G0 B ⟨(d,v) :: e,D,H,G⟩ K):Gm P l.toArray (f+1) listed wr H0 G0 B ⟨e,D,H,G⟩ K:=fun a w hh =>
 Qu hB ho (.inl ⟨by simp [Region.wanted],fun w' hw'=>hq a w' _ _ _ _ ⟨hh.env,hw'⟩⟩) (h _ _ (hh.put hn v))
abbrev eT:=@Gm.q
theorem Qv {j:Nat} {t:Nat} {b:Bool} {a:Act} {w:I8} (hh:A5 B ⟨e,D,H,G⟩ a w) (hj:(ops[j]?).bind (·.dst)=some t) (he:e.get t=some (.bool b)):yielded ops a.tmps j=some b:=by
 simp [yielded,hj,hh.env t _ he]
theorem JB {l:List Oper} {o:Op} {v:Value} {j:Nat} {want:Bool} {t:Nat} (i:Nat) (ts:List Nat) (hB:zK l.toArray listed wr i ts=true) (ho:l[i]?=some ⟨some d,o,ty,pos,after,some (j,want)⟩)
 (hj:(l[j]?).bind (·.dst)=some t) (he:e.get t=some (.bool want)) (hn:Nat.ble (d+1) B.n=true)
 (hq:Qy P o ty e (H0.only ts) G0 v) (h:Gm P l.toArray f (listed.setIfInBounds i true) wr H0 G0 B ⟨(d,v) :: e,D,H,G⟩ K):Gm P l.toArray (f+1) listed wr H0 G0 B ⟨e,D,H,G⟩ K:=fun a w hh =>
 Qu hB ho (.inl ⟨by simp [Region.wanted,Qv hh (ops:=l.toArray) (by simpa using hj) he],fun w' hw'=>hq a w' _ _ _ _ ⟨hh.env,hw'⟩⟩) (h _ _ (hh.put hn v))
theorem bu {l:List Oper} {o:Op} {j:Nat} {want:Bool} {t:Nat} (i:Nat) (hB:zK l.toArray listed wr i []=true) (ho:l[i]?=some ⟨some d,o,ty,pos,after,some (j,want)⟩)
 (hj:(l[j]?).bind (·.dst)=some t) (he:e.get t=some (.bool (!want))) (hn:Nat.ble (d+1) B.n=true)
 (h:Gm P l.toArray f (listed.setIfInBounds i true) wr H0 G0 B ⟨(d,undef) :: e,D,H,G⟩ K):Gm P l.toArray (f+1) listed wr H0 G0 B ⟨e,D,H,G⟩ K:=fun a w hh =>
 Qu hB ho (.inr ⟨by simp [Region.wanted,Qv hh (ops:=l.toArray) (by simpa using hj) he],rfl⟩) (h _ _ (hh.put hn undef))
def Fm (P:I6) (ops:Array Oper) (f:Nat) (listed:Array Bool) (wr:List (Nat×Nat)) (H0:Hp) (G0:A2) (K:Act→I8→Prop) (a:Act) (w:I8):Prop:=gm P ops K (im wr H0 G0) f listed a w
theorem A5.cst (hH:H.sub (H0.live wr listed)) (hG:G0.le G) {a:Act} {w:I8} (hh:A5 B ⟨e,D,H,G⟩ a w):im wr H0 G0 listed w:=hh.mem.part (kK hH) hG
theorem Gm.any (hH:H.sub (H0.live wr listed)) (hG:G0.le G) (l:List Nat) (hr:Region.ready .any ops listed=l) (hne:l.isEmpty=false)
 (h:∀ i∈l,∀ o,ops[i]?=some o→Wl P ops [o] B ⟨e,D,H,G⟩ (Fm P ops f (listed.setIfInBounds i true) wr H0 G0 K)):Gm P ops (f+1) listed wr H0 G0 B ⟨e,D,H,G⟩ K:=fun a w hh=>by
 refine ⟨hh.cst hH hG,fun h=>?_,fun i hi=>?_⟩
 · rw [hr] at h;subst h;simp at hne
 rw [hr] at hi;obtain ⟨_,o,ho,_⟩:=fX.1 (show i∈Region.ready .any ops listed by rw [hr];exact hi);have h1:=h i hi o ho a w hh;unfold stp;simp only [ho];unfold uG at h1;split
 · rename_i hw;rw [aE hw] at h1;exact h1
 rename_i hw;rw [aC hw] at h1;exact h1
theorem Gm.one {l:List Oper} {o:Oper} (i:Nat) (hH:H.sub (H0.live wr listed)) (hG:G0.le G) (hr:Region.ready .any l.toArray listed=[i]) (ho:l[i]?=some o)
 (h:Wl P l.toArray [o] B ⟨e,D,H,G⟩ (Fm P l.toArray f (listed.setIfInBounds i true) wr H0 G0 K)):Gm P l.toArray (f+1) listed wr H0 G0 B ⟨e,D,H,G⟩ K:=
 Gm.any hH hG [i] hr U fun j hj o' ho'=>by
  simp only [eD] at hj;subst hj;have:l[j]?=some o':=by simpa using ho'
  rw [ho] at this;cases this;exact h
abbrev jZ:=@Gm.one
theorem Gm.two {l:List Oper} {o1 o2:Oper} (i j:Nat) (hH:H.sub (H0.live wr listed)) (hG:G0.le G) (hr:Region.ready .any l.toArray listed=[i,j]) (h1:l[i]?=some o1) (h2:l[j]?=some o2)
 (g1:Wl P l.toArray [o1] B ⟨e,D,H,G⟩ (Fm P l.toArray f (listed.setIfInBounds i true) wr H0 G0 K)) (g2:Wl P l.toArray [o2] B ⟨e,D,H,G⟩ (Fm P l.toArray f (listed.setIfInBounds j true) wr H0 G0 K)) :
 Gm P l.toArray (f+1) listed wr H0 G0 B ⟨e,D,H,G⟩ K:=
 Gm.any hH hG [i,j] hr U fun k hk o' ho'=>by
  have ho:l[k]?=some o':=by simpa using ho'
  simp only [dD,sN,or_false] at hk;rcases hk with rfl | rfl
  · rw [h1] at ho;cases ho;exact g1
  rw [h2] at ho;cases ho;exact g2
theorem QC {l:List Oper} {o1 o2 o3:Oper} (i j k:Nat) (hH:H.sub (H0.live wr listed)) (hG:G0.le G) (hr:Region.ready .any l.toArray listed=[i,j,k]) (h1:l[i]?=some o1) (h2:l[j]?=some o2) (h3:l[k]?=some o3)
 (g1:Wl P l.toArray [o1] B ⟨e,D,H,G⟩ (Fm P l.toArray f (listed.setIfInBounds i true) wr H0 G0 K)) (g2:Wl P l.toArray [o2] B ⟨e,D,H,G⟩ (Fm P l.toArray f (listed.setIfInBounds j true) wr H0 G0 K))
 (g3:Wl P l.toArray [o3] B ⟨e,D,H,G⟩ (Fm P l.toArray f (listed.setIfInBounds k true) wr H0 G0 K)) :
 Gm P l.toArray (f+1) listed wr H0 G0 B ⟨e,D,H,G⟩ K:=
 Gm.any hH hG [i,j,k] hr U fun m hk o' ho'=>by
  have ho:l[m]?=some o':=by simpa using ho'
  simp only [dD,sN,or_false] at hk;rcases hk with rfl | rfl | rfl
  · rw [h1] at ho;cases ho;exact g1
  · rw [h2] at ho;cases ho;exact g2
  rw [h3] at ho;cases ho;exact g3
theorem bv (h:Gm P ops f listed wr H0 G0 B ⟨e,D,H,G⟩ K):Wl P ops [] B ⟨e,D,H,G⟩ (Fm P ops f listed wr H0 G0 K):=h
abbrev bW:=@bv
theorem QD {Q:Exit→Act→I8→Prop} {x:Exit} (hr:Region.ready .any ops listed=[]) (hH:H.sub (H0.live wr listed)) (hG:G0.le G) (h:Ar Q x B ⟨e,D,H,G⟩):Gm P ops 0 listed wr H0 G0 B ⟨e,D,H,G⟩ (Q x):=
 fun a w hh=>⟨hh.cst hH hG,hr,h a w hh⟩
abbrev kO:=@QD
end
class A0 (α:Type) where
 sz:Nat
 enc:α→List Value
 len:∀ x,(enc x).length=sz
 one:∀ x,(enc x).all (·.oneCell')=true
instance:A0 Int:=⟨1,fun n=>[.int .i64 n],fun _=>rfl,fun _=>rfl⟩
instance:A0 Bool:=⟨1,fun b=>[.bool b],fun _=>rfl,fun _=>rfl⟩
structure A6 where
 v:Int
 deriving DecidableEq
instance:Inhabited A6:=⟨⟨0⟩⟩
instance:A0 A6:=⟨1,fun n=>[.int .u32 n.v],fun _=>rfl,fun _=>rfl⟩
structure Instr where
 op:Int
 to:Int
 a:Int
 b:Int
 c:Int
 deriving DecidableEq
abbrev I5:=Sl.Instr
instance:Inhabited Instr:=⟨⟨0,0,0,0,0⟩⟩
instance:A0 Instr:=⟨5,fun i=>[.int .i64 i.op,.int .i64 i.to,.int .i64 i.a,.int .i64 i.b,.int .i64 i.c],fun _=>rfl,fun _=>rfl⟩
def uD {α:Type} [A0 α] (xs:List α):List Value:=xs.flatMap A0.enc
section
variable {α:Type} [A0 α]
theorem xD (x:α) (xs:List α):uD (x :: xs)=A0.enc x++uD xs:=rfl
theorem xM (xs ys:List α):uD (xs++ys)=uD xs++uD ys:=by simp [uD]
theorem uA (xs:List α):(uD xs).length=xs.length*A0.sz α:=by
 induction xs with
 | nil=>simp [uD]
 | cons x xs ih=>rw [xD,aD,ih,A0.len,aU,fC];omega
theorem Fp [Inhabited α]:∀ (xs:List α) (i k:Nat),i<xs.length→k<A0.sz α→(uD xs)[i*A0.sz α+k]?=(A0.enc (xs[i]?.getD default))[k]?
 | [],i,k,h,_=>by simp at h
 | x :: xs,0,k,_,hk=>by
   rw [xD,oC,cP,bC (by rw [A0.len];exact hk)];rfl
 | x :: xs,i+1,k,h,hk=>by
   rw [xD,cS (by rw [A0.len,fC];omega),A0.len,show (i+1)*A0.sz α+k - A0.sz α=i*A0.sz α+k by rw [fC];omega,
    Fp xs i k (by simpa using h) hk]
   rfl
theorem BW (xs:List α):(uD xs).all (·.oneCell')=true:=by
 induction xs with
 | nil=>rfl
 | cons x xs ih=>rw [xD,List.all_append,A0.one,ih];rfl
def Arr (G:A2) (a:J0 Addr) (xs:List α):Prop:=H9 G a xs.length (A0.sz α) (uD xs)
variable {G G':A2} {a:J0 Addr} {xs:List α}
theorem Arr.up (h:Arr G a xs) (hl:G.le G'):Arr G' a xs:=H9.le hl h
theorem Arr.nil (G:A2):Arr G none ([]:List α):=⟨by simp [uD],.inl U⟩
abbrev fG:=@Arr.nil
theorem Arr.cellK [Inhabited α] (h:Arr G a xs) {m:Int} (hm:0≤m∧m<xs.length) (k:Nat) (hk:k<A0.sz α) :
 G.cell (ab a) (ao a+m.toNat*A0.sz α+k)=(A0.enc (xs[m.toNat]?.getD default))[k]?:=by
 have hlt:m.toNat<xs.length:=sU;have hr:=H9.row h sU;have hg:=Fp xs m.toNat k hlt hk;have hl:k<(A0.enc (xs[m.toNat]?.getD default)).length:=by rw [A0.len];exact hk
 rw [aA hl] at hg ⊢;rw [kR];exact hr _ _ hg
theorem Arr.cell [Inhabited α] (h:Arr G a xs) {m:Int} (hm:0≤m∧m<xs.length) (k:Nat) (hk:Nat.ble (k+1) (A0.sz α)=true) {v:Value} (hv:(A0.enc (xs[m.toNat]?.getD default))[k]?=some v) :
 G.cell (ab a) (ao a+m.toNat*A0.sz α+k)=some v:=(h.cellK hm k (bD hk)).trans hv
abbrev jO:=@Arr.cell
theorem Arr.elem [Inhabited α] (h:Arr G a xs) {m:Int} (hm:0≤m∧m<xs.length):G.row (ab a) (ao a+m.toNat*A0.sz α) (A0.enc (xs[m.toNat]?.getD default)):=fun i v hi=>by
 have hl:i<A0.sz α:=by rw [←A0.len (xs[m.toNat]?.getD default)];exact (aW.1 hi).1
 exact (h.cellK hm i hl).trans hi
abbrev nS:=@Arr.elem
theorem Qy.at {P:I6} {e:B0} {H:Hp} {ty:I9} {T:I9} {x i:I7} {c:Nat} {k:IntKind} {m:Int} {E:Nat} (hT:tR P T E (A0.sz α)) (hx:e.ev x=some (.slice a xs.length c))
 (hi:e.ev i=some (.int k m)) (hs:Arr G a xs) (hb:0≤m∧m<xs.length):Qy P (.indexAddr T x i) ty e H G (.pointer (some ⟨ab a,ao a+m.toNat*A0.sz α,none⟩)):=
 Ut hT hx hi hs hb
abbrev lY:=@Qy.at
end
section
variable {P:I6} {ops:Array Oper} {l:List Oper} {B:Bs} {e:B0} {D:List Deferred} {H H0:Hp} {G:A2} {K:Act→I8→Prop} {r:J0 Nat} {c:Code} {Q:Exit→Act→I8→Prop}
 {f:Nat} {listed:Array Bool} {wr:List (Nat×Nat)} {G0:A2} {d:Nat}
theorem A5.re {a:Act} {w:I8} (hh:A5 B ⟨e,D,H,G⟩ a w) {t:Nat} {v v':Value} (he:e.get t=some v) (hv:v=v'):A5 B ⟨(t,v') :: e,D,H,G⟩ a w:=by
 subst hv;refine ⟨hh.size,hh.defers,fun i u hu=>?_,hh.mem,hh.upd,hh.mine,hh.le,hh.new⟩;rw [jA] at hu;split at hu
 · rename_i h;subst h;cases hu;exact hh.env _ _ he
 exact hh.env i u hu
theorem Wl.re (t:Nat) {v v':Value} (he:e.get t=some v) (hv:v=v') (h:Wl P ops l B ⟨(t,v') :: e,D,H,G⟩ K):Wl P ops l B ⟨e,D,H,G⟩ K:=fun a w hh=>h a w (hh.re he hv)
abbrev iK:=@Wl.re
theorem Wc.re (t:Nat) {v v':Value} (he:e.get t=some v) (hv:v=v') (h:Wc r P c B ⟨(t,v') :: e,D,H,G⟩ Q):Wc r P c B ⟨e,D,H,G⟩ Q:=fun a w hh=>h a w (hh.re he hv)
abbrev kY:=@Wc.re
theorem Gm.re (t:Nat) {v v':Value} (he:e.get t=some v) (hv:v=v') (h:Gm P ops f listed wr H0 G0 B ⟨(t,v') :: e,D,H,G⟩ K):Gm P ops f listed wr H0 G0 B ⟨e,D,H,G⟩ K:=fun a w hh=>h a w (hh.re he hv)
theorem Ar.re {x:Exit} (t:Nat) {v v':Value} (he:e.get t=some v) (hv:v=v') (h:Ar Q x B ⟨(t,v') :: e,D,H,G⟩):Ar Q x B ⟨e,D,H,G⟩:=fun a w hh=>h a w (hh.re he hv)
abbrev dW:=@Ar.re
section dec
variable {p:Prop} [Decidable p]
theorem bw (t:Nat) (he:e.get t=some (.bool (decide p))) (hp:p) (h:Wl P ops l B ⟨(t,.bool true) :: e,D,H,G⟩ K):Wl P ops l B ⟨e,D,H,G⟩ K:=iK t he Nu h
abbrev nU:=@bw
theorem Wl.no (t:Nat) (he:e.get t=some (.bool (decide p))) (hp:¬p) (h:Wl P ops l B ⟨(t,.bool false) :: e,D,H,G⟩ K):Wl P ops l B ⟨e,D,H,G⟩ K:=iK t he Nu h
abbrev rD:=@Wl.no
theorem cj (t:Nat) (he:e.get t=some (.bool (decide p))) (hp:p) (h:Gm P ops f listed wr H0 G0 B ⟨(t,.bool true) :: e,D,H,G⟩ K):Gm P ops f listed wr H0 G0 B ⟨e,D,H,G⟩ K:=Gm.re t he Nu h
theorem Gm.no (t:Nat) (he:e.get t=some (.bool (decide p))) (hp:¬p) (h:Gm P ops f listed wr H0 G0 B ⟨(t,.bool false) :: e,D,H,G⟩ K):Gm P ops f listed wr H0 G0 B ⟨e,D,H,G⟩ K:=Gm.re t he Nu h
theorem Gm.cases (t:Nat) (he:e.get t=some (.bool (decide p))) (ht:p→Gm P ops f listed wr H0 G0 B ⟨(t,.bool true) :: e,D,H,G⟩ K) (hf:¬p→Gm P ops f listed wr H0 G0 B ⟨(t,.bool false) :: e,D,H,G⟩ K) :
 Gm P ops f listed wr H0 G0 B ⟨e,D,H,G⟩ K:=by
 by_cases hp:p
 · exact cj t he hp (ht hp)
 exact Gm.no t he hp (hf hp)
theorem QE {c:I7} {x y:Code} {S:St} (hc:S.e.ev c=some (.bool (decide p))) (hp:p) (ht:Wc r P x B S Q):Wc r P (.cond c x y) B S Q:=oA hc (fun _=>ht) (fun h=>(h hp).elim)
abbrev rS:=@QE
theorem QF {c:I7} {x y:Code} {S:St} (hc:S.e.ev c=some (.bool (decide p))) (hp:¬p) (hf:Wc r P y B S Q):Wc r P (.cond c x y) B S Q:=oA hc (fun h=>(hp h).elim) (fun _=>hf)
abbrev nO:=@QF
end dec
theorem Vv (t:Nat) {b:Bool} (he:e.get t=some (.bool b)) (ht:b=true→Wl P ops l B ⟨(t,.bool true) :: e,D,H,G⟩ K) (hf:b=false→Wl P ops l B ⟨(t,.bool false) :: e,D,H,G⟩ K):Wl P ops l B ⟨e,D,H,G⟩ K:=by
 cases b
 · exact iK t he U (hf U)
 exact iK t he U (ht U)
def B0.hasKey:B0→Nat→Bool
 | [],_=>false
 | (i,_) :: e,j=>bif Nat.beq i j then true else B0.hasKey e j
def B0.fresh (e:B0):B0→Bool
 | []=>true
 | (i,_) :: l=>(bif e.hasKey i then false else true) && B0.fresh e l
def Hp.hasKey:Hp→Nat→Bool
 | [],_=>false
 | (i,_) :: e,j=>bif Nat.beq i j then true else Hp.hasKey e j
def Hp.fresh (e:Hp):Hp→Bool
 | []=>true
 | (i,_) :: l=>(bif e.hasKey i then false else true) && Hp.fresh e l
theorem Fq:∀ {e:B0} {i:Nat} {v:Value},e.get i=some v→e.hasKey i=true
 | [],i,v,h=>by simp [B0.get] at h
 | (j,u) :: e,i,v,h=>by
   show (bif Nat.beq j i then true else B0.hasKey e i)=true;rw [jA] at h;split at h
   · rename_i hj;subst hj;simp
   rw [Fq h];cases Nat.beq j i <;> rfl
theorem Hn:∀ {e:Hp} {i:Nat} {v:J0 Nat×Obj},e.get i=some v→e.hasKey i=true
 | [],i,v,h=>by simp [Hp.get] at h
 | (j,u) :: e,i,v,h=>by
   show (bif Nat.beq j i then true else Hp.hasKey e i)=true;rw [bF] at h;split at h
   · rename_i hj;subst hj;simp
   rw [Hn h];cases Nat.beq j i <;> rfl
theorem Hq {e:B0} {i:Nat} {v:Value} (h:e.get i=some v):∀ {l:B0},e.fresh l=true→B0.get (l++e) i=some v
 | [],_=>h
 | (j,u) :: l,hf=>by
   have hf':((bif e.hasKey j then false else true) && B0.fresh e l)=true:=hf;simp only [aF] at hf';show B0.get ((j,u) :: (l++e)) i=some v;rw [jA];split
   · rename_i hj;subst hj;rw [Fq h] at hf';simp at hf'
   exact Hq h hf'.2
theorem Jo {e:Hp} {i:Nat} {v:J0 Nat×Obj} (h:e.get i=some v):∀ {l:Hp},e.fresh l=true→Hp.get (l++e) i=some v
 | [],_=>h
 | (j,u) :: l,hf=>by
   have hf':((bif e.hasKey j then false else true) && Hp.fresh e l)=true:=hf;simp only [aF] at hf';show Hp.get ((j,u) :: (l++e)) i=some v;rw [bF];split
   · rename_i hj;subst hj;rw [Hn h] at hf';simp at hf'
   exact Jo h hf'.2
theorem A5.back {a:Act} {w:I8} {e0:B0} {H0:Hp} (n m:Nat) (hh:A5 B ⟨e,D,H,G⟩ a w) (he:e.drop n=e0) (hf:e0.fresh (e.take n)=true) (hH:H.drop m=H0) (hg:H0.fresh (H.take m)=true) {v:Value} (hv:e.get d=some v) :
 A5 B ⟨(d,v) :: e0,D,H0,G⟩ a w:=by
 refine (hh.re hv U).weaken (fun i u hu=>?_) fun t x hx=>?_
 · rw [jA] at hu ⊢;split <;> rename_i h
   · rw [aE h] at hu;exact hu
   rw [aC h] at hu;have:=Hq hu hf;rw [←he,eZ] at this;exact this
 have:=Jo hx hg;rw [←hH,eZ] at this;exact this
theorem Wl.back {e0:B0} {H0:Hp} (n m:Nat) (he:e.drop n=e0) (hf:e0.fresh (e.take n)=true) (hH:H.drop m=H0) (hg:H0.fresh (H.take m)=true) {v:Value} (hv:e.get d=some v) :
 Wl P ops [] B ⟨e,D,H,G⟩ (A5 B ⟨(d,v) :: e0,D,H0,G⟩):=fun a w hh=>hh.back n m he hf hH hg hv
abbrev iO:=@Wl.back
theorem A5.swap {a:Act} {w:I8} {t:Nat} {u u' v:Value} (hh:A5 B ⟨(d,v) :: (t,u') :: e,D,H,G⟩ a w) (he:e.get t=some u) (hu:u=u'):A5 B ⟨(d,v) :: e,D,H,G⟩ a w:=by
 subst hu;refine hh.weaken (fun i x hx=>?_) (fun _ _ h=>h);rw [jA] at hx ⊢;split <;> rename_i h
 · rw [aE h] at hx;exact hx
 rw [aC h] at hx;rw [jA];split
 · rename_i h2;subst h2;rw [←hx,he]
 exact hx
theorem Wl.cut (k:Nat) {K1:Act→I8→Prop} {S S1:St} (h1:Wl P ops (l.take k) B S K1) (h2:∀ a w,K1 a w→A5 B S1 a w) (h3:Wl P ops (l.drop k) B S1 K):Wl P ops l B S K:=by
 intro a w hh;have:=Em (P:=P) (ops:=ops) (K:=K) (l.take k) (l.drop k) a w;rw [eZ] at this;refine this ?_;have h0:=h1 a w hh;exact Ik (fun a w hk=>h3 a w (h2 a w hk)) _ _ _ h0
theorem GO {p q:Prop} [ip:Decidable p] {iq:Decidable q} (k t d:Nat) (he:e.get t=some (.bool (decide p)))
 (h1:p→Wl P ops (l.take k) B ⟨(t,.bool true) :: e,D,H,G⟩ (A5 B ⟨(d,.bool (decide q)) :: (t,.bool true) :: e,D,H,G⟩))
 (h2:¬p→Wl P ops (l.take k) B ⟨(t,.bool false) :: e,D,H,G⟩ (A5 B ⟨(d,.bool false) :: (t,.bool false) :: e,D,H,G⟩))
 (h3:Wl P ops (l.drop k) B ⟨(d,.bool (decide (p∧q))) :: e,D,H,G⟩ K):Wl P ops l B ⟨e,D,H,G⟩ K:=by
 by_cases hp:p
 · refine nU t he hp (Wl.cut k (h1 hp) (fun a w hh=>?_) h3);have:=hh.swap he Nu;simpa [hp] using this
 refine rD t he hp (Wl.cut k (h2 hp) (fun a w hh=>?_) h3);have:=hh.swap he Nu;simpa [hp] using this
abbrev bS:=@GO
theorem MD {p q:Prop} [ip:Decidable p] {iq:Decidable q} (k t d:Nat) (he:e.get t=some (.bool (decide p)))
 (h1:¬p→Wl P ops (l.take k) B ⟨(t,.bool false) :: e,D,H,G⟩ (A5 B ⟨(d,.bool (decide q)) :: (t,.bool false) :: e,D,H,G⟩))
 (h2:p→Wl P ops (l.take k) B ⟨(t,.bool true) :: e,D,H,G⟩ (A5 B ⟨(d,.bool true) :: (t,.bool true) :: e,D,H,G⟩))
 (h3:Wl P ops (l.drop k) B ⟨(d,.bool (decide (p∨q))) :: e,D,H,G⟩ K):Wl P ops l B ⟨e,D,H,G⟩ K:=by
 by_cases hp:p
 · refine nU t he hp (Wl.cut k (h2 hp) (fun a w hh=>?_) h3);have:=hh.swap he Nu;simpa [hp] using this
 refine rD t he hp (Wl.cut k (h1 hp) (fun a w hh=>?_) h3);have:=hh.swap he Nu;simpa [hp] using this
abbrev cJ:=@MD
end
def B9 (P:I6) (E sz bytes:Nat) (zs:List Value):Prop:=∃ i z,P.info? E=some i∧i.zero=some z∧z.cells=zs.toArray∧i.size=sz∧i.bytes=bytes∧zs.length=sz∧0<sz
theorem B9.of {P:I6} {E sz bytes:Nat} {zs:List Value} (h:(P.info? E).map (fun i=>(i.zero.map (·.cells),i.size,i.bytes))=some (some zs.toArray,sz,bytes)) (h1:(Nat.beq zs.length sz && Nat.ble 1 sz)=true):B9 P E sz bytes zs:=by
 simp only [aF] at h1;cases hi:P.info? E with
 | none=>simp [hi] at h
 | some i =>
   simp only [hi,fV,bU,eI] at h;obtain ⟨h2,h3,h4⟩:=h;cases hz:i.zero with
   | none=>simp [hz] at h2
   | some z=>exact ⟨i,z,hi,hz,by simpa [hz] using h2,h3,h4,aJ h1.1,bD h1.2⟩
abbrev lV:=@B9.of
def Row {α:Type} [A0 α] (E:I9) (xs:List α) (junk:List Value):Obj:=.cells (uD xs++junk).toArray E (0,0)
def A3 {α:Type} [A0 α] (a:J0 Addr) (c:Nat) (xs:List α) (junk:List Value):Prop:=
 (a=none∧xs=[]∧junk=[]∧c=0)∨(∃ b,a=some ⟨b,0,none⟩∧xs.length*A0.sz α+junk.length=c*A0.sz α∧xs.length≤c∧c≤maxLen)
theorem A3.nil {α:Type} [A0 α]:A3 none 0 ([]:List α) []:=.inl ⟨U,U,U,U⟩
abbrev dN:=@A3.nil
section zero
variable {α:Type} [A0 α] [Inhabited α]
theorem Vw {zs:List Value} (hz:A0.enc (default:α)=zs) (h0:0<A0.sz α) (n:Nat):madeCells zs.toArray (n*A0.sz α)=(uD (List.replicate n (default:α))).toArray:=by
 have hzl:zs.length=A0.sz α:=by rw [←hz,A0.len]
 apply qC;apply fL;intro q;by_cases hq:q<n*A0.sz α
 · have h1:q=(q / A0.sz α)*A0.sz α+q % A0.sz α:=by rw [rX];exact (mB q _).symm
   have h2:q % A0.sz α<A0.sz α:=pT _ h0;have h3:q / A0.sz α<n:=(Nat.div_lt_iff_lt_mul h0).2 hq;have h4:=Fp (List.replicate n (default:α)) (q / A0.sz α) (q % A0.sz α) (by simpa using h3) h2;rw [←h1] at h4;rw [h4];have h5:((List.replicate n (default:α))[q / A0.sz α]?).getD default=default:=by simp [h3]
   rw [h5,hz];simp only [madeCells,pN,Array.toList_range,bQ,eF hq,fV];have h6:q % zs.toArray.size<zs.length:=by simp [hzl];exact h2
   have h7:zs.toArray[q % zs.toArray.size]! = zs[q % zs.length]'(by simpa using h6):=by
    simp only [oV] at h6 ⊢;rw [getElem!_pos zs.toArray _ (by simpa using h6)];simp
   rw [h7,aA (by rw [hzl];exact h2)];congr 1;simp only [hzl]
 rw [bV (by simp [madeCells];omega),bV (by simp [uA];omega)]
end zero
section
variable {P:I6} {ops:Array Oper} {rest:List Oper} {B:Bs} {e:B0} {D:List Deferred} {H:Hp} {G:A2} {K:Act→I8→Prop}
 {ty:I9} {pos:String} {after:Array Edge} {d:Nat}
theorem A5.reH {a:Act} {w:I8} (hh:A5 B ⟨e,D,H,G⟩ a w) {t:Nat} {k:J0 Nat} {o o':Obj} (ht:H.get t=some (k,o)) (ho:o=o'):A5 B ⟨e,D,(t,k,o') :: H,G⟩ a w:=by
 subst ho;have key:∀ i x,Hp.get ((t,k,o) :: H) i=some x→H.get i=some x:=fun i x hx=>by
  rw [bF] at hx;split at hx
  · rename_i h;subst h;rw [←hx];exact ht
  exact hx
 exact hh.weaken (fun _ _ h=>h) key
theorem Wl.reH {l:List Oper} (t:Nat) {k:J0 Nat} {o:Obj} (o':Obj) (ht:H.get t=some (k,o)) (ho:o=o') (h:Wl P ops l B ⟨e,D,(t,k,o') :: H,G⟩ K):Wl P ops l B ⟨e,D,H,G⟩ K:=fun a w hh=>h a w (hh.reH ht ho)
theorem Wc.reH {r:J0 Nat} {c:Code} {Q:Exit→Act→I8→Prop} (t:Nat) {k:J0 Nat} {o:Obj} (o':Obj) (ht:H.get t=some (k,o)) (ho:o=o') (h:Wc r P c B ⟨e,D,(t,k,o') :: H,G⟩ Q):Wc r P c B ⟨e,D,H,G⟩ Q:=fun a w hh=>h a w (hh.reH ht ho)
abbrev rJ:=@Wc.reH
theorem Ar.reH {x:Exit} {Q:Exit→Act→I8→Prop} (t:Nat) {k:J0 Nat} {o:Obj} (o':Obj) (ht:H.get t=some (k,o)) (ho:o=o') (h:Ar Q x B ⟨e,D,(t,k,o') :: H,G⟩):Ar Q x B ⟨e,D,H,G⟩:=fun a w hh=>h a w (hh.reH ht ho)
abbrev iV:=@Ar.reH
theorem A5.noBlock {a:Act} {w:I8} (hh:A5 B ⟨e,D,H,G⟩ a w) (t:Nat) (o:Obj):A5 B ⟨e,D,(t,none,o) :: H,G⟩ a w:=by
 have key:∀ i b o',Hp.get ((t,none,o) :: H) i=some (some b,o')→H.get i=some (some b,o'):=fun i b o' hx=>by
  rw [bF] at hx;split at hx
  · simp at hx
  exact hx
 exact ⟨hh.size,hh.defers,hh.env,⟨fun t b o x=>hh.mem.own t b o (key _ _ _ x),fun t t' b o o' x y=>hh.mem.one t t' b o o' (key _ _ _ x) (key _ _ _ y),hh.mem.imm,fun t b o x=>hh.mem.off t b o (key _ _ _ x)⟩,
  hh.upd,fun t b o x=>hh.mine t b o (key _ _ _ x),hh.le,hh.new⟩
theorem ME {r:J0 Nat} {c:Code} {Q:Exit→Act→I8→Prop} (t:Nat) (o:Obj) (h:Wc r P c B ⟨e,D,(t,none,o) :: H,G⟩ Q):Wc r P c B ⟨e,D,H,G⟩ Q:=fun a w hh=>h a w (hh.noBlock t o)
abbrev dK:=@ME
section row
variable {α:Type} [A0 α]
theorem Yx {E:I9} {xs:List α} {junk:List Value} {b:Nat} (hG:G b=some (Row E xs junk)):Arr G (some ⟨b,0,none⟩) xs:=by
 refine ⟨uA xs,.inr ⟨b,0,U,fun i v hi=>?_⟩⟩;have hl:i<(uD xs).length:=(aW.1 hi).1;simp only [A2.cell,hG,Row,cP,jR];rw [bC hl];exact hi
theorem A5.freezeRow {a:Act} {w:I8} (hh:A5 B ⟨e,D,H,G⟩ a w) {t:Nat} {ad:J0 Addr} {c:Nat} {E:I9} {xs:List α} {junk:List Value} (ht:H.get t=some (ad.map (·.block),Row E xs junk)) (ho:A3 ad c xs junk) :
 ∃ G',G.le G'∧Arr G' ad xs∧A5 B ⟨e,D,(t,none,default) :: H,G'⟩ a w:=by
 rcases ho with ⟨rfl,rfl,rfl,_⟩ | ⟨b,rfl,_⟩
 · exact ⟨G,cX _,fG G,hh.noBlock t default⟩
 have ht':H.get t=some (some b,Row E xs junk):=ht;obtain ⟨h1,h2⟩:=hh.freeze ht';exact ⟨_,h2,Yx (E:=E) (junk:=junk) (by simp [A2.with]),h1⟩
variable {r:J0 Nat} {cd:Code} {Q:Exit→Act→I8→Prop} {x:Exit} {l:List Oper}
theorem Wl.freezeRow (t:Nat) {ad:J0 Addr} {c:Nat} {E:I9} {xs:List α} {junk:List Value} (ht:H.get t=some (ad.map (·.block),Row E xs junk)) (ho:A3 ad c xs junk)
 (h:∀ G',G.le G'→Arr G' ad xs→Wl P ops l B ⟨e,D,(t,none,default) :: H,G'⟩ K):Wl P ops l B ⟨e,D,H,G⟩ K:=fun a w hh=>let ⟨G',h1,h2,h3⟩:=hh.freezeRow ht ho;h G' h1 h2 a w h3
abbrev iF:=@Wl.freezeRow
theorem Wc.freezeRow (t:Nat) {ad:J0 Addr} {c:Nat} {E:I9} {xs:List α} {junk:List Value} (ht:H.get t=some (ad.map (·.block),Row E xs junk)) (ho:A3 ad c xs junk)
 (h:∀ G',G.le G'→Arr G' ad xs→Wc r P cd B ⟨e,D,(t,none,default) :: H,G'⟩ Q):Wc r P cd B ⟨e,D,H,G⟩ Q:=fun a w hh=>let ⟨G',h1,h2,h3⟩:=hh.freezeRow ht ho;h G' h1 h2 a w h3
abbrev nZ:=@Wc.freezeRow
theorem Ar.freezeRow (t:Nat) {ad:J0 Addr} {c:Nat} {E:I9} {xs:List α} {junk:List Value} (ht:H.get t=some (ad.map (·.block),Row E xs junk)) (ho:A3 ad c xs junk)
 (h:∀ G',G.le G'→Arr G' ad xs→Ar Q x B ⟨e,D,(t,none,default) :: H,G'⟩):Ar Q x B ⟨e,D,H,G⟩:=fun a w hh=>let ⟨G',h1,h2,h3⟩:=hh.freezeRow ht ho;h G' h1 h2 a w h3
abbrev fO:=@Ar.freezeRow
theorem Wl.make [Inhabited α] {T:I9} {x:I7} {k:IntKind} {m:Int} {E bytes:Nat} {zs:List Value} (t:Nat) (hn:Nat.ble (d+1) B.n=true) (hT:tR P T E (A0.sz α)) (hE:B9 P E (A0.sz α) bytes zs)
 (hz:A0.enc (default:α)=zs) (hx:e.ev x=some (.int k m)) (h0:0≤m) (hb:bytes*m≤281474976710656∧m≤9223372036854775807)
 (h:∀ b,Wl P ops rest B ⟨(d,.slice (some ⟨b,0,none⟩) (List.replicate m.toNat (default:α)).length (List.replicate m.toNat (default:α)).length) :: e,D,(t,some b,Row E (List.replicate m.toNat (default:α)) []) :: H,G⟩ K) :
 Wl P ops (⟨some d,.makeSlice T x x,ty,pos,after,none⟩ :: rest) B ⟨e,D,H,G⟩ K:=by
 obtain ⟨i,z,hi,hz1,hz2,hs,hby,hzl,hsz⟩:=hE;have hr:(List.replicate m.toNat (default:α)).length=m.toNat:=tW;refine nM (v:=fun b=>.slice (some ⟨b,0,none⟩) (List.replicate m.toNat (default:α)).length (List.replicate m.toNat (default:α)).length) t hn (fun a w hh=>?_) h;have h1:=run_make (P:=P) w T E i z hT.1 hi hz1 k k m m h0 (lH _) (by rw [hby];exact hb.1) hb.2;have h2:madeCells z.cells (m.toNat*i.size)=(uD (List.replicate m.toNat (default:α))++[]).toArray:=by rw [hz2,hs,Vw hz hsz,cK]
 rw [h2] at h1;simp only [execOp,hh.eval hx,Row,hr];simp [h1]
abbrev gM:=@Wl.make
theorem Lu [Inhabited α] {b:Nat} {xs:List α} (h:xs.length≤maxLen):A3 (some ⟨b,0,none⟩) xs.length xs []:=.inr ⟨b,U,by simp,aH _,h⟩
abbrev iJ:=@Lu
theorem JC [Inhabited α] {xs:List α} {junk:List Value} {m:Int} (hm:0≤m∧m<xs.length) (k:Nat) (hk:k<A0.sz α) :
 (uD xs++junk)[0+m.toNat*A0.sz α+k]?=(A0.enc (xs[m.toNat]?.getD default))[k]?:=by
 have hlt:m.toNat<xs.length:=sU;rw [cP,bC (by rw [uA];have:=jC (A0.sz α) (show m.toNat+1≤xs.length by omega);rw [fC] at this;omega)];exact Fp xs m.toNat k hlt hk
theorem QG [Inhabited α] {T:I9} {x:I7} {b:Nat} {E:I9} {xs:List α} {junk:List Value} {m:Int} {v:Value} (t k:Nat) (h1:wZ P T=true) (hx:e.ev x=some (.pointer (some ⟨b,0+m.toNat*A0.sz α+k,none⟩)))
 (ht:H.get t=some (some b,Row E xs junk)) (hm:0≤m∧m<xs.length) (hk:Nat.ble (k+1) (A0.sz α)=true) (hv:(A0.enc (xs[m.toNat]?.getD default))[k]?=some v):Qy P (.load T x) ty e H G v:=
 jP t h1 hx ht ((JC hm k (bD hk)).trans hv)
theorem Vx [Inhabited α] {T:I9} {x:I7} {b:Nat} {E:I9} {xs:List α} {junk:List Value} {m:Int} (t:Nat) (h1:yH P T (A0.sz α)=true) (hx:e.ev x=some (.pointer (some ⟨b,0+m.toNat*A0.sz α,none⟩)))
 (ht:H.get t=some (some b,Row E xs junk)) (hm:0≤m∧m<xs.length):Qy P (.load T x) ty e H G (.agg (A0.enc (xs[m.toNat]?.getD default)).toArray):=fun a w _ _ _ _ hh=>by
 have hc:∀ j v,(A0.enc (xs[m.toNat]?.getD default))[j]?=some v→w.cell? ⟨b,0+m.toNat*A0.sz α+j,none⟩=some v:=fun j v hj=>by
  rw [cell_of_block (hh.mem.own t b _ ht)];have hl:j<A0.sz α:=by rw [←A0.len (xs[m.toNat]?.getD default)];exact (aW.1 hj).1
  exact (JC hm j hl).trans hj
 have hr:=zJ h1 (A0.len _) hc;simp only [execOp,hh.eval hx,bK,hr,aR,bO]
theorem flat_set:∀ (xs:List α) (i:Nat) (y:α),i<xs.length→(uD xs).take (i*A0.sz α)++A0.enc y++(uD xs).drop (i*A0.sz α+A0.sz α)=uD (xs.set i y)
 | [],i,y,h=>by simp at h
 | x :: xs,0,y,_=>by
   rw [xD,oC,cP,dP,fJ,List.drop_left' (A0.len x),List.set_cons_zero,xD]
 | x :: xs,i+1,y,h=>by
   have ih:=flat_set xs i y (by simpa using h);rw [xD,List.set_cons_succ,xD,←ih];have h1:(i+1)*A0.sz α=(A0.enc x).length+i*A0.sz α:=by rw [A0.len,fC];omega
   rw [h1,List.take_length_add_append,kR,oD,bA,bA,bA]
theorem WR {T:I9} {x y:I7} {b:Nat} {E:I9} {xs:List α} {junk:List Value} {m:Int} {v:Value} {z:α} (t:Nat) (hs:(P.info? T).map (·.size)=some (A0.sz α))
 (hx:e.ev x=some (.pointer (some ⟨b,0+m.toNat*A0.sz α,none⟩))) (hy:e.ev y=some v) (hv:v.cells=(A0.enc z).toArray) (ht:H.get t=some (some b,Row E xs junk)) (hm:0≤m∧m<xs.length)
 (h:Wl P ops rest B ⟨e,D,(t,some b,Row E (xs.set m.toNat z) junk) :: H,G⟩ K):Wl P ops (⟨none,.store T x y,ty,pos,after,none⟩ :: rest) B ⟨e,D,H,G⟩ K:=
 pG (v:=undef) (x:=.skip) ht (.inl ⟨U,U⟩) (fun a w hh=>by
  have hlt:m.toNat<xs.length:=sU;have hle:m.toNat*A0.sz α+A0.sz α≤(uD xs).length:=by rw [uA,←pS];exact jC _ hlt
  have hb:=hh.mem.own t b _ ht;have hst:=Cy (P:=P) (T:=T) (off:=0+m.toNat*A0.sz α) (cs:=uD xs++junk) (vs:=A0.enc z) (v:=v) (by rw [A0.len];exact hs) hv (A0.one z) hb (by rw [A0.len,aD];omega);refine ⟨_,by simp only [execOp,hh.eval hx,hh.eval hy,bK,hst,aR,bO];rfl,wT w b _,?_⟩;rw [nL w b _ _ E _ hb,A0.len,cP,fZ sU,hJ sU,←bA,flat_set xs m.toNat z hlt];simp [Row]) h
def Src (H:Hp) (G:A2) (a:J0 Addr) (ys:List α):Prop:=∀ w,B3 H G w→(a=none∧ys=[])∨∃ ad,a=some ad∧∀ j v,(uD ys)[j]?=some v→w.cell? (ad.add j)=some v
theorem Src.row {b:Nat} {E:I9} {ys:List α} {junk:List Value} (t:Nat) (ht:H.get t=some (some b,Row E ys junk)):Src H G (some ⟨b,0,none⟩) ys:=fun w hw =>
 .inr ⟨_,U,fun j v hj=>by
  rw [add_lit,cP,cell_of_block (hw.own _ b _ ht),bC (aW.1 hj).1];exact hj⟩
abbrev eP:=@Src.row
theorem WS {a:J0 Addr} {ys:List α} (h:Arr G a ys):Src H G a ys:=fun w hw=>by
 rcases h.2 with h2 | ⟨b,o,rfl,hr⟩
 · have h3:ys=[]:=dT h2;subst h3;cases a with
   | none=>exact .inl ⟨U,U⟩
   | some ad=>exact .inr ⟨ad,U,fun j v hj=>by simp [uD] at hj⟩
 exact .inr ⟨_,U,fun j v hj=>by rw [add_lit];exact hw.cellG (hr j v hj)⟩
abbrev rT:=@WS
theorem Ov {xs:List α} {junk:List Value}:(uD xs++junk).take (xs.length*A0.sz α)=uD xs:=by rw [←uA];exact List.take_left
theorem A5.ownNew {a:Act} {w w':I8} (hh:A5 B ⟨e,D,H,G⟩ a w) (t:Nat) {ob:Obj} (hu:D9 (fun _=>False) w w') (hs:w'.heap.size=w.heap.size+1) (hb:w'.heap[w.heap.size]?=some ob) :
 A5 B ⟨e,D,(t,some w.heap.size,ob) :: H,G⟩ a w':=by
 have hG:G w.heap.size=none:=by
  cases hg:G w.heap.size with
  | none=>rfl
  | some x=>exact absurd (hh.mem.ltG hg) (kQ _)
 have hg:=hh.grow hu;refine ⟨hg.size,hg.defers,hg.env,⟨?_,?_,hg.mem.imm,?_⟩,hg.upd,?_,hg.le,hg.new⟩
 · intro t' b o' x;rw [bF] at x;split at x
   · simp only [bU,eI] at x;obtain ⟨rfl,rfl⟩:=x;exact hb
   exact hg.mem.own t' b o' x
 · intro t1 t2 b o1 o2 x y;rw [bF] at x y;split at x <;> split at y
   · omega
   · simp only [bU,eI] at x;obtain ⟨rfl,rfl⟩:=x;exact absurd (hh.mem.lt y) (kQ _)
   · simp only [bU,eI] at y;obtain ⟨rfl,rfl⟩:=y;exact absurd (hh.mem.lt x) (kQ _)
   exact hg.mem.one _ _ _ _ _ x y
 · intro t' b o' x;rw [bF] at x;split at x
   · simp only [bU,eI] at x;obtain ⟨rfl,rfl⟩:=x;exact hG
   exact hg.mem.off t' b o' x
 intro t' b o' x;rw [bF] at x;split at x
 · simp only [bU,eI] at x;obtain ⟨rfl,rfl⟩:=x;exact .inl hh.upd.size
 exact hg.mine t' b o' x
theorem GP {w:I8} (hw:B3 H G w) {T E bytes:Nat} {zs:List Value} (hT:tR P T E (A0.sz α)) (hE:B9 P E (A0.sz α) bytes zs) {t:Nat} {a ad:J0 Addr} {c c2:Nat} {xs ys:List α} {junk:List Value}
 (ht:H.get t=some (a.map (·.block),Row E xs junk)) (ho:A3 a c xs junk) (hsrc:Src H G ad ys) (hb:(xs.length+ys.length)*bytes≤140737488355328) (hl:xs.length+ys.length≤maxLen) :
 ∃ a' c' junk' w',(Builtin.append_ #[T,T] ty #[.slice a xs.length c,.slice ad ys.length c2]).run P w=.ok (.slice a' (xs++ys).length c') w'∧A3 a' c' (xs++ys) junk'∧
  ((a'=none∧a=none∧w'=w)∨
   (∃ b,a'=some ⟨b,0,none⟩∧a=a'∧D9 (·=b) w w'∧w'.heap[b]?=some (Row E (xs++ys) junk'))∨
   (a'=some ⟨w.heap.size,0,none⟩∧D9 (fun _=>False) w w'∧w'.heap.size=w.heap.size+1∧w'.heap[w.heap.size]?=some (Row E (xs++ys) junk'))):=by
 obtain ⟨i,z,hi,hz1,hz2,hs,hby,hzl,hsz⟩:=hE;have hm63:xs.length+ys.length≤9223372036854775807:=by simp only [maxLen] at hl;omega
 have hlen:(xs++ys).length=xs.length+ys.length:=aD;have hyl:(uD ys).length=ys.length*i.size:=by rw [uA,hs]
 have hxl:(uD xs).length=xs.length*i.size:=by rw [uA,hs]
 have junkLen:∀ k,(Builtin.zeroCells z.cells k).toList.length=k*A0.sz α:=fun k=>by
  rw [nX,size_zeroCells,hz2];simp [hzl]
 have fresh:∀ old,old<xs.length+ys.length→∃ junk',A3 (some ⟨w.heap.size,0,none⟩) (grownCap w (xs.length+ys.length) old E) (xs++ys) junk'∧
  (w.drew.alloc (.cells ((uD xs).toArray++(uD ys).toArray++Builtin.zeroCells z.cells (grownCap w (xs.length+ys.length) old E - (xs.length+ys.length))) E)).heap[w.heap.size]?=some (Row E (xs++ys) junk'):=fun old hold=>by
  have hge:=grownCap_ge w (xs.length+ys.length) old E;have hcm:grownCap w (xs.length+ys.length) old E≤maxLen:=grownCap_le_maxLen w _ old E hl;refine ⟨(Builtin.zeroCells z.cells (grownCap w (xs.length+ys.length) old E - (xs.length+ys.length))).toList,.inr ⟨_,U,?_,by rw [hlen];exact hge,hcm⟩,?_⟩
  · rw [junkLen,hlen,←fC];congr 1;omega
  rw [show w.heap.size=w.drew.heap.size from rfl,uS];congr 1;simp [Row,xM]
 have hupd:∀ o,D9 (fun _=>False) w (w.drew.alloc o):=fun o=>(kZ _ w).drew.alloc o;rcases hsrc w hw with ⟨rfl,rfl⟩ | ⟨src,rfl,hsr⟩
 · -- nothing to append
   simp only [cK,cD,iY] at hb hl fresh hlen hm63 ⊢;rcases ho with ⟨rfl,rfl,rfl,rfl⟩ | ⟨b,rfl,hj,hc,hcm⟩
   · refine ⟨none,0,[],w,?_,dN,.inl ⟨U,U,U⟩⟩;simp [Builtin.append_,bB hT.1,sizeOf,typeInfo,hi,Builtin.lenOf,Builtin.firstCells]
   have hblk:=hw.own t b _ ht;refine ⟨some ⟨b,0,none⟩,c,junk,w,?_,.inr ⟨b,U,hj,hc,hcm⟩,.inr (.inl ⟨b,U,U,kZ _ _,hblk⟩)⟩;simp [Builtin.append_,bB hT.1,sizeOf,typeInfo,hi,Builtin.lenOf,Builtin.firstCells,hc,storeCells]
 rcases ho with ⟨rfl,rfl,rfl,rfl⟩ | ⟨b,rfl,hj,hc,hcm⟩
 · -- from nil
   simp only [cD,cP,fJ] at hb hl fresh hlen hm63 ⊢;by_cases h0:ys.length=0
   · have hy:ys=[]:=dT h0;subst hy;refine ⟨none,0,[],w,?_,dN,.inl tW⟩;simp [Builtin.append_,bB hT.1,sizeOf,typeInfo,hi,Builtin.lenOf,Builtin.firstCells,loadCells,loadCellsFrom]
   have hr:=run_append_nil (P:=P) w T ty E i z hT.1 hi hz1 src ys.length c2 (uD ys) hyl hsr sU sU (by rw [hby];omega);obtain ⟨junk',h1,h2⟩:=fresh 0 sU;refine ⟨_,_,junk',_,hr,h1,.inr (.inr ⟨U,hupd _,by simp,?_⟩)⟩;simpa [uD] using h2
 have hblk:=hw.own t b _ ht;have hcsz:(uD xs++junk).toArray.size=c*i.size:=by simp [uA,hs,hj]
 by_cases hroom:xs.length+ys.length≤c
 · have hfit:xs.length*i.size+(uD ys).length≤(uD xs++junk).toArray.size:=by rw [hcsz,hyl,←fC];exact jC _ hroom
   have hr:=run_append_room (P:=P) w T ty E i hT.1 hi b xs.length c (uD xs++junk).toArray hblk src ys.length c2 (uD ys) hyl hsr (by simpa using BW ys) hroom hfit;have e1:((uD xs++junk).toArray.toList.take (xs.length*i.size)++uD ys++(uD xs++junk).toArray.toList.drop (xs.length*i.size+(uD ys).length))=uD (xs++ys)++junk.drop (uD ys).length:=by
    rw [hs,Ov,xM];congr 1;rw [←uA,oD]
   rw [e1] at hr;refine ⟨_,_,junk.drop (uD ys).length,_,by rw [hlen];exact hr,.inr ⟨b,U,?_,by rw [hlen];exact hroom,hcm⟩,.inr (.inl ⟨b,U,U,wT w b _,?_⟩)⟩
   · rw [eK,hlen,uA];have h2:xs.length*A0.sz α+ys.length*A0.sz α≤c*A0.sz α:=by rw [←fC];exact jC _ hroom
     rw [fC];omega
   rw [nL w b _ _ E _ hblk];rfl
 have hcell:∀ j v,(uD xs)[j]?=some v→w.cell? ((⟨b,0,none⟩:Addr).add j)=some v:=fun j v hv=>by
  rw [add_lit,cP,cell_of_block hblk,bC (aW.1 hv).1];exact hv
 have hr:=run_append_grow (P:=P) w T ty E i z hT.1 hi hz1 ⟨b,0,none⟩ xs.length c (uD xs) hxl hcell src ys.length c2 (uD ys) hyl hsr sU sU (growslice_fits sU (by rw [hby];exact hb));obtain ⟨junk',h1,h2⟩:=fresh c sU;exact ⟨_,_,junk',_,by rw [hlen];exact hr,h1,.inr (.inr ⟨U,hupd _,by simp,h2⟩)⟩
theorem Wl.append {s x:I7} {T E bytes:Nat} {zs:List Value} {a ad:J0 Addr} {c c2:Nat} {xs ys:List α} {junk:List Value} (t:Nat) (hn:Nat.ble (d+1) B.n=true) (hT:tR P T E (A0.sz α)) (hE:B9 P E (A0.sz α) bytes zs)
 (hs:e.ev s=some (.slice a xs.length c)) (hx:e.ev x=some (.slice ad ys.length c2)) (ht:H.get t=some (a.map (·.block),Row E xs junk)) (ho:A3 a c xs junk) (hsrc:Src H G ad ys)
 (hb:(xs.length+ys.length)*bytes≤140737488355328) (hl:xs.length+ys.length≤maxLen)
 (h:∀ a' c' junk',A3 a' c' (xs++ys) junk'→Wl P ops rest B ⟨(d,.slice a' (xs++ys).length c') :: e,D,(t,a'.map (·.block),Row E (xs++ys) junk') :: H,G⟩ K) :
 Wl P ops (⟨some d,.call { callee:=.builtin .append,args:=#[s,x],argTypes:=#[T,T] },ty,pos,after,none⟩ :: rest) B ⟨e,D,H,G⟩ K:=by
 intro ac w hh;obtain ⟨a',c',junk',w',hrun,ho',hcase⟩:=GP (c2:=c2) (ty:=ty) hh.mem hT hE ht ho hsrc hb hl;unfold uG;rw [aE (by simp [Region.wanted])];unfold An;have hex:(execOp ac.eval ⟨some d,.call { callee:=.builtin .append,args:=#[s,x],argTypes:=#[T,T] },ty,pos,after,none⟩).run P w=.ok (.value (.slice a' (xs++ys).length c')) w':=by
  simp only [execOp,resolve,invoke,builtin,bK,bO,aR,pL,dY,pV,hh.eval hs,hh.eval hx,hrun]
 rw [hex];refine h a' c' junk' ho' _ _ (A5.put ?_ hn _);rcases hcase with ⟨rfl,rfl,rfl⟩ | ⟨b,rfl,rfl,hu,hbk⟩ | ⟨rfl,hu,hsz,hbk⟩
 · exact hh.noBlock t _
 · exact hh.set (t:=t) (b:=b) ht hu hbk
 exact hh.ownNew t hu hsz hbk
abbrev lN:=@Wl.append
end row
end
def Bg (pl:List (Nat×Nat)) (cells:List Value):List (Nat×Value)→List Value
 | []=>cells
 | (i,v) :: rest=>match pl[i]? with
   | some (off,_)=>Bg pl (cells.take off++(v.cells.toList++cells.drop (off+v.cells.toList.length))) rest
   | none=>Bg pl cells rest
def Il (pl:List (Nat×Nat)) (n:Nat):List (Nat×Value)→Bool
 | []=>true
 | (i,v) :: rest=>(match pl[i]? with
   | some (off,size)=>Nat.beq v.cells.toList.length size && Nat.ble (off+v.cells.toList.length) n
   | none=>false) && Il pl n rest
theorem WT (off:Nat) (v:Value) (cells:List Value) (h2:off+v.cells.toList.length≤cells.length) :
 (v.cells.zipIdx.foldl (fun cs (x:Value×Nat)=>cs.setIfInBounds (off+x.2) x.1) cells.toArray)=(cells.take off++(v.cells.toList++cells.drop (off+v.cells.toList.length))).toArray:=by
 obtain ⟨g1,g2⟩:=Great.foldl_set off v.cells.toList 0 cells.toArray;have e0:v.cells.zipIdx.foldl (fun cs (x:Value×Nat)=>cs.setIfInBounds (off+x.2) x.1) cells.toArray=(v.cells.toList.zipIdx 0).foldl (fun cs (x:Value×Nat)=>cs.setIfInBounds (off+x.2) x.1) cells.toArray:=by
  rw [←Array.foldl_toList];simp
 rw [e0];apply qC;apply fL;intro k;rw [qI,g2 k];simp only [iY,oV,jR];simp only [List.getElem?_append,bM,mG,iR];have hm:min off cells.length=off:=sU;rw [hm];by_cases ha:k<off
 · rw [aC (by omega),aE ha,aE ha]
 rw [aC ha];by_cases hb:k - off<v.cells.toList.length
 · rw [aE (by omega),aE hb]
 rw [aC (by omega),aC hb];congr 1;omega
theorem Vy (place:Nat→J0 (Nat×Nat)) {i off size:Nat} {v:Value} (rest:List (Nat×Value)) {cells:List Value} (hp:place i=some (off,size)) (h1:v.cells.toList.length=size) (h2:off+v.cells.toList.length≤cells.length) :
 Instr.fill place cells.toArray ((i,v) :: rest)=Instr.fill place (cells.take off++(v.cells.toList++cells.drop (off+v.cells.toList.length))).toArray rest:=by
 have hsz:v.cells.size=size:=by rw [←h1];simp
 rw [Instr.fill,hp];rw [nX,hsz] at h2;simp only [hsz];rw [aC (by simp;omega),←WT off v cells (by rw [nX,hsz];exact h2)]
theorem Jp (place:Nat→J0 (Nat×Nat)) (pl:List (Nat×Nat)) (hp:∀ i x,pl[i]?=some x→place i=some x):∀ (parts:List (Nat×Value)) (cells:List Value) (n:Nat),cells.length=n→Il pl n parts=true→
 Instr.fill place cells.toArray parts=some (Bg pl cells parts).toArray
 | [],_,_,_,_=>rfl
 | (i,v) :: rest,cells,n,hn,hok=>by
   unfold Il at hok;cases hpl:pl[i]? with
   | none=>simp [hpl] at hok
   | some x =>
     obtain ⟨off,size⟩:=x;simp only [hpl,aF] at hok;obtain ⟨⟨h1,h2⟩,h3⟩:=hok;have h1:v.cells.toList.length=size:=aJ h1;have h2:off+v.cells.toList.length≤n:=bD h2;rw [Vy place rest (hp i _ hpl) h1 sU,Jp place pl hp rest _ n (by simp only [aD,bM,eK];omega) h3];simp [Bg,hpl]
def B5 (P:I6) (t:I9) (pl:List (Nat×Nat)) (zs:List Value):Prop:=
 ∃ z fs,P.underlying t=some (.struct fs)∧(∀ w,(zeroValue t).run P w=.ok z w)∧z.cells=zs.toArray∧fs.toList.map (fun f=>(f.offset,(P.info? f.type).map (·.size)))=pl.map fun x=>(x.1,some x.2)
theorem B5.of {P:I6} {t:I9} {pl:List (Nat×Nat)} {zs:List Value} (fs:Array Field) (hu:P.underlying t=some (.struct fs)) (hz:((P.info? t).bind (·.zero)).map (·.cells)=some zs.toArray)
 (hp:fs.toList.map (fun f=>(f.offset,(P.info? f.type).map (·.size)))=pl.map fun x=>(x.1,some x.2)):B5 P t pl zs:=by
 cases hi:P.info? t with
 | none=>simp [hi] at hz
 | some i =>
   cases hz':i.zero with
   | none=>simp [hi,hz'] at hz
   | some z=>exact ⟨z,fs,hu,fun w=>by simp [zeroValue,typeInfo,hi,hz'],by simpa [hi,hz'] using hz,hp⟩
abbrev iL:=@B5.of
theorem run_places {P:I6} (w:I8):∀ (fs:List Field) (pl:List (Nat×Nat)),fs.map (fun f=>(f.offset,(P.info? f.type).map (·.size)))=pl.map (fun x=>(x.1,some x.2))→
 (fs.mapM (fun f=>do pure (f.offset,←sizeOf f.type)):Sem (List (Nat×Nat))).run P w=.ok pl w
 | [],[],_=>rfl
 | [],_ :: _,h=>by simp at h
 | _ :: _,[],h=>by simp at h
 | f :: fs,(o,s) :: pl,h=>by
   simp only [dY,kM,eI] at h;obtain ⟨⟨h1,h2⟩,h3⟩:=h;have ih:=run_places w fs pl h3;rw [List.mapM_cons];simp only [bK,run_sizeOf w h2,aR,bO,ih,h1]
def Bj (e:B0):List (Nat×I7)→J0 (List (Nat×Value))
 | []=>some []
 | (i,x) :: xs=>match e.ev x,Bj e xs with
   | some v,some vs=>some ((i,v) :: vs)
   | _,_=>none
section
variable {P:I6} {ops:Array Oper} {rest:List Oper} {B:Bs} {e:B0} {D:List Deferred} {H:Hp} {G:A2} {K:Act→I8→Prop}
 {ty:I9} {pos:String} {after:Array Edge} {d:Nat}
theorem F9.parts {a:Act} {w:I8} (h:F9 e H G a w):∀ {xs:List (Nat×I7)} {vs:List (Nat×Value)},Bj e xs=some vs→xs.map (fun (i,x)=>(i,a.eval x))=vs
 | [],vs,hx=>by simp [Bj] at hx;simp [←hx]
 | (i,x) :: xs,vs,hx=>by
   unfold Bj at hx;split at hx
   · rename_i v us h1 h2;simp only [bU] at hx;subst hx;simp [h.eval h1,h.parts h2]
   cases hx
theorem Qy.build {t:I9} {pl:List (Nat×Nat)} {zs cs:List Value} {parts:List (Nat×I7)} {vs:List (Nat×Value)} (hT:B5 P t pl zs) (hx:Bj e parts=some vs) (hok:Il pl zs.length vs=true)
 (hc:Bg pl zs vs=cs):Qy P (.build t parts.toArray) ty e H G (.agg cs.toArray):=fun a w _ _ _ _ hh=>by
 obtain ⟨z,fs,hu,hz,hzc,hp⟩:=hT;have hpl:=run_places (P:=P) w fs.toList pl hp;have hpl':(fs.mapM (fun f=>do pure (f.offset,←sizeOf f.type)):Sem (Array (Nat×Nat))).run P w=.ok pl.toArray w:=by
  have e1:(fs.mapM (fun f=>do pure (f.offset,←sizeOf f.type)):Sem (Array (Nat×Nat)))=List.toArray <$> (fs.toList.mapM (fun f=>do pure (f.offset,←sizeOf f.type))):=by
   rw [Array.mapM_eq_mapM_toList]
  rw [e1,map_eq_pure_bind];simp only [bK,hpl,aR,bO]
 have hf:=Jp (fun i=>pl[i]?) pl (fun i x h=>h) vs zs zs.length U hok;have hm:(parts.toArray.map fun (i,x)=>(i,a.eval x))=vs.toArray:=by rw [←hh.parts hx];simp
 subst hc;simp only [execOp,hm,Instr.build,bK,hz w,aR,bB hu,hpl',hzc];simp [hf]
abbrev cQ:=@Qy.build
def D2 (P:I6) (t:I9) (n sz:Nat) (zs:List Value):Prop:=
 ∃ z E,P.underlying t=some (.array n E)∧(∀ w,(zeroValue t).run P w=.ok z w)∧z.cells=zs.toArray∧(P.info? E).map (·.size)=some sz
theorem D2.of {P:I6} {t:I9} {n sz:Nat} {zs:List Value} (E:I9) (hu:P.underlying t=some (.array n E)) (hz:((P.info? t).bind (·.zero)).map (·.cells)=some zs.toArray)
 (hp:(P.info? E).map (·.size)=some sz):D2 P t n sz zs:=by
 cases hi:P.info? t with
 | none=>simp [hi] at hz
 | some i =>
   cases hz':i.zero with
   | none=>simp [hi,hz'] at hz
   | some z=>exact ⟨z,E,hu,fun w=>by simp [zeroValue,typeInfo,hi,hz'],by simpa [hi,hz'] using hz,hp⟩
def wJ (n sz:Nat):List (Nat×Nat):=(List.range n).map fun i=>(i*sz,sz)
theorem MF {t:I9} {n sz:Nat} {zs cs:List Value} {parts:List (Nat×I7)} {vs:List (Nat×Value)} (hT:D2 P t n sz zs) (hx:Bj e parts=some vs) (hok:Il (wJ n sz) zs.length vs=true)
 (hc:Bg (wJ n sz) zs vs=cs):Qy P (.build t parts.toArray) ty e H G (.agg cs.toArray):=fun a w _ _ _ _ hh=>by
 obtain ⟨z,E,hu,hz,hzc,hp⟩:=hT;have hf:=Jp (fun i=>some (i*sz,sz)) (wJ n sz) (fun i x h=>by
  simp only [wJ,bQ,fK] at h;obtain ⟨j,hj,rfl⟩:=h;obtain ⟨hlt,hj⟩:=aW.1 hj;simp at hj;subst hj;rfl) vs zs zs.length U hok
 have hm:(parts.toArray.map fun (i,x)=>(i,a.eval x))=vs.toArray:=by rw [←hh.parts hx];simp
 subst hc;simp only [execOp,hm,Instr.build,bK,hz w,aR,bB hu,run_sizeOf w hp,hzc];simp [hf]
abbrev sL:=@MF
theorem Vz {α:Type} [A0 α] (ys:List α):∀ (xs:List α) (i:Nat) (vs:List (Nat×Value)) (cells:List Value),cells.length=(i+xs.length)*A0.sz α→
 vs.map (fun v=>(v.1,v.2.cells))=(xs.zipIdx i).map (fun x=>(x.2,(A0.enc x.1).toArray))→
 Instr.fill (fun i=>some (i*A0.sz α,A0.sz α)) cells.toArray vs=some (cells.take (i*A0.sz α)++uD xs).toArray
 | [],i,vs,cells,hl,hv=>by
   simp only [List.zipIdx_nil,pV,List.map_eq_nil_iff] at hv;subst hv;simp only [cD,iY] at hl;simp [Instr.fill,uD,←hl]
 | x :: xs,i,vs,cells,hl,hv=>by
   cases vs with
   | nil=>simp at hv
   | cons v vs =>
     simp only [dY,List.zipIdx_cons,kM,eI] at hv;obtain ⟨⟨h1,h2⟩,h3⟩:=hv;obtain ⟨j,v⟩:=v;simp only at h1 h2;subst h1;have e1:(j+(x :: xs).length)*A0.sz α=j*A0.sz α+A0.sz α+xs.length*A0.sz α:=by simp only [aU,fC,Nat.one_mul];omega
     have hvl:v.cells.toList.length=A0.sz α:=by rw [h2];simp [A0.len]
     have step:=Vy (fun i=>some (i*A0.sz α,A0.sz α)) (i:=j) (v:=v) vs (cells:=cells) U hvl (by rw [hl,e1,hvl];omega);rw [step,Vz ys xs (j+1) vs _ (by simp only [aD,bM,eK,hvl,fC,Nat.one_mul];omega) h3];have e2:(j+1)*A0.sz α=j*A0.sz α+A0.sz α:=by simp only [fC,Nat.one_mul]
     have e3:List.take ((j+1)*A0.sz α) (List.take (j*A0.sz α) cells++(v.cells.toList++List.drop (j*A0.sz α+v.cells.toList.length) cells))=List.take (j*A0.sz α) cells++A0.enc x:=by
      rw [e2,←bA,fZ (by simp only [aD,bM,hvl];omega),dU (by simp only [aD,bM,hvl];omega),h2]
     rw [e3,xD,bA]
theorem Wl.lit {α:Type} [A0 α] {T:I9} {E bytes n:Nat} {zs:List Value} {parts:List (Nat×I7)} {vs:List (Nat×Value)} (t:Nat) (xs:List α) (hn:Nat.ble (d+1) B.n=true) (hT:tR P T E (A0.sz α)) (hE:B9 P E (A0.sz α) bytes zs)
 (hx:Bj e parts=some vs) (hv:vs.map (fun v=>(v.1,v.2.cells))=(xs.zipIdx 0).map (fun x=>(x.2,(A0.enc x.1).toArray))) (hl:xs.length=n) (hp:Nat.ble 1 n=true) (hs:Nat.ble (n*A0.sz α) 16777216=true)
 (h:∀ b,Wl P ops rest B ⟨(d,.slice (some ⟨b,0,none⟩) xs.length n) :: e,D,(t,some b,Row E xs []) :: H,G⟩ K) :
 Wl P ops (⟨some d,.buildSlice T n parts.toArray,ty,pos,after,none⟩ :: rest) B ⟨e,D,H,G⟩ K:=by
 obtain ⟨i,z,hi,hz1,hz2,hsz,hby,hzl,hs0⟩:=hE;have hp:=bD hp;have hs:=bD hs;refine nM (v:=fun b=>.slice (some ⟨b,0,none⟩) xs.length n) t hn (fun a w hh=>?_) h;have hm:(parts.toArray.map fun (i,x)=>(i,a.eval x))=vs.toArray:=by rw [←hh.look.parts hx];simp
 have hf:=Vz xs xs 0 vs (((Array.range (n*i.size)).map (z.cells[· % z.cells.size]!)).toList) (by simp [hsz,hl]) hv;simp only [Array.toArray_toList,oC,dP,fJ] at hf;have h1:=run_buildSlice (P:=P) w T E n vs.toArray (uD xs).toArray i z hT.1 hi hz1 BN (by rw [hsz];have:=Nat.mul_pos hp hs0;omega) (by rw [hsz];rw [hsz] at hf;exact hf);subst hl;simp only [execOp,hm,bK,h1,aR,bO,Row,cK]
abbrev eH:=@Wl.lit
theorem WU {T:I9} {E sz:Nat} (t:Nat) (hn:Nat.ble (d+1) B.n=true) (hT:tR P T E sz)
 (h:∀ b,Wl P ops rest B ⟨(d,.slice (some ⟨b,0,none⟩) 0 0) :: e,D,(t,some b,.cells #[] E (0,0)) :: H,G⟩ K) :
 Wl P ops (⟨some d,.buildSlice T 0 #[],ty,pos,after,none⟩ :: rest) B ⟨e,D,H,G⟩ K:=
 nM (v:=fun b=>.slice (some ⟨b,0,none⟩) 0 0) t hn (fun a w hh=>by
  simp [execOp,Instr.buildSlice,bB hT.1,run_sizeOf w hT.2,Instr.fill,newRow,show Array.range 0=#[] from nF tW]) h
abbrev nY:=@WU
section cut
variable {T:I9} {x:I7} {a:J0 Addr} {n c E sz:Nat}
theorem Jq {hi:I7} {k:IntKind} {m:Int} (hT:tR P T E sz) (hx:e.ev x=some (.slice a n c)) (hh:e.ev hi=some (.int k m)) (hb:0≤m∧m≤c) :
 Qy P (.slice T x none (some hi) none) ty e H G (.slice (B7 a c 0 sz) m.toNat c):=fun ac w _ _ _ _ hk=>by
 have hr:=run_sizeOf (P:=P) w hT.2;have hu:P.underlying T=some (.slice (P.elem T)):=by simp [Program.elem,hT.1]
 have he:P.elem T=E:=by simp [Program.elem,hT.1]
 have:=run_slice_h (P:=P) (w:=w) T a n c hu k m hb.1 hb.2;simp only [execOp,hk.eval hx,fV,kL,hk.eval hh,bK,run_sliceAt_slice (P:=P) (w:=w) T _ _ _ _ hu,this,he,hr,aR,bO,sliced,B7,mS]
theorem WV {lo:I7} {k:IntKind} {m:Int} (hT:tR P T E sz) (hx:e.ev x=some (.slice a n c)) (hh:e.ev lo=some (.int k m)) (hb:0≤m∧m≤n) (hc:n≤c) :
 Qy P (.slice T x (some lo) none none) ty e H G (.slice (B7 a c m.toNat sz) (n - m.toNat) (c - m.toNat)):=fun ac w _ _ _ _ hk=>by
 have hr:=run_sizeOf (P:=P) w hT.2;have hu:P.underlying T=some (.slice (P.elem T)):=by simp [Program.elem,hT.1]
 have he:P.elem T=E:=by simp [Program.elem,hT.1]
 have:=run_slice_l (P:=P) (w:=w) T a n c hu k m hb.1 hb.2;simp only [execOp,hk.eval hx,fV,kL,hk.eval hh,bK,run_sliceAt_slice (P:=P) (w:=w) T _ _ _ _ hu,this,he,hr,aR,bO,sliced,B7]
end cut
def Ao (P : I6) (f : Field) : Bool × Nat := (f.name != "_" && (match P.underlying f.type with | some (.int .i64) => true | _ => false) && wZ P f.type, f.offset)
def Dj (P:I6) (t n:Nat):Prop:=P.underlying t=some (.struct (P.fieldsOf t))∧P.stoodInHeld t=false∧P.eqGuardType P.depth t=false∧
 (P.fieldsOf t).toList.map (Ao P)=(List.range n).map fun i=>(true,i)
def Dq (xs:List Int):Array Value:=(xs.map (Value.int .i64)).toArray
theorem Qw {P:I6} (w:I8) (xs ys:List Int) (n:Nat) (hx:xs.length=n) (hy:ys.length=n):∀ (fs:List Field) (s:Nat),
 fs.map (Ao P)=(List.range' s (n - s)).map (fun i=>(true,i))→s≤n→
 (Op.eqFields 9999 (Dq xs) (Dq ys) fs).run P w=.ok (decide (xs.drop s=ys.drop s)) w
 | [],s,h,hs=>by
   have h0:n - s=0:=by
    have:=congrArg List.length h;simpa using this.symm
   simp only [Op.eqFields,bO];rw [gT sU,gT sU];simp
 | f :: fs,s,h,hs=>by
   have hlen:n - s=fs.length+1:=by have:=congrArg List.length h;simpa using this.symm
   have hsn:s<n:=sU;rw [show n - s=(n - (s+1))+1 by omega,sM] at h;simp only [dY,Ao,kM,eI,aF] at h;obtain ⟨⟨⟨⟨h1,h2⟩,h3⟩,h4⟩,h5⟩:=h;have ih:=Qw (P:=P) w xs ys n hx hy fs (s+1) h5 sU;have hname : f.name ≠ "_" := by simpa using h1
   have hint:P.underlying f.type=some (.int .i64):=by
    split at h2
    · assumption
    cases h2
   have hpart:∀ zs:List Int,zs.length=n→(part f.type (Dq zs) f.offset).run P w=.ok (.int .i64 (zs[s]?.getD 0)) w:=fun zs hz=>by
    have hl:s<zs.length:=sU;simp [part,yI w h3,h4,Dq,hl]
   rw [Op.eqFields,aE hname];simp only [bK,hpart xs hx,hpart ys hy,aR,run_equalIn_int (P:=P) w 9998 f.type .i64 .i64 _ _ hint];have hxl:s<xs.length:=sU;have hyl:s<ys.length:=sU;have ex:xs.drop s=(xs[s]?.getD 0) :: xs.drop (s+1):=by rw [dC hxl];simp [hxl]
   have ey:ys.drop s=(ys[s]?.getD 0) :: ys.drop (s+1):=by rw [dC hyl];simp [hyl]
   rw [ex,ey];by_cases hq:xs[s]?.getD 0=ys[s]?.getD 0
   · simp [hq,ih]
   simp [hq]
theorem Bx {P:I6} {t n:Nat} (hT:Dj P t n) (w:I8) (xs ys:List Int) (hx:xs.length=n) (hy:ys.length=n):(Op.equal t (.agg (Dq xs)) (.agg (Dq ys))).run P w=.ok (decide (xs=ys)) w:=by
 obtain ⟨h1,h2,h3,h4⟩:=hT;have:=Qw (P:=P) w xs ys n hx hy (P.fieldsOf t).toList 0 (by rw [h4,mS,qO]) (aP _);simp only [Op.equal,Op.maxDepth];rw [run_equalIn_agg (P:=P) w 9999 t _ _ h1 h2,this];simp
theorem Yy {t t':I9} {x y:I7} {n:Nat} (xs ys:List Int) (hT:Dj P t n) (hx:e.ev x=some (.agg (Dq xs))) (hy:e.ev y=some (.agg (Dq ys))) (h1:xs.length=n) (h2:ys.length=n) :
 Qy P (.binOp .eql t x y t') ty e H G (.bool (decide (xs=ys))):=fun a w _ _ _ _ hh=>by
 simp only [execOp,hh.eval hx,hh.eval hy,bK,run_eqGuard_agg (P:=P) w .eql t x y _ _ hT.2.2.1,aR,run_eql_struct];have:=Bx hT w xs ys h1 h2;simp only [Op.equal,Op.maxDepth] at this;simp [this]
theorem Pf {t t':I9} {x y:I7} {n:Nat} (xs ys:List Int) (hT:Dj P t n) (hx:e.ev x=some (.agg (Dq xs))) (hy:e.ev y=some (.agg (Dq ys))) (h1:xs.length=n) (h2:ys.length=n) :
 Qy P (.binOp .neq t x y t') ty e H G (.bool (decide (xs≠ys))):=fun a w _ _ _ _ hh=>by
 simp only [execOp,hh.eval hx,hh.eval hy,bK,run_eqGuard_agg (P:=P) w .neq t x y _ _ hT.2.2.1,aR,run_neq_struct];have:=Bx hT w xs ys h1 h2;simp only [Op.equal,Op.maxDepth] at this;simp [this]
theorem QH (i j:Instr):([i.op,i.to,i.a,i.b,i.c]=[j.op,j.to,j.a,j.b,j.c])=(i=j):=by
 cases i;cases j;simp
theorem Ny {t t':I9} {x y:I7} {i j:Instr} (hT:Dj P t 5) (hx:e.ev x=some (.agg (A0.enc i).toArray)) (hy:e.ev y=some (.agg (A0.enc j).toArray)) :
 Qy P (.binOp .neq t x y t') ty e H G (.bool (decide (i≠j))):=by
 have:=Pf (t':=t') (ty:=ty) (H:=H) (G:=G) [i.op,i.to,i.a,i.b,i.c] [j.op,j.to,j.a,j.b,j.c] hT hx hy U U;simpa only [QH,ne_eq] using this
end
class A7 (κ:Type) where
 val:κ→Value
instance:A7 Int:=⟨fun n=>.int .i64 n⟩
instance:A7 Bool:=⟨fun b=>.bool b⟩
structure K4 where
 op:Int
 a:Int
 b:Int
 c:Int
 deriving DecidableEq
instance:A7 K4:=⟨fun k=>.agg (Dq [k.op,k.a,k.b,k.c])⟩
structure H4 (P:Program) (kt:TypeId) (κ:Type) [DecidableEq κ] [A7 κ]:Prop where
 check:∀ em w (k:κ),(Instr.checkKey em 10000 kt (A7.val k)).run P w=.ok () w
 find:∀ w (k:κ) (l:List MapEntry) (ks:List κ),l.map (·.key)=ks.map A7.val→
  (Instr.findKey kt (A7.val k) l).run P w=.ok ((ks.findIdx? (fun k'=>decide (k'=k))).bind fun i=>(l[i]?).map fun x=>(i,x.val)) w
 stays:∀ w (k:κ),(Instr.keyThatStays (A7.val k) (A7.val k)).run P w=.ok (A7.val k) w
section maps
variable {κ:Type} [DecidableEq κ] [A7 κ]
def tN (s:Nat):List (κ×Int)→List MapEntry
 | []=>[]
 | (k,v) :: xs=>{ key:=A7.val k,val:=.int .i64 v,born:=s } :: tN (s+1) xs
def A4 (xs:List (κ×Int)):Obj:=.map (tN 0 xs).toArray xs.length
def A9 (xs:List (κ×Int)) (k:κ):J0 Int:=(xs.find? (fun x=>decide (x.1=k))).map (·.2)
def Bk:List (κ×Int)→κ→Int→List (κ×Int)
 | [],k,v=>[(k,v)]
 | (k',v') :: xs,k,v=>if k'=k then (k',v) :: xs else (k',v') :: Bk xs k v
theorem zL (xs:List (κ×Int)):∀ s,(tN s xs).length=xs.length:=by
 induction xs with
 | nil=>intro s;rfl
 | cons x xs ih=>intro s;simp [tN,ih]
theorem Yz (xs:List (κ×Int)):∀ s,(tN s xs).map (·.key)=(xs.map (·.1)).map A7.val:=by
 induction xs with
 | nil=>intro s;rfl
 | cons x xs ih=>intro s;simp [tN,ih]
theorem vI (xs:List (κ×Int)):∀ (s i:Nat),(tN s xs)[i]?=(xs[i]?).map fun (x:κ×Int)=>({ key:=A7.val x.1,val:=.int .i64 x.2,born:=s+i }:MapEntry):=by
 induction xs with
 | nil=>intro s i;simp [tN]
 | cons x xs ih =>
   intro s i;cases i with
   | zero=>simp [tN]
   | succ i=>simp [tN,ih];congr 1;funext x;congr 1;omega
theorem zM (xs ys:List (κ×Int)):∀ s,tN s (xs++ys)=tN s xs++tN (s+xs.length) ys:=by
 induction xs with
 | nil=>intro s;simp [tN]
 | cons x xs ih=>intro s;simp [tN,ih];congr 1;omega
theorem Cz (xs:List (κ×Int)) (i:Nat) (k:κ) (v v':Int) (h:xs[i]?=some (k,v)):∀ s,tN s (xs.set i (k,v'))=(tN s xs).modify i (fun e=>{ e with val:=.int .i64 v' }):=by
 intro s;apply fL;intro j;rw [vI,nP,vI,cE];by_cases hij:i=j
 · subst hij;obtain ⟨hl,hg⟩:=aW.1 h;simp [hl,hg]
 simp [hij]
theorem QI (xs:List (κ×Int)) (k:κ):((xs.map (·.1)).findIdx? (fun k'=>decide (k'=k))).bind (fun i=>((tN 0 xs)[i]?).map fun x=>(i,x.val)) =
 ((xs.map (·.1)).findIdx? (fun k'=>decide (k'=k))).bind (fun i=>(A9 xs k).map fun v=>(i,Value.int .i64 v)):=by
 have key:∀ (xs:List (κ×Int)) s,((xs.map (·.1)).findIdx? (fun k'=>decide (k'=k))).bind (fun i=>((tN s xs)[i]?).map fun x=>(i,x.val)) =
  ((xs.map (·.1)).findIdx? (fun k'=>decide (k'=k))).bind (fun i=>(A9 xs k).map fun v=>(i,Value.int .i64 v)):=by
  intro xs;induction xs with
  | nil=>intro s;rfl
  | cons x xs ih =>
    intro s;obtain ⟨k',v⟩:=x;simp only [dY,kI];by_cases hk:k'=k
    · simp [hk,tN,A9]
    have hm:A9 ((k',v) :: xs) k=A9 xs k:=by simp [A9,hk]
    have ih':=ih (s+1);simp only [hk,decide_false,mJ,eQ,hm];cases hf:(xs.map (·.1)).findIdx? (fun k'=>decide (k'=k)) with
    | none=>simp
    | some i =>
      rw [hf] at ih';simp only [dX] at ih';simp only [fV,dX,tN,iD];cases h1:(tN (s+1) xs)[i]? <;> cases h2:A9 xs k <;> simp_all
 exact key xs 0
theorem zZ (xs:List (κ×Int)) (k:κ):A9 xs k=none↔(xs.map (·.1)).findIdx? (fun k'=>decide (k'=k))=none:=by
 simp [A9,gB]
theorem Dr (xs:List (κ×Int)) (k:κ) {v:Int} (h:A9 xs k=some v):∃ i,(xs.map (·.1)).findIdx? (fun k'=>decide (k'=k))=some i∧xs[i]?=some (k,v)∧∀ v',Bk xs k v'=xs.set i (k,v'):=by
 induction xs with
 | nil=>simp [A9] at h
 | cons x xs ih =>
   obtain ⟨k',u⟩:=x;by_cases hk:k'=k
   · subst hk;refine ⟨0,by simp [kI],?_,fun v'=>by simp [Bk]⟩;rw [A9,List.find?_cons] at h;simp at h;simp [h]
   have hm:A9 ((k',u) :: xs) k=A9 xs k:=by simp [A9,hk]
   obtain ⟨i,h1,h2,h3⟩:=ih (hm▸h);exact ⟨i+1,by simp [kI,hk,h1],by simpa using h2,fun v'=>by simp [Bk,hk,h3]⟩
theorem zA (xs:List (κ×Int)) (k:κ) (v:Int) (h:A9 xs k=none):Bk xs k v=xs++[(k,v)]:=by
 induction xs with
 | nil=>rfl
 | cons x xs ih =>
   obtain ⟨k',u⟩:=x;by_cases hk:k'=k
   · simp [A9,hk] at h
   have hm:A9 ((k',u) :: xs) k=A9 xs k:=by simp [A9,hk]
   simp [Bk,hk,ih (hm▸h)]
theorem xW (xs:List (κ×Int)) (k k':κ) (v:Int):A9 (Bk xs k v) k'=if k'=k then some v else A9 xs k':=by
 induction xs with
 | nil=>by_cases h:k=k' <;> simp [Bk,A9,h,eq_comm]
 | cons x xs ih =>
   obtain ⟨k1,u⟩:=x;by_cases h1:k1=k
   · subst h1;simp only [Bk,gL];by_cases h2:k1=k'
     · subst h2;simp [A9]
     simp [A9,h2,kA h2]
   simp only [Bk,h1,eQ];by_cases h2:k1=k'
   · subst h2;simp [A9,h1]
   have e1:∀ ys:List (κ×Int),A9 ((k1,u) :: ys) k'=A9 ys k':=fun ys=>by simp [A9,h2]
   rw [e1,e1,ih]
section find
variable {P:I6} {kt:I9}
theorem H4.look (h:H4 P kt κ) (w:I8) (xs:List (κ×Int)) (k:κ):(Instr.findKey kt (A7.val k) (tN 0 xs)).run P w =
 .ok (((xs.map (·.1)).findIdx? (fun k'=>decide (k'=k))).bind (fun i=>(A9 xs k).map fun v=>(i,Value.int .i64 v))) w:=by
 rw [h.find w k (tN 0 xs) (xs.map (·.1)) (Yz xs 0),QI]
end find
end maps
theorem H4.int {P:I6} {kt:I9} (h:P.underlying kt=some (.int .i64)):H4 P kt Int where
 check em w k:=MapKept.run_checkKey (k:=.int .i64 k) h (show MapKept.IsKey (.int .i64) (.int .i64 k) from U) em 9999
 stays w k:=MapKept.run_keyThatStays (d:=.int .i64) (show MapKept.IsKey (.int .i64) (.int .i64 k) from U)
 find w k l ks hk:=by
  have key:∀ (l:List MapEntry) (ks:List Int) (s:Nat),l.map (·.key)=ks.map A7.val→Instr.findNow (.int .i64) (.int .i64 k) l s=some ((ks.findIdx? (fun k'=>decide (k'=k))).bind fun i=>(l[i]?).map fun x=>(s+i,x.val)):=by
   intro l;induction l with
   | nil=>intro ks s hk;cases ks <;> simp at hk;rfl
   | cons x l ih =>
     intro ks s hk;cases ks with
     | nil=>simp at hk
     | cons k' ks =>
       simp only [dY,kM] at hk;obtain ⟨h1,h2⟩:=hk;have h1:x.key=.int .i64 k':=h1;have hs:Instr.sameNow (.int .i64) (.int .i64 k) x.key=some (k == k'):=by rw [h1];simp [Instr.sameNow]
       by_cases he:k'=k
       · subst he;have hb:(k' == k')=true:=tW;rw [hb] at hs;simp only [Instr.findNow,hs,kI,decide_true,gL,dX,List.getElem?_cons_zero,fV,iY]
       have hb:(k == k')=false:=beq_eq_false_iff_ne.2 (kA he);rw [hb] at hs;simp only [Instr.findNow,hs,ih ks (s+1) h2,kI,he,decide_false,mJ,eQ];congr 1;cases ks.findIdx? (fun k'=>decide (k'=k)) with
       | none=>rfl
       | some i=>simp only [fV,dX,iD,show s+1+i=s+(i+1) by omega]
  have:=MapKept.run_findKey (P:=P) (w:=w) h (key l ks 0 hk);simp only [cP] at this;exact this
theorem Uw (xs:List Int) (n:Nat):Instr.sameBits (n+1) (.agg (Dq xs)) (.agg (Dq xs))=true:=by
 simp only [Instr.sameBits,BEq.rfl,nK,Dq];rw [dQ];intro x hx;have:∀ (l:List Int) (x:Value×Value),x∈(l.map (Value.int .i64)).zip (l.map (Value.int .i64))→∃ v,x=(.int .i64 v,.int .i64 v):=by
  intro l;induction l with
  | nil=>intro x h;simp at h
  | cons a l ih =>
    intro x h;simp only [dY,mF,dD] at h;rcases h with rfl | h
    · exact ⟨a,U⟩
    exact ih x h
 obtain ⟨v,rfl⟩:=this xs x hx;cases n <;> simp [Instr.sameBits]
theorem Ux {P:I6} {t n:Nat} (hT:Dj P t n) (em:Bool) (w:I8) (xs:List Int) (hx:xs.length=n):(Instr.checkKey em 10000 t (.agg (Dq xs))).run P w=.ok () w:=by
 obtain ⟨h1,h2,h3,h4⟩:=hT;have key:∀ (fs:List Field) (s:Nat),fs.map (Ao P)=(List.range' s (n - s)).map (fun i=>(true,i))→s≤n→
  (forIn fs PUnit.unit (fun f _ => if f.name ≠ "_" then (do let a ← part f.type (Dq xs) f.offset; Instr.checkKey em 9999 f.type a; pure (ForInStep.yield PUnit.unit)) else pure (ForInStep.yield PUnit.unit)) : Sem PUnit).run P w = .ok PUnit.unit w := by
  intro fs;induction fs with
  | nil=>intro s _ _;simp
  | cons f fs ih =>
    intro s h hs;have hlen:n - s=fs.length+1:=by have:=congrArg List.length h;simpa using this.symm
    rw [show n - s=(n - (s+1))+1 by omega,sM] at h;simp only [dY,Ao,kM,eI,aF] at h;obtain ⟨⟨⟨⟨g1,g2⟩,g3⟩,g4⟩,g5⟩:=h;have ih:=ih (s+1) g5 sU;have hname : f.name ≠ "_" := by simpa using g1
    have hint:P.underlying f.type=some (.int .i64):=by
     split at g2
     · assumption
     cases g2
    have hl:s<xs.length:=sU;have hpart:(part f.type (Dq xs) f.offset).run P w=.ok (.int .i64 (xs[s]?.getD 0)) w:=by
     simp [part,yI w g3,g4,Dq,hl]
    have hck:(Instr.checkKey em 9999 f.type (.int .i64 (xs[s]?.getD 0))).run P w=.ok () w:=MapKept.run_checkKey hint (show MapKept.IsKey (.int .i64) (.int .i64 _) from U) em 9998;rw [List.forIn_cons];simp only [hname,ne_eq,rP,gL,bK,hpart,hck,aR,bO];exact ih
 have h0:=key (P.fieldsOf t).toList 0 (by rw [h4,mS,qO]) (aP _);unfold Instr.checkKey;simp only [bK,bB h1,aR];rw [Array.forIn_toList] at h0;simp only [h0,aR,bO]
theorem H4.k4 {P:I6} {kt:I9} (hT:Dj P kt 4):H4 P kt K4 where
 check em w k:=Ux hT em w _ U
 stays w k:=by
  have:Instr.sameBits 10000 (A7.val k) (A7.val k)=true:=Uw _ 9999;simp [Instr.keyThatStays,this]
 find w k l ks hk:=by
  have hwide:(match P.underlying kt with | some (.array _ _) | some (.struct _)=>true | _=>false)=true:=by rw [hT.1]
  have key:∀ (l:List MapEntry) (ks:List K4) (s:Nat),l.map (·.key)=ks.map A7.val→
   (Instr.findAsking kt (A7.val k) l s).run P w=.ok ((ks.findIdx? (fun k'=>decide (k'=k))).bind fun i=>(l[i]?).map fun x=>(s+i,x.val)) w:=by
   intro l;induction l with
   | nil=>intro ks s hk;cases ks <;> simp at hk;simp [Instr.findAsking]
   | cons x l ih =>
     intro ks s hk;cases ks with
     | nil=>simp at hk
     | cons k' ks =>
       simp only [dY,kM] at hk;obtain ⟨h1,h2⟩:=hk;have heq:(Op.equal kt (A7.val k) x.key).run P w=.ok (decide (k=k')) w:=by
        rw [h1];have:=Bx hT w [k.op,k.a,k.b,k.c] [k'.op,k'.a,k'.b,k'.c] U U;rw [show (A7.val k:Value)=.agg (Dq [k.op,k.a,k.b,k.c]) from rfl,show (A7.val k':Value)=.agg (Dq [k'.op,k'.a,k'.b,k'.c]) from rfl,this];congr 1;cases k;cases k';simp
       simp only [Instr.findAsking,bK,heq,aR,kI];by_cases he:k'=k
       · subst he;simp
       have he':k≠k':=kA he;simp only [he',he,decide_false,mJ,eQ];rw [ih ks (s+1) h2];congr 1;cases ks.findIdx? (fun k'=>decide (k'=k)) with
       | none=>rfl
       | some i=>simp only [fV,dX,iD,show s+1+i=s+(i+1) by omega]
  rw [run_findKey_eq (P:=P) w hwide];have:=key l ks 0 hk;simp only [cP] at this;exact this
section ops
variable {P:I6} {ops:Array Oper} {rest:List Oper} {B:Bs} {e:B0} {D:List Deferred} {H:Hp} {G:A2} {K:Act→I8→Prop}
 {ty:I9} {pos:String} {after:Array Edge} {d:Nat}
variable {κ:Type} [DecidableEq κ] [A7 κ] {T kt et:I9}
theorem Aa (t:I9) (w:I8):(Instr.makeMap t none).run P w=.ok (.map (some w.heap.size)) (w.alloc (.map #[] 0)):=rfl
theorem Wl.makeMap (t:Nat) (hn:Nat.ble (d+1) B.n=true)
 (h:∀ b,Wl P ops rest B ⟨(d,.map (some b)) :: e,D,(t,some b,A4 ([]:List (κ×Int))) :: H,G⟩ K) :
 Wl P ops (⟨some d,.makeMap T none,ty,pos,after,none⟩ :: rest) B ⟨e,D,H,G⟩ K:=
 nM (v:=fun b=>.map (some b)) t hn (fun a w hh=>by simp only [execOp,kL,bK,Aa,aR,bO];rfl) h
structure F4 (P:Program) (T kt:TypeId) (κ:Type) [DecidableEq κ] [A7 κ]:Prop where
 und:∃ et,P.underlying T=some (.map kt et)∧∀ w,(zeroValue et).run P w=.ok (.int .i64 0) w
 key:H4 P kt κ
theorem Qx {x i:I7} {r:Nat} {xs:List (κ×Int)} {k:κ} (t:Nat) (hT:F4 P T kt κ) (hx:e.ev x=some (.map (some r))) (hi:e.ev i=some (A7.val k)) (ht:H.get t=some (some r,A4 xs)) :
 Qy P (.lookup T x i true) ty e H G (.tuple [.int .i64 ((A9 xs k).getD 0),.bool (A9 xs k).isSome].toArray):=fun a w _ _ _ _ hh=>by
 obtain ⟨⟨et,hu,hz⟩,hk⟩:=hT;have hb:=hh.mem.own t r _ ht;simp only [execOp,hh.eval hx,hh.eval hi,Instr.lookup,bK,bB hu,aR,gC (P:=P) hb,bO,hk.check,hk.look];cases hm:A9 xs k with
 | none =>
   rw [(zZ xs k).1 hm];simp [hz]
 | some v =>
   obtain ⟨i,h1,_⟩:=Dr xs k hm;rw [h1];simp
theorem GQ {x i:I7} {r:Nat} {xs:List (κ×Int)} {k:κ} (t:Nat) (hT:F4 P T kt κ) (hx:e.ev x=some (.map (some r))) (hi:e.ev i=some (A7.val k)) (ht:H.get t=some (some r,A4 xs)) :
 Qy P (.lookup T x i false) ty e H G (.int .i64 ((A9 xs k).getD 0)):=fun a w _ _ _ _ hh=>by
 obtain ⟨⟨et,hu,hz⟩,hk⟩:=hT;have hb:=hh.mem.own t r _ ht;simp only [execOp,hh.eval hx,hh.eval hi,Instr.lookup,bK,bB hu,aR,gC (P:=P) hb,bO,hk.check,hk.look];cases hm:A9 xs k with
 | none =>
   rw [(zZ xs k).1 hm];simp [hz]
 | some v =>
   obtain ⟨i,h1,_⟩:=Dr xs k hm;rw [h1];simp
abbrev jY:=@GQ
theorem Pg {w:I8} {r:Nat} {o:Obj}:D9 (·=r) w { w with heap:=w.heap.setIfInBounds r o }:=
 ⟨U,U,U,by simp,fun k _ hk=>by simp [kA hk]⟩
theorem Wl.mapUpdate {m i x:I7} {r:Nat} {xs:List (κ×Int)} {k:κ} {v:Int} (t:Nat) (hT:F4 P T kt κ) (hx:e.ev m=some (.map (some r))) (hi:e.ev i=some (A7.val k)) (hv:e.ev x=some (.int .i64 v)) (ht:H.get t=some (some r,A4 xs))
 (h:Wl P ops rest B ⟨e,D,(t,some r,A4 (Bk xs k v)) :: H,G⟩ K):Wl P ops (⟨none,.mapUpdate T m i x,ty,pos,after,none⟩ :: rest) B ⟨e,D,H,G⟩ K:=
 pG (v:=undef) (x:=.skip) ht (.inl ⟨U,U⟩) (fun a w hh=>by
  obtain ⟨⟨et,hu,hz⟩,hk⟩:=hT;have hb:=hh.mem.own t r _ ht;have hlt:r<w.heap.size:=(bX.1 hb).1;refine ⟨{ w with heap:=w.heap.setIfInBounds r (A4 (Bk xs k v)) },?_,Pg,by simp [hlt]⟩;simp only [execOp,hh.eval hx,hh.eval hi,hh.eval hv,Instr.mapUpdate,bK,bB hu,aR,gC (P:=P) hb,bO,hk.check,hk.look];cases hm:A9 xs k with
  | none =>
    rw [(zZ xs k).1 hm,zA xs k v hm];simp only [pK,gR (P:=P) _ hb,aR];congr 3;simp [A4,zM,tN]
  | some u =>
    obtain ⟨i,h1,h2,h3⟩:=Dr xs k hm;rw [h1,h3];have hg:(tN 0 xs)[i]?=some { key:=A7.val k,val:=.int .i64 u,born:=0+i }:=by rw [vI,h2];rfl
    simp only [dX,fV,jR,hg,dI,bK,hk.stays,aR,gR (P:=P) _ hb];congr 3;simp only [A4,aI,Cz xs i k u v h2];congr 1;apply qC;simp only [Array.toList_modify];apply fL;intro j;simp only [nP,vI];by_cases hij:i=j
    · subst hij;simp [h2]
    simp [hij]) h
theorem Wl.mapEntry {m i:I7} {r:Nat} {xs:List (κ×Int)} {k:κ} (t:Nat) (hn:Nat.ble (d+1) B.n=true) (hT:F4 P T kt κ) (hx:e.ev m=some (.map (some r))) (hi:e.ev i=some (A7.val k)) (ht:H.get t=some (some r,A4 xs))
 (hk0:A9 xs k=none) (h:Wl P ops rest B ⟨(d,.tuple [.int .i64 0,.int .i64 xs.length].toArray) :: e,D,(t,some r,A4 (xs++[(k,0)])) :: H,G⟩ K) :
 Wl P ops (⟨some d,.mapEntry T m i,ty,pos,after,none⟩ :: rest) B ⟨e,D,H,G⟩ K:=
 pG (v:=.tuple [.int .i64 0,.int .i64 xs.length].toArray) (x:=.value (.tuple [.int .i64 0,.int .i64 xs.length].toArray)) ht (.inr ⟨U,d,U,hn⟩) (fun a w hh=>by
  obtain ⟨⟨et,hu,hz⟩,hk⟩:=hT;have hb:=hh.mem.own t r _ ht;have hlt:r<w.heap.size:=(bX.1 hb).1;refine ⟨{ w with heap:=w.heap.setIfInBounds r (A4 (xs++[(k,0)])) },?_,Pg,by simp [hlt]⟩;simp only [execOp,hh.eval hx,hh.eval hi,Instr.mapEntry,bK,bB hu,aR,gC (P:=P) hb,bO,hk.check,hk.look];rw [(zZ xs k).1 hk0];simp only [pK,bK,hz,aR,gR (P:=P) _ hb,bO,goInt];congr 3;simp [A4,zM,tN]) h
theorem Wl.entryStore {m s x:I7} {r:Nat} {xs:List (κ×Int)} {k:κ} {u v:Int} (t:Nat) (hx:e.ev m=some (.map (some r))) (hs:e.ev s=some (.int .i64 xs.length)) (hv:e.ev x=some (.int .i64 v))
 (ht:H.get t=some (some r,A4 (xs++[(k,u)]))) (h:Wl P ops rest B ⟨e,D,(t,some r,A4 (xs++[(k,v)])) :: H,G⟩ K) :
 Wl P ops (⟨none,.entryStore T m s x,ty,pos,after,none⟩ :: rest) B ⟨e,D,H,G⟩ K:=
 pG (v:=undef) (x:=.skip) ht (.inl ⟨U,U⟩) (fun a w hh=>by
  have hb:=hh.mem.own t r _ ht;have hlt:r<w.heap.size:=(bX.1 hb).1;refine ⟨{ w with heap:=w.heap.setIfInBounds r (A4 (xs++[(k,v)])) },?_,Pg,by simp [hlt]⟩;have hfind:(tN 0 (xs++[(k,u)])).toArray.findIdx? (fun e=>(e.born:Int) == (xs.length:Int))=some xs.length:=by
   rw [List.findIdx?_toArray,jT];refine ⟨by rw [zL];simp,?_,?_⟩
   · have:=vI (xs++[(k,u)]) 0 xs.length;have hl:xs.length<(tN 0 (xs++[(k,u)])).length:=by rw [zL];simp
     rw [aA hl] at this;simp at this;simp [this]
   intro j hj;have:=vI (xs++[(k,u)]) 0 j;have hl:j<(tN 0 (xs++[(k,u)])).length:=by rw [zL];simp;omega
   rw [aA hl] at this;have hb:(tN 0 (xs++[(k,u)]))[j].born=j:=by
    cases hq:(xs++[(k,u)])[j]? with
    | none=>rw [hq] at this;simp at this
    | some y=>rw [hq] at this;simp at this;rw [this]
   simp [hb];omega
  simp only [execOp,hh.eval hx,hh.eval hs,hh.eval hv,Instr.entryStore,bK,gC (P:=P) hb,aR,asInt,asIntOf,bO];rw [hfind];simp only [gR (P:=P) _ hb,aR,bO];congr 3;have h2:(xs++[(k,u)])[xs.length]?=some (k,u):=tW;have h3:=Cz (xs++[(k,u)]) xs.length k u v h2 0;have h4:(xs++[(k,u)]).set xs.length (k,v)=xs++[(k,v)]:=tW;rw [h4] at h3;simp only [A4,h3];simp) h
abbrev rE:=@Wl.entryStore
end ops
end Go.Sl
