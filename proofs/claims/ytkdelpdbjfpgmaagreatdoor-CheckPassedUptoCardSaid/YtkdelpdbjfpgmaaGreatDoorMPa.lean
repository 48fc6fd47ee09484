/- vD of the proof (part 1): what the rows' text needs of the texts that lead to it. -/
import Derived.CallsIn
import Derived.OrdersIn
import Derived.TacticsIn
import Derived.RangeFuncIn
import Derived.RangeFuncLeaves
import Derived.Laws.World
import Derived.Laws.Sem
import Derived.WalkKit
import Derived.Laws.StructEq
import Derived.Great.FillDense
import Derived.Laws.Slices
import Derived.Great.BuildSlice
import Derived.MapKept
import Derived.WideKeyRuns
import Derived.RangeFuncRecord
import Derived.RangeFuncNested
import Derived.Laws.Bits64b
import Derived.Test.YtkdelpdbjfpgmaaGreatDoorProg
import Derived.JoinedCond
import Derived.Carry
import Derived.ChangeSame
import Derived.ChangeShapes
import Derived.RowKit
import Derived.Deep.Slices
import Derived.Test.YtkdelpdbjfpgmaaGreatDoorCards
import Derived.Test.YtkdelpdbjfpgmaaGreatDoorTie
import Derived.Test.YtkdelpdbjfpgmaaGreatDoorRows
import Derived.Lib.SmallJoins
import Derived.Deep.DeepHandedRow
import Derived.Lib.LaidTab
import Derived.Test.YtkdelpdbjfpgmaaGreatDoorIy
import Derived.DataShut
import Derived.Laws.BitsLemmas
import Derived.Test.YtkdelpdbjfpgmaaGreatDoorGm
import Derived.KernelRfl
set_option linter.unusedVariables false
set_option linter.unusedSimpArgs false
set_option linter.unusedSectionVars false
set_option maxHeartbeats 4000000
set_option maxRecDepth 100000
namespace Go
abbrev F9:=@rfl
abbrev H2:=trivial
theorem sW {p:Prop} (h:p:=by omega):p:=h
theorem tT {p:Prop} (h:p:=by first | omega | (simp only [aB,aY,cH,maxLen];omega)):p:=h
theorem wF {p:Prop} (h:p:=by first | exact A3.le_refl _ | repeat (first | assumption | refine A3.le_trans ?_ sX)):p:=h
theorem uX {p:Prop} (h:p:=by repeat (first | exact CQ _ _ | refine Ou F9 ?_)):p:=h
theorem sZ {p:Prop} (h:p:=by kernel_rfl):p:=h
theorem vU {p:Prop} (h:p:=by first | assumption | exact A4.nil | exact Kp uE):p:=h
theorem uI {p:Prop} (h:p:=by first | assumption | omega):p:=h
theorem Rr {p:Prop} (h:p:=by first | exact H2 | with_reducible rfl | assumption | exact bT uI | exact cD uI | omega | rfl):p:=h
theorem tG {p:Prop} (h:p:=by decide):p:=h
theorem Sk {p:Prop} (h:p:=by first | rfl | (rw [aF];first | rfl | (rw [cD hL];rfl) | (rw [bT hL];rfl) | (rw [cD hO];rfl) | (rw [bT hO];rfl))):p:=h
theorem zS {p:Prop} (h:p:=by first | exact .inl F9 | exact .inr F9):p:=h
theorem Mf {p:Prop} (h:p:=by first | omega | (simp only [aY,cH];omega)):p:=h
theorem Ij {p:Prop} (h:p:=by apply c72 <;> first | assumption | omega | rfl):p:=h
theorem uE {p:Prop} (h:p:=by simp):p:=h
theorem Ik {p:Prop} (h:p:=by unfold CA Xl Xm Xn;rfl):p:=h
theorem Xt {p:Prop} (h:p:=by repeat (first | assumption | refine A3.le_trans ?_ sX)):p:=h
theorem Dt {p:Prop} (h:p:=by rw [aG]):p:=h
theorem Il {p:Prop} (h:p:=by rw [aP];omega):p:=h
theorem EL {p:Prop} (h:p:=by simp only [aB,aY,cH];omega):p:=h
theorem Im {p:Prop} (h:p:=by rw [iG];rfl):p:=h
theorem Dv {p:Prop} (h:p:=by simp [maxLen]):p:=h
theorem Of {p:Prop} (h:p:=by simp only [maxLen];omega):p:=h
theorem Sm {p:Prop} (h:p:=by rw [←es,aF]):p:=h
theorem Sn {p:Prop} (h:p:=by rw [aF];omega):p:=h
theorem Mg {p:Prop} (h:p:=by rw [aY];omega):p:=h
theorem Xu {p:Prop} (h:p:=by unfold near at hp;omega):p:=h
theorem Xv {p:Prop} (h:p:=by rw [aF]):p:=h
theorem Og {p:Prop} (h:p:=by unfold near at *;omega):p:=h
theorem KU {p:Prop} (h:p:=by rw [cH];simp only [maxLen];omega):p:=h
theorem KV {p:Prop} (h:p:=by first | assumption | exact Kp Dv):p:=h
theorem KW {p:Prop} (h:p:=by rw [aB];show _+2≤_;omega):p:=h
theorem KX {p:Prop} (h:p:=by rw [aB];show _+4≤_;omega):p:=h
theorem EM {p:Prop} (h:p:=by rw [es,aF]):p:=h
theorem Mh {p:Prop} (h:p:=by decide +kernel):p:=h
theorem Mi {p:Prop} (h:p:=by simp [hp]):p:=h
theorem WC {p:Prop} (h:p:=by unfold tM;rw [aE h34];exact bA _ bF):p:=h
theorem WD {p:Prop} (h:p:=by first | exact H2 | with_reducible rfl | assumption | omega | rfl):p:=h
theorem Xw {p:Prop} (h:p:=by simp [A3.with]):p:=h
theorem EN {p:Prop} (h:p:=by rw [aJ];omega):p:=h
theorem KY {p:Prop} (h:p:=by rw [z,eV,fN]):p:=h
theorem So {p:Prop} (h:p:=by split <;> omega):p:=h
theorem WE {p:Prop} (h:p:=by show _≤(B[j]?.getD default).v∧(B[j]?.getD default).v≤_;omega):p:=h
theorem sX {p:Prop} (h:p:=by assumption):p:=h
end Go
namespace Go.Sl
abbrev aA:=@List.getElem?_eq_getElem
abbrev aB:=@List.length_append
abbrev aD:=@if_neg
abbrev aE:=@if_pos
abbrev aF:=@Int.toNat_natCast
abbrev aG:=@List.length_set
abbrev aI:=@Nat.le_refl
abbrev aJ:=@List.length_replicate
abbrev aK:=@Nat.lt_or_ge
abbrev aN:=@Nat.zero_le
abbrev aP:=@List.length_map
abbrev aR:=@List.append_assoc
abbrev aV:=@decide_eq_true_eq
abbrev aW:=@Bool.and_eq_true
abbrev aY:=@List.length_cons
abbrev bA:=@List.mem_cons_of_mem
abbrev bB:=@List.append_nil
abbrev bD:=@List.take_length
abbrev bF:=@List.mem_cons_self
abbrev bH:=@List.length_take
abbrev bI:=@List.getElem?_eq_some_iff
abbrev bJ:=@List.getElem?_append_left
abbrev bK:=@List.getElem?_map
abbrev bM:=@Go.Result.andThen_ok
abbrev bO:=@Nat.le_trans
abbrev bQ:=@List.take_zero
abbrev bR:=@Int.mul_zero
abbrev bT:=@decide_eq_true
abbrev bU:=@Int.mul_le_mul_of_nonneg_left
abbrev bY:=@Option.some.injEq
abbrev bZ:=@List.getElem_mem
abbrev cA:=@List.getElem?_eq_none
abbrev cB:=@List.length_range
abbrev cD:=@decide_eq_false
abbrev cG:=@List.take_add_one
abbrev cH:=@List.length_nil
abbrev cI:=@List.getElem?_set
abbrev cJ:=@Int.mul_comm
abbrev cL:=@List.getElem?_append_right
abbrev cO:=@Int.mul_assoc
abbrev cS:=@Nat.zero_add
abbrev cU:=@Nat.le_of_ble_eq_true
abbrev cV:=@Nat.eq_of_beq_eq_true
abbrev cW:=@Int.toNat_of_nonneg
abbrev cY:=@Nat.min_eq_left
abbrev cZ:=@Int.mul_add
abbrev dE:=@Go.run_underlying
abbrev dG:=@Go.Sem.run_bind
abbrev dQ:=@List.drop_eq_getElem_cons
abbrev dT:=@Go.Sem.run_pure
abbrev dV:=@List.eq_nil_of_length_eq_zero
abbrev dW:=@Int.one_mul
abbrev dX:=@Int.le_of_lt
abbrev dY:=@List.mem_map
abbrev eE:=@Classical.byContradiction
abbrev eH:=@Option.getD_some
abbrev eM:=@List.mem_singleton
abbrev eN:=@List.all_eq_true
abbrev eV:=@Int.zero_mul
abbrev eZ:=@Option.bind_some
abbrev fB:=@List.getElem?_range
abbrev fC:=@Prod.mk.injEq
abbrev fD:=@List.drop_eq_nil_of_le
abbrev fF:=@Array.getElem?_eq_some_iff
abbrev fI:=@List.mem_or_eq_of_mem_set
abbrev fM:=@List.take_of_length_le
abbrev fN:=@Int.add_zero
abbrev fQ:=@of_decide_eq_true
abbrev fT:=@Decidable.not_not
abbrev fU:=@List.take_append_drop
abbrev fW:=@List.getElem?_replicate
abbrev fZ:=@Option.map_some
abbrev gA:=@List.nil_append
abbrev gB:=@List.getElem_map
abbrev gC:=@List.flatMap_nil
abbrev gD:=@List.ext_getElem
abbrev gF:=@List.mem_iff_getElem
abbrev gG:=@Int.natAbs_mul
abbrev gH:=@Int.mul_left_comm
abbrev gK:=@Nat.eq_zero_or_pos
abbrev gL:=@Int.emod_lt_of_pos
abbrev gP:=@List.length_drop
abbrev gR:=@Int.neg_mul
abbrev gT:=@List.findIdx?_eq_none_iff
abbrev gU:=@Int.pow_succ
abbrev gV:=@Nat.mul_le_mul
abbrev gW:=@List.mem_append
abbrev gZ:=@Int.mul_one
abbrev hJ:=@List.flatMap_cons
abbrev hS:=@List.ext_getElem?
abbrev iE:=@Option.none_or
abbrev iG:=@List.map_append
abbrev iH:=@Nat.add_zero
abbrev iI:=@Int.mul_le_mul_of_nonneg_right
abbrev iN:=@Classical.choose_spec
abbrev iO:=@List.mem_range
abbrev iR:=@Nat.pow_le_pow_right
abbrev iS:=@Nat.add_sub_cancel_left
abbrev iT:=@List.getElem?_cons_succ
abbrev iU:=@List.mem_cons
abbrev iW:=@Nat.sub_self
abbrev iX:=@List.length_zipWith
abbrev iY:=@Nat.add_mul
abbrev iZ:=@Int.mul_neg
abbrev jA:=@Int.le_refl
abbrev jC:=@List.getElem?_drop
abbrev jE:=@List.map_cons
abbrev jF:=@List.eq_of_mem_replicate
abbrev jL:=@List.map_congr_left
abbrev jO:=@Option.map_eq_some_iff
abbrev jU:=@Nat.add_sub_cancel
abbrev jV:=@Go.IntWalk.i64_in
abbrev jW:=@List.length_singleton
abbrev jX:=@Int.emod_add_mul_ediv
abbrev kB:=@Option.some.inj
abbrev kC:=@Int.natCast_mul
abbrev kD:=@if_true
abbrev kF:=@BitVec.ofInt_natCast
abbrev kK:=@List.all_cons
abbrev kO:=@Int.tdiv_mul_cancel
abbrev kR:=@Go.IntWalk.u64_in
abbrev kS:=@Int.mul_nonneg
abbrev kU:=@Int.sub_mul
abbrev kV:=@Int.mul_sub
abbrev kW:=@Go.World.putObj_heap_same
abbrev kX:=@Go.MapKept.run_getObj_map
abbrev kY:=@List.getElem_range
abbrev kZ:=@List.findIdx?_cons
abbrev lA:=@Int.zero_add
abbrev lB:=@Int.sub_zero
abbrev lC:=@Int.pow_zero
abbrev lE:=@BitVec.toNat_ofNat
abbrev lF:=@if_false
abbrev lG:=@Option.map_none
abbrev lH:=@List.cons.injEq
abbrev lI:=@Int.emod_nonneg
abbrev lO:=@List.getElem?_toArray
abbrev lT:=@Ne.symm
abbrev lV:=@Nat.two_pow_add_eq_or_of_lt
abbrev mF:=@Nat.mul_le_mul_right
abbrev mH:=@Int.add_mul
abbrev mP:=@Nat.mod_eq_of_lt
abbrev mQ:=@List.map_nil
abbrev mV:=@List.take_set_of_le
abbrev mY:=@Int.natAbs_tdiv
abbrev mZ:=@of_decide_eq_false
abbrev nA:=@List.zip_cons_cons
abbrev nB:=@List.getElem?_take
abbrev nE:=@List.findIdx?_eq_some_iff_getElem
abbrev nJ:=@Nat.sub_zero
abbrev nK:=@Nat.le_of_eq
abbrev nL:=@Go.MapKept.run_setObj_map
abbrev nM:=@List.take_succ_eq_append_getElem
abbrev nN:=@List.drop_zero
abbrev nQ:=@Bool.eq_false_iff
abbrev nS:=@Array.getElem?_eq_none
abbrev nU:=@Int.ediv_lt_of_lt_mul
abbrev nX:=@List.drop_length
abbrev nZ:=@Go.IntKind.wrap_u64
abbrev oC:=@Nat.lt_irrefl
abbrev oH:=@Nat.pow_add
abbrev oI:=@List.drop_append_of_le_length
abbrev oL:=@Nat.div_add_mod
abbrev oM:=@List.range_succ
abbrev oN:=@Int.ediv_nonneg
abbrev oP:=@Nat.pow_le_pow_left
abbrev oQ:=@Nat.mul_le_mul_left
abbrev oR:=@List.replicate_succ
abbrev oS:=@List.flatMap_append
abbrev oT:=@List.drop_succ_cons
abbrev oU:=@Array.length_toList
abbrev oX:=@Int.ne_of_gt
abbrev pA:=@List.drop_drop
abbrev pB:=@Int.tmod_eq_emod_of_nonneg
abbrev pC:=@Int.natAbs_pow
abbrev pD:=@Int.lt_of_lt_of_le
abbrev pE:=@Int.fdiv_eq_ediv_of_nonneg
abbrev pF:=@Int.eq_of_mul_eq_mul_right
abbrev pH:=@Bool.false_eq_true
abbrev pI:=@Array.getElem?_append_left
abbrev pJ:=@Go.run_sliceAt_slice
abbrev pK:=@Go.fenced_calm
abbrev pM:=@Nat.pow_pos
abbrev pN:=@List.size_toArray
abbrev pO:=@Bool.not_eq_true'
abbrev pT:=@Nat.add_assoc
abbrev pU:=@Int.mul_ediv_cancel_left
abbrev pW:=@Bool.true_and
abbrev pX:=@Bool.and_true
abbrev pY:=@decide_eq_false_iff_not
abbrev qC:=@Option.bind_eq_some_iff
abbrev qD:=@Nat.lt_succ_self
abbrev qE:=@List.mem_flatMap
abbrev qF:=@Int.eq_ofNat_of_zero_le
abbrev qM:=@Nat.min_self
abbrev qN:=@List.map_map
abbrev qO:=@Int.lt_or_le
abbrev qP:=@Int.ediv_eq_zero_of_lt
abbrev qS:=@Go.Act.put_comm
abbrev qT:=@Nat.le_antisymm
abbrev qU:=@List.nodup_cons
abbrev qV:=@Bool.eq_iff_iff
abbrev qW:=@List.set_append_right
abbrev qX:=@List.mem_iff_getElem?
abbrev qY:=@Bool.and_eq_false_iff
abbrev qZ:=@Array.getElem?_modify
abbrev rA:=@Go.setRow_heap
abbrev rE:=@Nat.le_zero
abbrev rF:=@List.reverse_reverse
abbrev rG:=@List.mem_of_mem_take
abbrev rH:=@List.mem_of_getElem?
abbrev rI:=@Int.ediv_emod_unique
abbrev rL:=@Bool.and_eq_true_iff
abbrev rS:=@Nat.le_of_dvd
abbrev rV:=@Nat.lt_of_lt_of_le
abbrev rW:=@Int.natCast_nonneg
abbrev sB:=@Nat.zero_mul
abbrev sC:=@Nat.succ_mul
abbrev sD:=@Nat.pow_succ
abbrev sE:=@Nat.le_of_lt
abbrev sF:=@List.flatten_cons
abbrev sG:=@Int.zero_pow
abbrev sH:=@Int.sub_self
abbrev sI:=@Int.lt_trichotomy
abbrev sJ:=@Int.gcd_dvd_right
abbrev sK:=@Int.emod_eq_of_lt
abbrev sL:=@Int.add_comm
abbrev sP:=@Nat.and_two_pow_sub_one_eq_mod
abbrev sQ:=@List.not_mem_nil
abbrev sR:=@List.mem_reverse
abbrev sS:=@List.map_toArray
abbrev sT:=@List.any_eq_true
abbrev sU:=@Int.gcd_dvd_left
abbrev sV:=@Array.toList_map
open Go
def FF (r:Option Nat):Fence:={ fn:=fun _=>True,depth:=none,alive:=false,round:=r }
theorem RO (r:Option Nat) (n:Nat):(FF r).room n:=fun _ h=>by simp [FF] at h
theorem Ay {r:Option Nat} {n:Nat} {P:Program} {f:FuncId} {args:Array Value} {w:World} {R:Ending→World→Prop} :
 CallsIn (FF r) n P f args w R↔Calls P f args w R:=
 ⟨fun h=>(callsIn_wide (n:=0)).1 ⟨H2,fun cs _=>h.2 cs (RO _ _)⟩,fun h=>⟨H2,fun cs _=>((callsIn_wide (n:=0)).2 h).2 cs (room_wide _)⟩⟩
def Dw (P:Program) (o:Oper) (a:Act) (w:World) (K:Act→World→Prop):Prop:=
 match (execOp a.eval o).run P w with
 | .ok (.value v) w'=>K (a.put o.dst v) w'
 | .ok .skip w'=>K (a.put o.dst undef) w'
 | .ok (.enter f args) w'=>Calls P f args w' (fun e w''=>∃ v,e=.returned v∧K (a.put o.dst v) w'')
 | .ok (.round l f tmps assign body) w'=>RoundIn Fence.wide 0 P l f tmps assign body w' (fun e w''=>∃ v,e=.returned v∧K (a.put o.dst v) w'')
 | _=>False
def wW (o:Oper):Bool:=match o.op with | .defer _=>false | _=>true
theorem Xx {o:Oper} (h:wW o=true):∀ c,o.op≠.defer c:=by
 intro c hc;simp [wW,hc] at h
theorem Fj {P:Program} {o:Oper} {a:Act} {w:World} {K K':Act→World→Prop} (hK:∀ a w,K a w→K' a w) (h:Dw P o a w K):Dw P o a w K':=by
 unfold Dw at *;generalize (execOp a.eval o).run P w=r at *;cases r with
 | ok x w' =>
   cases x <;> simp only at h ⊢ <;> first
    | exact hK _ _ h
    | exact h.mono fun e w ⟨v,hv,hk⟩=>⟨v,hv,hK _ _ hk⟩
 | halt x w'=>exact h
theorem Oh {P:Program} {o:Oper} {a:Act} {w:World} {K:Act→World→Prop} {Q:Exit→Act→World→Prop} {r:Option Nat} {n:Nat}
 (hd:wW o=true) (h:Dw P o a w K):o.wpIn (FF r) n P a w K Q:=by
 refine ⟨fun _ _=>trivial,?_⟩;rw [Oper.semAt_eq _ _ _ (Xx hd)];unfold Dw at h;split at h
 · rename_i v w' hr;rw [hr];exact h
 · rename_i w' hr;rw [hr];exact h
 · rename_i f args w' hr;rw [hr];exact ⟨fun h=>by simp [FF] at h,Ay.2 (h.mono fun e w'' ⟨v,hv,hk⟩=>by subst hv;exact hk)⟩
 · rename_i l f tmps assign body w' hr;rw [hr];exact ⟨fun h=>by simp [FF] at h,H2,fun c cs _=>(h.mono fun e w'' ⟨v,hv,hk⟩=>by subst hv;exact hk).2 c cs (room_wide _)⟩
 exact h.elim
def uD (P:Program) (ops:Array Oper):List Oper→Act→World→(Act→World→Prop)→Prop
 | [],a,w,K=>K a w
 | o :: rest,a,w,K=>if Region.wanted o (yielded ops a.tmps) then Dw P o a w (fun a w=>uD P ops rest a w K) else uD P ops rest (a.put o.dst undef) w K
theorem Dx {P:Program} {ops:Array Oper} {Q:Exit→Act→World→Prop} {r:Option Nat} {n:Nat} :
 ∀ (l:List Oper) (a:Act) (w:World),l.all wW=true→uD P ops l a w (Q .normal)→wpListIn (FF r) n P ops Q l a w
 | [],_,_,_,h=>h
 | o :: rest,a,w,hd,h=>by
   simp only [kK,aW] at hd;unfold uD at h;unfold wpListIn;split <;> rename_i hw
   · rw [aE hw] at h;exact Oh hd.1 (Fj (fun a w h=>Dx rest a w hd.2 h) h)
   rw [aD hw] at h;exact ⟨fun _ _=>trivial,Dx rest _ _ hd.2 h⟩
theorem Hf {P:Program} {ops:Array Oper} {K K':Act→World→Prop} (hK:∀ a w,K a w→K' a w):∀ (l:List Oper) (a:Act) (w:World),uD P ops l a w K→uD P ops l a w K'
 | [],_,_,h=>hK _ _ h
 | o :: rest,a,w,h=>by
   unfold uD at h ⊢;split <;> rename_i hw
   · rw [aE hw] at h;exact Fj (fun a w h=>Hf hK rest a w h) h
   rw [aD hw] at h;exact Hf hK rest _ _ h
theorem Dd {P:Program} {ops:Array Oper} {K:Act→World→Prop}:∀ (l l':List Oper) (a:Act) (w:World),
 uD P ops l a w (fun a w=>uD P ops l' a w K)→uD P ops (l++l') a w K
 | [],_,_,_,h=>h
 | o :: rest,l',a,w,h=>by
   unfold uD at h;simp only [List.cons_append];unfold uD;split <;> rename_i hw
   · rw [aE hw] at h;exact Fj (fun a w h=>Dd rest l' a w h) h
   rw [aD hw] at h;exact Dd rest l' _ _ h
abbrev A9:=List (Nat×Value)
def A9.get:A9→Nat→Option Value
 | [],_=>none
 | (i,v) :: e,j=>bif Nat.beq i j then some v else A9.get e j
def A9.ev (e:A9):Operand→Option Value
 | .tmp t=>e.get t
 | .const v=>some v
 | .global g=>some (.pointer (some ⟨g,0,none⟩))
 | .func f=>some (.func (.func f) #[] #[])
def A9.evs (e:A9):List Operand→Option (List Value)
 | []=>some []
 | x :: xs=>match e.ev x,A9.evs e xs with
   | some v,some vs=>some (v :: vs)
   | _,_=>none
theorem Ux (e:A9) (i j:Nat) (v:Value):A9.get ((i,v) :: e) j=if i=j then some v else e.get j:=by
 show (bif Nat.beq i j then some v else A9.get e j)=_;by_cases h:i=j
 · subst h;simp
 have:Nat.beq i j=false:=by cases hb:Nat.beq i j with | false=>rfl | true=>exact absurd (cV hb) h
 simp [this,h]
abbrev jP:=@Ux
abbrev Hp:=List (Nat×Option Nat×Obj)
def Hp.get:Hp→Nat→Option (Option Nat×Obj)
 | [],_=>none
 | (i,x) :: h,j=>bif Nat.beq i j then some x else Hp.get h j
theorem Xy (h:Hp) (i j:Nat) (x:Option Nat×Obj):Hp.get ((i,x) :: h) j=if i=j then some x else h.get j:=by
 show (bif Nat.beq i j then some x else Hp.get h j)=_;by_cases e:i=j
 · subst e;simp
 have:Nat.beq i j=false:=by cases hb:Nat.beq i j with | false=>rfl | true=>exact absurd (cV hb) e
 simp [this,e]
abbrev bC:=@Xy
def Hp.has (h:Hp) (b:Nat):Prop:=∃ t o,h.get t=some (some b,o)
abbrev A3:=Nat→Option Obj
def A3.le (G G':A3):Prop:=∀ b o,G b=some o→G' b=some o
theorem A3.le_refl (G:A3):G.le G:=fun _ _ h=>h
abbrev bN:=@A3.le_refl
theorem A3.le_trans {A B C:A3} (h:A.le B) (k:B.le C):A.le C:=fun b o x=>k b o (h b o x)
abbrev aO:=@A3.le_trans
structure B3 (H:Hp) (G:A3) (w:World):Prop where
 own:∀ t b o,H.get t=some (some b,o)→w.heap[b]?=some o
 one:∀ t t' b o o',H.get t=some (some b,o)→H.get t'=some (some b,o')→t=t'
 imm:∀ b o,G b=some o→w.heap[b]?=some o
 off:∀ t b o,H.get t=some (some b,o)→G b=none
structure E2 (X:Nat→Prop) (w w':World):Prop where
 os:w'.os=w.os
 tape:w'.tape=w.tape
 output:w'.output=w.output
 size:w.heap.size≤w'.heap.size
 same:∀ k,k<w.heap.size→¬X k→w'.heap[k]?=w.heap[k]?
theorem KZ (X:Nat→Prop) (w:World):E2 X w w:=⟨F9,F9,F9,aI _,fun _ _ _=>rfl⟩
abbrev mX:=@KZ
theorem E2.trans {X:Nat→Prop} {a b c:World} (h:E2 X a b) (k:E2 X b c):E2 X a c:=
 ⟨k.os.trans h.os,k.tape.trans h.tape,k.output.trans h.output,bO h.size k.size,fun i hi hx=>(k.same i (rV hi h.size) hx).trans (h.same i hi hx)⟩
theorem E2.mono {X Y:Nat→Prop} {a b:World} (h:E2 X a b) (hx:∀ k,k<a.heap.size→X k→Y k):E2 Y a b:=
 ⟨h.os,h.tape,h.output,h.size,fun i hi hy=>h.same i hi (fun x=>hy (hx i hi x))⟩
theorem Sp (w:World) (o:Obj) (k:Nat) (hk:k<w.heap.size):(w.alloc o).heap[k]?=w.heap[k]?:=by
 show (w.heap.push o)[k]?=_;rw [Array.getElem?_push,aD (Nat.ne_of_lt hk)]
theorem Kl (w:World) (o:Obj):(w.alloc o).heap[w.heap.size]?=some o:=by
 show (w.heap.push o)[w.heap.size]?=_;rw [Array.getElem?_push,aE rfl]
theorem E2.alloc {X:Nat→Prop} {w0 w:World} (h:E2 X w0 w) (o:Obj):E2 X w0 (w.alloc o):=
 h.trans ⟨F9,F9,F9,by simp,fun k hk _=>Sp w o k hk⟩
theorem E2.drew {X:Nat→Prop} {w0 w:World} (h:E2 X w0 w):E2 X w0 w.drew:=h.trans ⟨F9,F9,F9,aI _,fun _ _ _=>rfl⟩
structure Bs where
 n:Nat
 W:World
 X:Nat→Prop
 G0:A3
structure St where
 e:A9
 D:List Deferred
 H:Hp
 G:A3
structure A6 (B:Bs) (S:St) (a:Act) (w:World):Prop where
 size:a.tmps.size=B.n
 defers:a.defers=S.D
 env:∀ i v,S.e.get i=some v→a.tmps[i]?=some v
 mem:B3 S.H S.G w
 upd:E2 B.X B.W w
 mine:∀ t b o,S.H.get t=some (some b,o)→B.W.heap.size≤b∨B.X b
 le:B.G0.le S.G
 new:∀ b,S.G b≠none→B.G0 b=none→B.W.heap.size≤b∨B.X b
theorem A6.eval {B:Bs} {S:St} {a:Act} {w:World} (h:A6 B S a w) {x:Operand} {v:Value} (hx:S.e.ev x=some v):a.eval x=v:=by
 cases x with
 | tmp t =>
   have:=h.env t v hx;simp [Act.eval,this]
 | const u=>simpa [A9.ev,Act.eval] using hx
 | global g=>simpa [A9.ev,Act.eval] using hx
 | func f=>simpa [A9.ev,Act.eval] using hx
theorem A6.evals {B:Bs} {S:St} {a:Act} {w:World} (h:A6 B S a w):∀ {xs:List Operand} {vs:List Value},S.e.evs xs=some vs→xs.map a.eval=vs
 | [],vs,hx=>by simp [A9.evs] at hx;simp [←hx]
 | x :: xs,vs,hx=>by
   unfold A9.evs at hx;split at hx
   · rename_i v us h1 h2;simp only [bY] at hx;subst hx;simp [h.eval h1,h.evals h2]
   cases hx
theorem A6.args {B:Bs} {S:St} {a:Act} {w:World} (h:A6 B S a w) {xs:Array Operand} {vs:List Value} (hx:S.e.evs xs.toList=some vs):xs.map a.eval=vs.toArray:=by
 rw [←h.evals hx,←sV]
theorem A6.put {B:Bs} {e:A9} {D:List Deferred} {H:Hp} {G:A3} {a:Act} {w:World} (h:A6 B ⟨e,D,H,G⟩ a w) {d:Nat} (hd:Nat.ble (d+1) B.n=true) (v:Value) :
 A6 B ⟨(d,v) :: e,D,H,G⟩ (a.put (some d) v) w:=by
 have hd':d<a.tmps.size:=by rw [h.size];exact cU hd
 refine ⟨by rw [←h.size];exact Array.size_setIfInBounds,h.defers,?_,h.mem,h.upd,h.mine,h.le,h.new⟩;intro i u hu;rw [jP] at hu;have hh:(a.put (some d) v).tmps[i]?=if d=i then (if d<a.tmps.size then some v else none) else a.tmps[i]?:=by
  show (a.tmps.setIfInBounds d v)[i]?=_;rw [Array.getElem?_setIfInBounds]
 rw [hh];by_cases hi:d=i
 · rw [aE hi] at hu ⊢;rw [aE hd'];exact hu
 rw [aD hi] at hu ⊢;exact h.env i u hu
theorem A6.weaken {B:Bs} {e e':A9} {D:List Deferred} {H H':Hp} {G:A3} {a:Act} {w:World} (h:A6 B ⟨e,D,H,G⟩ a w)
 (he:∀ i v,e'.get i=some v→e.get i=some v) (hH:∀ t x,H'.get t=some x→H.get t=some x):A6 B ⟨e',D,H',G⟩ a w:=
 ⟨h.size,h.defers,fun i v x=>h.env i v (he i v x),⟨fun t b o x=>h.mem.own t b o (hH _ _ x),fun t t' b o o' x y=>h.mem.one t t' b o o' (hH _ _ x) (hH _ _ y),h.mem.imm,fun t b o x=>h.mem.off t b o (hH _ _ x)⟩,
  h.upd,fun t b o x=>h.mine t b o (hH _ _ x),h.le,h.new⟩
theorem B3.lt {H:Hp} {G:A3} {w:World} (h:B3 H G w) {t b:Nat} {o:Obj} (ht:H.get t=some (some b,o)):b<w.heap.size:=
 (fF.1 (h.own t b o ht)).1
theorem B3.ltG {H:Hp} {G:A3} {w:World} (h:B3 H G w) {b:Nat} {o:Obj} (ht:G b=some o):b<w.heap.size:=
 (fF.1 (h.imm b o ht)).1
theorem B3.grow {H:Hp} {G:A3} {w w':World} (h:B3 H G w) (hs:∀ k,k<w.heap.size→w'.heap[k]?=w.heap[k]?):B3 H G w':=
 ⟨fun t b o x=>(hs b (h.lt x)).trans (h.own t b o x),h.one,fun b o x=>(hs b (h.ltG x)).trans (h.imm b o x),h.off⟩
theorem A6.grow {B:Bs} {S:St} {a:Act} {w w':World} (h:A6 B S a w) (hu:E2 (fun _=>False) w w'):A6 B S a w':=
 ⟨h.size,h.defers,h.env,h.mem.grow (fun k hk=>hu.same k hk id),h.upd.trans (hu.mono (fun _ _ x=>x.elim)),h.mine,h.le,h.new⟩
theorem A6.drew {B:Bs} {S:St} {a:Act} {w:World} (h:A6 B S a w):A6 B S a { w with drawn:=w.drawn+1 }:=h.grow ⟨F9,F9,F9,aI _,fun _ _ _=>rfl⟩
theorem A6.alloc {B:Bs} {e:A9} {D:List Deferred} {H:Hp} {G:A3} {a:Act} {w:World} (h:A6 B ⟨e,D,H,G⟩ a w) (t:Nat) (o:Obj) :
 A6 B ⟨e,D,(t,some w.heap.size,o) :: H,G⟩ a (w.alloc o):=by
 have hold:∀ k,k<w.heap.size→(w.alloc o).heap[k]?=w.heap[k]?:=fun k hk=>Sp w o k hk;have hnew:(w.alloc o).heap[w.heap.size]?=some o:=Kl w o;have hG:G w.heap.size=none:=by
  cases hg:G w.heap.size with
  | none=>rfl
  | some x=>exact absurd (h.mem.ltG hg) (oC _)
 refine ⟨h.size,h.defers,h.env,⟨?_,?_,(h.mem.grow hold).imm,?_⟩,h.upd.alloc o,?_,h.le,h.new⟩
 · intro t' b o' x;rw [bC] at x;split at x
   · simp only [bY,fC] at x;obtain ⟨rfl,rfl⟩:=x;exact hnew
   exact (h.mem.grow hold).own t' b o' x
 · intro t1 t2 b o1 o2 x y;rw [bC] at x y;split at x <;> split at y
   · omega
   · simp only [bY,fC] at x;obtain ⟨rfl,rfl⟩:=x;exact absurd (h.mem.lt y) (oC _)
   · simp only [bY,fC] at y;obtain ⟨rfl,rfl⟩:=y;exact absurd (h.mem.lt x) (oC _)
   exact h.mem.one _ _ _ _ _ x y
 · intro t' b o' x;rw [bC] at x;split at x
   · simp only [bY,fC] at x;obtain ⟨rfl,rfl⟩:=x;exact hG
   exact h.mem.off t' b o' x
 intro t' b o' x;rw [bC] at x;split at x
 · simp only [bY,fC] at x;obtain ⟨rfl,rfl⟩:=x;exact .inl h.upd.size
 exact h.mine t' b o' x
theorem A6.set {B:Bs} {e:A9} {D:List Deferred} {H:Hp} {G:A3} {a:Act} {w w':World} (h:A6 B ⟨e,D,H,G⟩ a w) {t b:Nat} {o o':Obj} (ht:H.get t=some (some b,o))
 (hu:E2 (·=b) w w') (hb:w'.heap[b]?=some o'):A6 B ⟨e,D,(t,some b,o') :: H,G⟩ a w':=by
 have hl:b<w.heap.size:=h.mem.lt ht;have key:∀ t' b1 o1,t≠t'→H.get t'=some (some b1,o1)→b1≠b:=fun t' b1 o1 hne x e=>hne (h.mem.one t t' b o o1 ht (e▸x));refine ⟨h.size,h.defers,h.env,⟨?_,?_,?_,?_⟩,?_,?_,h.le,h.new⟩
 · intro t' b1 o1 x;rw [bC] at x;split at x
   · simp only [bY,fC] at x;obtain ⟨rfl,rfl⟩:=x;exact hb
   rename_i hne;rw [hu.same b1 (h.mem.lt x) (key t' b1 o1 hne x)];exact h.mem.own t' b1 o1 x
 · intro t1 t2 b1 o1 o2 x y;rw [bC] at x y;split at x <;> split at y
   · omega
   · rename_i hne;simp only [bY,fC] at x;obtain ⟨rfl,rfl⟩:=x;exact absurd F9 (key _ _ _ hne y)
   · rename_i hne _;simp only [bY,fC] at y;obtain ⟨rfl,rfl⟩:=y;exact absurd F9 (key _ _ _ hne x)
   exact h.mem.one _ _ _ _ _ x y
 · intro b1 o1 x;have hne:b1≠b:=fun e=>by have h1:G b=none:=h.mem.off t b o ht;have h2:G b1=some o1:=x;rw [e,h1] at h2;cases h2
   rw [hu.same b1 (h.mem.ltG x) hne];exact h.mem.imm b1 o1 x
 · intro t' b1 o1 x;rw [bC] at x;split at x
   · simp only [bY,fC] at x;obtain ⟨rfl,rfl⟩:=x;exact h.mem.off t b o ht
   exact h.mem.off t' b1 o1 x
 · refine ⟨hu.os.trans h.upd.os,hu.tape.trans h.upd.tape,hu.output.trans h.upd.output,bO h.upd.size hu.size,fun k hk hx=>?_⟩;have hne:k≠b:=fun e=>by
    rcases h.mine t b o ht with h1 | h1
    · omega
    exact hx (e▸h1)
   exact (hu.same k (rV hk h.upd.size) hne).trans (h.upd.same k hk hx)
 intro t' b1 o1 x;rw [bC] at x;split at x
 · simp only [bY,fC] at x;obtain ⟨rfl,rfl⟩:=x;exact h.mine t b o ht
 exact h.mine t' b1 o1 x
def Wl (P:Program) (ops:Array Oper) (l:List Oper) (B:Bs) (S:St) (K:Act→World→Prop):Prop:=∀ a w,A6 B S a w→uD P ops l a w K
def Wc (r:Option Nat) (P:Program) (c:Code) (B:Bs) (S:St) (Q:Exit→Act→World→Prop):Prop:=∀ a w,A6 B S a w→c.wpIn (FF r) 0 P Q a w
def Ar (Q:Exit→Act→World→Prop) (x:Exit) (B:Bs) (S:St):Prop:=∀ a w,A6 B S a w→Q x a w
section code
variable {r:Option Nat} {P:Program} {B:Bs} {S:St} {Q:Exit→Act→World→Prop}
theorem Wc.region {id:Nat} {l:List Oper} (hd:l.all wW=true) (h:Wl P l.toArray l B S (Q .normal)):Wc r P (.region id l.toArray false) B S Q:=
 fun a w hh=>wpIn_region_lit (Dx l a w hd (h a w hh))
abbrev dL:=@Wc.region
theorem Wc.seq {x y:Code} (h:Wc r P x B S (Exit.then (y.wpIn (FF r) 0 P Q) Q)):Wc r P (.seq x y) B S Q:=fun a w hh=>wpIn_seq (h a w hh)
abbrev dN:=@Wc.seq
theorem Wc.skip (h:Ar Q .normal B S):Wc r P .skip B S Q:=fun a w hh=>wpIn_skip (h a w hh)
abbrev kN:=@Wc.skip
theorem Wc.label {l:Nat} (h:Ar Q .normal B S):Wc r P (.label l) B S Q:=fun a w hh=>wpIn_label (h a w hh)
theorem Wc.exit {id:Nat} (h:Ar Q (.exit id) B S):Wc r P (.exit id) B S Q:=fun a w hh=>wpIn_exit (h a w hh)
theorem Wc.ret (h:Ar Q .ret B S):Wc r P .ret B S Q:=fun a w hh=>wpIn_ret (h a w hh)
abbrev nH:=@Wc.ret
theorem Wc.block {id:Nat} {c:Code} (h:Wc r P c B S (Exit.inBlock id Q)):Wc r P (.block id c) B S Q:=fun a w hh=>wpIn_block (h a w hh)
theorem WZ {c:Operand} {x y:Code} {t:Bool} (hc:S.e.ev c=some (.bool t)) (ht:t=true→Wc r P x B S Q) (hf:t=false→Wc r P y B S Q):Wc r P (.cond c x y) B S Q:=
 fun a w hh=>wpIn_cond_split (hh.eval hc) (fun e=>ht e a w hh) (fun e=>hf e a w hh)
abbrev lN:=@WZ
theorem Wc.cond {c:Operand} {x y:Code} {p:Prop} [Decidable p] (hc:S.e.ev c=some (.bool (decide p))) (ht:p→Wc r P x B S Q) (hf:¬p→Wc r P y B S Q):Wc r P (.cond c x y) B S Q:=
 lN hc (fun h=>ht (fQ h)) (fun h=>hf (mZ h))
abbrev oB:=@Wc.cond
theorem LA {c:Operand} {x y:Code} (hc:S.e.ev c=some (.bool true)) (ht:Wc r P x B S Q):Wc r P (.cond c x y) B S Q:=lN hc (fun _=>ht) (fun h=>by cases h)
theorem Xz {c:Operand} {x y:Code} (hc:S.e.ev c=some (.bool false)) (hf:Wc r P y B S Q):Wc r P (.cond c x y) B S Q:=lN hc (fun h=>by cases h) (fun _=>hf)
theorem Wl.done {ops:Array Oper} {x:Exit} (h:Ar Q x B S):Wl P ops [] B S (Q x):=h
abbrev eT:=@Wl.done
theorem Ar.next {y:Code} (h:Wc r P y B S Q):Ar (Exit.then (y.wpIn (FF r) 0 P Q) Q) .normal B S:=h
abbrev cN:=@Ar.next
theorem Ya {K:Act→World→Prop} {id:Nat} (h:Ar Q (.exit id) B S):Ar (Exit.then K Q) (.exit id) B S:=h
abbrev rM:=@Ya
theorem CG {K:Act→World→Prop} (h:Ar Q .ret B S):Ar (Exit.then K Q) .ret B S:=h
abbrev qR:=@CG
theorem Uy {id:Nat} (h:Ar Q .normal B S):Ar (Exit.inBlock id Q) .normal B S:=h
abbrev sM:=@Uy
theorem Km {id:Nat} (h:Ar Q .ret B S):Ar (Exit.inBlock id Q) .ret B S:=h
theorem EO {id:Nat} (h:Ar Q .normal B S):Ar (Exit.inBlock id Q) (.exit id) B S:=fun a w hh=>by simp only [Exit.inBlock,kD];exact h a w hh
theorem CH {id id':Nat} (hne:Nat.beq id' id=false) (h:Ar Q (.exit id') B S):Ar (Exit.inBlock id Q) (.exit id') B S:=fun a w hh=>by
 have:id'≠id:=fun e=>by subst e;simp at hne
 simp only [Exit.inBlock,this,lF];exact h a w hh
def A9.sub (e:A9):A9→Prop
 | []=>True
 | (i,v) :: l=>e.get i=some v∧A9.sub e l
def Hp.sub (h:Hp):Hp→Prop
 | []=>True
 | (i,x) :: l=>h.get i=some x∧Hp.sub h l
theorem Dy {e:A9}:∀ {l:A9},e.sub l→∀ i v,l.get i=some v→e.get i=some v
 | [],_,i,v,h=>by simp [A9.get] at h
 | (j,u) :: l,hs,i,v,h=>by
   rw [jP] at h;split at h
   · rename_i hj;subst hj;simp only [bY] at h;subst h;exact hs.1
   exact Dy hs.2 i v h
theorem Oi {e:Hp}:∀ {l:Hp},e.sub l→∀ i v,l.get i=some v→e.get i=some v
 | [],_,i,v,h=>by simp [Hp.get] at h
 | (j,u) :: l,hs,i,v,h=>by
   rw [bC] at h;split at h
   · rename_i hj;subst hj;simp only [bY] at h;subst h;exact hs.1
   exact Oi hs.2 i v h
abbrev kL:=@Oi
theorem A6.sub {e e':A9} {D:List Deferred} {H H':Hp} {G:A3} {a:Act} {w:World} (h:A6 B ⟨e,D,H,G⟩ a w) (he:e.sub e') (hH:H.sub H'):A6 B ⟨e',D,H',G⟩ a w:=
 h.weaken (Dy he) (kL hH)
def Dz {ι:Type} (B:Bs) (I:ι→St) (φ:ι→Prop) (μ:ι→Nat) (m:Nat):Act→World→Prop:=fun a w=>∃ j,φ j∧μ j<m∧A6 B (I j) a w
theorem In {ι:Type} {c:Code} (I:ι→St) (φ:ι→Prop) (μ:ι→Nat) (i0:ι) (h0:φ i0) (hs:∀ a w,A6 B S a w→A6 B (I i0) a w)
 (hb:∀ i,φ i→Wc r P c B (I i) (Exit.then (Dz B I φ μ (μ i)) Q)):Wc r P (.loop c) B S Q:=by
 intro a w hh b k cs hro hb' hr;have key:∀ m i a w,μ i=m→φ i→A6 B (I i) a w→
  ∃ e a' w',Q e a' w'∧ArrivesIn (Machine.fenced P (FF r)) P (lone (b.atR a (.code c :: .inLoop c :: k)) cs w) b k cs e a' w':=by
  intro m;induction m using Nat.strongRecOn with
  | _ m ih =>
    intro i a w hm hφ hI;obtain ⟨x,a₁,w₁,hq,harr⟩:=hb i hφ a w hI b (.inLoop c :: k) cs hro hb' hr;cases x with
    | normal =>
      obtain ⟨j,hj,hlt,hI'⟩:=hq;obtain ⟨e₂,a₂,w₂,hq₂,harr₂⟩:=ih (μ j) (hm▸hlt) j a₁ w₁ F9 hj hI';exact ⟨e₂,a₂,w₂,hq₂,.of_steps (StepsIn.trans harr (.one (pK hb' hr F9) stepR_inLoop)) harr₂⟩
    | exit id=>exact ⟨_,a₁,w₁,hq,.pass (x:=.inLoop c) F9 (fun _ _=>.inl uE) harr⟩
    | goto l=>exact ⟨_,a₁,w₁,hq,.pass (x:=.inLoop c) F9 (fun _ _=>.inl uE) harr⟩
    | ret=>exact ⟨_,a₁,w₁,hq,.pass (x:=.inLoop c) F9 (fun _ _=>.inl uE) harr⟩
    | panic ch=>exact ⟨_,a₁,w₁,hq,.pass (x:=.inLoop c) F9 (fun _ _=>.inl uE) harr⟩
    | outgrown=>exact ⟨_,a₁,w₁,hq,.pass (x:=.inLoop c) F9 (fun _ _=>.inl uE) harr⟩
 obtain ⟨e,a',w',hq,harr⟩:=key _ i0 a w F9 h0 (hs a w hh);exact ⟨e,a',w',hq,.of_steps (.one (pK hb' hr F9) stepR_loop) harr⟩
theorem Wc.loop {ι:Type} {c:Code} {e:A9} {D:List Deferred} {H:Hp} {G:A3} (I:ι→A9×Hp) (φ:ι→Prop) (μ:ι→Nat) (i0:ι) (h0:φ i0)
 (he:e.sub (I i0).1) (hH:H.sub (I i0).2)
 (hb:∀ i,φ i→Wc r P c B ⟨(I i).1,D,(I i).2,G⟩ (Exit.then (Dz B (fun i=>⟨(I i).1,D,(I i).2,G⟩) φ μ (μ i)) Q)):Wc r P (.loop c) B ⟨e,D,H,G⟩ Q:=
 In (fun i=>⟨(I i).1,D,(I i).2,G⟩) φ μ i0 h0 (fun _ _ h=>h.sub he hH) hb
abbrev fX:=@Wc.loop
theorem Ar.again {ι:Type} {I:ι→St} {φ:ι→Prop} {μ:ι→Nat} {m:Nat} {e:A9} {D:List Deferred} {H:Hp} {G:A3} (j:ι) (hφ:φ j) (hμ:μ j<m)
 (hI:I j=⟨(I j).e,D,(I j).H,G⟩) (he:e.sub (I j).e) (hH:H.sub (I j).H):Ar (Exit.then (Dz B I φ μ m) Q) .normal B ⟨e,D,H,G⟩:=
 fun a w hh=>⟨j,hφ,hμ,by rw [hI];exact hh.sub he hH⟩
abbrev eX:=@Ar.again
end code
def wR (P:Program) (t:TypeId):Bool:=
 (match P.underlying t with | some (.struct _) | some (.array _ _) | none=>false | some _=>true) && ((P.info? t).map (·.size) == some 1)
def zC (P:Program) (t k:Nat):Bool:=
 (match P.underlying t with | some (.struct _) | some (.array _ _)=>true | _=>false) && ((P.info? t).map (·.size) == some k)
section types
variable {P:Program} {t k:Nat} (w:World)
theorem run_sizeOf {n:Nat} (h:(P.info? t).map (·.size)=some n):(sizeOf t).run P w=.ok n w:=by
 cases hi:P.info? t with
 | none=>simp [hi] at h
 | some i=>simp [hi] at h;simp [sizeOf,typeInfo,hi,h]
theorem zQ (h:wR P t=true):(isAgg t).run P w=.ok false w:=by
 unfold wR at h;cases hu:P.underlying t with
 | none=>simp [hu] at h
 | some d=>cases d <;> simp [hu] at h <;> simp [isAgg,dE hu]
theorem Rs (h:zC P t k=true):(isAgg t).run P w=.ok true w:=by
 unfold zC at h;cases hu:P.underlying t with
 | none=>simp [hu] at h
 | some d=>cases d <;> simp [hu] at h <;> simp [isAgg,dE hu]
theorem LB (h:wR P t=true):(P.info? t).map (·.size)=some 1:=by
 unfold wR at h;simp at h;simpa using h.2
theorem LC (h:zC P t k=true):(P.info? t).map (·.size)=some k:=by
 unfold zC at h;simp at h;simpa using h.2
end types
theorem cell_of_block {w:World} {b off:Nat} {cs:List Value} {ty:TypeId} {fz:Nat×Nat} (h:w.heap[b]?=some (.cells cs.toArray ty fz)) :
 w.cell? ⟨b,off,none⟩=cs[off]?:=by simp [World.cell?,h]
def A3.cell (G:A3) (b off:Nat):Option Value:=match G b with | some (.cells c _ _)=>c[off]? | _=>none
def A3.row (G:A3) (b off:Nat) (vs:List Value):Prop:=∀ i v,vs[i]?=some v→G.cell b (off+i)=some v
theorem B3.cellG {H:Hp} {G:A3} {w:World} (h:B3 H G w) {b off:Nat} {v:Value} (hc:G.cell b off=some v):w.cell? ⟨b,off,none⟩=some v:=by
 unfold A3.cell at hc;split at hc
 · rename_i c ty fz hb;simp [World.cell?,h.imm b _ hb,hc]
 cases hc
theorem Mj {G G':A3} (h:G.le G') {b off:Nat} {v:Value} (hc:G.cell b off=some v):G'.cell b off=some v:=by
 unfold A3.cell at *;split at hc
 · rename_i c ty fz hb;rw [h b _ hb];exact hc
 cases hc
theorem CI {G G':A3} (h:G.le G') {b off:Nat} {vs:List Value} (hc:G.row b off vs):G'.row b off vs:=fun i v hv=>Mj h (hc i v hv)
theorem Bw (b o n:Nat):Addr.add ⟨b,o,none⟩ n=⟨b,o+n,none⟩:=by unfold Addr.add;split <;> simp_all
structure F0 (e:A9) (H:Hp) (G:A3) (a:Act) (w:World):Prop where
 env:∀ i v,e.get i=some v→a.tmps[i]?=some v
 mem:B3 H G w
section look
variable {e:A9} {H:Hp} {G:A3} {a:Act} {w:World}
theorem A6.look {B:Bs} {D:List Deferred} (h:A6 B ⟨e,D,H,G⟩ a w):F0 e H G a w:=⟨h.env,h.mem⟩
theorem F0.eval (h:F0 e H G a w) {x:Operand} {v:Value} (hx:e.ev x=some v):a.eval x=v:=by
 cases x with
 | tmp t=>simp [Act.eval,h.env t v hx]
 | const u=>simpa [A9.ev,Act.eval] using hx
 | global g=>simpa [A9.ev,Act.eval] using hx
 | func f=>simpa [A9.ev,Act.eval] using hx
theorem F0.evals (h:F0 e H G a w):∀ {xs:List Operand} {vs:List Value},e.evs xs=some vs→xs.map a.eval=vs
 | [],vs,hx=>by simp [A9.evs] at hx;simp [←hx]
 | x :: xs,vs,hx=>by
   unfold A9.evs at hx;split at hx
   · rename_i v us h1 h2;simp only [bY] at hx;subst hx;simp [h.eval h1,h.evals h2]
   cases hx
theorem F0.args (h:F0 e H G a w) {xs:Array Operand} {vs:List Value} (hx:e.evs xs.toList=some vs):xs.map a.eval=vs.toArray:=by
 rw [←h.evals hx,←sV]
end look
def Qy (P:Program) (o:Op) (ty:TypeId) (e:A9) (H:Hp) (G:A3) (v:Value):Prop:=
 ∀ (a:Act) (w:World) (dst:Option Tmp) (pos:String) (after:Array Edge) (g:Option (Nat×Bool)),F0 e H G a w→(execOp a.eval ⟨dst,o,ty,pos,after,g⟩).run P w=.ok (.value v) w
section qy
variable {P:Program} {e:A9} {H:Hp} {G:A3} {ty:TypeId}
theorem Qy.move {x:Operand} {v:Value} (hx:e.ev x=some v):Qy P (.move x) ty e H G v:=fun a w _ _ _ _ hh=>by simp [execOp,hh.eval hx]
abbrev dH:=@Qy.move
theorem Qy.assign {x:Operand} {v:Value} (hx:e.ev x=some v):Qy P (.assign x) ty e H G v:=fun a w _ _ _ _ hh=>by simp [execOp,hh.eval hx]
abbrev kA:=@Qy.assign
theorem Qy.pick {c x y:Operand} {b:Bool} {v:Value} (hc:e.ev c=some (.bool b)) (hv:e.ev (bif b then x else y)=some v):Qy P (.pick c x y) ty e H G v:=fun a w _ _ _ _ hh=>by
 cases b
 · simp only [cond_false] at hv;simp [execOp,asBool,hh.eval hc,hh.eval hv]
 simp only [cond_true] at hv;simp [execOp,asBool,hh.eval hc,hh.eval hv]
theorem Qy.not {t:TypeId} {x:Operand} {b:Bool} (hx:e.ev x=some (.bool b)):Qy P (.unOp .not t x) ty e H G (.bool (!b)):=fun a w _ _ _ _ hh=>by simp [execOp,Op.unary,hh.eval hx]
theorem RQ {t:TypeId} {x:Operand} {p:Prop} [Decidable p] (hx:e.ev x=some (.bool (decide p))):Qy P (.unOp .not t x) ty e H G (.bool (decide (¬p))):=fun a w _ _ _ _ hh=>by simp [execOp,Op.unary,hh.eval hx]
abbrev fS:=@RQ
section cmp
variable {t t':TypeId} {x y:Operand} {k:IntKind} {m n:Int} (hx:e.ev x=some (.int k m)) (hy:e.ev y=some (.int k n))
include hx hy
theorem Qy.eql:Qy P (.binOp .eql t x y t') ty e H G (.bool (decide (m=n))):=fun a w _ _ _ _ hh=>by simp [execOp,hh.eval hx,hh.eval hy,binOp,Op.intCmp,eqGuard];rfl
theorem Qy.neq:Qy P (.binOp .neq t x y t') ty e H G (.bool (decide (m≠n))):=fun a w _ _ _ _ hh=>by
 simp only [execOp,hh.eval hx,hh.eval hy,binOp,Op.intCmp,eqGuard];by_cases h:m=n <;> simp [h]
theorem Qy.lss:Qy P (.binOp .lss t x y t') ty e H G (.bool (decide (m<n))):=fun a w _ _ _ _ hh=>by simp [execOp,hh.eval hx,hh.eval hy,binOp,Op.intCmp,eqGuard]
theorem Qy.leq:Qy P (.binOp .leq t x y t') ty e H G (.bool (decide (m≤n))):=fun a w _ _ _ _ hh=>by simp [execOp,hh.eval hx,hh.eval hy,binOp,Op.intCmp,eqGuard]
theorem Qy.gtr:Qy P (.binOp .gtr t x y t') ty e H G (.bool (decide (n<m))):=fun a w _ _ _ _ hh=>by simp [execOp,hh.eval hx,hh.eval hy,binOp,Op.intCmp,eqGuard]
theorem Qy.geq:Qy P (.binOp .geq t x y t') ty e H G (.bool (decide (n≤m))):=fun a w _ _ _ _ hh=>by simp [execOp,hh.eval hx,hh.eval hy,binOp,Op.intCmp,eqGuard]
theorem Uz:Qy P (.binOp .add t x y t') ty e H G (.int k (k.wrap (m+n))):=fun a w _ _ _ _ hh=>by simp [execOp,hh.eval hx,hh.eval hy,binOp,Op.intArith,eqGuard]
theorem Io:Qy P (.binOp .sub t x y t') ty e H G (.int k (k.wrap (m - n))):=fun a w _ _ _ _ hh=>by simp [execOp,hh.eval hx,hh.eval hy,binOp,Op.intArith,eqGuard]
theorem RR:Qy P (.binOp .mul t x y t') ty e H G (.int k (k.wrap (m*n))):=fun a w _ _ _ _ hh=>by simp [execOp,hh.eval hx,hh.eval hy,binOp,Op.intArith,eqGuard]
abbrev mO:=@RR
theorem EP (h0:n≠0):Qy P (.binOp .quo t x y t') ty e H G (.int k (k.wrap (m.tdiv n))):=fun a w _ _ _ _ hh=>by simp [execOp,hh.eval hx,hh.eval hy,binOp,Op.intDiv,eqGuard,h0]
theorem Qy.rem (h0:n≠0):Qy P (.binOp .rem t x y t') ty e H G (.int k (m.tmod n)):=fun a w _ _ _ _ hh=>by simp [execOp,hh.eval hx,hh.eval hy,binOp,Op.intDiv,eqGuard,h0]
abbrev sN:=@Qy.rem
theorem RT:Qy P (.binOp .and t x y t') ty e H G (.int k (bits .and k m n)):=fun a w _ _ _ _ hh=>by simp [execOp,hh.eval hx,hh.eval hy,binOp,eqGuard];rfl
abbrev lS:=@RT
theorem XA:Qy P (.binOp .or t x y t') ty e H G (.int k (bits .or k m n)):=fun a w _ _ _ _ hh=>by simp [execOp,hh.eval hx,hh.eval hy,binOp,eqGuard];rfl
abbrev sO:=@XA
end cmp
theorem Qy.shl {t t':TypeId} {x y:Operand} {k k':IntKind} {m n:Int} (hx:e.ev x=some (.int k m)) (hy:e.ev y=some (.int k' n)) (h0:0≤n) :
 Qy P (.binOp .shl t x y t') ty e H G (.int k (k.wrap (m*2 ^ (min n.toNat k.bits)))):=fun a w _ _ _ _ hh=>by
 simp [execOp,hh.eval hx,hh.eval hy,binOp,Op.shift,eqGuard,Int.not_lt.2 h0]
theorem Qy.shr {t t':TypeId} {x y:Operand} {k k':IntKind} {m n:Int} (hx:e.ev x=some (.int k m)) (hy:e.ev y=some (.int k' n)) (h0:0≤n) :
 Qy P (.binOp .shr t x y t') ty e H G (.int k (m.fdiv (2 ^ (min n.toNat k.bits)))):=fun a w _ _ _ _ hh=>by
 simp [execOp,hh.eval hx,hh.eval hy,binOp,Op.shift,eqGuard,Int.not_lt.2 h0]
abbrev nW:=@Qy.shr
section arith64
variable {t t':TypeId} {x y:Operand} {m n:Int} (hx:e.ev x=some (.int .i64 m)) (hy:e.ev y=some (.int .i64 n))
include hx hy
theorem Qy.add (hb:-9223372036854775808≤m+n∧m+n≤9223372036854775807):Qy P (.binOp .add t x y t') ty e H G (.int .i64 (m+n)):=by
 have:=Uz (P:=P) (H:=H) (G:=G) (ty:=ty) (t:=t) (t':=t') hx hy;rwa [jV _ hb] at this
theorem Qy.sub (hb:-9223372036854775808≤m - n∧m - n≤9223372036854775807):Qy P (.binOp .sub t x y t') ty e H G (.int .i64 (m - n)):=by
 have:=Io (P:=P) (H:=H) (G:=G) (ty:=ty) (t:=t) (t':=t') hx hy;rwa [jV _ hb] at this
theorem Qy.mul (hb:-9223372036854775808≤m*n∧m*n≤9223372036854775807):Qy P (.binOp .mul t x y t') ty e H G (.int .i64 (m*n)):=by
 have:=mO (P:=P) (H:=H) (G:=G) (ty:=ty) (t:=t) (t':=t') hx hy;rwa [jV _ hb] at this
abbrev mD:=@Qy.mul
theorem Qy.quo (h0:n≠0) (hb:-9223372036854775808≤m.tdiv n∧m.tdiv n≤9223372036854775807):Qy P (.binOp .quo t x y t') ty e H G (.int .i64 (m.tdiv n)):=by
 have:=EP (P:=P) (H:=H) (G:=G) (ty:=ty) (t:=t) (t':=t') hx hy h0;rwa [jV _ hb] at this
abbrev oK:=@Qy.quo
end arith64
theorem Qy.neg {t:TypeId} {x:Operand} {m:Int} (hx:e.ev x=some (.int .i64 m)) (hb:-9223372036854775807≤m∧m≤9223372036854775808):Qy P (.unOp .neg t x) ty e H G (.int .i64 (-m)):=
 fun a w _ _ _ _ hh=>by simp [execOp,Op.unary,Op.intArith,hh.eval hx,jV _ (show -9223372036854775808≤-m∧-m≤9223372036854775807 by omega)]
abbrev rD:=@Qy.neg
theorem RU {t:TypeId} {x:Operand} {k:IntKind} {m:Int} (hx:e.ev x=some (.int k m)):Qy P (.unOp .neg t x) ty e H G (.int k (k.wrap (0 - m))):=
 fun a w _ _ _ _ hh=>by simp [execOp,Op.unary,Op.intArith,hh.eval hx]
abbrev oV:=@RU
theorem RV {s t:TypeId} {x:Operand} {k k':IntKind} {m:Int} (hs:(P.underlying s).isSome=true) (ht:P.underlying t=some (.int k')) (hx:e.ev x=some (.int k m)) :
 Qy P (.convert s t x) ty e H G (.int k' (k'.wrap m)):=fun a w _ _ _ _ hh=>by
 cases hu:P.underlying s with
 | none=>simp [hu] at hs
 | some u=>simp [execOp,hh.eval hx,convert,dE hu,dE ht,Conv.intToInt]
abbrev cR:=@RV
theorem Va {t t':TypeId} {x y:Operand} {m n:Bool} (ht:P.underlying t=some .bool) (hx:e.ev x=some (.bool m)) (hy:e.ev y=some (.bool n)) :
 Qy P (.binOp .eql t x y t') ty e H G (.bool (decide (m=n))):=fun a w _ _ _ _ hh=>by
 have:=run_equalIn_bool' (P:=P) w 9999 t m n ht;simp [execOp,hh.eval hx,hh.eval hy,binOp,eqGuard,Op.equal,Op.maxDepth,this];rfl
theorem EQ {t t':TypeId} {x y:Operand} {m n:Bool} (ht:P.underlying t=some .bool) (hx:e.ev x=some (.bool m)) (hy:e.ev y=some (.bool n)) :
 Qy P (.binOp .neq t x y t') ty e H G (.bool (decide (m≠n))):=fun a w _ _ _ _ hh=>by
 have:=run_equalIn_bool' (P:=P) w 9999 t m n ht;simp [execOp,hh.eval hx,hh.eval hy,binOp,eqGuard,Op.equal,Op.maxDepth,this];cases m <;> cases n <;> rfl
def Bx (P:Program) (s f off:Nat):Prop:=∀ b o w,(Instr.fieldAt s (.pointer (some ⟨b,o,none⟩)) f).run P w=.ok (.pointer (some ⟨b,o+off,none⟩)) w
theorem Qy.fieldAddr {s f:Nat} {x:Operand} {b o off:Nat} (hf:Bx P s f off) (hx:e.ev x=some (.pointer (some ⟨b,o,none⟩))) :
 Qy P (.fieldAddr s x f) ty e H G (.pointer (some ⟨b,o+off,none⟩)):=fun a w _ _ _ _ hh=>by simp [execOp,hh.eval hx,hf b o w]
abbrev gE:=@Qy.fieldAddr
theorem Qy.nilCheck {x:Operand} {ad:Addr} (hx:e.ev x=some (.pointer (some ad))):Qy P (.nilCheck x) ty e H G (.pointer (some ad)):=fun a w _ _ _ _ hh=>by simp [execOp,hh.eval hx]
theorem Az {T:TypeId} {ad:Addr} {w:World} {v:Value} (h1:wR P T=true) (hc:w.cell? ad=some v):(Instr.loadAt T (.pointer (some ad))).run P w=.ok v w:=by
 simp [Instr.loadAt,Instr.sureAddr,loadVar,zQ w h1,hc]
theorem yQ {T k:TypeId} {b off:Nat} {w:World} {vs:List Value} (h1:zC P T k=true) (hl:vs.length=k) (hc:∀ j v,vs[j]?=some v→w.cell? ⟨b,off+j,none⟩=some v) :
 (Instr.loadAt T (.pointer (some ⟨b,off,none⟩))).run P w=.ok (.agg vs.toArray) w:=by
 subst hl;have:=run_loadCells_list (P:=P) w ⟨b,off,none⟩ vs (fun j v hv=>by rw [Bw];exact hc j v hv);simp [Instr.loadAt,Instr.sureAddr,loadVar,Rs w h1,run_sizeOf w (LC h1),this]
theorem Qy.load {T:TypeId} {x:Operand} {b off:Nat} {cs:List Value} {bt:TypeId} {fz:Nat×Nat} {v:Value} (t:Nat) (h1:wR P T=true)
 (hx:e.ev x=some (.pointer (some ⟨b,off,none⟩))) (ht:H.get t=some (some b,.cells cs.toArray bt fz)) (hv:cs[off]?=some v):Qy P (.load T x) ty e H G v:=fun a w _ _ _ _ hh=>by
 have hc:w.cell? ⟨b,off,none⟩=some v:=by rw [cell_of_block (hh.mem.own t b _ ht)];exact hv
 simp [execOp,hh.eval hx,Az h1 hc]
abbrev jN:=@Qy.load
theorem LD {T k:TypeId} {x:Operand} {b off:Nat} {cs:List Value} {bt:TypeId} {fz:Nat×Nat} {vs:List Value} (t:Nat) (h1:zC P T k=true)
 (hx:e.ev x=some (.pointer (some ⟨b,off,none⟩))) (ht:H.get t=some (some b,.cells cs.toArray bt fz)) (hv:(cs.drop off).take k=vs) (hl:vs.length=k):Qy P (.load T x) ty e H G (.agg vs.toArray):=
 fun a w _ _ _ _ hh=>by
  have hc:∀ j v,vs[j]?=some v→w.cell? ⟨b,off+j,none⟩=some v:=fun j v hj=>by
   rw [cell_of_block (hh.mem.own t b _ ht)];subst hv;rw [nB] at hj;split at hj
   · simpa using hj
   cases hj
  simp [execOp,hh.eval hx,yQ h1 hl hc]
abbrev eL:=@LD
theorem CJ {T k:TypeId} {x:Operand} {b:Nat} {cs:List Value} {bt:TypeId} {fz:Nat×Nat} (t:Nat) (h1:zC P T k=true)
 (hx:e.ev x=some (.pointer (some ⟨b,0,none⟩))) (ht:H.get t=some (some b,.cells cs.toArray bt fz)) (hl:cs.length=k):Qy P (.load T x) ty e H G (.agg cs.toArray):=
 eL t h1 hx ht (by rw [nN,←hl,bD]) hl
abbrev rU:=@CJ
theorem LF {T:TypeId} {x:Operand} {b off:Nat} {v:Value} (h1:wR P T=true) (hx:e.ev x=some (.pointer (some ⟨b,off,none⟩))) (hv:G.cell b off=some v):Qy P (.load T x) ty e H G v:=
 fun a w _ _ _ _ hh=>by simp [execOp,hh.eval hx,Az h1 (hh.mem.cellG hv)]
abbrev bV:=@LF
theorem HK {T k:TypeId} {x:Operand} {b off:Nat} {vs:List Value} (h1:zC P T k=true) (hx:e.ev x=some (.pointer (some ⟨b,off,none⟩))) (hv:G.row b off vs) (hl:vs.length=k) :
 Qy P (.load T x) ty e H G (.agg vs.toArray):=fun a w _ _ _ _ hh=>by simp [execOp,hh.eval hx,yQ h1 hl (fun j v hj=>hh.mem.cellG (hv j v hj))]
abbrev fY:=@HK
theorem Qy.extract {x:Operand} {i:Nat} {vs:List Value} {v:Value} (hx:e.ev x=some (.tuple vs.toArray)) (hv:vs[i]?=some v):Qy P (.extract x i) ty e H G v:=
 fun a w _ _ _ _ hh=>by simp [execOp,hh.eval hx,Instr.extract,hv]
theorem Qy.makeFunc {f:FuncId} {xs ys:Array Operand} {us vs:List Value} (hx:e.evs xs.toList=some us) (hy:e.evs ys.toList=some vs):Qy P (.makeFunc (.func f) xs ys) ty e H G (.func (.func f) us.toArray vs.toArray):=
 fun a w _ _ _ _ hh=>by simp [execOp,Instr.makeFunc,hh.args hx,hh.args hy]
abbrev gY:=@Qy.makeFunc
def tN (P:Program) (T E sz:Nat):Prop:=P.underlying T=some (.slice E)∧(P.info? E).map (·.size)=some sz
theorem Qy.len {T:TypeId} {x:Operand} {ad:Option Addr} {n c:Nat} {E sz:Nat} (hT:tN P T E sz) (hx:e.ev x=some (.slice ad n c)) :
 Qy P (.call { callee:=.builtin .len,args:=#[x],argTypes:=#[T] }) ty e H G (.int .i64 n):=fun a w _ _ _ _ hh=>by
 simp [execOp,resolve,invoke,builtin,Builtin.len_,hh.eval hx,dE hT.1,goInt]
theorem Qy.min {ts:Array TypeId} {x y:Operand} {k:IntKind} {m n:Int} (hx:e.ev x=some (.int k m)) (hy:e.ev y=some (.int k n)) :
 Qy P (.call { callee:=.builtin .min,args:=#[x,y],argTypes:=ts }) ty e H G (.int k (if n<m then n else m)):=fun a w _ _ _ _ hh=>by
 simp [execOp,resolve,invoke,builtin,Builtin.min_,Builtin.min2,hh.eval hx,hh.eval hy]
theorem Qy.max {ts:Array TypeId} {x y:Operand} {k:IntKind} {m n:Int} (hx:e.ev x=some (.int k m)) (hy:e.ev y=some (.int k n)) :
 Qy P (.call { callee:=.builtin .max,args:=#[x,y],argTypes:=ts }) ty e H G (.int k (if m<n then n else m)):=fun a w _ _ _ _ hh=>by
 simp [execOp,resolve,invoke,builtin,Builtin.max_,Builtin.max2,hh.eval hx,hh.eval hy]
theorem Qy.indexAddr {T:TypeId} {x i:Operand} {b o n c:Nat} {k:IntKind} {m:Int} {E sz:Nat} (hT:tN P T E sz) (hx:e.ev x=some (.slice (some ⟨b,o,none⟩) n c))
 (hi:e.ev i=some (.int k m)) (hb:0≤m∧m<n):Qy P (.indexAddr T x i) ty e H G (.pointer (some ⟨b,o+m.toNat*sz,none⟩)):=fun a w _ _ _ _ hh=>by
 simp [execOp,Instr.indexAt,hh.eval hx,hh.eval hi,asIntOf,dE hT.1,hb,run_sizeOf w hT.2,Bw]
abbrev dC:=@Qy.indexAddr
def F5 (G:A3) (a:Option Addr) (n sz:Nat) (cs:List Value):Prop:=
 cs.length=n*sz∧(n=0∨∃ b o,a=some ⟨b,o,none⟩∧G.row b o cs)
def ab (a:Option Addr):Nat:=match a with | some x=>x.block | none=>0
def ao (a:Option Addr):Nat:=match a with | some x=>x.off | none=>0
theorem F5.le {G G':A3} (h:G.le G') {a:Option Addr} {n sz:Nat} {cs:List Value} (hs:F5 G a n sz cs):F5 G' a n sz cs:=
 ⟨hs.1,hs.2.imp id fun ⟨b,o,ha,hr⟩=>⟨b,o,ha,CI h hr⟩⟩
theorem F5.addr {G:A3} {a:Option Addr} {n sz:Nat} {cs:List Value} (hs:F5 G a n sz cs) (hn:0<n):a=some ⟨ab a,ao a,none⟩:=by
 rcases hs.2 with h0 | ⟨b,o,rfl,_⟩
 · omega
 rfl
theorem F5.row {G:A3} {a:Option Addr} {n sz:Nat} {cs:List Value} (hs:F5 G a n sz cs) (hn:0<n):G.row (ab a) (ao a) cs:=by
 rcases hs.2 with h0 | ⟨b,o,rfl,h⟩
 · omega
 exact h
theorem Rt {T:TypeId} {x i:Operand} {ad:Option Addr} {n c:Nat} {k:IntKind} {m:Int} {E sz:Nat} {cs:List Value} (hT:tN P T E sz) (hx:e.ev x=some (.slice ad n c))
 (hi:e.ev i=some (.int k m)) (hs:F5 G ad n sz cs) (hb:0≤m∧m<n):Qy P (.indexAddr T x i) ty e H G (.pointer (some ⟨ab ad,ao ad+m.toNat*sz,none⟩)):=by
 have ha:=hs.addr sW;rw [ha] at hx;exact dC hT hx hi hb
def C6 (a:Option Addr) (c l sz:Nat):Option Addr:=if c=l then a else a.map (·.add (l*sz))
theorem F5.sub {a:Option Addr} {n sz c l:Nat} {cs:List Value} (hs:F5 G a n sz cs) (hl:l≤n) (hc:n≤c):F5 G (C6 a c l sz) (n - l) sz (cs.drop (l*sz)):=by
 refine ⟨by rw [gP,hs.1,Nat.sub_mul],?_⟩;rcases hs.2 with h0 | ⟨b,o,rfl,hr⟩
 · exact .inl sW
 unfold C6;split
 · rename_i h;have h1:n=l:=sW;refine .inr ⟨b,o,F9,fun i v hi=>?_⟩;have h2:cs.length≤l*sz:=by rw [hs.1,h1];exact aI _
   rw [fD h2] at hi;simp at hi
 refine .inr ⟨b,o+l*sz,by simp [Bw],fun i v hi=>?_⟩;rw [pT];exact hr _ _ (by simpa using hi)
end qy
section ops
variable {P:Program} {ops:Array Oper} {rest:List Oper} {B:Bs} {e:A9} {D:List Deferred} {H:Hp} {G:A3} {K:Act→World→Prop}
 {ty:TypeId} {pos:String} {after:Array Edge} {d:Nat}
theorem Wl.q {o:Op} {v:Value} (hn:Nat.ble (d+1) B.n=true) (hq:Qy P o ty e H G v) (h:Wl P ops rest B ⟨(d,v) :: e,D,H,G⟩ K) :
 Wl P ops (⟨some d,o,ty,pos,after,none⟩ :: rest) B ⟨e,D,H,G⟩ K:=by
 intro a w hh;unfold uD;rw [aE (by simp [Region.wanted])];unfold Dw;rw [hq a w _ _ _ _ hh.look];exact h _ _ (hh.put hn v)
abbrev bX:=@Wl.q
theorem Yb {o:Op} {v:Nat→Value} (t:Nat) {ob:Obj} (hn:Nat.ble (d+1) B.n=true)
 (hr:∀ a w,A6 B ⟨e,D,H,G⟩ a w→(execOp a.eval ⟨some d,o,ty,pos,after,none⟩).run P w=.ok (.value (v w.heap.size)) (w.alloc ob))
 (h:∀ b,Wl P ops rest B ⟨(d,v b) :: e,D,(t,some b,ob) :: H,G⟩ K):Wl P ops (⟨some d,o,ty,pos,after,none⟩ :: rest) B ⟨e,D,H,G⟩ K:=by
 intro a w hh;unfold uD;rw [aE (by simp [Region.wanted])];unfold Dw;rw [hr a w hh];exact h _ _ _ ((hh.alloc t ob).put hn _)
abbrev oD:=@Yb
theorem HL {dst:Option Nat} {o:Op} {v:Value} {t b:Nat} {ob ob':Obj} {x:Next} (ht:H.get t=some (some b,ob))
 (hx:(x=.skip∧dst=none)∨(x=.value v∧∃ d,dst=some d∧Nat.ble (d+1) B.n=true))
 (hr:∀ a w,A6 B ⟨e,D,H,G⟩ a w→∃ w',(execOp a.eval ⟨dst,o,ty,pos,after,none⟩).run P w=.ok x w'∧E2 (·=b) w w'∧w'.heap[b]?=some ob')
 (h:Wl P ops rest B ⟨(match dst with | some d=>(d,v) :: e | none=>e),D,(t,some b,ob') :: H,G⟩ K) :
 Wl P ops (⟨dst,o,ty,pos,after,none⟩ :: rest) B ⟨e,D,H,G⟩ K:=by
 intro a w hh;obtain ⟨w',hrun,hu,hb⟩:=hr a w hh;unfold uD;rw [aE (by simp [Region.wanted])];unfold Dw;rw [hrun];rcases hx with ⟨rfl,rfl⟩ | ⟨rfl,d,rfl,hn⟩
 · exact h _ _ (hh.set ht hu hb)
 exact h _ _ ((hh.set ht hu hb).put hn v)
abbrev nV:=@HL
theorem Wl.want {dst:Option Nat} {o:Op} {j:Nat} {want:Bool} {t:Nat} (hj:(ops[j]?).bind (·.dst)=some t) (he:e.get t=some (.bool want))
 (h:Wl P ops (⟨dst,o,ty,pos,after,none⟩ :: rest) B ⟨e,D,H,G⟩ K):Wl P ops (⟨dst,o,ty,pos,after,some (j,want)⟩ :: rest) B ⟨e,D,H,G⟩ K:=by
 intro a w hh;have h1:=h a w hh;unfold uD at h1 ⊢;rw [aE (by simp [Region.wanted])] at h1;have hy:yielded ops a.tmps j=some want:=by simp [yielded,hj,hh.env t _ he]
 rw [aE (by simp [Region.wanted,hy])];exact h1
abbrev qH:=@Wl.want
theorem Wl.pass {o:Op} {j:Nat} {want:Bool} {t:Nat} (hj:(ops[j]?).bind (·.dst)=some t) (he:e.get t=some (.bool (!want))) (hn:Nat.ble (d+1) B.n=true)
 (h:Wl P ops rest B ⟨(d,undef) :: e,D,H,G⟩ K):Wl P ops (⟨some d,o,ty,pos,after,some (j,want)⟩ :: rest) B ⟨e,D,H,G⟩ K:=by
 intro a w hh;unfold uD;have hy:yielded ops a.tmps j=some (!want):=by simp [yielded,hj,hh.env t _ he]
 rw [aD (by simp [Region.wanted,hy])];exact h _ _ (hh.put hn undef)
theorem HM {v:Value} (h:v.oneCell'=true):v.cells=#[v]:=by cases v <;> simp_all [Value.oneCell',Value.cells]
theorem Ba (w:World) (g:Nat) (c:Array Value):E2 (·=g) w (w.setRow g c):=
 ⟨F9,F9,F9,by simp [World.setRow],fun k _ hk=>setRow_other w g k _ hk⟩
theorem Ru (cs:List Value) (off:Nat) (v:Value) (h:off<cs.length):cs.take off++[v]++cs.drop (off+1)=cs.set off v:=by
 rw [List.set_eq_take_append_cons_drop,aE h];simp
theorem Ea {T:TypeId} {b off:Nat} {w:World} {cs vs:List Value} {bt:TypeId} {v:Value} (hs:(P.info? T).map (·.size)=some vs.length) (hv:v.cells=vs.toArray)
 (h1:vs.all (·.oneCell')=true) (hb:w.heap[b]?=some (.cells cs.toArray bt (0,0))) (ho:off+vs.length≤cs.length) :
 (Instr.storeAt T (.pointer (some ⟨b,off,none⟩)) v).run P w=.ok () (w.setRow b (cs.take off++vs++cs.drop (off+vs.length)).toArray):=by
 have hst:=run_storeCells_at P b off bt vs 0 cs.toArray w hb (by simpa using ho) (by simpa using h1);simp only [iH] at hst;simp [Instr.storeAt,Instr.sureAddr,storeVar,run_sizeOf w hs,hv,hst]
theorem Wl.store {T:TypeId} {x y:Operand} {b off:Nat} {cs:List Value} {bt:TypeId} {v:Value} (t:Nat) (hs:wR P T=true)
 (hx:e.ev x=some (.pointer (some ⟨b,off,none⟩))) (hy:e.ev y=some v) (h1:v.oneCell'=true) (ht:H.get t=some (some b,.cells cs.toArray bt (0,0))) (ho:Nat.ble (off+1) cs.length=true)
 (h:Wl P ops rest B ⟨e,D,(t,some b,.cells (cs.set off v).toArray bt (0,0)) :: H,G⟩ K):Wl P ops (⟨none,.store T x y,ty,pos,after,none⟩ :: rest) B ⟨e,D,H,G⟩ K:=
 nV (v:=undef) (x:=.skip) ht (.inl ⟨F9,F9⟩) (fun a w hh=>by
  have ho':=cU ho;have hb:=hh.mem.own t b _ ht;have:=Ea (P:=P) (T:=T) (off:=off) (cs:=cs) (vs:=[v]) (LB hs) (by rw [HM h1]) (by simp [h1]) hb ho';refine ⟨_,by simp [execOp,hh.eval hx,hh.eval hy,this];rfl,Ba w b _,?_⟩;rw [rA w b _ _ bt _ hb,←Ru cs off v ho'];simp) h
theorem HN {T:TypeId} {x y:Operand} {b off k:Nat} {cs vs:List Value} {bt:TypeId} (t:Nat) (hs:(P.info? T).map (·.size)=some k)
 (hx:e.ev x=some (.pointer (some ⟨b,off,none⟩))) (hy:e.ev y=some (.agg vs.toArray)) (hk:vs.length=k) (h1:vs.all (·.oneCell')=true) (ht:H.get t=some (some b,.cells cs.toArray bt (0,0))) (ho:Nat.ble (off+vs.length) cs.length=true)
 (h:Wl P ops rest B ⟨e,D,(t,some b,.cells (cs.take off++vs++cs.drop (off+vs.length)).toArray bt (0,0)) :: H,G⟩ K):Wl P ops (⟨none,.store T x y,ty,pos,after,none⟩ :: rest) B ⟨e,D,H,G⟩ K:=
 nV (v:=undef) (x:=.skip) ht (.inl ⟨F9,F9⟩) (fun a w hh=>by
  have ho':=cU ho;have hb:=hh.mem.own t b _ ht;have:=Ea (P:=P) (T:=T) (off:=off) (cs:=cs) (vs:=vs) (v:=.agg vs.toArray) (by rw [hk];exact hs) F9 h1 hb ho';refine ⟨_,by simp [execOp,hh.eval hx,hh.eval hy,this];rfl,Ba w b _,?_⟩;rw [rA w b _ _ bt _ hb,aR]) h
abbrev iM:=@HN
theorem Yc {T:TypeId} {x y:Operand} {b k:Nat} {cs vs:List Value} {bt:TypeId} (t:Nat) (hs:(P.info? T).map (·.size)=some k)
 (hx:e.ev x=some (.pointer (some ⟨b,0,none⟩))) (hy:e.ev y=some (.agg vs.toArray)) (hk:vs.length=k) (h1:vs.all (·.oneCell')=true) (ht:H.get t=some (some b,.cells cs.toArray bt (0,0))) (ho:Nat.beq vs.length cs.length=true)
 (h:Wl P ops rest B ⟨e,D,(t,some b,.cells vs.toArray bt (0,0)) :: H,G⟩ K):Wl P ops (⟨none,.store T x y,ty,pos,after,none⟩ :: rest) B ⟨e,D,H,G⟩ K:=by
 have hl:vs.length=cs.length:=cV ho;refine iM t hs hx hy hk h1 ht (by rw [hl];simp) ?_;rw [bQ,gA,cS,hl,nX,bB];exact h
theorem Wl.box {T:TypeId} {x:Operand} {v:Value} {cs:List Value} (t:Nat) (hn:Nat.ble (d+1) B.n=true) (hx:e.ev x=some v) (hv:v.cells=cs.toArray)
 (h:∀ b,Wl P ops rest B ⟨(d,.pointer (some ⟨b,0,none⟩)) :: e,D,(t,some b,.cells cs.toArray T (0,0)) :: H,G⟩ K) :
 Wl P ops (⟨some d,.box T x,ty,pos,after,none⟩ :: rest) B ⟨e,D,H,G⟩ K:=
 oD (v:=fun b=>.pointer (some ⟨b,0,none⟩)) t hn (fun a w hh=>by simp [execOp,Instr.box,newVar,newRow,hh.eval hx,hv]) h
abbrev oJ:=@Wl.box
def B9 (P:Program) (T:TypeId) (cs:List Value):Prop:=∀ w,∃ z,(zeroValue T).run P w=.ok z w∧z.cells=cs.toArray
theorem B9.of {P:Program} {T:TypeId} {cs:List Value} (h:((P.info? T).bind (·.zero)).map (·.cells)=some cs.toArray):B9 P T cs:=fun w=>by
 cases hi:P.info? T with
 | none=>simp [hi] at h
 | some i =>
   cases hz:i.zero with
   | none=>simp [hi,hz] at h
   | some z=>exact ⟨z,by simp [zeroValue,typeInfo,hi,hz],by simpa [hi,hz] using h⟩
abbrev iL:=@B9.of
theorem Wl.alloc {T:TypeId} {cs:List Value} (t:Nat) (hn:Nat.ble (d+1) B.n=true) (hz:B9 P T cs)
 (h:∀ b,Wl P ops rest B ⟨(d,.pointer (some ⟨b,0,none⟩)) :: e,D,(t,some b,.cells cs.toArray T (0,0)) :: H,G⟩ K) :
 Wl P ops (⟨some d,.alloc T,ty,pos,after,none⟩ :: rest) B ⟨e,D,H,G⟩ K:=
 oD (v:=fun b=>.pointer (some ⟨b,0,none⟩)) t hn (fun a w hh=>by
  obtain ⟨z,hz,hc⟩:=hz w;simp [execOp,Instr.alloc,newVar,newRow,hz,hc]) h
abbrev aM:=@Wl.alloc
end ops
theorem Rv (A B:Hp) (i:Nat):Hp.get (A++B) i=(Hp.get A i).or (Hp.get B i):=by
 induction A with
 | nil=>rfl
 | cons x A ih =>
   obtain ⟨j,v⟩:=x;show Hp.get ((j,v) :: (A++B)) i=_;rw [bC,bC,ih];split <;> rfl
abbrev eR:=@Rv
def Hp.shift (k:Nat):Hp→Hp
 | []=>[]
 | (t,x) :: h=>(k+t,x) :: Hp.shift k h
def Hp.kill (k:Nat):Hp→Hp
 | []=>[]
 | (t,_) :: h=>(k+t,none,default) :: Hp.kill k h
theorem Vb (k:Nat) (h:Hp) (i:Nat):(h.shift k).get i=if k≤i then h.get (i - k) else none:=by
 induction h with
 | nil=>simp [Hp.shift,Hp.get]
 | cons x h ih =>
   obtain ⟨t,x⟩:=x;show Hp.get ((k+t,x) :: Hp.shift k h) i=_;rw [bC,ih,bC];by_cases hi:k≤i
   · rw [aE hi,aE hi];by_cases ht:k+t=i
     · rw [aE ht,aE (by omega)]
     rw [aD ht,aD (by omega)]
   rw [aD hi,aD hi,aD (by omega)]
abbrev eW:=@Vb
theorem Kn {k:Nat} {h:Hp} {i:Nat} {x:Option Nat×Obj} (hx:(h.kill k).get i=some x):x.1=none:=by
 induction h with
 | nil=>simp [Hp.kill,Hp.get] at hx
 | cons y h ih =>
   obtain ⟨t,y⟩:=y;have hx':Hp.get ((k+t,none,default) :: Hp.kill k h) i=some x:=hx;rw [bC] at hx';split at hx'
   · simp only [bY] at hx';rw [←hx']
   exact ih hx'
theorem Ko {k:Nat} {h:Hp} {i:Nat} (hx:(h.kill k).get i=none):∀ t x,h.get t=some x→i≠k+t:=by
 induction h with
 | nil=>intro t x h;simp [Hp.get] at h
 | cons y h ih =>
   obtain ⟨t,y⟩:=y;intro t' x hg he;have hx':Hp.get ((k+t,none,default) :: Hp.kill k h) i=none:=hx;rw [bC] at hx' hg;split at hx'
   · cases hx'
   rename_i hne;split at hg
   · rename_i h2;omega
   exact ih hx' t' x hg he
def B8 (G:A3) (Hi:Hp) (w:World) (post:Value→A3→Hp→Prop):Ending→World→Prop:=fun x w' =>
 ∃ v G' Ho,x=.returned v∧B3 Ho G' w'∧G.le G'∧E2 Hi.has w w'∧(∀ b,G' b≠none→G b=none→w.heap.size≤b∨Hi.has b)∧
  (∀ t b o,Ho.get t=some (some b,o)→w.heap.size≤b∨Hi.has b)∧post v G' Ho
def Does (P:Program) (f:FuncId) (args:List Value) (G:A3) (Hi:Hp) (post:Value→A3→Hp→Prop):Prop:=
 ∀ w,B3 Hi G w→Calls P f args.toArray w (B8 G Hi w post)
theorem Does.mono {P:Program} {f:FuncId} {args:List Value} {G:A3} {Hi:Hp} {post post':Value→A3→Hp→Prop} (h:Does P f args G Hi post)
 (hp:∀ v G' Ho,G.le G'→post v G' Ho→post' v G' Ho):Does P f args G Hi post':=
 fun w hw=>(h w hw).mono fun _ _ ⟨v,G',Ho,h1,h2,h3,h4,h5,h6,h7⟩=>⟨v,G',Ho,h1,h2,h3,h4,h5,h6,hp v G' Ho h3 h7⟩
section
variable {P:Program} {B:Bs} {e:A9} {D:List Deferred} {H:Hp} {G:A3}
theorem A6.called {a:Act} {w w':World} (hh:A6 B ⟨e,D,H,G⟩ a w) {Hi:Hp} (k:Nat) (hHi:∀ t x,Hi.get t=some x→H.get (k+t)=some x)
 {G':A3} {Ho:Hp} (h2:B3 Ho G' w') (h3:G.le G') (h4:E2 Hi.has w w') (h5:∀ b,G' b≠none→G b=none→w.heap.size≤b∨Hi.has b)
 (h6:∀ t b o,Ho.get t=some (some b,o)→w.heap.size≤b∨Hi.has b):A6 B ⟨e,D,Ho.shift k++(Hi.kill k++H),G'⟩ a w':=by
 have hin:∀ b,Hi.has b→∃ t o,H.get (k+t)=some (some b,o)∧Hi.get t=some (some b,o):=fun b ⟨t,o,h⟩=>⟨t,o,hHi t _ h,h⟩
 have hmine:∀ b,Hi.has b→B.W.heap.size≤b∨B.X b:=fun b hb=>by obtain ⟨t,o,h,_⟩:=hin b hb;exact hh.mine _ b o h
 -- what is left of H: its blocks are none of Hi's
 have hleft:∀ i b o,(Hi.kill k++H).get i=some (some b,o)→H.get i=some (some b,o)∧¬Hi.has b:=by
  intro i b o hx;rw [eR] at hx;cases hk:(Hi.kill k).get i with
  | some x =>
    rw [hk] at hx;have h1:=Kn hk;have hx':x=(some b,o):=by simpa using hx
    rw [hx'] at h1;cases h1
  | none =>
    rw [hk] at hx;simp only [iE] at hx;refine ⟨hx,fun hb=>?_⟩;obtain ⟨t,o',h1,h1'⟩:=hin b hb;have:=hh.mem.one _ _ b _ _ hx h1;exact Ko hk t _ h1' this
 have hsplit:∀ i b o,(Ho.shift k++(Hi.kill k++H)).get i=some (some b,o)→(k≤i∧Ho.get (i - k)=some (some b,o))∨(H.get i=some (some b,o)∧¬Hi.has b):=by
  intro i b o hx;rw [eR,eW] at hx;by_cases hi:k≤i
  · rw [aE hi] at hx;cases hg:Ho.get (i - k) with
    | some x=>rw [hg] at hx;exact .inl ⟨hi,by simpa using hx⟩
    | none=>rw [hg] at hx;simp only [iE] at hx;exact .inr (hleft i b o hx)
  rw [aD hi] at hx;simp only [iE] at hx;exact .inr (hleft i b o hx)
 have hfar:∀ t b o i o',Ho.get t=some (some b,o)→H.get i=some (some b,o')→¬Hi.has b→False:=fun t b o i o' h1 h2 h3=>by
  rcases h6 t b o h1 with h | h
  · have:b<w.heap.size:=hh.mem.lt h2;omega
  exact h3 h
 refine ⟨hh.size,hh.defers,hh.env,⟨?_,?_,h2.imm,?_⟩,?_,?_,aO hh.le h3,?_⟩
 · intro i b o hx;rcases hsplit i b o hx with ⟨_,h⟩ | ⟨h,hn⟩
   · exact h2.own _ b o h
   rw [h4.same b (hh.mem.lt h) hn];exact hh.mem.own _ b o h
 · intro i j b o o' hx hy;rcases hsplit i b o hx with ⟨hi,h⟩ | ⟨h,hn⟩ <;> rcases hsplit j b o' hy with ⟨hj,h'⟩ | ⟨h',hn'⟩
   · have:=h2.one _ _ b _ _ h h';omega
   · exact (hfar _ b _ _ _ h h' hn').elim
   · exact (hfar _ b _ _ _ h' h hn).elim
   exact hh.mem.one _ _ b _ _ h h'
 · intro i b o hx;rcases hsplit i b o hx with ⟨_,h⟩ | ⟨h,hn⟩
   · exact h2.off _ b o h
   have hg:G b=none:=hh.mem.off i b o h;cases hb:G' b with
   | none=>exact hb
   | some x =>
     rcases h5 b (by rw [hb];simp) hg with h' | h'
     · have:b<w.heap.size:=hh.mem.lt h;omega
     exact (hn h').elim
 · refine ⟨h4.os.trans hh.upd.os,h4.tape.trans hh.upd.tape,h4.output.trans hh.upd.output,bO hh.upd.size h4.size,fun b hb hx=>?_⟩;by_cases hi:Hi.has b
   · rcases hmine b hi with h' | h'
     · omega
     exact (hx h').elim
   exact (h4.same b (rV hb hh.upd.size) hi).trans (hh.upd.same b hb hx)
 · intro i b o hx;rcases hsplit i b o hx with ⟨_,h⟩ | ⟨h,_⟩
   · rcases h6 _ b o h with h' | h'
     · exact .inl (bO hh.upd.size h')
     exact hmine b h'
   exact hh.mine i b o h
 intro b hb h0;by_cases hg:G b=none
 · rcases h5 b hb hg with h' | h'
   · exact .inl (bO hh.upd.size h')
   exact hmine b h'
 exact hh.new b hg h0
section call
variable {ops:Array Oper} {rest:List Oper} {K:Act→World→Prop} {ty:TypeId} {pos:String} {after:Array Edge} {d:Nat}
theorem Ak {f : FuncId} {fn : Func} (w : World) (args : Array Value) (hf : P.funcs[f]? = some fn) (hb : fn.body.isSome = true) (hn : (fn.name == "runtime.NumGoroutine") = false) :
 (callFunc f args).run P w=.ok (.enter f args) w:=by
 have h1:fn.body≠none:=by intro h;simp [h] at hb
 have h2 : fn.name ≠ "runtime.NumGoroutine" := by simpa using hn
 simp [callFunc,hf,h1,h2]
def tZ (P : Program) (f : FuncId) : Prop := ∃ fn, P.funcs[f]? = some fn ∧ fn.body.isSome = true ∧ (fn.name == "runtime.NumGoroutine") = false
theorem LG {g:Operand} {f:FuncId} {fst cap:List Value} {xs:Array Operand} {ats:Array TypeId} {vs:List Value} {Hi:Hp} {post:Value→A3→Hp→Prop} (k:Nat)
 (hn:Nat.ble (d+1) B.n=true) (hf:tZ P f) (hg:e.ev g=some (.func (.func f) fst.toArray cap.toArray)) (hx:e.evs xs.toList=some vs)
 (hF:Does P f (fst++vs++cap) G Hi post) (hHi:∀ t x,Hi.get t=some x→H.get (k+t)=some x)
 (h:∀ v G' Ho,G.le G'→post v G' Ho→Wl P ops rest B ⟨(d,v) :: e,D,Ho.shift k++(Hi.kill k++H),G'⟩ K) :
 Wl P ops (⟨some d,.call { callee:=.value g,args:=xs,argTypes:=ats },ty,pos,after,none⟩ :: rest) B ⟨e,D,H,G⟩ K:=by
 intro a w hh;obtain ⟨fn,h1,h2,h3⟩:=hf;unfold uD;rw [aE (by simp [Region.wanted])];unfold Dw;have hrun:(execOp a.eval ⟨some d,.call { callee:=.value g,args:=xs,argTypes:=ats },ty,pos,after,none⟩).run P w=.ok (.enter f (fst++vs++cap).toArray) w:=by
  simp [execOp,resolve,Deferred.ofValue,invoke,hh.eval hg,hh.args hx,Ak w _ h1 h2 h3]
 rw [hrun];have hw:B3 Hi G w:=⟨fun t b o x=>hh.mem.own _ b o (hHi _ _ x),fun t t' b o o' x y=>by have:=hh.mem.one _ _ b _ _ (hHi _ _ x) (hHi _ _ y);omega,hh.mem.imm,fun t b o x=>hh.mem.off _ b o (hHi _ _ x)⟩
 refine (hF w hw).mono fun x w' ⟨v,G',Ho,h1,h2,h3,h4,h5,h6,h7⟩=>⟨v,h1,?_⟩
 exact h v G' Ho h3 h7 _ _ ((hh.called k hHi h2 h3 h4 h5 h6).put hn v)
abbrev fA:=@LG
theorem Wl.call {f:FuncId} {xs:Array Operand} {ats:Array TypeId} {vs:List Value} {Hi:Hp} {post:Value→A3→Hp→Prop} (k:Nat)
 (hn:Nat.ble (d+1) B.n=true) (hf:tZ P f) (hx:e.evs xs.toList=some vs)
 (hF:Does P f vs G Hi post) (hHi:∀ t x,Hi.get t=some x→H.get (k+t)=some x)
 (h:∀ v G' Ho,G.le G'→post v G' Ho→Wl P ops rest B ⟨(d,v) :: e,D,Ho.shift k++(Hi.kill k++H),G'⟩ K) :
 Wl P ops (⟨some d,.call { callee:=.value (.func f),args:=xs,argTypes:=ats },ty,pos,after,none⟩ :: rest) B ⟨e,D,H,G⟩ K:=
 fA (fst:=[]) (cap:=[]) k hn hf F9 hx (by simpa using hF) hHi h
abbrev eO:=@Wl.call
theorem LH {f:FuncId} {xs:Array Operand} {ats:Array TypeId} {vs:List Value} {r:Value}
 (hn:Nat.ble (d+1) B.n=true) (hf:tZ P f) (hx:e.evs xs.toList=some vs)
 (hF:Does P f vs G [] (fun v G' Ho=>v=r∧G'=G∧Ho=[]))
 (h:Wl P ops rest B ⟨(d,r) :: e,D,H,G⟩ K) :
 Wl P ops (⟨some d,.call { callee:=.value (.func f),args:=xs,argTypes:=ats },ty,pos,after,none⟩ :: rest) B ⟨e,D,H,G⟩ K:=
 eO 0 hn hf hx hF (fun t x h=>by simp [Hp.get] at h) (fun v G' Ho _ ⟨h1,h2,h3⟩=>by subst h1 h2 h3;exact h)
abbrev mW:=@LH
end call
def yD:Nat→List Value→A9
 | _,[]=>[]
 | i,v :: vs=>(i,v) :: yD (i+1) vs
theorem Eb:∀ (vs:List Value) (i j:Nat) (v:Value),(yD i vs).get j=some v→i≤j∧vs[j - i]?=some v
 | [],i,j,v,h=>by simp [yD,A9.get] at h
 | u :: vs,i,j,v,h=>by
   have h':A9.get ((i,u) :: yD (i+1) vs) j=some v:=h;rw [jP] at h';split at h'
   · rename_i hij;subst hij;simpa using h'
   obtain ⟨h1,h2⟩:=Eb vs (i+1) j v h';refine ⟨by omega,?_⟩;rw [show j - i=(j - (i+1))+1 by omega];simpa using h2
abbrev rK:=@Eb
def CK (P:Program) (fn:Func) (G:A3) (Hi:Hp) (w:World) (post:Value→A3→Hp→Prop):Exit→Act→World→Prop:=bodyPost P fn (B8 G Hi w post)
theorem Does.enter {f:FuncId} {fn:Func} {c:Code} {n:Nat} {args:List Value} {Hi:Hp} {post:Value→A3→Hp→Prop} (hf:P.funcs[f]?=some fn) (hb:fn.body=some c) (hn:fn.ntmps=n)
 (hl:Nat.ble args.length n=true) (h:∀ w,Wc none P c ⟨n,w,Hi.has,G⟩ ⟨yD 0 args,[],Hi,G⟩ (CK P fn G Hi w post)):Does P f args G Hi post:=by
 intro w hw;have hl':=cU hl;refine Ay.1 (callsIn_of_wp (F:=FF none) (n:=0) hf hb H2 (h w _ w ?_));refine ⟨?_,F9,?_,hw,mX _ _,fun t b o hx=>.inr ⟨t,o,hx⟩,bN _,fun b h1 h2=>(h1 h2).elim⟩
 · simp [hn];omega
 intro i v hi;obtain ⟨_,h2⟩:=rK args 0 i v hi;have h2':args[i]?=some v:=by simpa using h2
 have hlt:i<args.length:=(bI.1 h2').1;show (args.toArray++Array.replicate (fn.ntmps - args.toArray.size) undef)[i]?=some v;rw [pI (by simpa using hlt)];simpa using h2'
abbrev gM:=@Does.enter
def D8 (P:Program) (S:St) (x:ResultVar) (v:Value):Prop:=
 (∃ t,x=.tmp t∧S.e.get t=some v)∨
 (∃ t T b tag cs bt fz,x=.cell t T∧S.e.get t=some (.pointer (some ⟨b,0,none⟩))∧S.H.get tag=some (some b,.cells cs bt fz)∧
  ((zC P T cs.size=true∧v=.agg cs)∨(wR P T=true∧cs[0]?=some v)))
theorem D8.tmp {S:St} {t:Nat} {v:Value} (h:S.e.get t=some v):D8 P S (.tmp t) v:=.inl ⟨t,F9,h⟩
theorem D8.agg {S:St} {t T b:Nat} {cs:List Value} {bt:TypeId} {fz:Nat×Nat} (tag:Nat) (h:S.e.get t=some (.pointer (some ⟨b,0,none⟩))) (hH:S.H.get tag=some (some b,.cells cs.toArray bt fz))
 (hT:zC P T cs.length=true):D8 P S (.cell t T) (.agg cs.toArray):=.inr ⟨t,T,b,tag,cs.toArray,bt,fz,F9,h,hH,.inl ⟨by simpa using hT,rfl⟩⟩
theorem D8.one {S:St} {t T b:Nat} {cs:List Value} {bt:TypeId} {fz:Nat×Nat} {v:Value} (tag:Nat) (h:S.e.get t=some (.pointer (some ⟨b,0,none⟩))) (hH:S.H.get tag=some (some b,.cells cs.toArray bt fz))
 (hT:wR P T=true) (hv:cs[0]?=some v):D8 P S (.cell t T) v:=.inr ⟨t,T,b,tag,cs.toArray,bt,fz,F9,h,hH,.inr ⟨hT,by simpa using hv⟩⟩
def Vc (tmps:Array Value):ResultVar→Sem Value:=fun
 | .tmp t=>pure (tmps.getD t undef)
 | .cell a t=>do loadVar t (←asAddr (tmps.getD a undef))
theorem D8.run {S:St} {x:ResultVar} {v:Value} {a:Act} {w:World} (h:D8 P S x v) (hh:A6 B S a w):(Vc a.tmps x).run P w=.ok v w:=by
 rcases h with ⟨t,rfl,ht⟩ | ⟨t,T,b,tag,cs,bt,fz,rfl,ht,hH,hT⟩
 · have:=hh.env t v ht;simp [Vc,this]
 have h1:=hh.env t _ ht;have h2:=hh.mem.own tag b _ hH;simp only [Vc];have h3:a.tmps.getD t undef=.pointer (some ⟨b,0,none⟩):=by simp [h1]
 rw [h3];rcases hT with ⟨hT,rfl⟩ | ⟨hT,hv⟩
 · have hl:=yQ (P:=P) (T:=T) (b:=b) (off:=0) (w:=w) (vs:=cs.toList) hT uE (fun j v hj=>by
    simp only [cS];rw [cell_of_block (cs:=cs.toList) (by simpa using h2)];exact hj)
   simpa [Instr.loadAt,Instr.sureAddr,asAddr] using hl
 have hl:=Az (P:=P) (T:=T) (ad:=⟨b,0,none⟩) (w:=w) (v:=v) hT (by rw [cell_of_block (cs:=cs.toList) (by simpa using h2)];simpa using hv);simpa [Instr.loadAt,Instr.sureAddr,asAddr] using hl
theorem zE (fn:Func) (tmps:Array Value):results fn tmps=(do let vs ←fn.results.mapM (Vc tmps);pure (if h:vs.size=1 then vs[0] else .tuple vs)):=rfl
section ret
variable {fn:Func} {G0:A3} {Hi:Hp} {w0:World} {post:Value→A3→Hp→Prop} {n:Nat} {v:Value} {x:Exit}
theorem Ar.out (hx:x=.normal∨x=.ret) {Ho:Hp} (hHo:H.sub Ho) (hr:∀ a w,A6 ⟨n,w0,Hi.has,G0⟩ ⟨e,[],H,G⟩ a w→(results fn a.tmps).run P w=.ok v w)
 (hp:post v G Ho):Ar (CK P fn G0 Hi w0 post) x ⟨n,w0,Hi.has,G0⟩ ⟨e,[],H,G⟩:=by
 intro a w hh;have hH:=hh.weaken (e':=e) (H':=Ho) (fun _ _ h=>h) (kL hHo);have key:a.defers=[]∧∃ v,(results fn a.tmps).run P w=.ok v w∧B8 G0 Hi w0 post (.returned v) w:=
  ⟨hh.defers,v,hr a w hh,v,G,Ho,F9,hH.mem,hh.le,hh.upd,hh.new,hH.mine,hp⟩
 rcases hx with rfl | rfl <;> exact key
theorem RW (hx:x=.normal∨x=.ret) {Ho:Hp} (hres:fn.results=#[]) (hHo:H.sub Ho) (hp:post (.tuple #[]) G Ho):Ar (CK P fn G0 Hi w0 post) x ⟨n,w0,Hi.has,G0⟩ ⟨e,[],H,G⟩:=
 Ar.out hx hHo (fun a w _=>by simp [zE,hres]) hp
abbrev kH:=@RW
theorem RX (hx:x=.normal∨x=.ret) {Ho:Hp} {r1:ResultVar} {v1:Value} (hres:fn.results=#[r1]) (h1:D8 P ⟨e,[],H,G⟩ r1 v1) (hHo:H.sub Ho) (hp:post v1 G Ho) :
 Ar (CK P fn G0 Hi w0 post) x ⟨n,w0,Hi.has,G0⟩ ⟨e,[],H,G⟩:=
 Ar.out hx hHo (fun a w hh=>by simp [zE,hres,h1.run hh]) hp
abbrev cK:=@RX
theorem RY (hx:x=.normal∨x=.ret) {Ho:Hp} {r1 r2:ResultVar} {v1 v2:Value} (hres:fn.results=#[r1,r2]) (h1:D8 P ⟨e,[],H,G⟩ r1 v1) (h2:D8 P ⟨e,[],H,G⟩ r2 v2) (hHo:H.sub Ho)
 (hp:post (.tuple #[v1,v2]) G Ho):Ar (CK P fn G0 Hi w0 post) x ⟨n,w0,Hi.has,G0⟩ ⟨e,[],H,G⟩:=
 Ar.out hx hHo (fun a w hh=>by simp [zE,hres,h1.run hh,h2.run hh]) hp
abbrev iC:=@RY
theorem Ip (hx:x=.normal∨x=.ret) {Ho:Hp} {r1 r2 r3:ResultVar} {v1 v2 v3:Value} (hres:fn.results=#[r1,r2,r3]) (h1:D8 P ⟨e,[],H,G⟩ r1 v1) (h2:D8 P ⟨e,[],H,G⟩ r2 v2)
 (h3:D8 P ⟨e,[],H,G⟩ r3 v3) (hHo:H.sub Ho) (hp:post (.tuple #[v1,v2,v3]) G Ho):Ar (CK P fn G0 Hi w0 post) x ⟨n,w0,Hi.has,G0⟩ ⟨e,[],H,G⟩:=
 Ar.out hx hHo (fun a w hh=>by simp [zE,hres,h1.run hh,h2.run hh,h3.run hh]) hp
theorem Nk (hx:x=.normal∨x=.ret) {Ho:Hp} {r1 r2 r3 r4:ResultVar} {v1 v2 v3 v4:Value} (hres:fn.results=#[r1,r2,r3,r4]) (h1:D8 P ⟨e,[],H,G⟩ r1 v1) (h2:D8 P ⟨e,[],H,G⟩ r2 v2)
 (h3:D8 P ⟨e,[],H,G⟩ r3 v3) (h4:D8 P ⟨e,[],H,G⟩ r4 v4) (hHo:H.sub Ho) (hp:post (.tuple #[v1,v2,v3,v4]) G Ho):Ar (CK P fn G0 Hi w0 post) x ⟨n,w0,Hi.has,G0⟩ ⟨e,[],H,G⟩:=
 Ar.out hx hHo (fun a w hh=>by simp [zE,hres,h1.run hh,h2.run hh,h3.run hh,h4.run hh]) hp
end ret
def A3.with (G:A3) (b:Nat) (o:Obj):A3:=fun k=>if k=b then some o else G k
theorem A6.freeze {a:Act} {w:World} (hh:A6 B ⟨e,D,H,G⟩ a w) {t b:Nat} {o:Obj} (ht:H.get t=some (some b,o)) :
 A6 B ⟨e,D,(t,none,default) :: H,G.with b o⟩ a w∧G.le (G.with b o):=by
 have hG:G b=none:=hh.mem.off t b o ht;have hle:G.le (G.with b o):=fun k x hk=>by
  unfold A3.with
  split
  · rename_i h;subst h;rw [hG] at hk;cases hk
  exact hk
 have hget:∀ i b' o',Hp.get ((t,none,default) :: H) i=some (some b',o')→t≠i∧H.get i=some (some b',o'):=fun i b' o' hx=>by
  rw [bC] at hx;split at hx
  · simp at hx
  rename_i h;exact ⟨h,hx⟩
 refine ⟨⟨hh.size,hh.defers,hh.env,⟨?_,?_,?_,?_⟩,hh.upd,?_,aO hh.le hle,?_⟩,hle⟩
 · intro i b' o' hx;exact hh.mem.own i b' o' (hget i b' o' hx).2
 · intro i j b' o1 o2 hx hy;exact hh.mem.one i j b' o1 o2 (hget _ _ _ hx).2 (hget _ _ _ hy).2
 · intro k x hk;have hk':(if k=b then some o else G k)=some x:=hk;split at hk'
   · rename_i h;subst h;simp only [bY] at hk';subst hk';exact hh.mem.own t k o ht
   exact hh.mem.imm k x hk'
 · intro i b' o' hx;obtain ⟨hne,hg⟩:=hget i b' o' hx;show (if b'=b then some o else G b')=none;split
   · rename_i h;subst h;exact (hne (hh.mem.one _ _ _ _ _ ht hg)).elim
   exact hh.mem.off i b' o' hg
 · intro i b' o' hx;exact hh.mine i b' o' (hget i b' o' hx).2
 intro k hk h0;have hk':(if k=b then some o else G k)≠none:=hk;split at hk'
 · rename_i h;subst h;exact hh.mine t k o ht
 exact hh.new k hk' h0
section freeze
variable {ops:Array Oper} {l:List Oper} {K:Act→World→Prop} {r:Option Nat} {c:Code} {Q:Exit→Act→World→Prop} {x:Exit}
theorem Wl.freeze (t:Nat) {b:Nat} {o:Obj} (ht:H.get t=some (some b,o)) (h:∀ G',G.le G'→G' b=some o→Wl P ops l B ⟨e,D,(t,none,default) :: H,G'⟩ K):Wl P ops l B ⟨e,D,H,G⟩ K:=
 fun a w hh=>h _ (hh.freeze ht).2 Xw a w (hh.freeze ht).1
abbrev lM:=@Wl.freeze
theorem Wc.freeze (t:Nat) {b:Nat} {o:Obj} (ht:H.get t=some (some b,o)) (h:∀ G',G.le G'→G' b=some o→Wc r P c B ⟨e,D,(t,none,default) :: H,G'⟩ Q):Wc r P c B ⟨e,D,H,G⟩ Q:=
 fun a w hh=>h _ (hh.freeze ht).2 Xw a w (hh.freeze ht).1
theorem Ar.freeze (t:Nat) {b:Nat} {o:Obj} (ht:H.get t=some (some b,o)) (h:∀ G',G.le G'→G' b=some o→Ar Q x B ⟨e,D,(t,none,default) :: H,G'⟩):Ar Q x B ⟨e,D,H,G⟩:=
 fun a w hh=>h _ (hh.freeze ht).2 Xw a w (hh.freeze ht).1
abbrev qG:=@Ar.freeze
end freeze
end
section gm
variable {P:Program} {ops:Array Oper} {K:Act→World→Prop}
def stp (P:Program) (ops:Array Oper) (i:Nat) (K:Act→World→Prop) (a:Act) (w:World):Prop:=
 match ops[i]? with
 | none=>K a w
 | some o=>if Region.wanted o (yielded ops a.tmps) then Dw P o a w K else K (a.put o.dst undef) w
theorem Yd {i:Nat} {a:Act} {w:World} {K K':Act→World→Prop} (h:∀ a w,K a w→K' a w) (hh:stp P ops i K a w):stp P ops i K' a w:=by
 unfold stp at *;split
 · rename_i ho;simp only [ho] at hh;exact h _ _ hh
 rename_i o ho;simp only [ho] at hh;split
 · rename_i hw;simp only [hw,kD] at hh;exact Fj h hh
 rename_i hw;simp only [hw] at hh;exact h _ _ hh
def gm (P:Program) (ops:Array Oper) (K:Act→World→Prop) (C:Array Bool→World→Prop):Nat→Array Bool→Act→World→Prop
 | 0,listed,a,w=>C listed w∧Region.ready .any ops listed=[]∧K a w
 | f+1,listed,a,w=>C listed w∧(Region.ready .any ops listed=[]→K a w)∧
   ∀ i∈Region.ready .any ops listed,stp P ops i (gm P ops K C f (listed.setIfInBounds i true)) a w
theorem HO {i:Nat} {a:Act} {w:World} {K:Act→World→Prop} {Q:Exit→Act→World→Prop} {r:Option Nat} {n:Nat} (hd:ops.toList.all wW=true)
 (h:stp P ops i K a w):wpOpIn (FF r) n P ops Q i K a w:=by
 unfold stp at h;unfold wpOpIn;split
 · rename_i ho;simp only [ho] at h;exact h
 rename_i o ho;simp only [ho] at h;have hdo:wW o=true:=by
  have:=eN.1 hd o (by rw [Array.mem_toList_iff];exact Array.mem_of_getElem? ho);exact this
 split
 · rename_i hw;simp only [hw,kD] at h;exact Oh hdo h
 rename_i hw;simp only [hw] at h;exact ⟨fun _ _=>trivial,h⟩
theorem Ye {Q:Exit→Act→World→Prop} {r:Option Nat} {n:Nat} {C:Array Bool→World→Prop} (hd:ops.toList.all wW=true):∀ (f:Nat) (listed:Array Bool) (a:Act) (w:World),
 gm P ops (Q .normal) C f listed a w→wpAnyIn (FF r) n P .any ops Q f listed a w
 | 0,_,_,_,h=>⟨h.2.1,h.2.2⟩
 | f+1,_,_,_,h=>⟨h.2.1,fun i hi=>HO hd (Yd (fun a w h=>Ye hd f _ a w h) (h.2.2 i hi))⟩
def yl (P:Program) (ops:Array Oper) (o:Oper) (a:Act) (C:World→Prop) (v:Value):Prop:=
 (Region.wanted o (yielded ops a.tmps)=true∧∀ w,C w→(execOp a.eval o).run P w=.ok (.value v) w)∨(Region.wanted o (yielded ops a.tmps)=false∧v=undef)
theorem yl.stp {i:Nat} {o:Oper} {v:Value} {a:Act} {w:World} {C:World→Prop} {K:Act→World→Prop} (hi:ops[i]?=some o) (hy:yl P ops o a C v) (hC:C w) (h:K (a.put o.dst v) w):stp P ops i K a w:=by
 unfold Go.Sl.stp;simp only [hi];rcases hy with ⟨hw,hv⟩ | ⟨hw,rfl⟩
 · simp only [hw,kD,Dw,hv w hC];exact h
 simp only [hw,pH,lF];exact h
theorem RZ {j:Nat} {oi oj:Oper} {v:Value} {C:World→Prop} (hj:ops[j]?=some oj) (hap:oi.apart ops oj=true) (hsi:∀ cs b,oi.op≠.select cs b) (hsj:∀ cs b,oj.op≠.select cs b)
 {K:Act→World→Prop} {a:Act} {w:World} (hy:yl P ops oi a C v) (h:stp P ops j K (a.put oi.dst v) w) :
 stp P ops j (fun a' w'=>yl P ops oi a' C v∧K (a'.put oi.dst v) w') a w:=by
 obtain ⟨h1,h2,h3⟩:=Oper.apart_spec hap;have keep:∀ u,yl P ops oi (a.put oj.dst u) C v:=fun u=>by
  unfold yl at *;rw [execOp_put oi hsi a oj.dst u h3,wanted_put oi a oj.dst u h3];exact hy
 unfold stp at *;simp only [hj] at *;rw [wanted_put oj a oi.dst v h1] at h;split
 · rename_i hw;simp only [hw,kD] at h;unfold Dw at *;rw [execOp_put oj hsj a oi.dst v h1] at h;generalize (execOp a.eval oj).run P w=r at *;cases r with
   | ok x w' =>
     cases x <;> simp only at h ⊢
     case value u=>exact ⟨keep u,by rw [←qS a v u h2];exact h⟩
     case skip=>exact ⟨keep undef,by rw [←qS a v undef h2];exact h⟩
     case enter f args=>exact h.mono fun x w'' ⟨u,hu,hk⟩=>⟨u,hu,keep u,by rw [←qS a v u h2];exact hk⟩
     case round l f tmps assign body=>exact h.mono fun x w'' ⟨u,hu,hk⟩=>⟨u,hu,keep u,by rw [←qS a v u h2];exact hk⟩
   | halt x w'=>exact h
 rename_i hw;simp only [hw] at h;exact ⟨keep undef,by rw [←qS a v undef h2];exact h⟩
theorem LI {i:Nat} {oi:Oper} {v:Value} {C:Array Bool→World→Prop} {Wr:List Nat} {Cq:World→Prop} (hi:ops[i]?=some oi) (hsel:Region.noSelect ops=true)
 (hC:∀ L w,(∀ j∈Wr,L.getD j false=false)→C L w→Cq w) (hset:∀ L w,C (L.setIfInBounds i true) w→C L w)
 (hedge:∀ j∈Wr,∀ oj,ops[j]?=some oj→∃ e∈oj.after,Region.binds .any e=true∧e.on=i) :
 ∀ (f:Nat) (listed:Array Bool) (a:Act) (w:World),
  (∀ j oj,ops[j]?=some oj→j≠i→listed.getD j true=false→(∀ e∈oj.after,Region.binds .any e=true→e.on≠i)→oi.apart ops oj=true)→
  (∀ j∈Wr,listed.getD j false=false)→i∈Region.ready .any ops listed→yl P ops oi a Cq v→
  gm P ops K C f (listed.setIfInBounds i true) (a.put oi.dst v) w→gm P ops K C (f+1) listed a w:=by
 intro f;induction f with
 | zero =>
   intro listed a w _ hWr hr hy H;have hc:=hset _ _ H.1;refine ⟨hc,fun h=>(by rw [h] at hr;cases hr),fun j hj=>?_⟩;by_cases hji:j=i
   · subst hji;exact hy.stp hi (hC _ _ hWr hc) H
   · have:=ready_mono hj hji;rw [H.2.1] at this;cases this
 | succ f ih =>
   intro listed a w hfree hWr hr hy H;have hc:=hset _ _ H.1;refine ⟨hc,fun h=>(by rw [h] at hr;cases hr),fun j hj=>?_⟩;by_cases hji:j=i
   · subst hji;exact hy.stp hi (hC _ _ hWr hc) H
   have h1:=H.2.2 j (ready_mono hj hji);obtain ⟨hjun,oj,hoj,hall⟩:=mem_ready.1 hj;have hnot:∀ e∈oj.after,Region.binds .any e=true→e.on≠i:=fun e he hb heq=>by
    have h1:=hall e he hb;have h0:=(mem_ready.1 hr).1;rw [heq] at h1;rcases aK i listed.size with h' | h'
    · simp [h'] at h0 h1;rw [h0] at h1;cases h1
    simp [nS h'] at h1
   have h2:=RZ hoj (hfree j oj hoj hji hjun hnot) (fun cs b=>Region.noSelect_spec hsel i oi cs b hi) (fun cs b=>Region.noSelect_spec hsel j oj cs b hoj) hy h1;have hfree':∀ k ok,ops[k]?=some ok→k≠i→(listed.setIfInBounds j true).getD k true=false→
    (∀ e∈ok.after,Region.binds .any e=true→e.on≠i)→oi.apart ops ok=true:=fun k ok hk hki hun hno=>by
    refine hfree k ok hk hki ?_ hno;by_cases hjk:j=k
    · subst hjk;exact hjun
    rw [getD_set_ne true hjk] at hun;exact hun
   have hWr':∀ k∈Wr,(listed.setIfInBounds j true).getD k false=false:=fun k hk=>by
    have hjk:j≠k:=fun e=>by
     subst e;obtain ⟨e,he,hb,hon⟩:=hedge j hk oj hoj;exact hnot e he hb hon
    rw [getD_set_ne false hjk];exact hWr k hk
   refine Yd (fun a' w' h3=>?_) h2;obtain ⟨hy',hg⟩:=h3;refine ih (listed.setIfInBounds j true) a' w' hfree' hWr' (ready_mono hr (lT hji)) hy' ?_;rw [Array.setIfInBounds_comm _ _ hji];exact hg
end gm
theorem Gj (p:Nat→Bool):∀ (H:Hp) (t:Nat),Hp.get (H.filter fun x=>p x.1) t=if p t then H.get t else none
 | [],t=>by simp [Hp.get]
 | (i,x) :: H,t=>by
   have ih:=Gj p H t;rw [List.filter_cons];split
   · rename_i hp;show Hp.get ((i,x) :: H.filter fun x=>p x.1) t=_;rw [bC,bC,ih];by_cases h:i=t
     · subst h;simp [show p i=true from hp]
     simp [h]
   rename_i hp;rw [ih,bC];by_cases h:i=t
   · subst h;simp [show ¬p i=true from hp]
   simp [h]
def Hp.live (wr:List (Nat×Nat)) (L:Array Bool) (H:Hp):Hp:=H.filter fun x=>wr.all fun q=>!(Nat.beq q.1 x.1 && L.getD q.2 false)
theorem Mk (wr:List (Nat×Nat)) (L:Array Bool) (H:Hp) (t:Nat):(H.live wr L).get t=if (wr.all fun q=>!(Nat.beq q.1 t && L.getD q.2 false)) then H.get t else none:=
 Gj (fun t=>wr.all fun q=>!(Nat.beq q.1 t && L.getD q.2 false)) H t
def Hp.only (H:Hp):List Nat→Hp
 | []=>[]
 | t :: ts=>match H.get t with | some x=>(t,x) :: Hp.only H ts | none=>Hp.only H ts
theorem Ec (H:Hp):∀ ts,H.sub (H.only ts)
 | []=>trivial
 | t :: ts=>by
   unfold Hp.only;split
   · rename_i x hx;exact ⟨hx,Ec H ts⟩
   exact Ec H ts
abbrev aU:=@Ec
theorem Yf {H:Hp} {ts:List Nat} {p:Nat×Option Nat×Obj} (hp:p∈H.only ts):p.1∈ts:=by
 induction ts with
 | nil=>simp [Hp.only] at hp
 | cons t ts ih =>
   unfold Hp.only at hp;split at hp
   · rcases iU.1 hp with rfl | hp
     · exact bF
     exact bA _ (ih hp)
   exact bA _ (ih hp)
theorem Hp.get_mem:∀ {L:Hp} {i:Nat} {x:Option Nat×Obj},L.get i=some x→(i,x)∈L
 | [],i,x,h=>by simp [Hp.get] at h
 | (j,y) :: L,i,x,h=>by
   rw [bC] at h;split at h
   · rename_i hj;subst hj;cases h;exact bF
   exact bA _ (Hp.get_mem h)
theorem B3.part {H H':Hp} {G G':A3} {w:World} (h:B3 H G w) (hs:∀ t x,H'.get t=some x→H.get t=some x) (hG:G'.le G):B3 H' G' w:=
 ⟨fun t b o x=>h.own t b o (hs _ _ x),fun t t' b o o' x y=>h.one t t' b o o' (hs _ _ x) (hs _ _ y),fun b o x=>h.imm b o (hG b o x),fun t b o x=>by
  have h1:=h.off t b o (hs _ _ x);cases hg:G' b with
  | none=>rfl
  | some y=>rw [hG b y hg] at h1;cases h1⟩
def yR (ops:Array Oper) (listed:Array Bool) (wr:List (Nat×Nat)) (i:Nat) (ts:List Nat):Bool:=
 Region.noSelect ops && ops.toList.all wW && (Region.ready .any ops listed).contains i && Region.free .any ops listed i &&
  wr.all fun q=>!Nat.beq q.2 i && (!(ts.any (Nat.beq q.1)) || (!(listed.getD q.2 false) && (match ops[q.2]? with | some oj=>oj.after.any (fun e=>Region.binds .any e && e.on == i) | none=>true)))
def ZN (wr:List (Nat×Nat)) (H0:Hp) (G0:A3):Array Bool→World→Prop:=fun L w=>B3 (H0.live wr L) G0 w
def Gm (P:Program) (ops:Array Oper) (f:Nat) (listed:Array Bool) (wr:List (Nat×Nat)) (H0:Hp) (G0:A3) (B:Bs) (S:St) (K:Act→World→Prop):Prop:=∀ a w,A6 B S a w→gm P ops K (ZN wr H0 G0) f listed a w
section
variable {P:Program} {ops:Array Oper} {B:Bs} {e:A9} {D:List Deferred} {H H0:Hp} {G G0:A3} {K:Act→World→Prop} {f:Nat} {listed:Array Bool} {wr:List (Nat×Nat)}
 {ty:TypeId} {pos:String} {after:Array Edge} {d:Nat}
theorem SA {r:Option Nat} {id:Nat} {l:List Oper} {Q:Exit→Act→World→Prop} (ts:List Nat) (wr:List (Nat×Nat)) (hm:P.follows .mixedOrders=true) (hd:l.all wW=true)
 (h:Gm P l.toArray l.length (Array.replicate l.length false) wr (H.only ts) G B ⟨e,D,H,G⟩ (Q .normal)):Wc r P (.region id l.toArray true) B ⟨e,D,H,G⟩ Q:=fun a w hh=>by
 have:=Ye (r:=r) (n:=0) (by simpa using hd) _ _ _ _ (h a _ hh.drew);exact wpIn_region_any hm (by simpa using this)
abbrev fL:=@SA
theorem Oj {l:List Oper} {o:Oper} {v:Value} {i:Nat} {ts:List Nat} (hB:yR l.toArray listed wr i ts=true) (ho:l[i]?=some o) {a:Act} {w:World}
 (hy:yl P l.toArray o a (fun w=>B3 (H0.only ts) G0 w) v) (h:gm P l.toArray K (ZN wr H0 G0) f (listed.setIfInBounds i true) (a.put o.dst v) w):gm P l.toArray K (ZN wr H0 G0) (f+1) listed a w:=by
 simp only [yR,aW] at hB;obtain ⟨⟨⟨⟨h1,h2⟩,h3⟩,h4⟩,h5⟩:=hB;have ho':l.toArray[i]?=some o:=by simpa using ho
 have hq:∀ q∈wr,q.2≠i∧(q.1∈ts→listed.getD q.2 false=false∧∀ oj,l.toArray[q.2]?=some oj→∃ e∈oj.after,Region.binds .any e=true∧e.on=i):=fun q hq=>by
  have:=eN.1 h5 q hq;simp only [aW,Bool.or_eq_true,pO] at this;obtain ⟨g1,g2⟩:=this;refine ⟨fun e=>by rw [e] at g1;simp at g1,fun hm=>?_⟩;rcases g2 with g2 | ⟨g2,g3⟩
  · have:(ts.any (Nat.beq q.1))=true:=sT.2 ⟨q.1,hm,by simp⟩;rw [this] at g2;cases g2
  refine ⟨g2,fun oj hoj=>?_⟩;rw [hoj] at g3;obtain ⟨e,he,hb⟩:=Array.any_eq_true'.1 g3;simp only [aW,beq_iff_eq] at hb;exact ⟨e,he,hb⟩
 refine LI (Wr:=(wr.filter fun q=>decide (q.1∈ts)).map (·.2)) (Cq:=fun w=>B3 (H0.only ts) G0 w) ho' h1 ?_ ?_ ?_ f listed a w (Region.free_spec ho' h4) ?_ (by simpa using h3) hy h
 · intro L w hL hc;refine B3.part hc (fun t x hx=>?_) (bN _);have hm:=Yf (Hp.get_mem hx);have hx':=kL (aU H0 ts) t x hx;rw [Mk,aE ?_];exact hx';rw [eN];intro q hqm;by_cases he:q.1=t
   · have hm':q.1∈ts:=by rw [he];exact hm
     have:=hL q.2 (dY.2 ⟨q,List.mem_filter.2 ⟨hqm,by simpa using hm'⟩,rfl⟩);rw [this];simp
   have:Nat.beq q.1 t=false:=by cases hb:Nat.beq q.1 t with | false=>rfl | true=>exact absurd (cV hb) he
   simp [this]
 · intro L w hc;refine B3.part hc (fun t x hx=>?_) (bN _);rw [Mk] at hx ⊢;have e:(wr.all fun q=>!(Nat.beq q.1 t && (L.setIfInBounds i true).getD q.2 false))=(wr.all fun q=>!(Nat.beq q.1 t && L.getD q.2 false)):=by
    rw [qV,eN,eN];constructor
    · intro h q hqm;have h':=h q hqm;rw [getD_set_ne false (lT (hq q hqm).1)] at h';exact h'
    intro h q hqm;rw [getD_set_ne false (lT (hq q hqm).1)];exact h q hqm
   rw [e];exact hx
 · intro j hj oj hoj;obtain ⟨q,hqm,rfl⟩:=dY.1 hj;obtain ⟨hqm,hts⟩:=List.mem_filter.1 hqm;exact ((hq q hqm).2 (by simpa using hts)).2 oj hoj
 intro j hj;obtain ⟨q,hqm,rfl⟩:=dY.1 hj;obtain ⟨hqm,hts⟩:=List.mem_filter.1 hqm;exact ((hq q hqm).2 (by simpa using hts)).1
theorem Gm.q {l:List Oper} {o:Op} {v:Value} (i:Nat) (ts:List Nat) (hB:yR l.toArray listed wr i ts=true) (ho:l[i]?=some ⟨some d,o,ty,pos,after,none⟩) (hn:Nat.ble (d+1) B.n=true)
 (hq:Qy P o ty e (H0.only ts) G0 v) (h:Gm P l.toArray f (listed.setIfInBounds i true) wr H0 G0 B ⟨(d,v) :: e,D,H,G⟩ K):Gm P l.toArray (f+1) listed wr H0 G0 B ⟨e,D,H,G⟩ K:=fun a w hh =>
 Oj hB ho (.inl ⟨by simp [Region.wanted],fun w' hw'=>hq a w' _ _ _ _ ⟨hh.env,hw'⟩⟩) (h _ _ (hh.put hn v))
abbrev fE:=@Gm.q
theorem Ok {j:Nat} {t:Nat} {b:Bool} {a:Act} {w:World} (hh:A6 B ⟨e,D,H,G⟩ a w) (hj:(ops[j]?).bind (·.dst)=some t) (he:e.get t=some (.bool b)):yielded ops a.tmps j=some b:=by
 simp [yielded,hj,hh.env t _ he]
theorem SB {l:List Oper} {o:Op} {v:Value} {j:Nat} {want:Bool} {t:Nat} (i:Nat) (ts:List Nat) (hB:yR l.toArray listed wr i ts=true) (ho:l[i]?=some ⟨some d,o,ty,pos,after,some (j,want)⟩)
 (hj:(l[j]?).bind (·.dst)=some t) (he:e.get t=some (.bool want)) (hn:Nat.ble (d+1) B.n=true)
 (hq:Qy P o ty e (H0.only ts) G0 v) (h:Gm P l.toArray f (listed.setIfInBounds i true) wr H0 G0 B ⟨(d,v) :: e,D,H,G⟩ K):Gm P l.toArray (f+1) listed wr H0 G0 B ⟨e,D,H,G⟩ K:=fun a w hh =>
 Oj hB ho (.inl ⟨by simp [Region.wanted,Ok hh (ops:=l.toArray) (by simpa using hj) he],fun w' hw'=>hq a w' _ _ _ _ ⟨hh.env,hw'⟩⟩) (h _ _ (hh.put hn v))
abbrev gX:=@SB
theorem XB {l:List Oper} {o:Op} {j:Nat} {want:Bool} {t:Nat} (i:Nat) (hB:yR l.toArray listed wr i []=true) (ho:l[i]?=some ⟨some d,o,ty,pos,after,some (j,want)⟩)
 (hj:(l[j]?).bind (·.dst)=some t) (he:e.get t=some (.bool (!want))) (hn:Nat.ble (d+1) B.n=true)
 (h:Gm P l.toArray f (listed.setIfInBounds i true) wr H0 G0 B ⟨(d,undef) :: e,D,H,G⟩ K):Gm P l.toArray (f+1) listed wr H0 G0 B ⟨e,D,H,G⟩ K:=fun a w hh =>
 Oj hB ho (.inr ⟨by simp [Region.wanted,Ok hh (ops:=l.toArray) (by simpa using hj) he],rfl⟩) (h _ _ (hh.put hn undef))
abbrev rX:=@XB
def Ed (P:Program) (ops:Array Oper) (f:Nat) (listed:Array Bool) (wr:List (Nat×Nat)) (H0:Hp) (G0:A3) (K:Act→World→Prop) (a:Act) (w:World):Prop:=gm P ops K (ZN wr H0 G0) f listed a w
theorem A6.cst (hH:H.sub (H0.live wr listed)) (hG:G0.le G) {a:Act} {w:World} (hh:A6 B ⟨e,D,H,G⟩ a w):ZN wr H0 G0 listed w:=hh.mem.part (kL hH) hG
theorem Gm.any (hH:H.sub (H0.live wr listed)) (hG:G0.le G) (l:List Nat) (hr:Region.ready .any ops listed=l) (hne:l.isEmpty=false)
 (h:∀ i∈l,∀ o,ops[i]?=some o→Wl P ops [o] B ⟨e,D,H,G⟩ (Ed P ops f (listed.setIfInBounds i true) wr H0 G0 K)):Gm P ops (f+1) listed wr H0 G0 B ⟨e,D,H,G⟩ K:=fun a w hh=>by
 refine ⟨hh.cst hH hG,fun h=>?_,fun i hi=>?_⟩
 · rw [hr] at h;subst h;simp at hne
 rw [hr] at hi;obtain ⟨_,o,ho,_⟩:=mem_ready.1 (show i∈Region.ready .any ops listed by rw [hr];exact hi);have h1:=h i hi o ho a w hh;unfold stp;simp only [ho];unfold uD at h1;split
 · rename_i hw;rw [aE hw] at h1;exact h1
 rename_i hw;rw [aD hw] at h1;exact h1
theorem Gm.one {l:List Oper} {o:Oper} (i:Nat) (hH:H.sub (H0.live wr listed)) (hG:G0.le G) (hr:Region.ready .any l.toArray listed=[i]) (ho:l[i]?=some o)
 (h:Wl P l.toArray [o] B ⟨e,D,H,G⟩ (Ed P l.toArray f (listed.setIfInBounds i true) wr H0 G0 K)):Gm P l.toArray (f+1) listed wr H0 G0 B ⟨e,D,H,G⟩ K:=
 Gm.any hH hG [i] hr F9 fun j hj o' ho'=>by
  simp only [eM] at hj;subst hj;have:l[j]?=some o':=by simpa using ho'
  rw [ho] at this;cases this;exact h
abbrev jK:=@Gm.one
theorem Gm.two {l:List Oper} {o1 o2:Oper} (i j:Nat) (hH:H.sub (H0.live wr listed)) (hG:G0.le G) (hr:Region.ready .any l.toArray listed=[i,j]) (h1:l[i]?=some o1) (h2:l[j]?=some o2)
 (g1:Wl P l.toArray [o1] B ⟨e,D,H,G⟩ (Ed P l.toArray f (listed.setIfInBounds i true) wr H0 G0 K)) (g2:Wl P l.toArray [o2] B ⟨e,D,H,G⟩ (Ed P l.toArray f (listed.setIfInBounds j true) wr H0 G0 K)) :
 Gm P l.toArray (f+1) listed wr H0 G0 B ⟨e,D,H,G⟩ K:=
 Gm.any hH hG [i,j] hr F9 fun k hk o' ho'=>by
  have ho:l[k]?=some o':=by simpa using ho'
  simp only [iU,sQ,or_false] at hk;rcases hk with rfl | rfl
  · rw [h1] at ho;cases ho;exact g1
  rw [h2] at ho;cases ho;exact g2
theorem LJ {l:List Oper} {o1 o2 o3:Oper} (i j k:Nat) (hH:H.sub (H0.live wr listed)) (hG:G0.le G) (hr:Region.ready .any l.toArray listed=[i,j,k]) (h1:l[i]?=some o1) (h2:l[j]?=some o2) (h3:l[k]?=some o3)
 (g1:Wl P l.toArray [o1] B ⟨e,D,H,G⟩ (Ed P l.toArray f (listed.setIfInBounds i true) wr H0 G0 K)) (g2:Wl P l.toArray [o2] B ⟨e,D,H,G⟩ (Ed P l.toArray f (listed.setIfInBounds j true) wr H0 G0 K))
 (g3:Wl P l.toArray [o3] B ⟨e,D,H,G⟩ (Ed P l.toArray f (listed.setIfInBounds k true) wr H0 G0 K)) :
 Gm P l.toArray (f+1) listed wr H0 G0 B ⟨e,D,H,G⟩ K:=
 Gm.any hH hG [i,j,k] hr F9 fun m hk o' ho'=>by
  have ho:l[m]?=some o':=by simpa using ho'
  simp only [iU,sQ,or_false] at hk;rcases hk with rfl | rfl | rfl
  · rw [h1] at ho;cases ho;exact g1
  · rw [h2] at ho;cases ho;exact g2
  rw [h3] at ho;cases ho;exact g3
theorem XC (h:Gm P ops f listed wr H0 G0 B ⟨e,D,H,G⟩ K):Wl P ops [] B ⟨e,D,H,G⟩ (Ed P ops f listed wr H0 G0 K):=h
abbrev aT:=@XC
theorem LK {Q:Exit→Act→World→Prop} {x:Exit} (hr:Region.ready .any ops listed=[]) (hH:H.sub (H0.live wr listed)) (hG:G0.le G) (h:Ar Q x B ⟨e,D,H,G⟩):Gm P ops 0 listed wr H0 G0 B ⟨e,D,H,G⟩ (Q x):=
 fun a w hh=>⟨hh.cst hH hG,hr,h a w hh⟩
abbrev iF:=@LK
end
class A2 (α:Type) where
 sz:Nat
 enc:α→List Value
 len:∀ x,(enc x).length=sz
 one:∀ x,(enc x).all (·.oneCell')=true
instance:A2 Int:=⟨1,fun n=>[.int .i64 n],fun _=>rfl,fun _=>rfl⟩
instance:A2 Bool:=⟨1,fun b=>[.bool b],fun _=>rfl,fun _=>rfl⟩
structure A5 where
 v:Int
 deriving DecidableEq
instance:Inhabited A5:=⟨⟨0⟩⟩
instance:A2 A5:=⟨1,fun n=>[.int .u32 n.v],fun _=>rfl,fun _=>rfl⟩
structure Instr where
 op:Int
 to:Int
 a:Int
 b:Int
 c:Int
 deriving DecidableEq
instance:Inhabited Instr:=⟨⟨0,0,0,0,0⟩⟩
instance:A2 Instr:=⟨5,fun i=>[.int .i64 i.op,.int .i64 i.to,.int .i64 i.a,.int .i64 i.b,.int .i64 i.c],fun _=>rfl,fun _=>rfl⟩
def tV {α:Type} [A2 α] (xs:List α):List Value:=xs.flatMap A2.enc
section
variable {α:Type} [A2 α]
theorem xA (x:α) (xs:List α):tV (x :: xs)=A2.enc x++tV xs:=rfl
theorem wM (xs ys:List α):tV (xs++ys)=tV xs++tV ys:=by simp [tV]
theorem tP (xs:List α):(tV xs).length=xs.length*A2.sz α:=by
 induction xs with
 | nil=>simp [tV]
 | cons x xs ih=>rw [xA,aB,ih,A2.len,aY,iY];omega
theorem Ee [Inhabited α]:∀ (xs:List α) (i k:Nat),i<xs.length→k<A2.sz α→(tV xs)[i*A2.sz α+k]?=(A2.enc (xs[i]?.getD default))[k]?
 | [],i,k,h,_=>by simp at h
 | x :: xs,0,k,_,hk=>by
   rw [xA,sB,cS,bJ (by rw [A2.len];exact hk)];rfl
 | x :: xs,i+1,k,h,hk=>by
   rw [xA,cL (by rw [A2.len,iY];omega),A2.len,show (i+1)*A2.sz α+k - A2.sz α=i*A2.sz α+k by rw [iY];omega,
    Ee xs i k (by simpa using h) hk]
   rfl
theorem Yg (xs:List α):(tV xs).all (·.oneCell')=true:=by
 induction xs with
 | nil=>rfl
 | cons x xs ih=>rw [xA,List.all_append,A2.one,ih];rfl
def Arr (G:A3) (a:Option Addr) (xs:List α):Prop:=F5 G a xs.length (A2.sz α) (tV xs)
variable {G G':A3} {a:Option Addr} {xs:List α}
theorem Arr.up (h:Arr G a xs) (hl:G.le G'):Arr G' a xs:=F5.le hl h
theorem Arr.nil (G:A3):Arr G none ([]:List α):=⟨by simp [tV],.inl F9⟩
abbrev kG:=@Arr.nil
theorem Arr.cellK [Inhabited α] (h:Arr G a xs) {m:Int} (hm:0≤m∧m<xs.length) (k:Nat) (hk:k<A2.sz α) :
 G.cell (ab a) (ao a+m.toNat*A2.sz α+k)=(A2.enc (xs[m.toNat]?.getD default))[k]?:=by
 have hlt:m.toNat<xs.length:=sW;have hr:=F5.row h sW;have hg:=Ee xs m.toNat k hlt hk;have hl:k<(A2.enc (xs[m.toNat]?.getD default)).length:=by rw [A2.len];exact hk
 rw [aA hl] at hg ⊢;rw [pT];exact hr _ _ hg
theorem Arr.cell [Inhabited α] (h:Arr G a xs) {m:Int} (hm:0≤m∧m<xs.length) (k:Nat) (hk:Nat.ble (k+1) (A2.sz α)=true) {v:Value} (hv:(A2.enc (xs[m.toNat]?.getD default))[k]?=some v) :
 G.cell (ab a) (ao a+m.toNat*A2.sz α+k)=some v:=(h.cellK hm k (cU hk)).trans hv
abbrev gI:=@Arr.cell
theorem Arr.elem [Inhabited α] (h:Arr G a xs) {m:Int} (hm:0≤m∧m<xs.length):G.row (ab a) (ao a+m.toNat*A2.sz α) (A2.enc (xs[m.toNat]?.getD default)):=fun i v hi=>by
 have hl:i<A2.sz α:=by rw [←A2.len (xs[m.toNat]?.getD default)];exact (bI.1 hi).1
 exact (h.cellK hm i hl).trans hi
abbrev lJ:=@Arr.elem
theorem Qy.at {P:Program} {e:A9} {H:Hp} {ty:TypeId} {T:TypeId} {x i:Operand} {c:Nat} {k:IntKind} {m:Int} {E:Nat} (hT:tN P T E (A2.sz α)) (hx:e.ev x=some (.slice a xs.length c))
 (hi:e.ev i=some (.int k m)) (hs:Arr G a xs) (hb:0≤m∧m<xs.length):Qy P (.indexAddr T x i) ty e H G (.pointer (some ⟨ab a,ao a+m.toNat*A2.sz α,none⟩)):=
 Rt hT hx hi hs hb
abbrev iQ:=@Qy.at
end
section
variable {P:Program} {ops:Array Oper} {l:List Oper} {B:Bs} {e:A9} {D:List Deferred} {H H0:Hp} {G:A3} {K:Act→World→Prop} {r:Option Nat} {c:Code} {Q:Exit→Act→World→Prop}
 {f:Nat} {listed:Array Bool} {wr:List (Nat×Nat)} {G0:A3} {d:Nat}
theorem A6.re {a:Act} {w:World} (hh:A6 B ⟨e,D,H,G⟩ a w) {t:Nat} {v v':Value} (he:e.get t=some v) (hv:v=v'):A6 B ⟨(t,v') :: e,D,H,G⟩ a w:=by
 subst hv;refine ⟨hh.size,hh.defers,fun i u hu=>?_,hh.mem,hh.upd,hh.mine,hh.le,hh.new⟩;rw [jP] at hu;split at hu
 · rename_i h;subst h;cases hu;exact hh.env _ _ he
 exact hh.env i u hu
theorem Wl.re (t:Nat) {v v':Value} (he:e.get t=some v) (hv:v=v') (h:Wl P ops l B ⟨(t,v') :: e,D,H,G⟩ K):Wl P ops l B ⟨e,D,H,G⟩ K:=fun a w hh=>h a w (hh.re he hv)
abbrev fR:=@Wl.re
theorem Wc.re (t:Nat) {v v':Value} (he:e.get t=some v) (hv:v=v') (h:Wc r P c B ⟨(t,v') :: e,D,H,G⟩ Q):Wc r P c B ⟨e,D,H,G⟩ Q:=fun a w hh=>h a w (hh.re he hv)
abbrev iP:=@Wc.re
theorem Gm.re (t:Nat) {v v':Value} (he:e.get t=some v) (hv:v=v') (h:Gm P ops f listed wr H0 G0 B ⟨(t,v') :: e,D,H,G⟩ K):Gm P ops f listed wr H0 G0 B ⟨e,D,H,G⟩ K:=fun a w hh=>h a w (hh.re he hv)
theorem Ar.re {x:Exit} (t:Nat) {v v':Value} (he:e.get t=some v) (hv:v=v') (h:Ar Q x B ⟨(t,v') :: e,D,H,G⟩):Ar Q x B ⟨e,D,H,G⟩:=fun a w hh=>h a w (hh.re he hv)
abbrev cE:=@Ar.re
section dec
variable {p:Prop} [Decidable p]
theorem XD (t:Nat) (he:e.get t=some (.bool (decide p))) (hp:p) (h:Wl P ops l B ⟨(t,.bool true) :: e,D,H,G⟩ K):Wl P ops l B ⟨e,D,H,G⟩ K:=fR t he Mi h
abbrev kP:=@XD
theorem Wl.no (t:Nat) (he:e.get t=some (.bool (decide p))) (hp:¬p) (h:Wl P ops l B ⟨(t,.bool false) :: e,D,H,G⟩ K):Wl P ops l B ⟨e,D,H,G⟩ K:=fR t he Mi h
abbrev oZ:=@Wl.no
theorem XE (t:Nat) (he:e.get t=some (.bool (decide p))) (hp:p) (h:Gm P ops f listed wr H0 G0 B ⟨(t,.bool true) :: e,D,H,G⟩ K):Gm P ops f listed wr H0 G0 B ⟨e,D,H,G⟩ K:=Gm.re t he Mi h
abbrev qQ:=@XE
theorem Gm.no (t:Nat) (he:e.get t=some (.bool (decide p))) (hp:¬p) (h:Gm P ops f listed wr H0 G0 B ⟨(t,.bool false) :: e,D,H,G⟩ K):Gm P ops f listed wr H0 G0 B ⟨e,D,H,G⟩ K:=Gm.re t he Mi h
theorem Gm.cases (t:Nat) (he:e.get t=some (.bool (decide p))) (ht:p→Gm P ops f listed wr H0 G0 B ⟨(t,.bool true) :: e,D,H,G⟩ K) (hf:¬p→Gm P ops f listed wr H0 G0 B ⟨(t,.bool false) :: e,D,H,G⟩ K) :
 Gm P ops f listed wr H0 G0 B ⟨e,D,H,G⟩ K:=by
 by_cases hp:p
 · exact qQ t he hp (ht hp)
 exact Gm.no t he hp (hf hp)
theorem LL {c:Operand} {x y:Code} {S:St} (hc:S.e.ev c=some (.bool (decide p))) (hp:p) (ht:Wc r P x B S Q):Wc r P (.cond c x y) B S Q:=oB hc (fun _=>ht) (fun h=>(h hp).elim)
abbrev rB:=@LL
theorem LM {c:Operand} {x y:Code} {S:St} (hc:S.e.ev c=some (.bool (decide p))) (hp:¬p) (hf:Wc r P y B S Q):Wc r P (.cond c x y) B S Q:=oB hc (fun h=>(hp h).elim) (fun _=>hf)
abbrev oE:=@LM
end dec
theorem Sq (t:Nat) {b:Bool} (he:e.get t=some (.bool b)) (ht:b=true→Wl P ops l B ⟨(t,.bool true) :: e,D,H,G⟩ K) (hf:b=false→Wl P ops l B ⟨(t,.bool false) :: e,D,H,G⟩ K):Wl P ops l B ⟨e,D,H,G⟩ K:=by
 cases b
 · exact fR t he F9 (hf F9)
 exact fR t he F9 (ht F9)
theorem HP (t:Nat) {b:Bool} (he:e.get t=some (.bool b)) (ht:b=true→Gm P ops f listed wr H0 G0 B ⟨(t,.bool true) :: e,D,H,G⟩ K) (hf:b=false→Gm P ops f listed wr H0 G0 B ⟨(t,.bool false) :: e,D,H,G⟩ K) :
 Gm P ops f listed wr H0 G0 B ⟨e,D,H,G⟩ K:=by
 cases b
 · exact Gm.re t he F9 (hf F9)
 exact Gm.re t he F9 (ht F9)
def A9.hasKey:A9→Nat→Bool
 | [],_=>false
 | (i,_) :: e,j=>bif Nat.beq i j then true else A9.hasKey e j
def A9.fresh (e:A9):A9→Bool
 | []=>true
 | (i,_) :: l=>(bif e.hasKey i then false else true) && A9.fresh e l
def Hp.hasKey:Hp→Nat→Bool
 | [],_=>false
 | (i,_) :: e,j=>bif Nat.beq i j then true else Hp.hasKey e j
def Hp.fresh (e:Hp):Hp→Bool
 | []=>true
 | (i,_) :: l=>(bif e.hasKey i then false else true) && Hp.fresh e l
theorem Ef:∀ {e:A9} {i:Nat} {v:Value},e.get i=some v→e.hasKey i=true
 | [],i,v,h=>by simp [A9.get] at h
 | (j,u) :: e,i,v,h=>by
   show (bif Nat.beq j i then true else A9.hasKey e i)=true;rw [jP] at h;split at h
   · rename_i hj;subst hj;simp
   rw [Ef h];cases Nat.beq j i <;> rfl
theorem Gk:∀ {e:Hp} {i:Nat} {v:Option Nat×Obj},e.get i=some v→e.hasKey i=true
 | [],i,v,h=>by simp [Hp.get] at h
 | (j,u) :: e,i,v,h=>by
   show (bif Nat.beq j i then true else Hp.hasKey e i)=true;rw [bC] at h;split at h
   · rename_i hj;subst hj;simp
   rw [Gk h];cases Nat.beq j i <;> rfl
theorem Gl {e:A9} {i:Nat} {v:Value} (h:e.get i=some v):∀ {l:A9},e.fresh l=true→A9.get (l++e) i=some v
 | [],_=>h
 | (j,u) :: l,hf=>by
   have hf':((bif e.hasKey j then false else true) && A9.fresh e l)=true:=hf;simp only [aW] at hf';show A9.get ((j,u) :: (l++e)) i=some v;rw [jP];split
   · rename_i hj;subst hj;rw [Ef h] at hf';simp at hf'
   exact Gl h hf'.2
theorem Iq {e:Hp} {i:Nat} {v:Option Nat×Obj} (h:e.get i=some v):∀ {l:Hp},e.fresh l=true→Hp.get (l++e) i=some v
 | [],_=>h
 | (j,u) :: l,hf=>by
   have hf':((bif e.hasKey j then false else true) && Hp.fresh e l)=true:=hf;simp only [aW] at hf';show Hp.get ((j,u) :: (l++e)) i=some v;rw [bC];split
   · rename_i hj;subst hj;rw [Gk h] at hf';simp at hf'
   exact Iq h hf'.2
theorem A6.back {a:Act} {w:World} {e0:A9} {H0:Hp} (n m:Nat) (hh:A6 B ⟨e,D,H,G⟩ a w) (he:e.drop n=e0) (hf:e0.fresh (e.take n)=true) (hH:H.drop m=H0) (hg:H0.fresh (H.take m)=true) {v:Value} (hv:e.get d=some v) :
 A6 B ⟨(d,v) :: e0,D,H0,G⟩ a w:=by
 refine (hh.re hv F9).weaken (fun i u hu=>?_) fun t x hx=>?_
 · rw [jP] at hu ⊢;split <;> rename_i h
   · rw [aE h] at hu;exact hu
   rw [aD h] at hu;have:=Gl hu hf;rw [←he,fU] at this;exact this
 have:=Iq hx hg;rw [←hH,fU] at this;exact this
theorem Wl.back {e0:A9} {H0:Hp} (n m:Nat) (he:e.drop n=e0) (hf:e0.fresh (e.take n)=true) (hH:H.drop m=H0) (hg:H0.fresh (H.take m)=true) {v:Value} (hv:e.get d=some v) :
 Wl P ops [] B ⟨e,D,H,G⟩ (A6 B ⟨(d,v) :: e0,D,H0,G⟩):=fun a w hh=>hh.back n m he hf hH hg hv
abbrev jB:=@Wl.back
theorem A6.swap {a:Act} {w:World} {t:Nat} {u u' v:Value} (hh:A6 B ⟨(d,v) :: (t,u') :: e,D,H,G⟩ a w) (he:e.get t=some u) (hu:u=u'):A6 B ⟨(d,v) :: e,D,H,G⟩ a w:=by
 subst hu;refine hh.weaken (fun i x hx=>?_) (fun _ _ h=>h);rw [jP] at hx ⊢;split <;> rename_i h
 · rw [aE h] at hx;exact hx
 rw [aD h] at hx;rw [jP];split
 · rename_i h2;subst h2;rw [←hx,he]
 exact hx
theorem Wl.cut (k:Nat) {K1:Act→World→Prop} {S S1:St} (h1:Wl P ops (l.take k) B S K1) (h2:∀ a w,K1 a w→A6 B S1 a w) (h3:Wl P ops (l.drop k) B S1 K):Wl P ops l B S K:=by
 intro a w hh;have:=Dd (P:=P) (ops:=ops) (K:=K) (l.take k) (l.drop k) a w;rw [fU] at this;refine this ?_;have h0:=h1 a w hh;exact Hf (fun a w hk=>h3 a w (h2 a w hk)) _ _ _ h0
theorem CL {p q:Prop} [ip:Decidable p] {iq:Decidable q} (k t d:Nat) (he:e.get t=some (.bool (decide p)))
 (h1:p→Wl P ops (l.take k) B ⟨(t,.bool true) :: e,D,H,G⟩ (A6 B ⟨(d,.bool (decide q)) :: (t,.bool true) :: e,D,H,G⟩))
 (h2:¬p→Wl P ops (l.take k) B ⟨(t,.bool false) :: e,D,H,G⟩ (A6 B ⟨(d,.bool false) :: (t,.bool false) :: e,D,H,G⟩))
 (h3:Wl P ops (l.drop k) B ⟨(d,.bool (decide (p∧q))) :: e,D,H,G⟩ K):Wl P ops l B ⟨e,D,H,G⟩ K:=by
 by_cases hp:p
 · refine kP t he hp (Wl.cut k (h1 hp) (fun a w hh=>?_) h3);have:=hh.swap he Mi;simpa [hp] using this
 refine oZ t he hp (Wl.cut k (h2 hp) (fun a w hh=>?_) h3);have:=hh.swap he Mi;simpa [hp] using this
abbrev bW:=@CL
theorem HQ {p q:Prop} [ip:Decidable p] {iq:Decidable q} (k t d:Nat) (he:e.get t=some (.bool (decide p)))
 (h1:¬p→Wl P ops (l.take k) B ⟨(t,.bool false) :: e,D,H,G⟩ (A6 B ⟨(d,.bool (decide q)) :: (t,.bool false) :: e,D,H,G⟩))
 (h2:p→Wl P ops (l.take k) B ⟨(t,.bool true) :: e,D,H,G⟩ (A6 B ⟨(d,.bool true) :: (t,.bool true) :: e,D,H,G⟩))
 (h3:Wl P ops (l.drop k) B ⟨(d,.bool (decide (p∨q))) :: e,D,H,G⟩ K):Wl P ops l B ⟨e,D,H,G⟩ K:=by
 by_cases hp:p
 · refine kP t he hp (Wl.cut k (h2 hp) (fun a w hh=>?_) h3);have:=hh.swap he Mi;simpa [hp] using this
 refine oZ t he hp (Wl.cut k (h1 hp) (fun a w hh=>?_) h3);have:=hh.swap he Mi;simpa [hp] using this
abbrev dZ:=@HQ
end
def B6 (P:Program) (E sz bytes:Nat) (zs:List Value):Prop:=∃ i z,P.info? E=some i∧i.zero=some z∧z.cells=zs.toArray∧i.size=sz∧i.bytes=bytes∧zs.length=sz∧0<sz
theorem B6.of {P:Program} {E sz bytes:Nat} {zs:List Value} (h:(P.info? E).map (fun i=>(i.zero.map (·.cells),i.size,i.bytes))=some (some zs.toArray,sz,bytes)) (h1:(Nat.beq zs.length sz && Nat.ble 1 sz)=true):B6 P E sz bytes zs:=by
 simp only [aW] at h1;cases hi:P.info? E with
 | none=>simp [hi] at h
 | some i =>
   simp only [hi,fZ,bY,fC] at h;obtain ⟨h2,h3,h4⟩:=h;cases hz:i.zero with
   | none=>simp [hz] at h2
   | some z=>exact ⟨i,z,hi,hz,by simpa [hz] using h2,h3,h4,cV h1.1,cU h1.2⟩
abbrev jI:=@B6.of
def Row {α:Type} [A2 α] (E:TypeId) (xs:List α) (junk:List Value):Obj:=.cells (tV xs++junk).toArray E (0,0)
def A4 {α:Type} [A2 α] (a:Option Addr) (c:Nat) (xs:List α) (junk:List Value):Prop:=
 (a=none∧xs=[]∧junk=[]∧c=0)∨(∃ b,a=some ⟨b,0,none⟩∧xs.length*A2.sz α+junk.length=c*A2.sz α∧xs.length≤c∧c≤maxLen)
theorem A4.nil {α:Type} [A2 α]:A4 none 0 ([]:List α) []:=.inl ⟨F9,F9,F9,F9⟩
abbrev eG:=@A4.nil
section zero
variable {α:Type} [A2 α] [Inhabited α]
theorem HR {zs:List Value} (hz:A2.enc (default:α)=zs) (h0:0<A2.sz α) (n:Nat):madeCells zs.toArray (n*A2.sz α)=(tV (List.replicate n (default:α))).toArray:=by
 have hzl:zs.length=A2.sz α:=by rw [←hz,A2.len]
 apply Array.ext';apply hS;intro q;by_cases hq:q<n*A2.sz α
 · have h1:q=(q / A2.sz α)*A2.sz α+q % A2.sz α:=by rw [Nat.mul_comm];exact (oL q _).symm
   have h2:q % A2.sz α<A2.sz α:=Nat.mod_lt _ h0;have h3:q / A2.sz α<n:=(Nat.div_lt_iff_lt_mul h0).2 hq;have h4:=Ee (List.replicate n (default:α)) (q / A2.sz α) (q % A2.sz α) (by simpa using h3) h2;rw [←h1] at h4;rw [h4];have h5:((List.replicate n (default:α))[q / A2.sz α]?).getD default=default:=by simp [h3]
   rw [h5,hz];simp only [madeCells,sV,Array.toList_range,bK,fB hq,fZ];have h6:q % zs.toArray.size<zs.length:=by simp [hzl];exact h2
   have h7:zs.toArray[q % zs.toArray.size]! = zs[q % zs.length]'(by simpa using h6):=by
    simp only [pN] at h6 ⊢;rw [getElem!_pos zs.toArray _ (by simpa using h6)];simp
   rw [h7,aA (by rw [hzl];exact h2)];congr 1;simp only [hzl]
 rw [cA (by simp [madeCells];omega),cA (by simp [tP];omega)]
end zero
section
variable {P:Program} {ops:Array Oper} {rest:List Oper} {B:Bs} {e:A9} {D:List Deferred} {H:Hp} {G:A3} {K:Act→World→Prop}
 {ty:TypeId} {pos:String} {after:Array Edge} {d:Nat}
theorem A6.reH {a:Act} {w:World} (hh:A6 B ⟨e,D,H,G⟩ a w) {t:Nat} {k:Option Nat} {o o':Obj} (ht:H.get t=some (k,o)) (ho:o=o'):A6 B ⟨e,D,(t,k,o') :: H,G⟩ a w:=by
 subst ho;have key:∀ i x,Hp.get ((t,k,o) :: H) i=some x→H.get i=some x:=fun i x hx=>by
  rw [bC] at hx;split at hx
  · rename_i h;subst h;rw [←hx];exact ht
  exact hx
 exact hh.weaken (fun _ _ h=>h) key
theorem Wl.reH {l:List Oper} (t:Nat) {k:Option Nat} {o:Obj} (o':Obj) (ht:H.get t=some (k,o)) (ho:o=o') (h:Wl P ops l B ⟨e,D,(t,k,o') :: H,G⟩ K):Wl P ops l B ⟨e,D,H,G⟩ K:=fun a w hh=>h a w (hh.reH ht ho)
abbrev oY:=@Wl.reH
theorem Wc.reH {r:Option Nat} {c:Code} {Q:Exit→Act→World→Prop} (t:Nat) {k:Option Nat} {o:Obj} (o':Obj) (ht:H.get t=some (k,o)) (ho:o=o') (h:Wc r P c B ⟨e,D,(t,k,o') :: H,G⟩ Q):Wc r P c B ⟨e,D,H,G⟩ Q:=fun a w hh=>h a w (hh.reH ht ho)
abbrev qJ:=@Wc.reH
theorem Ar.reH {x:Exit} {Q:Exit→Act→World→Prop} (t:Nat) {k:Option Nat} {o:Obj} (o':Obj) (ht:H.get t=some (k,o)) (ho:o=o') (h:Ar Q x B ⟨e,D,(t,k,o') :: H,G⟩):Ar Q x B ⟨e,D,H,G⟩:=fun a w hh=>h a w (hh.reH ht ho)
abbrev gJ:=@Ar.reH
theorem A6.noBlock {a:Act} {w:World} (hh:A6 B ⟨e,D,H,G⟩ a w) (t:Nat) (o:Obj):A6 B ⟨e,D,(t,none,o) :: H,G⟩ a w:=by
 have key:∀ i b o',Hp.get ((t,none,o) :: H) i=some (some b,o')→H.get i=some (some b,o'):=fun i b o' hx=>by
  rw [bC] at hx;split at hx
  · simp at hx
  exact hx
 exact ⟨hh.size,hh.defers,hh.env,⟨fun t b o x=>hh.mem.own t b o (key _ _ _ x),fun t t' b o o' x y=>hh.mem.one t t' b o o' (key _ _ _ x) (key _ _ _ y),hh.mem.imm,fun t b o x=>hh.mem.off t b o (key _ _ _ x)⟩,
  hh.upd,fun t b o x=>hh.mine t b o (key _ _ _ x),hh.le,hh.new⟩
theorem HS {r:Option Nat} {c:Code} {Q:Exit→Act→World→Prop} (t:Nat) (o:Obj) (h:Wc r P c B ⟨e,D,(t,none,o) :: H,G⟩ Q):Wc r P c B ⟨e,D,H,G⟩ Q:=fun a w hh=>h a w (hh.noBlock t o)
abbrev eF:=@HS
section row
variable {α:Type} [A2 α]
theorem Vd {E:TypeId} {xs:List α} {junk:List Value} {b:Nat} (hG:G b=some (Row E xs junk)):Arr G (some ⟨b,0,none⟩) xs:=by
 refine ⟨tP xs,.inr ⟨b,0,F9,fun i v hi=>?_⟩⟩;have hl:i<(tV xs).length:=(bI.1 hi).1;simp only [A3.cell,hG,Row,cS,lO];rw [bJ hl];exact hi
theorem A6.freezeRow {a:Act} {w:World} (hh:A6 B ⟨e,D,H,G⟩ a w) {t:Nat} {ad:Option Addr} {c:Nat} {E:TypeId} {xs:List α} {junk:List Value} (ht:H.get t=some (ad.map (·.block),Row E xs junk)) (ho:A4 ad c xs junk) :
 ∃ G',G.le G'∧Arr G' ad xs∧A6 B ⟨e,D,(t,none,default) :: H,G'⟩ a w:=by
 rcases ho with ⟨rfl,rfl,rfl,_⟩ | ⟨b,rfl,_⟩
 · exact ⟨G,bN _,kG G,hh.noBlock t default⟩
 have ht':H.get t=some (some b,Row E xs junk):=ht;obtain ⟨h1,h2⟩:=hh.freeze ht';exact ⟨_,h2,Vd (E:=E) (junk:=junk) Xw,h1⟩
variable {r:Option Nat} {cd:Code} {Q:Exit→Act→World→Prop} {x:Exit} {l:List Oper}
theorem Wl.freezeRow (t:Nat) {ad:Option Addr} {c:Nat} {E:TypeId} {xs:List α} {junk:List Value} (ht:H.get t=some (ad.map (·.block),Row E xs junk)) (ho:A4 ad c xs junk)
 (h:∀ G',G.le G'→Arr G' ad xs→Wl P ops l B ⟨e,D,(t,none,default) :: H,G'⟩ K):Wl P ops l B ⟨e,D,H,G⟩ K:=fun a w hh=>let ⟨G',h1,h2,h3⟩:=hh.freezeRow ht ho;h G' h1 h2 a w h3
abbrev fK:=@Wl.freezeRow
theorem Wc.freezeRow (t:Nat) {ad:Option Addr} {c:Nat} {E:TypeId} {xs:List α} {junk:List Value} (ht:H.get t=some (ad.map (·.block),Row E xs junk)) (ho:A4 ad c xs junk)
 (h:∀ G',G.le G'→Arr G' ad xs→Wc r P cd B ⟨e,D,(t,none,default) :: H,G'⟩ Q):Wc r P cd B ⟨e,D,H,G⟩ Q:=fun a w hh=>let ⟨G',h1,h2,h3⟩:=hh.freezeRow ht ho;h G' h1 h2 a w h3
abbrev qL:=@Wc.freezeRow
theorem Ar.freezeRow (t:Nat) {ad:Option Addr} {c:Nat} {E:TypeId} {xs:List α} {junk:List Value} (ht:H.get t=some (ad.map (·.block),Row E xs junk)) (ho:A4 ad c xs junk)
 (h:∀ G',G.le G'→Arr G' ad xs→Ar Q x B ⟨e,D,(t,none,default) :: H,G'⟩):Ar Q x B ⟨e,D,H,G⟩:=fun a w hh=>let ⟨G',h1,h2,h3⟩:=hh.freezeRow ht ho;h G' h1 h2 a w h3
abbrev dD:=@Ar.freezeRow
theorem SC [Inhabited α] {T:TypeId} {x:Operand} {k:IntKind} {m:Int} {E bytes:Nat} {zs:List Value} (t:Nat) (hn:Nat.ble (d+1) B.n=true) (hT:tN P T E (A2.sz α)) (hE:B6 P E (A2.sz α) bytes zs)
 (hz:A2.enc (default:α)=zs) (hx:e.ev x=some (.int k m)) (h0:0≤m) (hb:bytes*m≤281474976710656∧m≤9223372036854775807)
 (h:∀ b,Wl P ops rest B ⟨(d,.slice (some ⟨b,0,none⟩) (List.replicate m.toNat (default:α)).length (List.replicate m.toNat (default:α)).length) :: e,D,(t,some b,Row E (List.replicate m.toNat (default:α)) []) :: H,G⟩ K) :
 Wl P ops (⟨some d,.makeSlice T x x,ty,pos,after,none⟩ :: rest) B ⟨e,D,H,G⟩ K:=by
 obtain ⟨i,z,hi,hz1,hz2,hs,hby,hzl,hsz⟩:=hE;have hr:(List.replicate m.toNat (default:α)).length=m.toNat:=uE;refine oD (v:=fun b=>.slice (some ⟨b,0,none⟩) (List.replicate m.toNat (default:α)).length (List.replicate m.toNat (default:α)).length) t hn (fun a w hh=>?_) h;have h1:=run_make (P:=P) w T E i z hT.1 hi hz1 k k m m h0 (jA _) (by rw [hby];exact hb.1) hb.2;have h2:madeCells z.cells (m.toNat*i.size)=(tV (List.replicate m.toNat (default:α))++[]).toArray:=by rw [hz2,hs,HR hz hsz,bB]
 rw [h2] at h1;simp only [execOp,hh.eval hx,Row,hr];simp [h1]
abbrev gN:=@SC
theorem Kp [Inhabited α] {b:Nat} {xs:List α} (h:xs.length≤maxLen):A4 (some ⟨b,0,none⟩) xs.length xs []:=.inr ⟨b,F9,by simp,aI _,h⟩
abbrev fP:=@Kp
theorem ER [Inhabited α] {xs:List α} {junk:List Value} {m:Int} (hm:0≤m∧m<xs.length) (k:Nat) (hk:k<A2.sz α) :
 (tV xs++junk)[0+m.toNat*A2.sz α+k]?=(A2.enc (xs[m.toNat]?.getD default))[k]?:=by
 have hlt:m.toNat<xs.length:=sW;rw [cS,bJ (by rw [tP];have:=mF (A2.sz α) (show m.toNat+1≤xs.length by omega);rw [iY] at this;omega)];exact Ee xs m.toNat k hlt hk
theorem LN [Inhabited α] {T:TypeId} {x:Operand} {b:Nat} {E:TypeId} {xs:List α} {junk:List Value} {m:Int} {v:Value} (t k:Nat) (h1:wR P T=true) (hx:e.ev x=some (.pointer (some ⟨b,0+m.toNat*A2.sz α+k,none⟩)))
 (ht:H.get t=some (some b,Row E xs junk)) (hm:0≤m∧m<xs.length) (hk:Nat.ble (k+1) (A2.sz α)=true) (hv:(A2.enc (xs[m.toNat]?.getD default))[k]?=some v):Qy P (.load T x) ty e H G v:=
 jN t h1 hx ht ((ER hm k (cU hk)).trans hv)
abbrev oF:=@LN
theorem HT [Inhabited α] {T:TypeId} {x:Operand} {b:Nat} {E:TypeId} {xs:List α} {junk:List Value} {m:Int} (t:Nat) (h1:zC P T (A2.sz α)=true) (hx:e.ev x=some (.pointer (some ⟨b,0+m.toNat*A2.sz α,none⟩)))
 (ht:H.get t=some (some b,Row E xs junk)) (hm:0≤m∧m<xs.length):Qy P (.load T x) ty e H G (.agg (A2.enc (xs[m.toNat]?.getD default)).toArray):=fun a w _ _ _ _ hh=>by
 have hc:∀ j v,(A2.enc (xs[m.toNat]?.getD default))[j]?=some v→w.cell? ⟨b,0+m.toNat*A2.sz α+j,none⟩=some v:=fun j v hj=>by
  rw [cell_of_block (hh.mem.own t b _ ht)];have hl:j<A2.sz α:=by rw [←A2.len (xs[m.toNat]?.getD default)];exact (bI.1 hj).1
  exact (ER hm j hl).trans hj
 have hr:=yQ h1 (A2.len _) hc;simp only [execOp,hh.eval hx,dG,hr,bM,dT]
abbrev rP:=@HT
theorem flat_set:∀ (xs:List α) (i:Nat) (y:α),i<xs.length→(tV xs).take (i*A2.sz α)++A2.enc y++(tV xs).drop (i*A2.sz α+A2.sz α)=tV (xs.set i y)
 | [],i,y,h=>by simp at h
 | x :: xs,0,y,_=>by
   rw [xA,sB,cS,bQ,gA,List.drop_left' (A2.len x),List.set_cons_zero,xA]
 | x :: xs,i+1,y,h=>by
   have ih:=flat_set xs i y (by simpa using h);rw [xA,List.set_cons_succ,xA,←ih];have h1:(i+1)*A2.sz α=(A2.enc x).length+i*A2.sz α:=by rw [A2.len,iY];omega
   rw [h1,List.take_length_add_append,pT,List.drop_length_add_append,aR,aR,aR]
theorem ES {T:TypeId} {x y:Operand} {b:Nat} {E:TypeId} {xs:List α} {junk:List Value} {m:Int} {v:Value} {z:α} (t:Nat) (hs:(P.info? T).map (·.size)=some (A2.sz α))
 (hx:e.ev x=some (.pointer (some ⟨b,0+m.toNat*A2.sz α,none⟩))) (hy:e.ev y=some v) (hv:v.cells=(A2.enc z).toArray) (ht:H.get t=some (some b,Row E xs junk)) (hm:0≤m∧m<xs.length)
 (h:Wl P ops rest B ⟨e,D,(t,some b,Row E (xs.set m.toNat z) junk) :: H,G⟩ K):Wl P ops (⟨none,.store T x y,ty,pos,after,none⟩ :: rest) B ⟨e,D,H,G⟩ K:=
 nV (v:=undef) (x:=.skip) ht (.inl ⟨F9,F9⟩) (fun a w hh=>by
  have hlt:m.toNat<xs.length:=sW;have hle:m.toNat*A2.sz α+A2.sz α≤(tV xs).length:=by rw [tP,←sC];exact mF _ hlt
  have hb:=hh.mem.own t b _ ht;have hst:=Ea (P:=P) (T:=T) (off:=0+m.toNat*A2.sz α) (cs:=tV xs++junk) (vs:=A2.enc z) (v:=v) (by rw [A2.len];exact hs) hv (A2.one z) hb (by rw [A2.len,aB];omega);refine ⟨_,by simp only [execOp,hh.eval hx,hh.eval hy,dG,hst,bM,dT];rfl,Ba w b _,?_⟩;rw [rA w b _ _ E _ hb,A2.len,cS,List.take_append_of_le_length sW,oI sW,←aR,flat_set xs m.toNat z hlt];simp [Row]) h
def F6 (H:Hp) (G:A3) (a:Option Addr) (ys:List α):Prop:=∀ w,B3 H G w→(a=none∧ys=[])∨∃ ad,a=some ad∧∀ j v,(tV ys)[j]?=some v→w.cell? (ad.add j)=some v
theorem F6.row {b:Nat} {E:TypeId} {ys:List α} {junk:List Value} (t:Nat) (ht:H.get t=some (some b,Row E ys junk)):F6 H G (some ⟨b,0,none⟩) ys:=fun w hw =>
 .inr ⟨_,F9,fun j v hj=>by
  rw [Bw,cS,cell_of_block (hw.own _ b _ ht),bJ (bI.1 hj).1];exact hj⟩
abbrev cQ:=@F6.row
theorem SD {a:Option Addr} {ys:List α} (h:Arr G a ys):F6 H G a ys:=fun w hw=>by
 rcases h.2 with h2 | ⟨b,o,rfl,hr⟩
 · have h3:ys=[]:=dV h2;subst h3;cases a with
   | none=>exact .inl ⟨F9,F9⟩
   | some ad=>exact .inr ⟨ad,F9,fun j v hj=>by simp [tV] at hj⟩
 exact .inr ⟨_,F9,fun j v hj=>by rw [Bw];exact hw.cellG (hr j v hj)⟩
abbrev lQ:=@SD
theorem Nd {xs:List α} {junk:List Value}:(tV xs++junk).take (xs.length*A2.sz α)=tV xs:=by rw [←tP];exact List.take_left
theorem A6.ownNew {a:Act} {w w':World} (hh:A6 B ⟨e,D,H,G⟩ a w) (t:Nat) {ob:Obj} (hu:E2 (fun _=>False) w w') (hs:w'.heap.size=w.heap.size+1) (hb:w'.heap[w.heap.size]?=some ob) :
 A6 B ⟨e,D,(t,some w.heap.size,ob) :: H,G⟩ a w':=by
 have hG:G w.heap.size=none:=by
  cases hg:G w.heap.size with
  | none=>rfl
  | some x=>exact absurd (hh.mem.ltG hg) (oC _)
 have hg:=hh.grow hu;refine ⟨hg.size,hg.defers,hg.env,⟨?_,?_,hg.mem.imm,?_⟩,hg.upd,?_,hg.le,hg.new⟩
 · intro t' b o' x;rw [bC] at x;split at x
   · simp only [bY,fC] at x;obtain ⟨rfl,rfl⟩:=x;exact hb
   exact hg.mem.own t' b o' x
 · intro t1 t2 b o1 o2 x y;rw [bC] at x y;split at x <;> split at y
   · omega
   · simp only [bY,fC] at x;obtain ⟨rfl,rfl⟩:=x;exact absurd (hh.mem.lt y) (oC _)
   · simp only [bY,fC] at y;obtain ⟨rfl,rfl⟩:=y;exact absurd (hh.mem.lt x) (oC _)
   exact hg.mem.one _ _ _ _ _ x y
 · intro t' b o' x;rw [bC] at x;split at x
   · simp only [bY,fC] at x;obtain ⟨rfl,rfl⟩:=x;exact hG
   exact hg.mem.off t' b o' x
 intro t' b o' x;rw [bC] at x;split at x
 · simp only [bY,fC] at x;obtain ⟨rfl,rfl⟩:=x;exact .inl hh.upd.size
 exact hg.mine t' b o' x
theorem CM {w:World} (hw:B3 H G w) {T E bytes:Nat} {zs:List Value} (hT:tN P T E (A2.sz α)) (hE:B6 P E (A2.sz α) bytes zs) {t:Nat} {a ad:Option Addr} {c c2:Nat} {xs ys:List α} {junk:List Value}
 (ht:H.get t=some (a.map (·.block),Row E xs junk)) (ho:A4 a c xs junk) (hsrc:F6 H G ad ys) (hb:(xs.length+ys.length)*bytes≤140737488355328) (hl:xs.length+ys.length≤maxLen) :
 ∃ a' c' junk' w',(Builtin.append_ #[T,T] ty #[.slice a xs.length c,.slice ad ys.length c2]).run P w=.ok (.slice a' (xs++ys).length c') w'∧A4 a' c' (xs++ys) junk'∧
  ((a'=none∧a=none∧w'=w)∨
   (∃ b,a'=some ⟨b,0,none⟩∧a=a'∧E2 (·=b) w w'∧w'.heap[b]?=some (Row E (xs++ys) junk'))∨
   (a'=some ⟨w.heap.size,0,none⟩∧E2 (fun _=>False) w w'∧w'.heap.size=w.heap.size+1∧w'.heap[w.heap.size]?=some (Row E (xs++ys) junk'))):=by
 obtain ⟨i,z,hi,hz1,hz2,hs,hby,hzl,hsz⟩:=hE;have hm63:xs.length+ys.length≤9223372036854775807:=by simp only [maxLen] at hl;omega
 have hlen:(xs++ys).length=xs.length+ys.length:=aB;have hyl:(tV ys).length=ys.length*i.size:=by rw [tP,hs]
 have hxl:(tV xs).length=xs.length*i.size:=by rw [tP,hs]
 have junkLen:∀ k,(Builtin.zeroCells z.cells k).toList.length=k*A2.sz α:=fun k=>by
  rw [oU,size_zeroCells,hz2];simp [hzl]
 have fresh:∀ old,old<xs.length+ys.length→∃ junk',A4 (some ⟨w.heap.size,0,none⟩) (grownCap w (xs.length+ys.length) old E) (xs++ys) junk'∧
  (w.drew.alloc (.cells ((tV xs).toArray++(tV ys).toArray++Builtin.zeroCells z.cells (grownCap w (xs.length+ys.length) old E - (xs.length+ys.length))) E)).heap[w.heap.size]?=some (Row E (xs++ys) junk'):=fun old hold=>by
  have hge:=grownCap_ge w (xs.length+ys.length) old E;have hcm:grownCap w (xs.length+ys.length) old E≤maxLen:=grownCap_le_maxLen w _ old E hl;refine ⟨(Builtin.zeroCells z.cells (grownCap w (xs.length+ys.length) old E - (xs.length+ys.length))).toList,.inr ⟨_,F9,?_,by rw [hlen];exact hge,hcm⟩,?_⟩
  · rw [junkLen,hlen,←iY];congr 1;omega
  rw [show w.heap.size=w.drew.heap.size from rfl,Kl];congr 1;simp [Row,wM]
 have hupd:∀ o,E2 (fun _=>False) w (w.drew.alloc o):=fun o=>(mX _ w).drew.alloc o;rcases hsrc w hw with ⟨rfl,rfl⟩ | ⟨src,rfl,hsr⟩
 · -- nothing to append
   simp only [bB,cH,iH] at hb hl fresh hlen hm63 ⊢;rcases ho with ⟨rfl,rfl,rfl,rfl⟩ | ⟨b,rfl,hj,hc,hcm⟩
   · refine ⟨none,0,[],w,?_,eG,.inl ⟨F9,F9,F9⟩⟩;simp [Builtin.append_,dE hT.1,sizeOf,typeInfo,hi,Builtin.lenOf,Builtin.firstCells]
   have hblk:=hw.own t b _ ht;refine ⟨some ⟨b,0,none⟩,c,junk,w,?_,.inr ⟨b,F9,hj,hc,hcm⟩,.inr (.inl ⟨b,F9,F9,mX _ _,hblk⟩)⟩;simp [Builtin.append_,dE hT.1,sizeOf,typeInfo,hi,Builtin.lenOf,Builtin.firstCells,hc,storeCells]
 rcases ho with ⟨rfl,rfl,rfl,rfl⟩ | ⟨b,rfl,hj,hc,hcm⟩
 · -- from nil
   simp only [cH,cS,gA] at hb hl fresh hlen hm63 ⊢;by_cases h0:ys.length=0
   · have hy:ys=[]:=dV h0;subst hy;refine ⟨none,0,[],w,?_,eG,.inl uE⟩;simp [Builtin.append_,dE hT.1,sizeOf,typeInfo,hi,Builtin.lenOf,Builtin.firstCells,loadCells,loadCellsFrom]
   have hr:=run_append_nil (P:=P) w T ty E i z hT.1 hi hz1 src ys.length c2 (tV ys) hyl hsr sW sW (by rw [hby];omega);obtain ⟨junk',h1,h2⟩:=fresh 0 sW;refine ⟨_,_,junk',_,hr,h1,.inr (.inr ⟨F9,hupd _,by simp,?_⟩)⟩;simpa [tV] using h2
 have hblk:=hw.own t b _ ht;have hcsz:(tV xs++junk).toArray.size=c*i.size:=by simp [tP,hs,hj]
 by_cases hroom:xs.length+ys.length≤c
 · have hfit:xs.length*i.size+(tV ys).length≤(tV xs++junk).toArray.size:=by rw [hcsz,hyl,←iY];exact mF _ hroom
   have hr:=run_append_room (P:=P) w T ty E i hT.1 hi b xs.length c (tV xs++junk).toArray hblk src ys.length c2 (tV ys) hyl hsr (by simpa using Yg ys) hroom hfit;have e1:((tV xs++junk).toArray.toList.take (xs.length*i.size)++tV ys++(tV xs++junk).toArray.toList.drop (xs.length*i.size+(tV ys).length))=tV (xs++ys)++junk.drop (tV ys).length:=by
    rw [hs,Nd,wM];congr 1;rw [←tP,List.drop_length_add_append]
   rw [e1] at hr;refine ⟨_,_,junk.drop (tV ys).length,_,by rw [hlen];exact hr,.inr ⟨b,F9,?_,by rw [hlen];exact hroom,hcm⟩,.inr (.inl ⟨b,F9,F9,Ba w b _,?_⟩)⟩
   · rw [gP,hlen,tP];have h2:xs.length*A2.sz α+ys.length*A2.sz α≤c*A2.sz α:=by rw [←iY];exact mF _ hroom
     rw [iY];omega
   rw [rA w b _ _ E _ hblk];rfl
 have hcell:∀ j v,(tV xs)[j]?=some v→w.cell? ((⟨b,0,none⟩:Addr).add j)=some v:=fun j v hv=>by
  rw [Bw,cS,cell_of_block hblk,bJ (bI.1 hv).1];exact hv
 have hr:=run_append_grow (P:=P) w T ty E i z hT.1 hi hz1 ⟨b,0,none⟩ xs.length c (tV xs) hxl hcell src ys.length c2 (tV ys) hyl hsr sW sW (growslice_fits sW (by rw [hby];exact hb));obtain ⟨junk',h1,h2⟩:=fresh c sW;exact ⟨_,_,junk',_,by rw [hlen];exact hr,h1,.inr (.inr ⟨F9,hupd _,by simp,h2⟩)⟩
theorem Wl.append {s x:Operand} {T E bytes:Nat} {zs:List Value} {a ad:Option Addr} {c c2:Nat} {xs ys:List α} {junk:List Value} (t:Nat) (hn:Nat.ble (d+1) B.n=true) (hT:tN P T E (A2.sz α)) (hE:B6 P E (A2.sz α) bytes zs)
 (hs:e.ev s=some (.slice a xs.length c)) (hx:e.ev x=some (.slice ad ys.length c2)) (ht:H.get t=some (a.map (·.block),Row E xs junk)) (ho:A4 a c xs junk) (hsrc:F6 H G ad ys)
 (hb:(xs.length+ys.length)*bytes≤140737488355328) (hl:xs.length+ys.length≤maxLen)
 (h:∀ a' c' junk',A4 a' c' (xs++ys) junk'→Wl P ops rest B ⟨(d,.slice a' (xs++ys).length c') :: e,D,(t,a'.map (·.block),Row E (xs++ys) junk') :: H,G⟩ K) :
 Wl P ops (⟨some d,.call { callee:=.builtin .append,args:=#[s,x],argTypes:=#[T,T] },ty,pos,after,none⟩ :: rest) B ⟨e,D,H,G⟩ K:=by
 intro ac w hh;obtain ⟨a',c',junk',w',hrun,ho',hcase⟩:=CM (c2:=c2) (ty:=ty) hh.mem hT hE ht ho hsrc hb hl;unfold uD;rw [aE (by simp [Region.wanted])];unfold Dw;have hex:(execOp ac.eval ⟨some d,.call { callee:=.builtin .append,args:=#[s,x],argTypes:=#[T,T] },ty,pos,after,none⟩).run P w=.ok (.value (.slice a' (xs++ys).length c')) w':=by
  simp only [execOp,resolve,invoke,builtin,dG,dT,bM,sS,jE,mQ,hh.eval hs,hh.eval hx,hrun]
 rw [hex];refine h a' c' junk' ho' _ _ (A6.put ?_ hn _);rcases hcase with ⟨rfl,rfl,rfl⟩ | ⟨b,rfl,rfl,hu,hbk⟩ | ⟨rfl,hu,hsz,hbk⟩
 · exact hh.noBlock t _
 · exact hh.set (t:=t) (b:=b) ht hu hbk
 exact hh.ownNew t hu hsz hbk
abbrev cP:=@Wl.append
end row
end
def Sr (pl:List (Nat×Nat)) (cells:List Value):List (Nat×Value)→List Value
 | []=>cells
 | (i,v) :: rest=>match pl[i]? with
   | some (off,_)=>Sr pl (cells.take off++(v.cells.toList++cells.drop (off+v.cells.toList.length))) rest
   | none=>Sr pl cells rest
def Ol (pl:List (Nat×Nat)) (n:Nat):List (Nat×Value)→Bool
 | []=>true
 | (i,v) :: rest=>(match pl[i]? with
   | some (off,size)=>Nat.beq v.cells.toList.length size && Nat.ble (off+v.cells.toList.length) n
   | none=>false) && Ol pl n rest
theorem SE (off:Nat) (v:Value) (cells:List Value) (h2:off+v.cells.toList.length≤cells.length) :
 (v.cells.zipIdx.foldl (fun cs (x:Value×Nat)=>cs.setIfInBounds (off+x.2) x.1) cells.toArray)=(cells.take off++(v.cells.toList++cells.drop (off+v.cells.toList.length))).toArray:=by
 obtain ⟨g1,g2⟩:=Great.foldl_set off v.cells.toList 0 cells.toArray;have e0:v.cells.zipIdx.foldl (fun cs (x:Value×Nat)=>cs.setIfInBounds (off+x.2) x.1) cells.toArray=(v.cells.toList.zipIdx 0).foldl (fun cs (x:Value×Nat)=>cs.setIfInBounds (off+x.2) x.1) cells.toArray:=by
  rw [←Array.foldl_toList];simp
 rw [e0];apply Array.ext';apply hS;intro k;rw [Array.getElem?_toList,g2 k];simp only [iH,pN,lO];simp only [List.getElem?_append,bH,nB,jC];have hm:min off cells.length=off:=sW;rw [hm];by_cases ha:k<off
 · rw [aD (by omega),aE ha,aE ha]
 rw [aD ha];by_cases hb:k - off<v.cells.toList.length
 · rw [aE (by omega),aE hb]
 rw [aD (by omega),aD hb];congr 1;omega
theorem Ss (place:Nat→Option (Nat×Nat)) {i off size:Nat} {v:Value} (rest:List (Nat×Value)) {cells:List Value} (hp:place i=some (off,size)) (h1:v.cells.toList.length=size) (h2:off+v.cells.toList.length≤cells.length) :
 Instr.fill place cells.toArray ((i,v) :: rest)=Instr.fill place (cells.take off++(v.cells.toList++cells.drop (off+v.cells.toList.length))).toArray rest:=by
 have hsz:v.cells.size=size:=by rw [←h1];simp
 rw [Instr.fill,hp];rw [oU,hsz] at h2;simp only [hsz];rw [aD (by simp;omega),←SE off v cells (by rw [oU,hsz];exact h2)]
theorem Ve (place:Nat→Option (Nat×Nat)) (pl:List (Nat×Nat)) (hp:∀ i x,pl[i]?=some x→place i=some x):∀ (parts:List (Nat×Value)) (cells:List Value) (n:Nat),cells.length=n→Ol pl n parts=true→
 Instr.fill place cells.toArray parts=some (Sr pl cells parts).toArray
 | [],_,_,_,_=>rfl
 | (i,v) :: rest,cells,n,hn,hok=>by
   unfold Ol at hok;cases hpl:pl[i]? with
   | none=>simp [hpl] at hok
   | some x =>
     obtain ⟨off,size⟩:=x;simp only [hpl,aW] at hok;obtain ⟨⟨h1,h2⟩,h3⟩:=hok;have h1:v.cells.toList.length=size:=cV h1;have h2:off+v.cells.toList.length≤n:=cU h2;rw [Ss place rest (hp i _ hpl) h1 sW,Ve place pl hp rest _ n (by simp only [aB,bH,gP];omega) h3];simp [Sr,hpl]
def B5 (P:Program) (t:TypeId) (pl:List (Nat×Nat)) (zs:List Value):Prop:=
 ∃ z fs,P.underlying t=some (.struct fs)∧(∀ w,(zeroValue t).run P w=.ok z w)∧z.cells=zs.toArray∧fs.toList.map (fun f=>(f.offset,(P.info? f.type).map (·.size)))=pl.map fun x=>(x.1,some x.2)
theorem B5.of {P:Program} {t:TypeId} {pl:List (Nat×Nat)} {zs:List Value} (fs:Array Field) (hu:P.underlying t=some (.struct fs)) (hz:((P.info? t).bind (·.zero)).map (·.cells)=some zs.toArray)
 (hp:fs.toList.map (fun f=>(f.offset,(P.info? f.type).map (·.size)))=pl.map fun x=>(x.1,some x.2)):B5 P t pl zs:=by
 cases hi:P.info? t with
 | none=>simp [hi] at hz
 | some i =>
   cases hz':i.zero with
   | none=>simp [hi,hz'] at hz
   | some z=>exact ⟨z,fs,hu,fun w=>by simp [zeroValue,typeInfo,hi,hz'],by simpa [hi,hz'] using hz,hp⟩
abbrev iD:=@B5.of
theorem run_places {P:Program} (w:World):∀ (fs:List Field) (pl:List (Nat×Nat)),fs.map (fun f=>(f.offset,(P.info? f.type).map (·.size)))=pl.map (fun x=>(x.1,some x.2))→
 (fs.mapM (fun f=>do pure (f.offset,←sizeOf f.type)):Sem (List (Nat×Nat))).run P w=.ok pl w
 | [],[],_=>rfl
 | [],_ :: _,h=>by simp at h
 | _ :: _,[],h=>by simp at h
 | f :: fs,(o,s) :: pl,h=>by
   simp only [jE,lH,fC] at h;obtain ⟨⟨h1,h2⟩,h3⟩:=h;have ih:=run_places w fs pl h3;rw [List.mapM_cons];simp only [dG,run_sizeOf w h2,bM,dT,ih,h1]
def De (e:A9):List (Nat×Operand)→Option (List (Nat×Value))
 | []=>some []
 | (i,x) :: xs=>match e.ev x,De e xs with
   | some v,some vs=>some ((i,v) :: vs)
   | _,_=>none
section
variable {P:Program} {ops:Array Oper} {rest:List Oper} {B:Bs} {e:A9} {D:List Deferred} {H:Hp} {G:A3} {K:Act→World→Prop}
 {ty:TypeId} {pos:String} {after:Array Edge} {d:Nat}
theorem F0.parts {a:Act} {w:World} (h:F0 e H G a w):∀ {xs:List (Nat×Operand)} {vs:List (Nat×Value)},De e xs=some vs→xs.map (fun (i,x)=>(i,a.eval x))=vs
 | [],vs,hx=>by simp [De] at hx;simp [←hx]
 | (i,x) :: xs,vs,hx=>by
   unfold De at hx;split at hx
   · rename_i v us h1 h2;simp only [bY] at hx;subst hx;simp [h.eval h1,h.parts h2]
   cases hx
theorem Qy.build {t:TypeId} {pl:List (Nat×Nat)} {zs cs:List Value} {parts:List (Nat×Operand)} {vs:List (Nat×Value)} (hT:B5 P t pl zs) (hx:De e parts=some vs) (hok:Ol pl zs.length vs=true)
 (hc:Sr pl zs vs=cs):Qy P (.build t parts.toArray) ty e H G (.agg cs.toArray):=fun a w _ _ _ _ hh=>by
 obtain ⟨z,fs,hu,hz,hzc,hp⟩:=hT;have hpl:=run_places (P:=P) w fs.toList pl hp;have hpl':(fs.mapM (fun f=>do pure (f.offset,←sizeOf f.type)):Sem (Array (Nat×Nat))).run P w=.ok pl.toArray w:=by
  have e1:(fs.mapM (fun f=>do pure (f.offset,←sizeOf f.type)):Sem (Array (Nat×Nat)))=List.toArray <$> (fs.toList.mapM (fun f=>do pure (f.offset,←sizeOf f.type))):=by
   rw [Array.mapM_eq_mapM_toList]
  rw [e1,map_eq_pure_bind];simp only [dG,hpl,bM,dT]
 have hf:=Ve (fun i=>pl[i]?) pl (fun i x h=>h) vs zs zs.length F9 hok;have hm:(parts.toArray.map fun (i,x)=>(i,a.eval x))=vs.toArray:=by rw [←hh.parts hx];simp
 subst hc;simp only [execOp,hm,Instr.build,dG,hz w,bM,dE hu,hpl',hzc];simp [hf]
abbrev bP:=@Qy.build
def C9 (P:Program) (t:TypeId) (n sz:Nat) (zs:List Value):Prop:=
 ∃ z E,P.underlying t=some (.array n E)∧(∀ w,(zeroValue t).run P w=.ok z w)∧z.cells=zs.toArray∧(P.info? E).map (·.size)=some sz
theorem C9.of {P:Program} {t:TypeId} {n sz:Nat} {zs:List Value} (E:TypeId) (hu:P.underlying t=some (.array n E)) (hz:((P.info? t).bind (·.zero)).map (·.cells)=some zs.toArray)
 (hp:(P.info? E).map (·.size)=some sz):C9 P t n sz zs:=by
 cases hi:P.info? t with
 | none=>simp [hi] at hz
 | some i =>
   cases hz':i.zero with
   | none=>simp [hi,hz'] at hz
   | some z=>exact ⟨z,E,hu,fun w=>by simp [zeroValue,typeInfo,hi,hz'],by simpa [hi,hz'] using hz,hp⟩
def Vf (n sz:Nat):List (Nat×Nat):=(List.range n).map fun i=>(i*sz,sz)
theorem Kq {t:TypeId} {n sz:Nat} {zs cs:List Value} {parts:List (Nat×Operand)} {vs:List (Nat×Value)} (hT:C9 P t n sz zs) (hx:De e parts=some vs) (hok:Ol (Vf n sz) zs.length vs=true)
 (hc:Sr (Vf n sz) zs vs=cs):Qy P (.build t parts.toArray) ty e H G (.agg cs.toArray):=fun a w _ _ _ _ hh=>by
 obtain ⟨z,E,hu,hz,hzc,hp⟩:=hT;have hf:=Ve (fun i=>some (i*sz,sz)) (Vf n sz) (fun i x h=>by
  simp only [Vf,bK,jO] at h;obtain ⟨j,hj,rfl⟩:=h;obtain ⟨hlt,hj⟩:=bI.1 hj;simp at hj;subst hj;rfl) vs zs zs.length F9 hok
 have hm:(parts.toArray.map fun (i,x)=>(i,a.eval x))=vs.toArray:=by rw [←hh.parts hx];simp
 subst hc;simp only [execOp,hm,Instr.build,dG,hz w,bM,dE hu,run_sizeOf w hp,hzc];simp [hf]
theorem Su {α:Type} [A2 α] (ys:List α):∀ (xs:List α) (i:Nat) (vs:List (Nat×Value)) (cells:List Value),cells.length=(i+xs.length)*A2.sz α→
 vs.map (fun v=>(v.1,v.2.cells))=(xs.zipIdx i).map (fun x=>(x.2,(A2.enc x.1).toArray))→
 Instr.fill (fun i=>some (i*A2.sz α,A2.sz α)) cells.toArray vs=some (cells.take (i*A2.sz α)++tV xs).toArray
 | [],i,vs,cells,hl,hv=>by
   simp only [List.zipIdx_nil,mQ,List.map_eq_nil_iff] at hv;subst hv;simp only [cH,iH] at hl;simp [Instr.fill,tV,←hl]
 | x :: xs,i,vs,cells,hl,hv=>by
   cases vs with
   | nil=>simp at hv
   | cons v vs =>
     simp only [jE,List.zipIdx_cons,lH,fC] at hv;obtain ⟨⟨h1,h2⟩,h3⟩:=hv;obtain ⟨j,v⟩:=v;simp only at h1 h2;subst h1;have e1:(j+(x :: xs).length)*A2.sz α=j*A2.sz α+A2.sz α+xs.length*A2.sz α:=by simp only [aY,iY,Nat.one_mul];omega
     have hvl:v.cells.toList.length=A2.sz α:=by rw [h2];simp [A2.len]
     have step:=Ss (fun i=>some (i*A2.sz α,A2.sz α)) (i:=j) (v:=v) vs (cells:=cells) F9 hvl (by rw [hl,e1,hvl];omega);rw [step,Su ys xs (j+1) vs _ (by simp only [aB,bH,gP,hvl,iY,Nat.one_mul];omega) h3];have e2:(j+1)*A2.sz α=j*A2.sz α+A2.sz α:=by simp only [iY,Nat.one_mul]
     have e3:List.take ((j+1)*A2.sz α) (List.take (j*A2.sz α) cells++(v.cells.toList++List.drop (j*A2.sz α+v.cells.toList.length) cells))=List.take (j*A2.sz α) cells++A2.enc x:=by
      rw [e2,←aR,List.take_append_of_le_length (by simp only [aB,bH,hvl];omega),fM (by simp only [aB,bH,hvl];omega),h2]
     rw [e3,xA,aR]
theorem Wl.lit {α:Type} [A2 α] {T:TypeId} {E bytes n:Nat} {zs:List Value} {parts:List (Nat×Operand)} {vs:List (Nat×Value)} (t:Nat) (xs:List α) (hn:Nat.ble (d+1) B.n=true) (hT:tN P T E (A2.sz α)) (hE:B6 P E (A2.sz α) bytes zs)
 (hx:De e parts=some vs) (hv:vs.map (fun v=>(v.1,v.2.cells))=(xs.zipIdx 0).map (fun x=>(x.2,(A2.enc x.1).toArray))) (hl:xs.length=n) (hp:Nat.ble 1 n=true) (hs:Nat.ble (n*A2.sz α) 16777216=true)
 (h:∀ b,Wl P ops rest B ⟨(d,.slice (some ⟨b,0,none⟩) xs.length n) :: e,D,(t,some b,Row E xs []) :: H,G⟩ K) :
 Wl P ops (⟨some d,.buildSlice T n parts.toArray,ty,pos,after,none⟩ :: rest) B ⟨e,D,H,G⟩ K:=by
 obtain ⟨i,z,hi,hz1,hz2,hsz,hby,hzl,hs0⟩:=hE;have hp:=cU hp;have hs:=cU hs;refine oD (v:=fun b=>.slice (some ⟨b,0,none⟩) xs.length n) t hn (fun a w hh=>?_) h;have hm:(parts.toArray.map fun (i,x)=>(i,a.eval x))=vs.toArray:=by rw [←hh.look.parts hx];simp
 have hf:=Su xs xs 0 vs (((Array.range (n*i.size)).map (z.cells[· % z.cells.size]!)).toList) (by simp [hsz,hl]) hv;simp only [Array.toArray_toList,sB,bQ,gA] at hf;have h1:=run_buildSlice (P:=P) w T E n vs.toArray (tV xs).toArray i z hT.1 hi hz1 (by rw [hsz];omega) (by rw [hsz];have:=Nat.mul_pos hp hs0;omega) (by rw [hsz];rw [hsz] at hf;exact hf);subst hl;simp only [execOp,hm,dG,h1,bM,dT,Row,bB]
abbrev cC:=@Wl.lit
theorem SF {T:TypeId} {E sz:Nat} (t:Nat) (hn:Nat.ble (d+1) B.n=true) (hT:tN P T E sz)
 (h:∀ b,Wl P ops rest B ⟨(d,.slice (some ⟨b,0,none⟩) 0 0) :: e,D,(t,some b,.cells #[] E (0,0)) :: H,G⟩ K) :
 Wl P ops (⟨some d,.buildSlice T 0 #[],ty,pos,after,none⟩ :: rest) B ⟨e,D,H,G⟩ K:=
 oD (v:=fun b=>.slice (some ⟨b,0,none⟩) 0 0) t hn (fun a w hh=>by
  simp [execOp,Instr.buildSlice,dE hT.1,run_sizeOf w hT.2,Instr.fill,newRow,show Array.range 0=#[] from Array.eq_empty_of_size_eq_zero uE]) h
abbrev rN:=@SF
section cut
variable {T:TypeId} {x:Operand} {a:Option Addr} {n c E sz:Nat}
theorem Nl {hi:Operand} {k:IntKind} {m:Int} (hT:tN P T E sz) (hx:e.ev x=some (.slice a n c)) (hh:e.ev hi=some (.int k m)) (hb:0≤m∧m≤c) :
 Qy P (.slice T x none (some hi) none) ty e H G (.slice (C6 a c 0 sz) m.toNat c):=fun ac w _ _ _ _ hk=>by
 have hr:=run_sizeOf (P:=P) w hT.2;have hu:P.underlying T=some (.slice (P.elem T)):=by simp [Program.elem,hT.1]
 have he:P.elem T=E:=by simp [Program.elem,hT.1]
 have:=run_slice_h (P:=P) (w:=w) T a n c hu k m hb.1 hb.2;simp only [execOp,hk.eval hx,fZ,lG,hk.eval hh,dG,pJ (P:=P) (w:=w) T _ _ _ _ hu,this,he,hr,bM,dT,sliced,C6,nJ]
theorem ET {lo:Operand} {k:IntKind} {m:Int} (hT:tN P T E sz) (hx:e.ev x=some (.slice a n c)) (hh:e.ev lo=some (.int k m)) (hb:0≤m∧m≤n) (hc:n≤c) :
 Qy P (.slice T x (some lo) none none) ty e H G (.slice (C6 a c m.toNat sz) (n - m.toNat) (c - m.toNat)):=fun ac w _ _ _ _ hk=>by
 have hr:=run_sizeOf (P:=P) w hT.2;have hu:P.underlying T=some (.slice (P.elem T)):=by simp [Program.elem,hT.1]
 have he:P.elem T=E:=by simp [Program.elem,hT.1]
 have:=run_slice_l (P:=P) (w:=w) T a n c hu k m hb.1 hb.2;simp only [execOp,hk.eval hx,fZ,lG,hk.eval hh,dG,pJ (P:=P) (w:=w) T _ _ _ _ hu,this,he,hr,bM,dT,sliced,C6]
theorem LO {lo hi:Operand} {k k':IntKind} {m m':Int} (hT:tN P T E sz) (hx:e.ev x=some (.slice a n c)) (hh:e.ev lo=some (.int k m)) (hh':e.ev hi=some (.int k' m')) (h0:0≤m) (h1:m≤m') (h2:m'≤c) :
 Qy P (.slice T x (some lo) (some hi) none) ty e H G (.slice (C6 a c m.toNat sz) (m'.toNat - m.toNat) (c - m.toNat)):=fun ac w _ _ _ _ hk=>by
 have hr:=run_sizeOf (P:=P) w hT.2;have hu:P.underlying T=some (.slice (P.elem T)):=by simp [Program.elem,hT.1]
 have he:P.elem T=E:=by simp [Program.elem,hT.1]
 have:=run_slice_lh (P:=P) (w:=w) T a n c hu k k' m m' h0 h1 h2;simp only [execOp,hk.eval hx,fZ,lG,hk.eval hh,hk.eval hh',dG,pJ (P:=P) (w:=w) T _ _ _ _ hu,this,he,hr,bM,dT,sliced,C6]
end cut
def Eg (P : Program) (f : Field) : Bool × Nat := (f.name != "_" && (match P.underlying f.type with | some (.int .i64) => true | _ => false) && wR P f.type, f.offset)
def Ch (P:Program) (t n:Nat):Prop:=P.underlying t=some (.struct (P.fieldsOf t))∧P.stoodInHeld t=false∧P.eqGuardType P.depth t=false∧
 (P.fieldsOf t).toList.map (Eg P)=(List.range n).map fun i=>(true,i)
def Cn (xs:List Int):Array Value:=(xs.map (Value.int .i64)).toArray
theorem Om {P:Program} (w:World) (xs ys:List Int) (n:Nat) (hx:xs.length=n) (hy:ys.length=n):∀ (fs:List Field) (s:Nat),
 fs.map (Eg P)=(List.range' s (n - s)).map (fun i=>(true,i))→s≤n→
 (Op.eqFields 9999 (Cn xs) (Cn ys) fs).run P w=.ok (decide (xs.drop s=ys.drop s)) w
 | [],s,h,hs=>by
   have h0:n - s=0:=by
    have:=congrArg List.length h;simpa using this.symm
   simp only [Op.eqFields,dT];rw [fD sW,fD sW];simp
 | f :: fs,s,h,hs=>by
   have hlen:n - s=fs.length+1:=by have:=congrArg List.length h;simpa using this.symm
   have hsn:s<n:=sW;rw [show n - s=(n - (s+1))+1 by omega,List.range'_succ] at h;simp only [jE,Eg,lH,fC,aW] at h;obtain ⟨⟨⟨⟨h1,h2⟩,h3⟩,h4⟩,h5⟩:=h;have ih:=Om (P:=P) w xs ys n hx hy fs (s+1) h5 sW;have hname : f.name ≠ "_" := by simpa using h1
   have hint:P.underlying f.type=some (.int .i64):=by
    split at h2
    · assumption
    cases h2
   have hpart:∀ zs:List Int,zs.length=n→(part f.type (Cn zs) f.offset).run P w=.ok (.int .i64 (zs[s]?.getD 0)) w:=fun zs hz=>by
    have hl:s<zs.length:=sW;simp [part,zQ w h3,h4,Cn,hl]
   rw [Op.eqFields,aE hname];simp only [dG,hpart xs hx,hpart ys hy,bM,run_equalIn_int (P:=P) w 9998 f.type .i64 .i64 _ _ hint];have hxl:s<xs.length:=sW;have hyl:s<ys.length:=sW;have ex:xs.drop s=(xs[s]?.getD 0) :: xs.drop (s+1):=by rw [dQ hxl];simp [hxl]
   have ey:ys.drop s=(ys[s]?.getD 0) :: ys.drop (s+1):=by rw [dQ hyl];simp [hyl]
   rw [ex,ey];by_cases hq:xs[s]?.getD 0=ys[s]?.getD 0
   · simp [hq,ih]
   simp [hq]
theorem Bb {P:Program} {t n:Nat} (hT:Ch P t n) (w:World) (xs ys:List Int) (hx:xs.length=n) (hy:ys.length=n):(Op.equal t (.agg (Cn xs)) (.agg (Cn ys))).run P w=.ok (decide (xs=ys)) w:=by
 obtain ⟨h1,h2,h3,h4⟩:=hT;have:=Om (P:=P) w xs ys n hx hy (P.fieldsOf t).toList 0 (by rw [h4,nJ,List.range_eq_range']) (aN _);simp only [Op.equal,Op.maxDepth];rw [run_equalIn_agg (P:=P) w 9999 t _ _ h1 h2,this];simp
theorem Nm {t t':TypeId} {x y:Operand} {n:Nat} (xs ys:List Int) (hT:Ch P t n) (hx:e.ev x=some (.agg (Cn xs))) (hy:e.ev y=some (.agg (Cn ys))) (h1:xs.length=n) (h2:ys.length=n) :
 Qy P (.binOp .eql t x y t') ty e H G (.bool (decide (xs=ys))):=fun a w _ _ _ _ hh=>by
 simp only [execOp,hh.eval hx,hh.eval hy,dG,run_eqGuard_agg (P:=P) w .eql t x y _ _ hT.2.2.1,bM,run_eql_struct];have:=Bb hT w xs ys h1 h2;simp only [Op.equal,Op.maxDepth] at this;simp [this]
theorem Vg {t t':TypeId} {x y:Operand} {n:Nat} (xs ys:List Int) (hT:Ch P t n) (hx:e.ev x=some (.agg (Cn xs))) (hy:e.ev y=some (.agg (Cn ys))) (h1:xs.length=n) (h2:ys.length=n) :
 Qy P (.binOp .neq t x y t') ty e H G (.bool (decide (xs≠ys))):=fun a w _ _ _ _ hh=>by
 simp only [execOp,hh.eval hx,hh.eval hy,dG,run_eqGuard_agg (P:=P) w .neq t x y _ _ hT.2.2.1,bM,run_neq_struct];have:=Bb hT w xs ys h1 h2;simp only [Op.equal,Op.maxDepth] at this;simp [this]
theorem LP (i j:Instr):([i.op,i.to,i.a,i.b,i.c]=[j.op,j.to,j.a,j.b,j.c])=(i=j):=by
 cases i;cases j;simp
theorem Ml {t t':TypeId} {x y:Operand} {i j:Instr} (hT:Ch P t 5) (hx:e.ev x=some (.agg (A2.enc i).toArray)) (hy:e.ev y=some (.agg (A2.enc j).toArray)) :
 Qy P (.binOp .neq t x y t') ty e H G (.bool (decide (i≠j))):=by
 have:=Vg (t':=t') (ty:=ty) (H:=H) (G:=G) [i.op,i.to,i.a,i.b,i.c] [j.op,j.to,j.a,j.b,j.c] hT hx hy F9 F9;simpa only [LP,ne_eq] using this
end
class B4 (κ:Type) where
 val:κ→Value
instance:B4 Int:=⟨fun n=>.int .i64 n⟩
instance:B4 Bool:=⟨fun b=>.bool b⟩
structure K4 where
 op:Int
 a:Int
 b:Int
 c:Int
 deriving DecidableEq
instance:B4 K4:=⟨fun k=>.agg (Cn [k.op,k.a,k.b,k.c])⟩
structure F4 (P:Program) (kt:TypeId) (κ:Type) [DecidableEq κ] [B4 κ]:Prop where
 check:∀ em w (k:κ),(Instr.checkKey em 10000 kt (B4.val k)).run P w=.ok () w
 find:∀ w (k:κ) (l:List MapEntry) (ks:List κ),l.map (·.key)=ks.map B4.val→
  (Instr.findKey kt (B4.val k) l).run P w=.ok ((ks.findIdx? (fun k'=>decide (k'=k))).bind fun i=>(l[i]?).map fun x=>(i,x.val)) w
 stays:∀ w (k:κ),(Instr.keyThatStays (B4.val k) (B4.val k)).run P w=.ok (B4.val k) w
section maps
variable {κ:Type} [DecidableEq κ] [B4 κ]
def uB (s:Nat):List (κ×Int)→List MapEntry
 | []=>[]
 | (k,v) :: xs=>{ key:=B4.val k,val:=.int .i64 v,born:=s } :: uB (s+1) xs
def B0 (xs:List (κ×Int)):Obj:=.map (uB 0 xs).toArray xs.length
def A8 (xs:List (κ×Int)) (k:κ):Option Int:=(xs.find? (fun x=>decide (x.1=k))).map (·.2)
def Co:List (κ×Int)→κ→Int→List (κ×Int)
 | [],k,v=>[(k,v)]
 | (k',v') :: xs,k,v=>if k'=k then (k',v) :: xs else (k',v') :: Co xs k v
theorem Bc (xs:List (κ×Int)):∀ s,(uB s xs).length=xs.length:=by
 induction xs with
 | nil=>intro s;rfl
 | cons x xs ih=>intro s;simp [uB,ih]
theorem Vh (xs:List (κ×Int)):∀ s,(uB s xs).map (·.key)=(xs.map (·.1)).map B4.val:=by
 induction xs with
 | nil=>intro s;rfl
 | cons x xs ih=>intro s;simp [uB,ih]
theorem yI (xs:List (κ×Int)):∀ (s i:Nat),(uB s xs)[i]?=(xs[i]?).map fun (x:κ×Int)=>({ key:=B4.val x.1,val:=.int .i64 x.2,born:=s+i }:MapEntry):=by
 induction xs with
 | nil=>intro s i;simp [uB]
 | cons x xs ih =>
   intro s i;cases i with
   | zero=>simp [uB]
   | succ i=>simp [uB,ih];congr 1;funext x;congr 1;omega
theorem Eh (xs ys:List (κ×Int)):∀ s,uB s (xs++ys)=uB s xs++uB (s+xs.length) ys:=by
 induction xs with
 | nil=>intro s;simp [uB]
 | cons x xs ih=>intro s;simp [uB,ih];congr 1;omega
theorem Mm (xs:List (κ×Int)) (i:Nat) (k:κ) (v v':Int) (h:xs[i]?=some (k,v)):∀ s,uB s (xs.set i (k,v'))=(uB s xs).modify i (fun e=>{ e with val:=.int .i64 v' }):=by
 intro s;apply hS;intro j;rw [yI,List.getElem?_modify,yI,cI];by_cases hij:i=j
 · subst hij;obtain ⟨hl,hg⟩:=bI.1 h;simp [hl,hg]
 simp [hij]
theorem LQ (xs:List (κ×Int)) (k:κ):((xs.map (·.1)).findIdx? (fun k'=>decide (k'=k))).bind (fun i=>((uB 0 xs)[i]?).map fun x=>(i,x.val)) =
 ((xs.map (·.1)).findIdx? (fun k'=>decide (k'=k))).bind (fun i=>(A8 xs k).map fun v=>(i,Value.int .i64 v)):=by
 have key:∀ (xs:List (κ×Int)) s,((xs.map (·.1)).findIdx? (fun k'=>decide (k'=k))).bind (fun i=>((uB s xs)[i]?).map fun x=>(i,x.val)) =
  ((xs.map (·.1)).findIdx? (fun k'=>decide (k'=k))).bind (fun i=>(A8 xs k).map fun v=>(i,Value.int .i64 v)):=by
  intro xs;induction xs with
  | nil=>intro s;rfl
  | cons x xs ih =>
    intro s;obtain ⟨k',v⟩:=x;simp only [jE,kZ];by_cases hk:k'=k
    · simp [hk,uB,A8]
    have hm:A8 ((k',v) :: xs) k=A8 xs k:=by simp [A8,hk]
    have ih':=ih (s+1);simp only [hk,decide_false,pH,lF,hm];cases hf:(xs.map (·.1)).findIdx? (fun k'=>decide (k'=k)) with
    | none=>simp
    | some i =>
      rw [hf] at ih';simp only [eZ] at ih';simp only [fZ,eZ,uB,iT];cases h1:(uB (s+1) xs)[i]? <;> cases h2:A8 xs k <;> simp_all
 exact key xs 0
theorem Fk (xs:List (κ×Int)) (k:κ):A8 xs k=none↔(xs.map (·.1)).findIdx? (fun k'=>decide (k'=k))=none:=by
 simp [A8,gT]
theorem Kr (xs:List (κ×Int)) (k:κ) {v:Int} (h:A8 xs k=some v):∃ i,(xs.map (·.1)).findIdx? (fun k'=>decide (k'=k))=some i∧xs[i]?=some (k,v)∧∀ v',Co xs k v'=xs.set i (k,v'):=by
 induction xs with
 | nil=>simp [A8] at h
 | cons x xs ih =>
   obtain ⟨k',u⟩:=x;by_cases hk:k'=k
   · subst hk;refine ⟨0,by simp [kZ],?_,fun v'=>by simp [Co]⟩;rw [A8,List.find?_cons] at h;simp at h;simp [h]
   have hm:A8 ((k',u) :: xs) k=A8 xs k:=by simp [A8,hk]
   obtain ⟨i,h1,h2,h3⟩:=ih (hm▸h);exact ⟨i+1,by simp [kZ,hk,h1],by simpa using h2,fun v'=>by simp [Co,hk,h3]⟩
theorem zF (xs:List (κ×Int)) (k:κ) (v:Int) (h:A8 xs k=none):Co xs k v=xs++[(k,v)]:=by
 induction xs with
 | nil=>rfl
 | cons x xs ih =>
   obtain ⟨k',u⟩:=x;by_cases hk:k'=k
   · simp [A8,hk] at h
   have hm:A8 ((k',u) :: xs) k=A8 xs k:=by simp [A8,hk]
   simp [Co,hk,ih (hm▸h)]
theorem xQ (xs:List (κ×Int)) (k k':κ) (v:Int):A8 (Co xs k v) k'=if k'=k then some v else A8 xs k':=by
 induction xs with
 | nil=>by_cases h:k=k' <;> simp [Co,A8,h,eq_comm]
 | cons x xs ih =>
   obtain ⟨k1,u⟩:=x;by_cases h1:k1=k
   · subst h1;simp only [Co,kD];by_cases h2:k1=k'
     · subst h2;simp [A8]
     simp [A8,h2,lT h2]
   simp only [Co,h1,lF];by_cases h2:k1=k'
   · subst h2;simp [A8,h1]
   have e1:∀ ys:List (κ×Int),A8 ((k1,u) :: ys) k'=A8 ys k':=fun ys=>by simp [A8,h2]
   rw [e1,e1,ih]
section find
variable {P:Program} {kt:TypeId}
theorem F4.look (h:F4 P kt κ) (w:World) (xs:List (κ×Int)) (k:κ):(Instr.findKey kt (B4.val k) (uB 0 xs)).run P w =
 .ok (((xs.map (·.1)).findIdx? (fun k'=>decide (k'=k))).bind (fun i=>(A8 xs k).map fun v=>(i,Value.int .i64 v))) w:=by
 rw [h.find w k (uB 0 xs) (xs.map (·.1)) (Vh xs 0),LQ]
end find
end maps
theorem F4.int {P:Program} {kt:TypeId} (h:P.underlying kt=some (.int .i64)):F4 P kt Int where
 check em w k:=MapKept.run_checkKey (k:=.int .i64 k) h (show MapKept.IsKey (.int .i64) (.int .i64 k) from F9) em 9999
 stays w k:=MapKept.run_keyThatStays (d:=.int .i64) (show MapKept.IsKey (.int .i64) (.int .i64 k) from F9)
 find w k l ks hk:=by
  have key:∀ (l:List MapEntry) (ks:List Int) (s:Nat),l.map (·.key)=ks.map B4.val→Instr.findNow (.int .i64) (.int .i64 k) l s=some ((ks.findIdx? (fun k'=>decide (k'=k))).bind fun i=>(l[i]?).map fun x=>(s+i,x.val)):=by
   intro l;induction l with
   | nil=>intro ks s hk;cases ks <;> simp at hk;rfl
   | cons x l ih =>
     intro ks s hk;cases ks with
     | nil=>simp at hk
     | cons k' ks =>
       simp only [jE,lH] at hk;obtain ⟨h1,h2⟩:=hk;have h1:x.key=.int .i64 k':=h1;have hs:Instr.sameNow (.int .i64) (.int .i64 k) x.key=some (k == k'):=by rw [h1];simp [Instr.sameNow]
       by_cases he:k'=k
       · subst he;have hb:(k' == k')=true:=uE;rw [hb] at hs;simp only [Instr.findNow,hs,kZ,decide_true,kD,eZ,List.getElem?_cons_zero,fZ,iH]
       have hb:(k == k')=false:=beq_eq_false_iff_ne.2 (lT he);rw [hb] at hs;simp only [Instr.findNow,hs,ih ks (s+1) h2,kZ,he,decide_false,pH,lF];congr 1;cases ks.findIdx? (fun k'=>decide (k'=k)) with
       | none=>rfl
       | some i=>simp only [fZ,eZ,iT,show s+1+i=s+(i+1) by omega]
  have:=MapKept.run_findKey (P:=P) (w:=w) h (key l ks 0 hk);simp only [cS] at this;exact this
theorem Rw (xs:List Int) (n:Nat):Instr.sameBits (n+1) (.agg (Cn xs)) (.agg (Cn xs))=true:=by
 simp only [Instr.sameBits,BEq.rfl,pW,Cn];rw [eN];intro x hx;have:∀ (l:List Int) (x:Value×Value),x∈(l.map (Value.int .i64)).zip (l.map (Value.int .i64))→∃ v,x=(.int .i64 v,.int .i64 v):=by
  intro l;induction l with
  | nil=>intro x h;simp at h
  | cons a l ih =>
    intro x h;simp only [jE,nA,iU] at h;rcases h with rfl | h
    · exact ⟨a,F9⟩
    exact ih x h
 obtain ⟨v,rfl⟩:=this xs x hx;cases n <;> simp [Instr.sameBits]
theorem Rx {P:Program} {t n:Nat} (hT:Ch P t n) (em:Bool) (w:World) (xs:List Int) (hx:xs.length=n):(Instr.checkKey em 10000 t (.agg (Cn xs))).run P w=.ok () w:=by
 obtain ⟨h1,h2,h3,h4⟩:=hT;have key:∀ (fs:List Field) (s:Nat),fs.map (Eg P)=(List.range' s (n - s)).map (fun i=>(true,i))→s≤n→
  (forIn fs PUnit.unit (fun f _ => if f.name ≠ "_" then (do let a ← part f.type (Cn xs) f.offset; Instr.checkKey em 9999 f.type a; pure (ForInStep.yield PUnit.unit)) else pure (ForInStep.yield PUnit.unit)) : Sem PUnit).run P w = .ok PUnit.unit w := by
  intro fs;induction fs with
  | nil=>intro s _ _;simp
  | cons f fs ih =>
    intro s h hs;have hlen:n - s=fs.length+1:=by have:=congrArg List.length h;simpa using this.symm
    rw [show n - s=(n - (s+1))+1 by omega,List.range'_succ] at h;simp only [jE,Eg,lH,fC,aW] at h;obtain ⟨⟨⟨⟨g1,g2⟩,g3⟩,g4⟩,g5⟩:=h;have ih:=ih (s+1) g5 sW;have hname : f.name ≠ "_" := by simpa using g1
    have hint:P.underlying f.type=some (.int .i64):=by
     split at g2
     · assumption
     cases g2
    have hl:s<xs.length:=sW;have hpart:(part f.type (Cn xs) f.offset).run P w=.ok (.int .i64 (xs[s]?.getD 0)) w:=by
     simp [part,zQ w g3,g4,Cn,hl]
    have hck:(Instr.checkKey em 9999 f.type (.int .i64 (xs[s]?.getD 0))).run P w=.ok () w:=MapKept.run_checkKey hint (show MapKept.IsKey (.int .i64) (.int .i64 _) from F9) em 9998;rw [List.forIn_cons];simp only [hname,ne_eq,not_false_eq_true,kD,dG,hpart,hck,bM,dT];exact ih
 have h0:=key (P.fieldsOf t).toList 0 (by rw [h4,nJ,List.range_eq_range']) (aN _);unfold Instr.checkKey;simp only [dG,dE h1,bM];rw [Array.forIn_toList] at h0;simp only [h0,bM,dT]
theorem F4.k4 {P:Program} {kt:TypeId} (hT:Ch P kt 4):F4 P kt K4 where
 check em w k:=Rx hT em w _ F9
 stays w k:=by
  have:Instr.sameBits 10000 (B4.val k) (B4.val k)=true:=Rw _ 9999;simp [Instr.keyThatStays,this]
 find w k l ks hk:=by
  have hwide:(match P.underlying kt with | some (.array _ _) | some (.struct _)=>true | _=>false)=true:=by rw [hT.1]
  have key:∀ (l:List MapEntry) (ks:List K4) (s:Nat),l.map (·.key)=ks.map B4.val→
   (Instr.findAsking kt (B4.val k) l s).run P w=.ok ((ks.findIdx? (fun k'=>decide (k'=k))).bind fun i=>(l[i]?).map fun x=>(s+i,x.val)) w:=by
   intro l;induction l with
   | nil=>intro ks s hk;cases ks <;> simp at hk;simp [Instr.findAsking]
   | cons x l ih =>
     intro ks s hk;cases ks with
     | nil=>simp at hk
     | cons k' ks =>
       simp only [jE,lH] at hk;obtain ⟨h1,h2⟩:=hk;have heq:(Op.equal kt (B4.val k) x.key).run P w=.ok (decide (k=k')) w:=by
        rw [h1];have:=Bb hT w [k.op,k.a,k.b,k.c] [k'.op,k'.a,k'.b,k'.c] F9 F9;rw [show (B4.val k:Value)=.agg (Cn [k.op,k.a,k.b,k.c]) from rfl,show (B4.val k':Value)=.agg (Cn [k'.op,k'.a,k'.b,k'.c]) from rfl,this];congr 1;cases k;cases k';simp
       simp only [Instr.findAsking,dG,heq,bM,kZ];by_cases he:k'=k
       · subst he;simp
       have he':k≠k':=lT he;simp only [he',he,decide_false,pH,lF];rw [ih ks (s+1) h2];congr 1;cases ks.findIdx? (fun k'=>decide (k'=k)) with
       | none=>rfl
       | some i=>simp only [fZ,eZ,iT,show s+1+i=s+(i+1) by omega]
  rw [run_findKey_eq (P:=P) w hwide];have:=key l ks 0 hk;simp only [cS] at this;exact this
section ops
variable {P:Program} {ops:Array Oper} {rest:List Oper} {B:Bs} {e:A9} {D:List Deferred} {H:Hp} {G:A3} {K:Act→World→Prop}
 {ty:TypeId} {pos:String} {after:Array Edge} {d:Nat}
variable {κ:Type} [DecidableEq κ] [B4 κ] {T kt et:TypeId}
theorem Ks (t:TypeId) (w:World):(Instr.makeMap t none).run P w=.ok (.map (some w.heap.size)) (w.alloc (.map #[] 0)):=rfl
theorem Wl.makeMap (t:Nat) (hn:Nat.ble (d+1) B.n=true)
 (h:∀ b,Wl P ops rest B ⟨(d,.map (some b)) :: e,D,(t,some b,B0 ([]:List (κ×Int))) :: H,G⟩ K) :
 Wl P ops (⟨some d,.makeMap T none,ty,pos,after,none⟩ :: rest) B ⟨e,D,H,G⟩ K:=
 oD (v:=fun b=>.map (some b)) t hn (fun a w hh=>by simp only [execOp,lG,dG,Ks,bM,dT];rfl) h
structure F7 (P:Program) (T kt:TypeId) (κ:Type) [DecidableEq κ] [B4 κ]:Prop where
 und:∃ et,P.underlying T=some (.map kt et)∧∀ w,(zeroValue et).run P w=.ok (.int .i64 0) w
 key:F4 P kt κ
theorem On {x i:Operand} {r:Nat} {xs:List (κ×Int)} {k:κ} (t:Nat) (hT:F7 P T kt κ) (hx:e.ev x=some (.map (some r))) (hi:e.ev i=some (B4.val k)) (ht:H.get t=some (some r,B0 xs)) :
 Qy P (.lookup T x i true) ty e H G (.tuple [.int .i64 ((A8 xs k).getD 0),.bool (A8 xs k).isSome].toArray):=fun a w _ _ _ _ hh=>by
 obtain ⟨⟨et,hu,hz⟩,hk⟩:=hT;have hb:=hh.mem.own t r _ ht;simp only [execOp,hh.eval hx,hh.eval hi,Instr.lookup,dG,dE hu,bM,kX (P:=P) hb,dT,hk.check,hk.look];cases hm:A8 xs k with
 | none =>
   rw [(Fk xs k).1 hm];simp [hz]
 | some v =>
   obtain ⟨i,h1,_⟩:=Kr xs k hm;rw [h1];simp
theorem CN {x i:Operand} {r:Nat} {xs:List (κ×Int)} {k:κ} (t:Nat) (hT:F7 P T kt κ) (hx:e.ev x=some (.map (some r))) (hi:e.ev i=some (B4.val k)) (ht:H.get t=some (some r,B0 xs)) :
 Qy P (.lookup T x i false) ty e H G (.int .i64 ((A8 xs k).getD 0)):=fun a w _ _ _ _ hh=>by
 obtain ⟨⟨et,hu,hz⟩,hk⟩:=hT;have hb:=hh.mem.own t r _ ht;simp only [execOp,hh.eval hx,hh.eval hi,Instr.lookup,dG,dE hu,bM,kX (P:=P) hb,dT,hk.check,hk.look];cases hm:A8 xs k with
 | none =>
   rw [(Fk xs k).1 hm];simp [hz]
 | some v =>
   obtain ⟨i,h1,_⟩:=Kr xs k hm;rw [h1];simp
abbrev kI:=@CN
theorem Vi {w:World} {r:Nat} {o:Obj}:E2 (·=r) w { w with heap:=w.heap.setIfInBounds r o }:=
 ⟨F9,F9,F9,by simp,fun k _ hk=>by simp [lT hk]⟩
theorem Wl.mapUpdate {m i x:Operand} {r:Nat} {xs:List (κ×Int)} {k:κ} {v:Int} (t:Nat) (hT:F7 P T kt κ) (hx:e.ev m=some (.map (some r))) (hi:e.ev i=some (B4.val k)) (hv:e.ev x=some (.int .i64 v)) (ht:H.get t=some (some r,B0 xs))
 (h:Wl P ops rest B ⟨e,D,(t,some r,B0 (Co xs k v)) :: H,G⟩ K):Wl P ops (⟨none,.mapUpdate T m i x,ty,pos,after,none⟩ :: rest) B ⟨e,D,H,G⟩ K:=
 nV (v:=undef) (x:=.skip) ht (.inl ⟨F9,F9⟩) (fun a w hh=>by
  obtain ⟨⟨et,hu,hz⟩,hk⟩:=hT;have hb:=hh.mem.own t r _ ht;have hlt:r<w.heap.size:=(fF.1 hb).1;refine ⟨{ w with heap:=w.heap.setIfInBounds r (B0 (Co xs k v)) },?_,Vi,by simp [hlt]⟩;simp only [execOp,hh.eval hx,hh.eval hi,hh.eval hv,Instr.mapUpdate,dG,dE hu,bM,kX (P:=P) hb,dT,hk.check,hk.look];cases hm:A8 xs k with
  | none =>
    rw [(Fk xs k).1 hm,zF xs k v hm];simp only [Option.bind_none,nL (P:=P) _ hb,bM];congr 3;simp [B0,Eh,uB]
  | some u =>
    obtain ⟨i,h1,h2,h3⟩:=Kr xs k hm;rw [h1,h3];have hg:(uB 0 xs)[i]?=some { key:=B4.val k,val:=.int .i64 u,born:=0+i }:=by rw [yI,h2];rfl
    simp only [eZ,fZ,lO,hg,eH,dG,hk.stays,bM,nL (P:=P) _ hb];congr 3;simp only [B0,aG,Mm xs i k u v h2];congr 1;apply Array.ext';simp only [Array.toList_modify];apply hS;intro j;simp only [List.getElem?_modify,yI];by_cases hij:i=j
    · subst hij;simp [h2]
    simp [hij]) h
theorem Wl.mapEntry {m i:Operand} {r:Nat} {xs:List (κ×Int)} {k:κ} (t:Nat) (hn:Nat.ble (d+1) B.n=true) (hT:F7 P T kt κ) (hx:e.ev m=some (.map (some r))) (hi:e.ev i=some (B4.val k)) (ht:H.get t=some (some r,B0 xs))
 (hk0:A8 xs k=none) (h:Wl P ops rest B ⟨(d,.tuple [.int .i64 0,.int .i64 xs.length].toArray) :: e,D,(t,some r,B0 (xs++[(k,0)])) :: H,G⟩ K) :
 Wl P ops (⟨some d,.mapEntry T m i,ty,pos,after,none⟩ :: rest) B ⟨e,D,H,G⟩ K:=
 nV (v:=.tuple [.int .i64 0,.int .i64 xs.length].toArray) (x:=.value (.tuple [.int .i64 0,.int .i64 xs.length].toArray)) ht (.inr ⟨F9,d,F9,hn⟩) (fun a w hh=>by
  obtain ⟨⟨et,hu,hz⟩,hk⟩:=hT;have hb:=hh.mem.own t r _ ht;have hlt:r<w.heap.size:=(fF.1 hb).1;refine ⟨{ w with heap:=w.heap.setIfInBounds r (B0 (xs++[(k,0)])) },?_,Vi,by simp [hlt]⟩;simp only [execOp,hh.eval hx,hh.eval hi,Instr.mapEntry,dG,dE hu,bM,kX (P:=P) hb,dT,hk.check,hk.look];rw [(Fk xs k).1 hk0];simp only [Option.bind_none,dG,hz,bM,nL (P:=P) _ hb,dT,goInt];congr 3;simp [B0,Eh,uB]) h
theorem Wl.entryStore {m s x:Operand} {r:Nat} {xs:List (κ×Int)} {k:κ} {u v:Int} (t:Nat) (hx:e.ev m=some (.map (some r))) (hs:e.ev s=some (.int .i64 xs.length)) (hv:e.ev x=some (.int .i64 v))
 (ht:H.get t=some (some r,B0 (xs++[(k,u)]))) (h:Wl P ops rest B ⟨e,D,(t,some r,B0 (xs++[(k,v)])) :: H,G⟩ K) :
 Wl P ops (⟨none,.entryStore T m s x,ty,pos,after,none⟩ :: rest) B ⟨e,D,H,G⟩ K:=
 nV (v:=undef) (x:=.skip) ht (.inl ⟨F9,F9⟩) (fun a w hh=>by
  have hb:=hh.mem.own t r _ ht;have hlt:r<w.heap.size:=(fF.1 hb).1;refine ⟨{ w with heap:=w.heap.setIfInBounds r (B0 (xs++[(k,v)])) },?_,Vi,by simp [hlt]⟩;have hfind:(uB 0 (xs++[(k,u)])).toArray.findIdx? (fun e=>(e.born:Int) == (xs.length:Int))=some xs.length:=by
   rw [List.findIdx?_toArray,nE];refine ⟨by rw [Bc];simp,?_,?_⟩
   · have:=yI (xs++[(k,u)]) 0 xs.length;have hl:xs.length<(uB 0 (xs++[(k,u)])).length:=by rw [Bc];simp
     rw [aA hl] at this;simp at this;simp [this]
   intro j hj;have:=yI (xs++[(k,u)]) 0 j;have hl:j<(uB 0 (xs++[(k,u)])).length:=by rw [Bc];simp;omega
   rw [aA hl] at this;have hb:(uB 0 (xs++[(k,u)]))[j].born=j:=by
    cases hq:(xs++[(k,u)])[j]? with
    | none=>rw [hq] at this;simp at this
    | some y=>rw [hq] at this;simp at this;rw [this]
   simp [hb];omega
  simp only [execOp,hh.eval hx,hh.eval hs,hh.eval hv,Instr.entryStore,dG,kX (P:=P) hb,bM,asInt,asIntOf,dT];rw [hfind];simp only [nL (P:=P) _ hb,bM,dT];congr 3;have h2:(xs++[(k,u)])[xs.length]?=some (k,u):=uE;have h3:=Mm (xs++[(k,u)]) xs.length k u v h2 0;have h4:(xs++[(k,u)]).set xs.length (k,v)=xs++[(k,v)]:=uE;rw [h4] at h3;simp only [B0,h3];simp) h
abbrev rR:=@Wl.entryStore
end ops
end Go.Sl
