/- wG of the proof (part 1): what the rows' text needs of the texts that lead to it. -/
import Derived.CallsIn
import Derived.OrdersIn
import Derived.TacticsIn
import Derived.RangeFuncIn
import Derived.RangeFuncLeaves
import Derived.Laws.World
import Derived.Laws.Sem
import Derived.WalkKit
import Derived.Laws.StructEq
import Derived.Great.FillDense
import Derived.Laws.Slices
import Derived.Great.BuildSlice
import Derived.MapKept
import Derived.WideKeyRuns
import Derived.RangeFuncRecord
import Derived.RangeFuncNested
import Derived.Laws.Bits64b
import Derived.Test.YtngphgeghfdjbaaGreatDoorProg
import Derived.JoinedCond
import Derived.Carry
import Derived.ChangeSame
import Derived.ChangeShapes
import Derived.RowKit
import Derived.Deep.Slices
import Derived.Test.YtngphgeghfdjbaaGreatDoorCards
import Derived.Test.YtngphgeghfdjbaaGreatDoorTie
import Derived.Test.YtngphgeghfdjbaaGreatDoorRows
import Derived.Lib.SmallJoins
import Derived.Deep.DeepHandedRow
import Derived.Lib.LaidTab
import Derived.Test.YtngphgeghfdjbaaGreatDoorIy
import Derived.Laws.BytesString
import Derived.Lib.Builder
import Derived.Lib.UnsafeStr
import Derived.Laws.Externs
import Derived.Deep.AppendSrc
import Derived.LaidEql
set_option linter.unusedVariables false
set_option linter.unusedSimpArgs false
set_option linter.unusedSectionVars false
set_option maxHeartbeats 4000000
set_option maxRecDepth 100000
namespace Go
abbrev U:=@rfl
abbrev I8:=trivial
theorem uJ {p:Prop} (h:p:=by omega):p:=h
theorem yH {p:Prop} (h:p:=by first | omega | (simp only [aI,bN,cR,maxLen];omega)):p:=h
theorem vG {p:Prop} (h:p:=by first | assumption | omega):p:=h
theorem uO {p:Prop} (h:p:=by kernel_rfl):p:=h
theorem Cl {p:Prop} (h:p:=by first | exact A3.le_refl _ | repeat (first | assumption | refine A3.le_trans ?_ uK)):p:=h
theorem uR {p:Prop} (h:p:=by decide):p:=h
theorem So {p:Prop} (h:p:=by first | exact I8 | with_reducible rfl | assumption | exact cX vG | exact cM vG | omega | rfl):p:=h
theorem Ei {p:Prop} (h:p:=by first | assumption | exact A5.nil | exact Uc vL):p:=h
theorem Sp {p:Prop} (h:p:=by first | omega | (simp only [bN,cR];omega)):p:=h
theorem Zf {p:Prop} (h:p:=by repeat (first | exact DX _ _ | refine DY U ?_)):p:=h
theorem vL {p:Prop} (h:p:=by simp):p:=h
theorem Tv {p:Prop} (h:p:=by apply qt <;> first | assumption | omega | rfl):p:=h
theorem Ob {p:Prop} (h:p:=by rw [aH];omega):p:=h
theorem Oc {p:Prop} (h:p:=by rw [aC];omega):p:=h
theorem Tw {p:Prop} (h:p:=by rw [←es,aH]):p:=h
theorem Od {p:Prop} (h:p:=by rw [aH]):p:=h
theorem Ej {p:Prop} (h:p:=by decide +kernel):p:=h
theorem Mf {p:Prop} (h:p:=by intro h;cases h):p:=h
theorem GX {p:Prop} (h:p:=by simp only [cR];omega):p:=h
theorem Ty {p:Prop} (h:p:=by unfold yN at *;omega):p:=h
theorem OE {p:Prop} (h:p:=by rw [cR];simp only [maxLen];omega):p:=h
theorem Oe {p:Prop} (h:p:=by simp [maxLen]):p:=h
theorem GY {p:Prop} (h:p:=by rw [hout,aH]):p:=h
theorem GZ {p:Prop} (h:p:=by rw [cE];omega):p:=h
theorem OF {p:Prop} (h:p:=by rw [mK w (ρ t).1 _ _ bt _ g1]):p:=h
theorem HA {p:Prop} (h:p:=by rw [es,aH]):p:=h
theorem xY {p:Prop} (h:p:=by cases h):p:=h
theorem Ie {p:Prop} (h:p:=by cases ht):p:=h
theorem Mg {p:Prop} (h:p:=by simp [hp]):p:=h
theorem HB {p:Prop} (h:p:=by rw [hout];exact Iu _):p:=h
theorem HC {p:Prop} (h:p:=by unfold yN at hp;omega):p:=h
theorem HD {p:Prop} (h:p:=by rw [Ao];exact hm):p:=h
theorem ZE {p:Prop} (h:p:=by first | exact I8 | with_reducible rfl | assumption | omega | rfl):p:=h
theorem OG {p:Prop} (h:p:=by rw [z,gM,cH]):p:=h
theorem Zg {p:Prop} (h:p:=by rw [hsz];omega):p:=h
theorem uK {p:Prop} (h:p:=by assumption):p:=h
end Go
namespace Go.Sl
abbrev aA:=@List.getElem?_eq_getElem
abbrev aB:=@Bool.and_eq_true
abbrev aC:=@List.length_replicate
abbrev aD:=@Nat.eq_of_beq_eq_true
abbrev aE:=@if_neg
abbrev aG:=@Nat.le_refl
abbrev aH:=@Int.toNat_natCast
abbrev aI:=@List.length_append
abbrev aJ:=@List.length_set
abbrev aK:=@Nat.lt_or_ge
abbrev aM:=@if_pos
abbrev aO:=@Go.Result.andThen_ok
abbrev aP:=@Nat.le_trans
abbrev aQ:=@Go.run_underlying
abbrev aR:=@List.getElem?_eq_some_iff
abbrev aS:=@Nat.zero_le
abbrev aW:=@List.length_map
abbrev aY:=@decide_eq_true_eq
abbrev bC:=@List.getElem?_append_left
abbrev bD:=@List.mem_cons_of_mem
abbrev bF:=@List.getElem?_eq_none
abbrev bG:=@Int.mul_le_mul_of_nonneg_left
abbrev bI:=@List.length_take
abbrev bJ:=@List.getElem?_map
abbrev bK:=@Nat.le_of_ble_eq_true
abbrev bL:=@Go.Sem.run_bind
abbrev bM:=@List.mem_cons_self
abbrev bN:=@List.length_cons
abbrev bQ:=@Int.mul_add
abbrev bR:=@Go.Sem.run_pure
abbrev bS:=@List.eq_nil_of_length_eq_zero
abbrev bV:=@Int.mul_zero
abbrev bW:=@Nat.lt_of_lt_of_le
abbrev bX:=@List.take_zero
abbrev cA:=@List.map_cons
abbrev cD:=@List.getElem?_append_right
abbrev cE:=@List.length_drop
abbrev cF:=@Nat.zero_add
abbrev cH:=@Int.add_zero
abbrev cK:=@Array.getElem?_eq_some_iff
abbrev cM:=@decide_eq_false
abbrev cN:=@Int.le_of_lt
abbrev cO:=@Option.some.injEq
abbrev cR:=@List.length_nil
abbrev cU:=@List.append_assoc
abbrev cV:=@List.mem_map
abbrev cW:=@Int.mul_comm
abbrev cX:=@decide_eq_true
abbrev cY:=@List.drop_eq_nil_of_le
abbrev dA:=@Int.mul_assoc
abbrev dB:=@Nat.lt_succ_self
abbrev dD:=@Nat.eq_zero_or_pos
abbrev dE:=@Nat.min_eq_left
abbrev dF:=@List.take_append_drop
abbrev dI:=@List.map_congr_left
abbrev dK:=@List.mem_cons
abbrev dL:=@Nat.le_succ
abbrev dM:=@Nat.pow_succ
abbrev dO:=@List.length_range
abbrev dP:=@List.getElem?_range
abbrev dQ:=@Nat.mul_le_mul_right
abbrev dS:=@Int.natCast_mul
abbrev dW:=@List.ext_getElem?
abbrev dY:=@List.getElem_mem
abbrev dZ:=@Int.toNat_of_nonneg
abbrev eB:=@Nat.add_mul
abbrev eE:=@Int.mul_left_comm
abbrev eF:=@Prod.mk.injEq
abbrev eG:=@Nat.mul_comm
abbrev eJ:=@Bool.not_eq_true'
abbrev eL:=@List.mem_append
abbrev eM:=@Int.emod_lt_of_pos
abbrev eN:=@List.drop_eq_getElem_cons
abbrev eO:=@Int.one_mul
abbrev eQ:=@List.take_of_length_le
abbrev eR:=@Nat.pow_le_pow_right
abbrev eS:=@Nat.mod_eq_of_lt
abbrev eT:=@List.all_eq_true
abbrev eU:=@Int.mul_le_mul_of_nonneg_right
abbrev eW:=@List.getElem?_drop
abbrev eY:=@Nat.div_lt_iff_lt_mul
abbrev eZ:=@decide_eq_false_iff_not
abbrev fA:=@List.take_append_of_le_length
abbrev fB:=@List.drop_append_of_le_length
abbrev fD:=@Nat.mul_le_mul_left
abbrev fH:=@List.append_nil
abbrev fI:=@if_true
abbrev fJ:=@if_false
abbrev fO:=@List.getElem?_take
abbrev fQ:=@Nat.add_zero
abbrev fR:=@Option.map_some
abbrev fS:=@Go.mem_ready
abbrev fW:=@List.take_add_one
abbrev gC:=@Classical.byContradiction
abbrev gD:=@Go.World.putObj_heap_same
abbrev gG:=@Option.map_eq_some_iff
abbrev gH:=@Option.some.inj
abbrev gI:=@List.nil_append
abbrev gJ:=@List.length_singleton
abbrev gL:=@List.getElem?_set
abbrev gM:=@Int.zero_mul
abbrev gN:=@Array.getD_eq_getD_getElem?
abbrev gP:=@List.getElem?_cons_succ
abbrev gQ:=@Nat.mul_le_mul
abbrev gR:=@Int.mul_one
abbrev gT:=@decide_eq_decide
abbrev gX:=@List.take_length
abbrev gY:=@List.map_map
abbrev iA:=@cond_true
abbrev iC:=@Int.emod_add_mul_ediv
abbrev iH:=@List.eq_of_mem_replicate
abbrev iI:=@Go.DataW.trod_int
abbrev iK:=@Nat.pow_zero
abbrev iL:=@List.map_append
abbrev iM:=@Int.zero_add
abbrev iP:=@Nat.pow_pos
abbrev iQ:=@Nat.add_sub_cancel_left
abbrev iR:=@List.mem_of_getElem?
abbrev iS:=@BitVec.ofInt_natCast
abbrev iW:=@Nat.sub_self
abbrev iX:=@Nat.mod_lt
abbrev jA:=@List.length_zipWith
abbrev jC:=@List.mem_filter
abbrev jD:=@List.cons.injEq
abbrev jE:=@Array.getElem?_setIfInBounds_ne
abbrev jI:=@List.eq_nil_iff_forall_not_mem
abbrev jJ:=@Int.lt_of_lt_of_le
abbrev jK:=@BitVec.toNat_ofNat
abbrev jN:=@Nat.zero_mul
abbrev jO:=@List.map_nil
abbrev jR:=@Go.getD_set_ne
abbrev jT:=@Nat.mul_one
abbrev jU:=@List.mem_append_left
abbrev jX:=@Nat.le_mul_of_pos_right
abbrev jY:=@Decidable.not_not
abbrev kA:=@Int.emod_nonneg
abbrev kC:=@List.all_cons
abbrev kD:=@Int.mul_sub
abbrev kE:=@Int.add_mul
abbrev kF:=@Option.getD_some
abbrev kG:=@Option.bind_some
abbrev kH:=@List.map_toArray
abbrev kI:=@Go.run_loadCells_list
abbrev kM:=@Nat.lt_of_le_of_lt
abbrev kN:=@List.drop_zero
abbrev kO:=@Go.IntWalk.u64_in
abbrev kP:=@Int.natCast_nonneg
abbrev kS:=@List.mem_append_right
abbrev kT:=@Array.getElem?_modify
abbrev kU:=@List.mem_or_eq_of_mem_set
abbrev kX:=@Nat.pow_add
abbrev kY:=@Int.ofNat_eq_natCast
abbrev lA:=@Nat.pow_le_pow_left
abbrev lB:=@Array.length_toList
abbrev lF:=@List.getElem?_replicate
abbrev lG:=@Go.IntWalk.i64_in
abbrev lH:=@Int.mul_nonneg
abbrev lK:=@Int.neg_mul
abbrev lN:=@List.mem_singleton
abbrev lO:=@List.findIdx?_cons
abbrev lP:=@Int.pow_zero
abbrev lQ:=@Int.pow_succ
abbrev lS:=@Int.ediv_eq_zero_of_lt
abbrev lV:=@Array.getElem?_eq_none
abbrev lX:=@Option.map_none
abbrev lY:=@Nat.div_add_mod
abbrev lZ:=@List.nodup_cons
abbrev mC:=@Nat.lt_irrefl
abbrev mE:=@Int.ediv_lt_of_lt_mul
abbrev mF:=@Go.run_storeCells_at
abbrev mH:=@List.drop_length_add_append
abbrev mI:=@Int.mul_lt_mul_of_pos_right
abbrev mK:=@Go.setRow_heap
abbrev mR:=@Nat.mul_lt_mul_of_pos_left
abbrev mS:=@List.nodup_nil
abbrev mT:=@List.mem_iff_getElem
abbrev mV:=@Array.mem_toList_iff
abbrev nF:=@List.take_set_of_le
abbrev nG:=@List.length_reverse
abbrev nH:=@List.length_pos_iff
abbrev nJ:=@Nat.pow_lt_pow_iff_right
abbrev nK:=@Nat.add_assoc
abbrev nL:=@Bool.and_true
abbrev nP:=@Nat.add_one_mul
abbrev nQ:=@Int.ediv_nonneg
abbrev nS:=@Bool.or_eq_true
abbrev nT:=@cond_false
abbrev nU:=@UInt8.toNat_ofNat'
abbrev nY:=@Bool.false_eq_true
abbrev nZ:=@Go.fenced_calm
abbrev oD:=@Nat.one_mul
abbrev oJ:=@Go.MapKept.run_setObj_map
abbrev oK:=@Go.MapKept.run_getObj_map
abbrev oL:=@List.size_toArray
abbrev oM:=@List.mem_range
abbrev oN:=@Int.ofNat_lt
abbrev oO:=@Int.ne_of_gt
abbrev oP:=@Iff.rfl
abbrev oU:=@List.getElem?_toArray
abbrev oV:=@Array.getElem?_toList
abbrev oY:=@List.getElem_map
abbrev oZ:=@List.ext_getElem
abbrev pB:=@Go.IntKind.wrap_u64
abbrev pD:=@Array.eq_empty_of_size_eq_zero
abbrev pG:=@Nat.mul_assoc
abbrev pH:=@Int.add_assoc
abbrev pI:=@Bool.true_and
abbrev pL:=@Nat.mul_pos
abbrev pM:=@Nat.mul_add
abbrev pQ:=@Int.natCast_add
abbrev pS:=@List.reverse_append
abbrev pT:=@List.replicate_succ
abbrev pU:=@List.map_eq_nil_iff
abbrev pV:=@getElem!_pos
abbrev pX:=@Nat.two_pow_add_eq_or_of_lt
abbrev pY:=@Nat.sub_zero
abbrev pZ:=@Go.Lib.run_unsafeSliceData_row
abbrev qA:=@Int.sub_zero
abbrev qB:=@Int.ofNat_le
abbrev qD:=@Go.growslice_fits
abbrev qE:=@Go.grownCap_le_maxLen
abbrev qH:=@Option.none_or
abbrev qI:=@List.getElem_range
abbrev qJ:=@List.drop_drop
abbrev qL:=@Int.natAbs_mul
abbrev qM:=@Int.fdiv_eq_ediv_of_nonneg
abbrev qP:=@Array.getElem?_append_left
abbrev qQ:=@List.findIdx?_eq_none_iff
abbrev qR:=@Go.run_sliceAt_slice
abbrev qS:=@List.nodup_append
abbrev qU:=@Go.DataW.trod_struct
abbrev qX:=@Go.getD_set_true
abbrev rA:=@Int.dvd_iff_emod_eq_zero
abbrev rE:=@List.getElem?_cons_zero
abbrev rF:=@Go.IntKind.wrap_u32
abbrev rG:=@Array.toList_map
abbrev rM:=@Ne.symm
abbrev rN:=@Nat.succ_mul
abbrev rO:=@Nat.succ.inj
abbrev rP:=@Nat.div_div_eq_div_mul
abbrev rR:=@Go.Act.put_comm
abbrev rU:=@Int.add_mul_ediv_left
abbrev rV:=@Classical.choose_spec
abbrev rW:=@Go.size_zeroCells
abbrev sD:=@Nat.pow_mul
abbrev sE:=@List.range_eq_range'
abbrev sF:=@List.mem_of_mem_take
abbrev sG:=@List.mem_of_mem_drop
abbrev sH:=@List.getElem?_set_ne
abbrev sI:=@List.getElem?_modify
abbrev sJ:=@Go.IntWalk.u32_in
abbrev sK:=@Int.sub_mul
abbrev sL:=@Int.natAbs_pow
abbrev sM:=@Int.le_refl
abbrev sN:=@Int.ediv_emod_unique
abbrev sY:=@Go.run_firstCells_some
abbrev sZ:=@List.drop_set_of_lt
abbrev tA:=@Go.StepsIn.trans
abbrev tD:=@Nat.sub_add_cancel
abbrev tE:=@List.set_cons_zero
abbrev tF:=@List.set_cons_succ
abbrev tG:=@Array.ext'
abbrev tH:=@List.findIdx?_eq_some_iff_getElem
abbrev tI:=@Go.run_sameAddr_same
abbrev tJ:=@of_decide_eq_true
abbrev tN:=@Nat.ne_of_lt
abbrev tO:=@Nat.min_self
abbrev tP:=@Nat.le_succ_of_le
abbrev tQ:=@Nat.add_comm
abbrev tR:=@List.reverse_cons
abbrev tS:=@Int.natAbs_add_le
abbrev uD:=@Nat.zero_testBit
abbrev uE:=@List.range'_succ
abbrev uF:=@List.mem_reverse
abbrev uG:=@List.drop_length
abbrev uH:=@List.cons_append
open Go
def FF (r:Option Nat):Fence:={ fn:=fun _=>True,depth:=none,alive:=false,round:=r }
theorem UZ (r:Option Nat) (n:Nat):(FF r).room n:=fun _ h=>by simp [FF] at h
theorem zS {r:Option Nat} {n:Nat} {P:Program} {f:FuncId} {args:Array Value} {w:World} {R:Ending→World→Prop} :
 CallsIn (FF r) n P f args w R↔Calls P f args w R:=
 ⟨fun h=>(callsIn_wide (n:=0)).1 ⟨I8,fun cs _=>h.2 cs (UZ _ _)⟩,fun h=>⟨I8,fun cs _=>((callsIn_wide (n:=0)).2 h).2 cs (room_wide _)⟩⟩
def Ag (P:Program) (o:Oper) (a:Act) (w:World) (K:Act→World→Prop):Prop:=
 match (execOp a.eval o).run P w with
 | .ok (.value v) w'=>K (a.put o.dst v) w'
 | .ok .skip w'=>K (a.put o.dst undef) w'
 | .ok (.enter f args) w'=>Calls P f args w' (fun e w''=>∃ v,e=.returned v∧K (a.put o.dst v) w'')
 | .ok (.round l f tmps assign body) w'=>RoundIn Fence.wide 0 P l f tmps assign body w' (fun e w''=>∃ v,e=.returned v∧K (a.put o.dst v) w'')
 | _=>False
def vT (o:Oper):Bool:=match o.op with | .defer _=>false | _=>true
theorem Zh {o:Oper} (h:vT o=true):∀ c,o.op≠.defer c:=by
 intro c hc;simp [vT,hc] at h
theorem Ft {P:Program} {o:Oper} {a:Act} {w:World} {K K':Act→World→Prop} (hK:∀ a w,K a w→K' a w) (h:Ag P o a w K):Ag P o a w K':=by
 unfold Ag at *;generalize (execOp a.eval o).run P w=r at *;cases r with
 | ok x w' =>
   cases x <;> simp only at h ⊢ <;> first
    | exact hK _ _ h
    | exact h.mono fun e w ⟨v,hv,hk⟩=>⟨v,hv,hK _ _ hk⟩
 | halt x w'=>exact h
theorem Of {P:Program} {o:Oper} {a:Act} {w:World} {K:Act→World→Prop} {Q:Exit→Act→World→Prop} {r:Option Nat} {n:Nat}
 (hd:vT o=true) (h:Ag P o a w K):o.wpIn (FF r) n P a w K Q:=by
 refine ⟨fun _ _=>trivial,?_⟩;rw [Oper.semAt_eq _ _ _ (Zh hd)];unfold Ag at h;split at h
 · rename_i v w' hr;rw [hr];exact h
 · rename_i w' hr;rw [hr];exact h
 · rename_i f args w' hr;rw [hr];exact ⟨fun h=>by simp [FF] at h,zS.2 (h.mono fun e w'' ⟨v,hv,hk⟩=>by subst hv;exact hk)⟩
 · rename_i l f tmps assign body w' hr;rw [hr];exact ⟨fun h=>by simp [FF] at h,I8,fun c cs _=>(h.mono fun e w'' ⟨v,hv,hk⟩=>by subst hv;exact hk).2 c cs (room_wide _)⟩
 exact h.elim
def uZ (P:Program) (ops:Array Oper):List Oper→Act→World→(Act→World→Prop)→Prop
 | [],a,w,K=>K a w
 | o :: rest,a,w,K=>if Region.wanted o (yielded ops a.tmps) then Ag P o a w (fun a w=>uZ P ops rest a w K) else uZ P ops rest (a.put o.dst undef) w K
theorem Ce {P:Program} {ops:Array Oper} {Q:Exit→Act→World→Prop} {r:Option Nat} {n:Nat} :
 ∀ (l:List Oper) (a:Act) (w:World),l.all vT=true→uZ P ops l a w (Q .normal)→wpListIn (FF r) n P ops Q l a w
 | [],_,_,_,h=>h
 | o :: rest,a,w,hd,h=>by
   simp only [kC,aB] at hd;unfold uZ at h;unfold wpListIn;split <;> rename_i hw
   · rw [aM hw] at h;exact Of hd.1 (Ft (fun a w h=>Ce rest a w hd.2 h) h)
   rw [aE hw] at h;exact ⟨fun _ _=>trivial,Ce rest _ _ hd.2 h⟩
theorem Gu {P:Program} {ops:Array Oper} {K K':Act→World→Prop} (hK:∀ a w,K a w→K' a w):∀ (l:List Oper) (a:Act) (w:World),uZ P ops l a w K→uZ P ops l a w K'
 | [],_,_,h=>hK _ _ h
 | o :: rest,a,w,h=>by
   unfold uZ at h ⊢;split <;> rename_i hw
   · rw [aM hw] at h;exact Ft (fun a w h=>Gu hK rest a w h) h
   rw [aE hw] at h;exact Gu hK rest _ _ h
theorem Do {P:Program} {ops:Array Oper} {K:Act→World→Prop}:∀ (l l':List Oper) (a:Act) (w:World),
 uZ P ops l a w (fun a w=>uZ P ops l' a w K)→uZ P ops (l++l') a w K
 | [],_,_,_,h=>h
 | o :: rest,l',a,w,h=>by
   unfold uZ at h;simp only [uH];unfold uZ;split <;> rename_i hw
   · rw [aM hw] at h;exact Ft (fun a w h=>Do rest l' a w h) h
   rw [aE hw] at h;exact Do rest l' _ _ h
abbrev B0:=List (Nat×Value)
def B0.get:B0→Nat→Option Value
 | [],_=>none
 | (i,v) :: e,j=>bif Nat.beq i j then some v else B0.get e j
def B0.ev (e:B0):Operand→Option Value
 | .tmp t=>e.get t
 | .const v=>some v
 | .global g=>some (.pointer (some ⟨g,0,none⟩))
 | .func f=>some (.func (.func f) #[] #[])
def B0.evs (e:B0):List Operand→Option (List Value)
 | []=>some []
 | x :: xs=>match e.ev x,B0.evs e xs with
   | some v,some vs=>some (v :: vs)
   | _,_=>none
theorem Wu (e:B0) (i j:Nat) (v:Value):B0.get ((i,v) :: e) j=if i=j then some v else e.get j:=by
 show (bif Nat.beq i j then some v else B0.get e j)=_;by_cases h:i=j
 · subst h;simp
 have:Nat.beq i j=false:=by cases hb:Nat.beq i j with | false=>rfl | true=>exact absurd (aD hb) h
 simp [this,h]
abbrev jQ:=@Wu
abbrev Hp:=List (Nat×Option Nat×Obj)
def Hp.get:Hp→Nat→Option (Option Nat×Obj)
 | [],_=>none
 | (i,x) :: h,j=>bif Nat.beq i j then some x else Hp.get h j
theorem Zi (h:Hp) (i j:Nat) (x:Option Nat×Obj):Hp.get ((i,x) :: h) j=if i=j then some x else h.get j:=by
 show (bif Nat.beq i j then some x else Hp.get h j)=_;by_cases e:i=j
 · subst e;simp
 have:Nat.beq i j=false:=by cases hb:Nat.beq i j with | false=>rfl | true=>exact absurd (aD hb) e
 simp [this,e]
abbrev bZ:=@Zi
def Hp.has (h:Hp) (b:Nat):Prop:=∃ t o,h.get t=some (some b,o)
abbrev A3:=Nat→Option Obj
def A3.le (G G':A3):Prop:=∀ b o,G b=some o→G' b=some o
theorem A3.le_refl (G:A3):G.le G:=fun _ _ h=>h
abbrev cC:=@A3.le_refl
theorem A3.le_trans {A B C:A3} (h:A.le B) (k:B.le C):A.le C:=fun b o x=>k b o (h b o x)
abbrev bH:=@A3.le_trans
structure B6 (H:Hp) (G:A3) (w:World):Prop where
 own:∀ t b o,H.get t=some (some b,o)→w.heap[b]?=some o
 one:∀ t t' b o o',H.get t=some (some b,o)→H.get t'=some (some b,o')→t=t'
 imm:∀ b o,G b=some o→w.heap[b]?=some o
 off:∀ t b o,H.get t=some (some b,o)→G b=none
structure D2 (X:Nat→Prop) (w w':World):Prop where
 os:w'.os=w.os
 tape:w'.tape=w.tape
 output:w'.output=w.output
 size:w.heap.size≤w'.heap.size
 same:∀ k,k<w.heap.size→¬X k→w'.heap[k]?=w.heap[k]?
theorem D2.refl (X:Nat→Prop) (w:World):D2 X w w:=⟨U,U,U,aG _,fun _ _ _=>rfl⟩
abbrev lE:=@D2.refl
theorem D2.trans {X:Nat→Prop} {a b c:World} (h:D2 X a b) (k:D2 X b c):D2 X a c:=
 ⟨k.os.trans h.os,k.tape.trans h.tape,k.output.trans h.output,aP h.size k.size,fun i hi hx=>(k.same i (bW hi h.size) hx).trans (h.same i hi hx)⟩
theorem D2.mono {X Y:Nat→Prop} {a b:World} (h:D2 X a b) (hx:∀ k,k<a.heap.size→X k→Y k):D2 Y a b:=
 ⟨h.os,h.tape,h.output,h.size,fun i hi hy=>h.same i hi (fun x=>hy (hx i hi x))⟩
theorem alloc_old (w:World) (o:Obj) (k:Nat) (hk:k<w.heap.size):(w.alloc o).heap[k]?=w.heap[k]?:=by
 show (w.heap.push o)[k]?=_;rw [Array.getElem?_push,aE (tN hk)]
theorem vQ (w:World) (o:Obj):(w.alloc o).heap[w.heap.size]?=some o:=by
 show (w.heap.push o)[w.heap.size]?=_;rw [Array.getElem?_push,aM rfl]
theorem D2.alloc {X:Nat→Prop} {w0 w:World} (h:D2 X w0 w) (o:Obj):D2 X w0 (w.alloc o):=
 h.trans ⟨U,U,U,by simp,fun k hk _=>alloc_old w o k hk⟩
theorem D2.drew {X:Nat→Prop} {w0 w:World} (h:D2 X w0 w):D2 X w0 w.drew:=h.trans ⟨U,U,U,aG _,fun _ _ _=>rfl⟩
structure Bs where
 n:Nat
 W:World
 X:Nat→Prop
 G0:A3
structure St where
 e:B0
 D:List Deferred
 H:Hp
 G:A3
structure A7 (B:Bs) (S:St) (a:Act) (w:World):Prop where
 size:a.tmps.size=B.n
 defers:a.defers=S.D
 env:∀ i v,S.e.get i=some v→a.tmps[i]?=some v
 mem:B6 S.H S.G w
 upd:D2 B.X B.W w
 mine:∀ t b o,S.H.get t=some (some b,o)→B.W.heap.size≤b∨B.X b
 le:B.G0.le S.G
 new:∀ b,S.G b≠none→B.G0 b=none→B.W.heap.size≤b∨B.X b
theorem A7.eval {B:Bs} {S:St} {a:Act} {w:World} (h:A7 B S a w) {x:Operand} {v:Value} (hx:S.e.ev x=some v):a.eval x=v:=by
 cases x with
 | tmp t =>
   have:=h.env t v hx;simp [Act.eval,this]
 | const u=>simpa [B0.ev,Act.eval] using hx
 | global g=>simpa [B0.ev,Act.eval] using hx
 | func f=>simpa [B0.ev,Act.eval] using hx
theorem A7.evals {B:Bs} {S:St} {a:Act} {w:World} (h:A7 B S a w):∀ {xs:List Operand} {vs:List Value},S.e.evs xs=some vs→xs.map a.eval=vs
 | [],vs,hx=>by simp [B0.evs] at hx;simp [←hx]
 | x :: xs,vs,hx=>by
   unfold B0.evs at hx;split at hx
   · rename_i v us h1 h2;simp only [cO] at hx;subst hx;simp [h.eval h1,h.evals h2]
   cases hx
theorem A7.args {B:Bs} {S:St} {a:Act} {w:World} (h:A7 B S a w) {xs:Array Operand} {vs:List Value} (hx:S.e.evs xs.toList=some vs):xs.map a.eval=vs.toArray:=by
 rw [←h.evals hx,←rG]
theorem A7.put {B:Bs} {e:B0} {D:List Deferred} {H:Hp} {G:A3} {a:Act} {w:World} (h:A7 B ⟨e,D,H,G⟩ a w) {d:Nat} (hd:Nat.ble (d+1) B.n=true) (v:Value) :
 A7 B ⟨(d,v) :: e,D,H,G⟩ (a.put (some d) v) w:=by
 have hd':d<a.tmps.size:=by rw [h.size];exact bK hd
 refine ⟨by rw [←h.size];exact Array.size_setIfInBounds,h.defers,?_,h.mem,h.upd,h.mine,h.le,h.new⟩;intro i u hu;rw [jQ] at hu;have hh:(a.put (some d) v).tmps[i]?=if d=i then (if d<a.tmps.size then some v else none) else a.tmps[i]?:=by
  show (a.tmps.setIfInBounds d v)[i]?=_;rw [Array.getElem?_setIfInBounds]
 rw [hh];by_cases hi:d=i
 · rw [aM hi] at hu ⊢;rw [aM hd'];exact hu
 rw [aE hi] at hu ⊢;exact h.env i u hu
theorem A7.weaken {B:Bs} {e e':B0} {D:List Deferred} {H H':Hp} {G:A3} {a:Act} {w:World} (h:A7 B ⟨e,D,H,G⟩ a w)
 (he:∀ i v,e'.get i=some v→e.get i=some v) (hH:∀ t x,H'.get t=some x→H.get t=some x):A7 B ⟨e',D,H',G⟩ a w:=
 ⟨h.size,h.defers,fun i v x=>h.env i v (he i v x),⟨fun t b o x=>h.mem.own t b o (hH _ _ x),fun t t' b o o' x y=>h.mem.one t t' b o o' (hH _ _ x) (hH _ _ y),h.mem.imm,fun t b o x=>h.mem.off t b o (hH _ _ x)⟩,
  h.upd,fun t b o x=>h.mine t b o (hH _ _ x),h.le,h.new⟩
theorem B6.lt {H:Hp} {G:A3} {w:World} (h:B6 H G w) {t b:Nat} {o:Obj} (ht:H.get t=some (some b,o)):b<w.heap.size:=
 (cK.1 (h.own t b o ht)).1
theorem B6.ltG {H:Hp} {G:A3} {w:World} (h:B6 H G w) {b:Nat} {o:Obj} (ht:G b=some o):b<w.heap.size:=
 (cK.1 (h.imm b o ht)).1
theorem B6.grow {H:Hp} {G:A3} {w w':World} (h:B6 H G w) (hs:∀ k,k<w.heap.size→w'.heap[k]?=w.heap[k]?):B6 H G w':=
 ⟨fun t b o x=>(hs b (h.lt x)).trans (h.own t b o x),h.one,fun b o x=>(hs b (h.ltG x)).trans (h.imm b o x),h.off⟩
theorem A7.grow {B:Bs} {S:St} {a:Act} {w w':World} (h:A7 B S a w) (hu:D2 (fun _=>False) w w'):A7 B S a w':=
 ⟨h.size,h.defers,h.env,h.mem.grow (fun k hk=>hu.same k hk id),h.upd.trans (hu.mono (fun _ _ x=>x.elim)),h.mine,h.le,h.new⟩
theorem A7.drew {B:Bs} {S:St} {a:Act} {w:World} (h:A7 B S a w):A7 B S a { w with drawn:=w.drawn+1 }:=h.grow ⟨U,U,U,aG _,fun _ _ _=>rfl⟩
theorem A7.alloc {B:Bs} {e:B0} {D:List Deferred} {H:Hp} {G:A3} {a:Act} {w:World} (h:A7 B ⟨e,D,H,G⟩ a w) (t:Nat) (o:Obj) :
 A7 B ⟨e,D,(t,some w.heap.size,o) :: H,G⟩ a (w.alloc o):=by
 have hold:∀ k,k<w.heap.size→(w.alloc o).heap[k]?=w.heap[k]?:=fun k hk=>alloc_old w o k hk;have hnew:(w.alloc o).heap[w.heap.size]?=some o:=vQ w o;have hG:G w.heap.size=none:=by
  cases hg:G w.heap.size with
  | none=>rfl
  | some x=>exact absurd (h.mem.ltG hg) (mC _)
 refine ⟨h.size,h.defers,h.env,⟨?_,?_,(h.mem.grow hold).imm,?_⟩,h.upd.alloc o,?_,h.le,h.new⟩
 · intro t' b o' x;rw [bZ] at x;split at x
   · simp only [cO,eF] at x;obtain ⟨rfl,rfl⟩:=x;exact hnew
   exact (h.mem.grow hold).own t' b o' x
 · intro t1 t2 b o1 o2 x y;rw [bZ] at x y;split at x <;> split at y
   · omega
   · simp only [cO,eF] at x;obtain ⟨rfl,rfl⟩:=x;exact absurd (h.mem.lt y) (mC _)
   · simp only [cO,eF] at y;obtain ⟨rfl,rfl⟩:=y;exact absurd (h.mem.lt x) (mC _)
   exact h.mem.one _ _ _ _ _ x y
 · intro t' b o' x;rw [bZ] at x;split at x
   · simp only [cO,eF] at x;obtain ⟨rfl,rfl⟩:=x;exact hG
   exact h.mem.off t' b o' x
 intro t' b o' x;rw [bZ] at x;split at x
 · simp only [cO,eF] at x;obtain ⟨rfl,rfl⟩:=x;exact .inl h.upd.size
 exact h.mine t' b o' x
theorem A7.set {B:Bs} {e:B0} {D:List Deferred} {H:Hp} {G:A3} {a:Act} {w w':World} (h:A7 B ⟨e,D,H,G⟩ a w) {t b:Nat} {o o':Obj} (ht:H.get t=some (some b,o))
 (hu:D2 (·=b) w w') (hb:w'.heap[b]?=some o'):A7 B ⟨e,D,(t,some b,o') :: H,G⟩ a w':=by
 have hl:b<w.heap.size:=h.mem.lt ht;have key:∀ t' b1 o1,t≠t'→H.get t'=some (some b1,o1)→b1≠b:=fun t' b1 o1 hne x e=>hne (h.mem.one t t' b o o1 ht (e▸x));refine ⟨h.size,h.defers,h.env,⟨?_,?_,?_,?_⟩,?_,?_,h.le,h.new⟩
 · intro t' b1 o1 x;rw [bZ] at x;split at x
   · simp only [cO,eF] at x;obtain ⟨rfl,rfl⟩:=x;exact hb
   rename_i hne;rw [hu.same b1 (h.mem.lt x) (key t' b1 o1 hne x)];exact h.mem.own t' b1 o1 x
 · intro t1 t2 b1 o1 o2 x y;rw [bZ] at x y;split at x <;> split at y
   · omega
   · rename_i hne;simp only [cO,eF] at x;obtain ⟨rfl,rfl⟩:=x;exact absurd U (key _ _ _ hne y)
   · rename_i hne _;simp only [cO,eF] at y;obtain ⟨rfl,rfl⟩:=y;exact absurd U (key _ _ _ hne x)
   exact h.mem.one _ _ _ _ _ x y
 · intro b1 o1 x;have hne:b1≠b:=fun e=>by have h1:G b=none:=h.mem.off t b o ht;have h2:G b1=some o1:=x;rw [e,h1] at h2;cases h2
   rw [hu.same b1 (h.mem.ltG x) hne];exact h.mem.imm b1 o1 x
 · intro t' b1 o1 x;rw [bZ] at x;split at x
   · simp only [cO,eF] at x;obtain ⟨rfl,rfl⟩:=x;exact h.mem.off t b o ht
   exact h.mem.off t' b1 o1 x
 · refine ⟨hu.os.trans h.upd.os,hu.tape.trans h.upd.tape,hu.output.trans h.upd.output,aP h.upd.size hu.size,fun k hk hx=>?_⟩;have hne:k≠b:=fun e=>by
    rcases h.mine t b o ht with h1 | h1
    · omega
    exact hx (e▸h1)
   exact (hu.same k (bW hk h.upd.size) hne).trans (h.upd.same k hk hx)
 intro t' b1 o1 x;rw [bZ] at x;split at x
 · simp only [cO,eF] at x;obtain ⟨rfl,rfl⟩:=x;exact h.mine t b o ht
 exact h.mine t' b1 o1 x
def Wl (P:Program) (ops:Array Oper) (l:List Oper) (B:Bs) (S:St) (K:Act→World→Prop):Prop:=∀ a w,A7 B S a w→uZ P ops l a w K
def Wc (r:Option Nat) (P:Program) (c:Code) (B:Bs) (S:St) (Q:Exit→Act→World→Prop):Prop:=∀ a w,A7 B S a w→c.wpIn (FF r) 0 P Q a w
def Ar (Q:Exit→Act→World→Prop) (x:Exit) (B:Bs) (S:St):Prop:=∀ a w,A7 B S a w→Q x a w
section code
variable {r:Option Nat} {P:Program} {B:Bs} {S:St} {Q:Exit→Act→World→Prop}
theorem Wc.region {id:Nat} {l:List Oper} (hd:l.all vT=true) (h:Wl P l.toArray l B S (Q .normal)):Wc r P (.region id l.toArray false) B S Q:=
 fun a w hh=>wpIn_region_lit (Ce l a w hd (h a w hh))
abbrev aZ:=@Wc.region
theorem Wc.seq {x y:Code} (h:Wc r P x B S (Exit.then (y.wpIn (FF r) 0 P Q) Q)):Wc r P (.seq x y) B S Q:=fun a w hh=>wpIn_seq (h a w hh)
abbrev bP:=@Wc.seq
theorem Wc.skip (h:Ar Q .normal B S):Wc r P .skip B S Q:=fun a w hh=>wpIn_skip (h a w hh)
abbrev iU:=@Wc.skip
theorem Wc.label {l:Nat} (h:Ar Q .normal B S):Wc r P (.label l) B S Q:=fun a w hh=>wpIn_label (h a w hh)
theorem Wc.exit {id:Nat} (h:Ar Q (.exit id) B S):Wc r P (.exit id) B S Q:=fun a w hh=>wpIn_exit (h a w hh)
theorem Wc.ret (h:Ar Q .ret B S):Wc r P .ret B S Q:=fun a w hh=>wpIn_ret (h a w hh)
abbrev kK:=@Wc.ret
theorem Wc.block {id:Nat} {c:Code} (h:Wc r P c B S (Exit.inBlock id Q)):Wc r P (.block id c) B S Q:=fun a w hh=>wpIn_block (h a w hh)
abbrev lD:=@Wc.block
theorem Og {c:Operand} {x y:Code} {t:Bool} (hc:S.e.ev c=some (.bool t)) (ht:t=true→Wc r P x B S Q) (hf:t=false→Wc r P y B S Q):Wc r P (.cond c x y) B S Q:=
 fun a w hh=>wpIn_cond_split (hh.eval hc) (fun e=>ht e a w hh) (fun e=>hf e a w hh)
theorem Wc.cond {c:Operand} {x y:Code} {p:Prop} [Decidable p] (hc:S.e.ev c=some (.bool (decide p))) (ht:p→Wc r P x B S Q) (hf:¬p→Wc r P y B S Q):Wc r P (.cond c x y) B S Q:=
 Og hc (fun h=>ht (tJ h)) (fun h=>hf (of_decide_eq_false h))
abbrev jF:=@Wc.cond
theorem OH {c:Operand} {x y:Code} (hc:S.e.ev c=some (.bool true)) (ht:Wc r P x B S Q):Wc r P (.cond c x y) B S Q:=Og hc (fun _=>ht) (fun h=>by cases h)
theorem OI {c:Operand} {x y:Code} (hc:S.e.ev c=some (.bool false)) (hf:Wc r P y B S Q):Wc r P (.cond c x y) B S Q:=Og hc (fun h=>by cases h) (fun _=>hf)
theorem Wl.done {ops:Array Oper} {x:Exit} (h:Ar Q x B S):Wl P ops [] B S (Q x):=h
abbrev bT:=@Wl.done
theorem Ar.next {y:Code} (h:Wc r P y B S Q):Ar (Exit.then (y.wpIn (FF r) 0 P Q) Q) .normal B S:=h
abbrev bE:=@Ar.next
theorem Zj {K:Act→World→Prop} {id:Nat} (h:Ar Q (.exit id) B S):Ar (Exit.then K Q) (.exit id) B S:=h
abbrev pN:=@Zj
theorem DQ {K:Act→World→Prop} (h:Ar Q .ret B S):Ar (Exit.then K Q) .ret B S:=h
abbrev kQ:=@DQ
theorem Wv {id:Nat} (h:Ar Q .normal B S):Ar (Exit.inBlock id Q) .normal B S:=h
abbrev lW:=@Wv
theorem JT {id:Nat} (h:Ar Q .ret B S):Ar (Exit.inBlock id Q) .ret B S:=h
abbrev pE:=@JT
theorem Ww {id:Nat} (h:Ar Q .normal B S):Ar (Exit.inBlock id Q) (.exit id) B S:=fun a w hh=>by simp only [Exit.inBlock,fI];exact h a w hh
theorem DR {id id':Nat} (hne:Nat.beq id' id=false) (h:Ar Q (.exit id') B S):Ar (Exit.inBlock id Q) (.exit id') B S:=fun a w hh=>by
 have:id'≠id:=fun e=>by subst e;simp at hne
 simp only [Exit.inBlock,this,fJ];exact h a w hh
def B0.sub (e:B0):B0→Prop
 | []=>True
 | (i,v) :: l=>e.get i=some v∧B0.sub e l
def Hp.sub (h:Hp):Hp→Prop
 | []=>True
 | (i,x) :: l=>h.get i=some x∧Hp.sub h l
theorem Ek {e:B0}:∀ {l:B0},e.sub l→∀ i v,l.get i=some v→e.get i=some v
 | [],_,i,v,h=>by simp [B0.get] at h
 | (j,u) :: l,hs,i,v,h=>by
   rw [jQ] at h;split at h
   · rename_i hj;subst hj;simp only [cO] at h;subst h;exact hs.1
   exact Ek hs.2 i v h
theorem Oh {e:Hp}:∀ {l:Hp},e.sub l→∀ i v,l.get i=some v→e.get i=some v
 | [],_,i,v,h=>by simp [Hp.get] at h
 | (j,u) :: l,hs,i,v,h=>by
   rw [bZ] at h;split at h
   · rename_i hj;subst hj;simp only [cO] at h;subst h;exact hs.1
   exact Oh hs.2 i v h
abbrev nW:=@Oh
theorem A7.sub {e e':B0} {D:List Deferred} {H H':Hp} {G:A3} {a:Act} {w:World} (h:A7 B ⟨e,D,H,G⟩ a w) (he:e.sub e') (hH:H.sub H'):A7 B ⟨e',D,H',G⟩ a w:=
 h.weaken (Ek he) (nW hH)
def If {ι:Type} (B:Bs) (I:ι→St) (φ:ι→Prop) (μ:ι→Nat) (m:Nat):Act→World→Prop:=fun a w=>∃ j,φ j∧μ j<m∧A7 B (I j) a w
theorem Oi {ι:Type} {c:Code} (I:ι→St) (φ:ι→Prop) (μ:ι→Nat) (i0:ι) (h0:φ i0) (hs:∀ a w,A7 B S a w→A7 B (I i0) a w)
 (hb:∀ i,φ i→Wc r P c B (I i) (Exit.then (If B I φ μ (μ i)) Q)):Wc r P (.loop c) B S Q:=by
 intro a w hh b k cs hro hb' hr;have key:∀ m i a w,μ i=m→φ i→A7 B (I i) a w→
  ∃ e a' w',Q e a' w'∧ArrivesIn (Machine.fenced P (FF r)) P (lone (b.atR a (.code c :: .inLoop c :: k)) cs w) b k cs e a' w':=by
  intro m;induction m using Nat.strongRecOn with
  | _ m ih =>
    intro i a w hm hφ hI;obtain ⟨x,a₁,w₁,hq,harr⟩:=hb i hφ a w hI b (.inLoop c :: k) cs hro hb' hr;cases x with
    | normal =>
      obtain ⟨j,hj,hlt,hI'⟩:=hq;obtain ⟨e₂,a₂,w₂,hq₂,harr₂⟩:=ih (μ j) (hm▸hlt) j a₁ w₁ U hj hI';exact ⟨e₂,a₂,w₂,hq₂,.of_steps (tA harr (.one (nZ hb' hr U) stepR_inLoop)) harr₂⟩
    | exit id=>exact ⟨_,a₁,w₁,hq,.pass (x:=.inLoop c) U (fun _ _=>.inl vL) harr⟩
    | goto l=>exact ⟨_,a₁,w₁,hq,.pass (x:=.inLoop c) U (fun _ _=>.inl vL) harr⟩
    | ret=>exact ⟨_,a₁,w₁,hq,.pass (x:=.inLoop c) U (fun _ _=>.inl vL) harr⟩
    | panic ch=>exact ⟨_,a₁,w₁,hq,.pass (x:=.inLoop c) U (fun _ _=>.inl vL) harr⟩
    | outgrown=>exact ⟨_,a₁,w₁,hq,.pass (x:=.inLoop c) U (fun _ _=>.inl vL) harr⟩
 obtain ⟨e,a',w',hq,harr⟩:=key _ i0 a w U h0 (hs a w hh);exact ⟨e,a',w',hq,.of_steps (.one (nZ hb' hr U) stepR_loop) harr⟩
theorem Wc.loop {ι:Type} {c:Code} {e:B0} {D:List Deferred} {H:Hp} {G:A3} (I:ι→B0×Hp) (φ:ι→Prop) (μ:ι→Nat) (i0:ι) (h0:φ i0)
 (he:e.sub (I i0).1) (hH:H.sub (I i0).2)
 (hb:∀ i,φ i→Wc r P c B ⟨(I i).1,D,(I i).2,G⟩ (Exit.then (If B (fun i=>⟨(I i).1,D,(I i).2,G⟩) φ μ (μ i)) Q)):Wc r P (.loop c) B ⟨e,D,H,G⟩ Q:=
 Oi (fun i=>⟨(I i).1,D,(I i).2,G⟩) φ μ i0 h0 (fun _ _ h=>h.sub he hH) hb
abbrev mW:=@Wc.loop
theorem Ar.again {ι:Type} {I:ι→St} {φ:ι→Prop} {μ:ι→Nat} {m:Nat} {e:B0} {D:List Deferred} {H:Hp} {G:A3} (j:ι) (hφ:φ j) (hμ:μ j<m)
 (hI:I j=⟨(I j).e,D,(I j).H,G⟩) (he:e.sub (I j).e) (hH:H.sub (I j).H):Ar (Exit.then (If B I φ μ m) Q) .normal B ⟨e,D,H,G⟩:=
 fun a w hh=>⟨j,hφ,hμ,by rw [hI];exact hh.sub he hH⟩
abbrev eK:=@Ar.again
end code
def xB (P:Program) (t:TypeId):Bool:=
 (match P.underlying t with | some (.struct _) | some (.array _ _) | none=>false | some _=>true) && ((P.info? t).map (·.size) == some 1)
def xZ (P:Program) (t k:Nat):Bool:=
 (match P.underlying t with | some (.struct _) | some (.array _ _)=>true | _=>false) && ((P.info? t).map (·.size) == some k)
section types
variable {P:Program} {t k:Nat} (w:World)
theorem run_sizeOf {n:Nat} (h:(P.info? t).map (·.size)=some n):(sizeOf t).run P w=.ok n w:=by
 cases hi:P.info? t with
 | none=>simp [hi] at h
 | some i=>simp [hi] at h;simp [sizeOf,typeInfo,hi,h]
theorem xS (h:xB P t=true):(isAgg t).run P w=.ok false w:=by
 unfold xB at h;cases hu:P.underlying t with
 | none=>simp [hu] at h
 | some d=>cases d <;> simp [hu] at h <;> simp [isAgg,aQ hu]
theorem Ae (h:xZ P t k=true):(isAgg t).run P w=.ok true w:=by
 unfold xZ at h;cases hu:P.underlying t with
 | none=>simp [hu] at h
 | some d=>cases d <;> simp [hu] at h <;> simp [isAgg,aQ hu]
theorem OJ (h:xB P t=true):(P.info? t).map (·.size)=some 1:=by
 unfold xB at h;simp at h;simpa using h.2
theorem Ig (h:xZ P t k=true):(P.info? t).map (·.size)=some k:=by
 unfold xZ at h;simp at h;simpa using h.2
end types
theorem cell_of_block {w:World} {b off:Nat} {cs:List Value} {ty:TypeId} {fz:Nat×Nat} (h:w.heap[b]?=some (.cells cs.toArray ty fz)) :
 w.cell? ⟨b,off,none⟩=cs[off]?:=by simp [World.cell?,h]
def A3.cell (G:A3) (b off:Nat):Option Value:=match G b with | some (.cells c _ _)=>c[off]? | _=>none
def A3.row (G:A3) (b off:Nat) (vs:List Value):Prop:=∀ i v,vs[i]?=some v→G.cell b (off+i)=some v
theorem B6.cellG {H:Hp} {G:A3} {w:World} (h:B6 H G w) {b off:Nat} {v:Value} (hc:G.cell b off=some v):w.cell? ⟨b,off,none⟩=some v:=by
 unfold A3.cell at hc;split at hc
 · rename_i c ty fz hb;simp [World.cell?,h.imm b _ hb,hc]
 cases hc
theorem Mh {G G':A3} (h:G.le G') {b off:Nat} {v:Value} (hc:G.cell b off=some v):G'.cell b off=some v:=by
 unfold A3.cell at *;split at hc
 · rename_i c ty fz hb;rw [h b _ hb];exact hc
 cases hc
theorem Oj {G G':A3} (h:G.le G') {b off:Nat} {vs:List Value} (hc:G.row b off vs):G'.row b off vs:=fun i v hv=>Mh h (hc i v hv)
theorem add_lit (b o n:Nat):Addr.add ⟨b,o,none⟩ n=⟨b,o+n,none⟩:=by unfold Addr.add;split <;> simp_all
structure H3 (e:B0) (H:Hp) (G:A3) (a:Act) (w:World):Prop where
 env:∀ i v,e.get i=some v→a.tmps[i]?=some v
 mem:B6 H G w
section look
variable {e:B0} {H:Hp} {G:A3} {a:Act} {w:World}
theorem A7.look {B:Bs} {D:List Deferred} (h:A7 B ⟨e,D,H,G⟩ a w):H3 e H G a w:=⟨h.env,h.mem⟩
theorem H3.eval (h:H3 e H G a w) {x:Operand} {v:Value} (hx:e.ev x=some v):a.eval x=v:=by
 cases x with
 | tmp t=>simp [Act.eval,h.env t v hx]
 | const u=>simpa [B0.ev,Act.eval] using hx
 | global g=>simpa [B0.ev,Act.eval] using hx
 | func f=>simpa [B0.ev,Act.eval] using hx
theorem H3.evals (h:H3 e H G a w):∀ {xs:List Operand} {vs:List Value},e.evs xs=some vs→xs.map a.eval=vs
 | [],vs,hx=>by simp [B0.evs] at hx;simp [←hx]
 | x :: xs,vs,hx=>by
   unfold B0.evs at hx;split at hx
   · rename_i v us h1 h2;simp only [cO] at hx;subst hx;simp [h.eval h1,h.evals h2]
   cases hx
theorem H3.args (h:H3 e H G a w) {xs:Array Operand} {vs:List Value} (hx:e.evs xs.toList=some vs):xs.map a.eval=vs.toArray:=by
 rw [←h.evals hx,←rG]
end look
def Qy (P:Program) (o:Op) (ty:TypeId) (e:B0) (H:Hp) (G:A3) (v:Value):Prop:=
 ∀ (a:Act) (w:World) (dst:Option Tmp) (pos:String) (after:Array Edge) (g:Option (Nat×Bool)),H3 e H G a w→(execOp a.eval ⟨dst,o,ty,pos,after,g⟩).run P w=.ok (.value v) w
section qy
variable {P:Program} {e:B0} {H:Hp} {G:A3} {ty:TypeId}
theorem Qy.move {x:Operand} {v:Value} (hx:e.ev x=some v):Qy P (.move x) ty e H G v:=fun a w _ _ _ _ hh=>by simp [execOp,hh.eval hx]
abbrev cT:=@Qy.move
theorem Qy.assign {x:Operand} {v:Value} (hx:e.ev x=some v):Qy P (.assign x) ty e H G v:=fun a w _ _ _ _ hh=>by simp [execOp,hh.eval hx]
abbrev cG:=@Qy.assign
theorem Qy.pick {c x y:Operand} {b:Bool} {v:Value} (hc:e.ev c=some (.bool b)) (hv:e.ev (bif b then x else y)=some v):Qy P (.pick c x y) ty e H G v:=fun a w _ _ _ _ hh=>by
 cases b
 · simp only [nT] at hv;simp [execOp,asBool,hh.eval hc,hh.eval hv]
 simp only [iA] at hv;simp [execOp,asBool,hh.eval hc,hh.eval hv]
theorem Qy.not {t:TypeId} {x:Operand} {b:Bool} (hx:e.ev x=some (.bool b)):Qy P (.unOp .not t x) ty e H G (.bool (!b)):=fun a w _ _ _ _ hh=>by simp [execOp,Op.unary,hh.eval hx]
theorem VA {t:TypeId} {x:Operand} {p:Prop} [Decidable p] (hx:e.ev x=some (.bool (decide p))):Qy P (.unOp .not t x) ty e H G (.bool (decide (¬p))):=fun a w _ _ _ _ hh=>by simp [execOp,Op.unary,hh.eval hx]
abbrev gF:=@VA
section cmp
variable {t t':TypeId} {x y:Operand} {k:IntKind} {m n:Int} (hx:e.ev x=some (.int k m)) (hy:e.ev y=some (.int k n))
include hx hy
theorem Qy.eql:Qy P (.binOp .eql t x y t') ty e H G (.bool (decide (m=n))):=fun a w _ _ _ _ hh=>by simp [execOp,hh.eval hx,hh.eval hy,binOp,Op.intCmp,eqGuard];rfl
abbrev uB:=@Qy.eql
theorem Qy.neq:Qy P (.binOp .neq t x y t') ty e H G (.bool (decide (m≠n))):=fun a w _ _ _ _ hh=>by
 simp only [execOp,hh.eval hx,hh.eval hy,binOp,Op.intCmp,eqGuard];by_cases h:m=n <;> simp [h]
theorem Qy.lss:Qy P (.binOp .lss t x y t') ty e H G (.bool (decide (m<n))):=fun a w _ _ _ _ hh=>by simp [execOp,hh.eval hx,hh.eval hy,binOp,Op.intCmp,eqGuard]
abbrev oX:=@Qy.lss
theorem Qy.leq:Qy P (.binOp .leq t x y t') ty e H G (.bool (decide (m≤n))):=fun a w _ _ _ _ hh=>by simp [execOp,hh.eval hx,hh.eval hy,binOp,Op.intCmp,eqGuard]
theorem Qy.gtr:Qy P (.binOp .gtr t x y t') ty e H G (.bool (decide (n<m))):=fun a w _ _ _ _ hh=>by simp [execOp,hh.eval hx,hh.eval hy,binOp,Op.intCmp,eqGuard]
theorem Qy.geq:Qy P (.binOp .geq t x y t') ty e H G (.bool (decide (n≤m))):=fun a w _ _ _ _ hh=>by simp [execOp,hh.eval hx,hh.eval hy,binOp,Op.intCmp,eqGuard]
theorem Nf:Qy P (.binOp .add t x y t') ty e H G (.int k (k.wrap (m+n))):=fun a w _ _ _ _ hh=>by simp [execOp,hh.eval hx,hh.eval hy,binOp,Op.intArith,eqGuard]
theorem VB:Qy P (.binOp .sub t x y t') ty e H G (.int k (k.wrap (m - n))):=fun a w _ _ _ _ hh=>by simp [execOp,hh.eval hx,hh.eval hy,binOp,Op.intArith,eqGuard]
abbrev tK:=@VB
theorem VC:Qy P (.binOp .mul t x y t') ty e H G (.int k (k.wrap (m*n))):=fun a w _ _ _ _ hh=>by simp [execOp,hh.eval hx,hh.eval hy,binOp,Op.intArith,eqGuard]
abbrev nC:=@VC
theorem Ng (h0:n≠0):Qy P (.binOp .quo t x y t') ty e H G (.int k (k.wrap (m.tdiv n))):=fun a w _ _ _ _ hh=>by simp [execOp,hh.eval hx,hh.eval hy,binOp,Op.intDiv,eqGuard,h0]
theorem Qy.rem (h0:n≠0):Qy P (.binOp .rem t x y t') ty e H G (.int k (m.tmod n)):=fun a w _ _ _ _ hh=>by simp [execOp,hh.eval hx,hh.eval hy,binOp,Op.intDiv,eqGuard,h0]
theorem VD:Qy P (.binOp .and t x y t') ty e H G (.int k (bits .and k m n)):=fun a w _ _ _ _ hh=>by simp [execOp,hh.eval hx,hh.eval hy,binOp,eqGuard];rfl
abbrev nO:=@VD
theorem Ok:Qy P (.binOp .or t x y t') ty e H G (.int k (bits .or k m n)):=fun a w _ _ _ _ hh=>by simp [execOp,hh.eval hx,hh.eval hy,binOp,eqGuard];rfl
end cmp
theorem Qy.shl {t t':TypeId} {x y:Operand} {k k':IntKind} {m n:Int} (hx:e.ev x=some (.int k m)) (hy:e.ev y=some (.int k' n)) (h0:0≤n) :
 Qy P (.binOp .shl t x y t') ty e H G (.int k (k.wrap (m*2 ^ (min n.toNat k.bits)))):=fun a w _ _ _ _ hh=>by
 simp [execOp,hh.eval hx,hh.eval hy,binOp,Op.shift,eqGuard,Int.not_lt.2 h0]
theorem Qy.shr {t t':TypeId} {x y:Operand} {k k':IntKind} {m n:Int} (hx:e.ev x=some (.int k m)) (hy:e.ev y=some (.int k' n)) (h0:0≤n) :
 Qy P (.binOp .shr t x y t') ty e H G (.int k (m.fdiv (2 ^ (min n.toNat k.bits)))):=fun a w _ _ _ _ hh=>by
 simp [execOp,hh.eval hx,hh.eval hy,binOp,Op.shift,eqGuard,Int.not_lt.2 h0]
abbrev pO:=@Qy.shr
section arith64
variable {t t':TypeId} {x y:Operand} {m n:Int} (hx:e.ev x=some (.int .i64 m)) (hy:e.ev y=some (.int .i64 n))
include hx hy
theorem Qy.add (hb:-9223372036854775808≤m+n∧m+n≤9223372036854775807):Qy P (.binOp .add t x y t') ty e H G (.int .i64 (m+n)):=by
 have:=Nf (P:=P) (H:=H) (G:=G) (ty:=ty) (t:=t) (t':=t') hx hy;rwa [lG _ hb] at this
abbrev tC:=@Qy.add
theorem Qy.sub (hb:-9223372036854775808≤m - n∧m - n≤9223372036854775807):Qy P (.binOp .sub t x y t') ty e H G (.int .i64 (m - n)):=by
 have:=tK (P:=P) (H:=H) (G:=G) (ty:=ty) (t:=t) (t':=t') hx hy;rwa [lG _ hb] at this
theorem Qy.mul (hb:-9223372036854775808≤m*n∧m*n≤9223372036854775807):Qy P (.binOp .mul t x y t') ty e H G (.int .i64 (m*n)):=by
 have:=nC (P:=P) (H:=H) (G:=G) (ty:=ty) (t:=t) (t':=t') hx hy;rwa [lG _ hb] at this
abbrev qZ:=@Qy.mul
theorem Qy.quo (h0:n≠0) (hb:-9223372036854775808≤m.tdiv n∧m.tdiv n≤9223372036854775807):Qy P (.binOp .quo t x y t') ty e H G (.int .i64 (m.tdiv n)):=by
 have:=Ng (P:=P) (H:=H) (G:=G) (ty:=ty) (t:=t) (t':=t') hx hy h0;rwa [lG _ hb] at this
end arith64
theorem Qy.neg {t:TypeId} {x:Operand} {m:Int} (hx:e.ev x=some (.int .i64 m)) (hb:-9223372036854775807≤m∧m≤9223372036854775808):Qy P (.unOp .neg t x) ty e H G (.int .i64 (-m)):=
 fun a w _ _ _ _ hh=>by simp [execOp,Op.unary,Op.intArith,hh.eval hx,lG _ (show -9223372036854775808≤-m∧-m≤9223372036854775807 by omega)]
theorem VE {t:TypeId} {x:Operand} {k:IntKind} {m:Int} (hx:e.ev x=some (.int k m)):Qy P (.unOp .neg t x) ty e H G (.int k (k.wrap (0 - m))):=
 fun a w _ _ _ _ hh=>by simp [execOp,Op.unary,Op.intArith,hh.eval hx]
abbrev nN:=@VE
theorem VF {s t:TypeId} {x:Operand} {k k':IntKind} {m:Int} (hs:(P.underlying s).isSome=true) (ht:P.underlying t=some (.int k')) (hx:e.ev x=some (.int k m)) :
 Qy P (.convert s t x) ty e H G (.int k' (k'.wrap m)):=fun a w _ _ _ _ hh=>by
 cases hu:P.underlying s with
 | none=>simp [hu] at hs
 | some u=>simp [execOp,hh.eval hx,convert,aQ hu,aQ ht,Conv.intToInt]
abbrev jM:=@VF
theorem VG {t t':TypeId} {x y:Operand} {m n:Bool} (ht:P.underlying t=some .bool) (hx:e.ev x=some (.bool m)) (hy:e.ev y=some (.bool n)) :
 Qy P (.binOp .eql t x y t') ty e H G (.bool (decide (m=n))):=fun a w _ _ _ _ hh=>by
 have:=run_equalIn_bool' (P:=P) w 9999 t m n ht;simp [execOp,hh.eval hx,hh.eval hy,binOp,eqGuard,Op.equal,Op.maxDepth,this];rfl
abbrev rL:=@VG
theorem Ih {t t':TypeId} {x y:Operand} {m n:Bool} (ht:P.underlying t=some .bool) (hx:e.ev x=some (.bool m)) (hy:e.ev y=some (.bool n)) :
 Qy P (.binOp .neq t x y t') ty e H G (.bool (decide (m≠n))):=fun a w _ _ _ _ hh=>by
 have:=run_equalIn_bool' (P:=P) w 9999 t m n ht;simp [execOp,hh.eval hx,hh.eval hy,binOp,eqGuard,Op.equal,Op.maxDepth,this];cases m <;> cases n <;> rfl
def Ay (P:Program) (s f off:Nat):Prop:=∀ b o w,(Instr.fieldAt s (.pointer (some ⟨b,o,none⟩)) f).run P w=.ok (.pointer (some ⟨b,o+off,none⟩)) w
theorem Qy.fieldAddr {s f:Nat} {x:Operand} {b o off:Nat} (hf:Ay P s f off) (hx:e.ev x=some (.pointer (some ⟨b,o,none⟩))) :
 Qy P (.fieldAddr s x f) ty e H G (.pointer (some ⟨b,o+off,none⟩)):=fun a w _ _ _ _ hh=>by simp [execOp,hh.eval hx,hf b o w]
abbrev iV:=@Qy.fieldAddr
theorem Qy.nilCheck {x:Operand} {ad:Addr} (hx:e.ev x=some (.pointer (some ad))):Qy P (.nilCheck x) ty e H G (.pointer (some ad)):=fun a w _ _ _ _ hh=>by simp [execOp,hh.eval hx]
abbrev sC:=@Qy.nilCheck
theorem Wx {x:Operand} {r:Option Nat} (hx:e.ev x=some (.map r)):Qy P (.nilCheck x) ty e H G (.map r):=fun a w _ _ _ _ hh=>by simp [execOp,hh.eval hx]
theorem Wy {x:Operand} {f:FuncId} {fs cs:Array Value} (hx:e.ev x=some (.func (.func f) fs cs)):Qy P (.nilCheck x) ty e H G (.func (.func f) fs cs):=fun a w _ _ _ _ hh=>by simp [execOp,hh.eval hx]
theorem Wz {x:Operand} {f:Nat} {fs cs:Array Value} (hx:e.ev x=some (.func (.yield f) fs cs)):Qy P (.nilCheck x) ty e H G (.func (.yield f) fs cs):=fun a w _ _ _ _ hh=>by simp [execOp,hh.eval hx]
theorem zB {T:TypeId} {ad:Addr} {w:World} {v:Value} (h1:xB P T=true) (hc:w.cell? ad=some v):(Instr.loadAt T (.pointer (some ad))).run P w=.ok v w:=by
 simp [Instr.loadAt,Instr.sureAddr,loadVar,xS w h1,hc]
theorem zC {T k:TypeId} {b off:Nat} {w:World} {vs:List Value} (h1:xZ P T k=true) (hl:vs.length=k) (hc:∀ j v,vs[j]?=some v→w.cell? ⟨b,off+j,none⟩=some v) :
 (Instr.loadAt T (.pointer (some ⟨b,off,none⟩))).run P w=.ok (.agg vs.toArray) w:=by
 subst hl;have:=kI (P:=P) w ⟨b,off,none⟩ vs (fun j v hv=>by rw [add_lit];exact hc j v hv);simp [Instr.loadAt,Instr.sureAddr,loadVar,Ae w h1,run_sizeOf w (Ig h1),this]
theorem Qy.load {T:TypeId} {x:Operand} {b off:Nat} {cs:List Value} {bt:TypeId} {fz:Nat×Nat} {v:Value} (t:Nat) (h1:xB P T=true)
 (hx:e.ev x=some (.pointer (some ⟨b,off,none⟩))) (ht:H.get t=some (some b,.cells cs.toArray bt fz)) (hv:cs[off]?=some v):Qy P (.load T x) ty e H G v:=fun a w _ _ _ _ hh=>by
 have hc:w.cell? ⟨b,off,none⟩=some v:=by rw [cell_of_block (hh.mem.own t b _ ht)];exact hv
 simp [execOp,hh.eval hx,zB h1 hc]
abbrev oH:=@Qy.load
theorem OK {T k:TypeId} {x:Operand} {b off:Nat} {cs:List Value} {bt:TypeId} {fz:Nat×Nat} {vs:List Value} (t:Nat) (h1:xZ P T k=true)
 (hx:e.ev x=some (.pointer (some ⟨b,off,none⟩))) (ht:H.get t=some (some b,.cells cs.toArray bt fz)) (hv:(cs.drop off).take k=vs) (hl:vs.length=k):Qy P (.load T x) ty e H G (.agg vs.toArray):=
 fun a w _ _ _ _ hh=>by
  have hc:∀ j v,vs[j]?=some v→w.cell? ⟨b,off+j,none⟩=some v:=fun j v hj=>by
   rw [cell_of_block (hh.mem.own t b _ ht)];subst hv;rw [fO] at hj;split at hj
   · simpa using hj
   cases hj
  simp [execOp,hh.eval hx,zC h1 hl hc]
abbrev iF:=@OK
theorem DS {T k:TypeId} {x:Operand} {b:Nat} {cs:List Value} {bt:TypeId} {fz:Nat×Nat} (t:Nat) (h1:xZ P T k=true)
 (hx:e.ev x=some (.pointer (some ⟨b,0,none⟩))) (ht:H.get t=some (some b,.cells cs.toArray bt fz)) (hl:cs.length=k):Qy P (.load T x) ty e H G (.agg cs.toArray):=
 iF t h1 hx ht (by rw [kN,←hl,gX]) hl
abbrev rK:=@DS
theorem OL {T:TypeId} {x:Operand} {b off:Nat} {v:Value} (h1:xB P T=true) (hx:e.ev x=some (.pointer (some ⟨b,off,none⟩))) (hv:G.cell b off=some v):Qy P (.load T x) ty e H G v:=
 fun a w _ _ _ _ hh=>by simp [execOp,hh.eval hx,zB h1 (hh.mem.cellG hv)]
abbrev cS:=@OL
theorem JU {T k:TypeId} {x:Operand} {b off:Nat} {vs:List Value} (h1:xZ P T k=true) (hx:e.ev x=some (.pointer (some ⟨b,off,none⟩))) (hv:G.row b off vs) (hl:vs.length=k) :
 Qy P (.load T x) ty e H G (.agg vs.toArray):=fun a w _ _ _ _ hh=>by simp [execOp,hh.eval hx,zC h1 hl (fun j v hj=>hh.mem.cellG (hv j v hj))]
abbrev gB:=@JU
theorem Qy.extract {x:Operand} {i:Nat} {vs:List Value} {v:Value} (hx:e.ev x=some (.tuple vs.toArray)) (hv:vs[i]?=some v):Qy P (.extract x i) ty e H G v:=
 fun a w _ _ _ _ hh=>by simp [execOp,hh.eval hx,Instr.extract,hv]
abbrev lL:=@Qy.extract
theorem Qy.makeFunc {f:FuncId} {xs ys:Array Operand} {us vs:List Value} (hx:e.evs xs.toList=some us) (hy:e.evs ys.toList=some vs):Qy P (.makeFunc (.func f) xs ys) ty e H G (.func (.func f) us.toArray vs.toArray):=
 fun a w _ _ _ _ hh=>by simp [execOp,Instr.makeFunc,hh.args hx,hh.args hy]
abbrev jS:=@Qy.makeFunc
def uX (P:Program) (T E sz:Nat):Prop:=P.underlying T=some (.slice E)∧(P.info? E).map (·.size)=some sz
theorem Qy.len {T:TypeId} {x:Operand} {ad:Option Addr} {n c:Nat} {E sz:Nat} (hT:uX P T E sz) (hx:e.ev x=some (.slice ad n c)) :
 Qy P (.call { callee:=.builtin .len,args:=#[x],argTypes:=#[T] }) ty e H G (.int .i64 n):=fun a w _ _ _ _ hh=>by
 simp [execOp,resolve,invoke,builtin,Builtin.len_,hh.eval hx,aQ hT.1,goInt]
abbrev pP:=@Qy.len
theorem Qy.cap {T:TypeId} {x:Operand} {ad:Option Addr} {n c:Nat} {E sz:Nat} (hT:uX P T E sz) (hx:e.ev x=some (.slice ad n c)) :
 Qy P (.call { callee:=.builtin .cap,args:=#[x],argTypes:=#[T] }) ty e H G (.int .i64 c):=fun a w _ _ _ _ hh=>by
 simp [execOp,resolve,invoke,builtin,Builtin.cap_,hh.eval hx,aQ hT.1,goInt]
theorem Qy.min {ts:Array TypeId} {x y:Operand} {k:IntKind} {m n:Int} (hx:e.ev x=some (.int k m)) (hy:e.ev y=some (.int k n)) :
 Qy P (.call { callee:=.builtin .min,args:=#[x,y],argTypes:=ts }) ty e H G (.int k (if n<m then n else m)):=fun a w _ _ _ _ hh=>by
 simp [execOp,resolve,invoke,builtin,Builtin.min_,Builtin.min2,hh.eval hx,hh.eval hy]
theorem Qy.max {ts:Array TypeId} {x y:Operand} {k:IntKind} {m n:Int} (hx:e.ev x=some (.int k m)) (hy:e.ev y=some (.int k n)) :
 Qy P (.call { callee:=.builtin .max,args:=#[x,y],argTypes:=ts }) ty e H G (.int k (if m<n then n else m)):=fun a w _ _ _ _ hh=>by
 simp [execOp,resolve,invoke,builtin,Builtin.max_,Builtin.max2,hh.eval hx,hh.eval hy]
abbrev tB:=@Qy.max
theorem Qy.indexAddr {T:TypeId} {x i:Operand} {b o n c:Nat} {k:IntKind} {m:Int} {E sz:Nat} (hT:uX P T E sz) (hx:e.ev x=some (.slice (some ⟨b,o,none⟩) n c))
 (hi:e.ev i=some (.int k m)) (hb:0≤m∧m<n):Qy P (.indexAddr T x i) ty e H G (.pointer (some ⟨b,o+m.toNat*sz,none⟩)):=fun a w _ _ _ _ hh=>by
 simp [execOp,Instr.indexAt,hh.eval hx,hh.eval hi,asIntOf,aQ hT.1,hb,run_sizeOf w hT.2,add_lit]
abbrev dV:=@Qy.indexAddr
def I2 (G:A3) (a:Option Addr) (n sz:Nat) (cs:List Value):Prop:=
 cs.length=n*sz∧(n=0∨∃ b o,a=some ⟨b,o,none⟩∧G.row b o cs)
def ab (a:Option Addr):Nat:=match a with | some x=>x.block | none=>0
def ao (a:Option Addr):Nat:=match a with | some x=>x.off | none=>0
theorem I2.le {G G':A3} (h:G.le G') {a:Option Addr} {n sz:Nat} {cs:List Value} (hs:I2 G a n sz cs):I2 G' a n sz cs:=
 ⟨hs.1,hs.2.imp id fun ⟨b,o,ha,hr⟩=>⟨b,o,ha,Oj h hr⟩⟩
theorem I2.addr {G:A3} {a:Option Addr} {n sz:Nat} {cs:List Value} (hs:I2 G a n sz cs) (hn:0<n):a=some ⟨ab a,ao a,none⟩:=by
 rcases hs.2 with h0 | ⟨b,o,rfl,_⟩
 · omega
 rfl
theorem I2.row {G:A3} {a:Option Addr} {n sz:Nat} {cs:List Value} (hs:I2 G a n sz cs) (hn:0<n):G.row (ab a) (ao a) cs:=by
 rcases hs.2 with h0 | ⟨b,o,rfl,h⟩
 · omega
 exact h
theorem Sq {T:TypeId} {x i:Operand} {ad:Option Addr} {n c:Nat} {k:IntKind} {m:Int} {E sz:Nat} {cs:List Value} (hT:uX P T E sz) (hx:e.ev x=some (.slice ad n c))
 (hi:e.ev i=some (.int k m)) (hs:I2 G ad n sz cs) (hb:0≤m∧m<n):Qy P (.indexAddr T x i) ty e H G (.pointer (some ⟨ab ad,ao ad+m.toNat*sz,none⟩)):=by
 have ha:=hs.addr uJ;rw [ha] at hx;exact dV hT hx hi hb
def C4 (a:Option Addr) (c l sz:Nat):Option Addr:=if c=l then a else a.map (·.add (l*sz))
theorem I2.sub {a:Option Addr} {n sz c l:Nat} {cs:List Value} (hs:I2 G a n sz cs) (hl:l≤n) (hc:n≤c):I2 G (C4 a c l sz) (n - l) sz (cs.drop (l*sz)):=by
 refine ⟨by rw [cE,hs.1,Nat.sub_mul],?_⟩;rcases hs.2 with h0 | ⟨b,o,rfl,hr⟩
 · exact .inl uJ
 unfold C4;split
 · rename_i h;have h1:n=l:=uJ;refine .inr ⟨b,o,U,fun i v hi=>?_⟩;have h2:cs.length≤l*sz:=by rw [hs.1,h1];exact aG _
   rw [cY h2] at hi;simp at hi
 refine .inr ⟨b,o+l*sz,by simp [add_lit],fun i v hi=>?_⟩;rw [nK];exact hr _ _ (by simpa using hi)
end qy
section ops
variable {P:Program} {ops:Array Oper} {rest:List Oper} {B:Bs} {e:B0} {D:List Deferred} {H:Hp} {G:A3} {K:Act→World→Prop}
 {ty:TypeId} {pos:String} {after:Array Edge} {d:Nat}
theorem Wl.q {o:Op} {v:Value} (hn:Nat.ble (d+1) B.n=true) (hq:Qy P o ty e H G v) (h:Wl P ops rest B ⟨(d,v) :: e,D,H,G⟩ K) :
 Wl P ops (⟨some d,o,ty,pos,after,none⟩ :: rest) B ⟨e,D,H,G⟩ K:=by
 intro a w hh;unfold uZ;rw [aM (by simp [Region.wanted])];unfold Ag;rw [hq a w _ _ _ _ hh.look];exact h _ _ (hh.put hn v)
abbrev aU:=@Wl.q
theorem Zk {o:Op} {v:Nat→Value} (t:Nat) {ob:Obj} (hn:Nat.ble (d+1) B.n=true)
 (hr:∀ a w,A7 B ⟨e,D,H,G⟩ a w→(execOp a.eval ⟨some d,o,ty,pos,after,none⟩).run P w=.ok (.value (v w.heap.size)) (w.alloc ob))
 (h:∀ b,Wl P ops rest B ⟨(d,v b) :: e,D,(t,some b,ob) :: H,G⟩ K):Wl P ops (⟨some d,o,ty,pos,after,none⟩ :: rest) B ⟨e,D,H,G⟩ K:=by
 intro a w hh;unfold uZ;rw [aM (by simp [Region.wanted])];unfold Ag;rw [hr a w hh];exact h _ _ _ ((hh.alloc t ob).put hn _)
abbrev oA:=@Zk
theorem JV {dst:Option Nat} {o:Op} {v:Value} {t b:Nat} {ob ob':Obj} {x:Next} (ht:H.get t=some (some b,ob))
 (hx:(x=.skip∧dst=none)∨(x=.value v∧∃ d,dst=some d∧Nat.ble (d+1) B.n=true))
 (hr:∀ a w,A7 B ⟨e,D,H,G⟩ a w→∃ w',(execOp a.eval ⟨dst,o,ty,pos,after,none⟩).run P w=.ok x w'∧D2 (·=b) w w'∧w'.heap[b]?=some ob')
 (h:Wl P ops rest B ⟨(match dst with | some d=>(d,v) :: e | none=>e),D,(t,some b,ob') :: H,G⟩ K) :
 Wl P ops (⟨dst,o,ty,pos,after,none⟩ :: rest) B ⟨e,D,H,G⟩ K:=by
 intro a w hh;obtain ⟨w',hrun,hu,hb⟩:=hr a w hh;unfold uZ;rw [aM (by simp [Region.wanted])];unfold Ag;rw [hrun];rcases hx with ⟨rfl,rfl⟩ | ⟨rfl,d,rfl,hn⟩
 · exact h _ _ (hh.set ht hu hb)
 exact h _ _ ((hh.set ht hu hb).put hn v)
abbrev rC:=@JV
theorem Wl.want {dst:Option Nat} {o:Op} {j:Nat} {want:Bool} {t:Nat} (hj:(ops[j]?).bind (·.dst)=some t) (he:e.get t=some (.bool want))
 (h:Wl P ops (⟨dst,o,ty,pos,after,none⟩ :: rest) B ⟨e,D,H,G⟩ K):Wl P ops (⟨dst,o,ty,pos,after,some (j,want)⟩ :: rest) B ⟨e,D,H,G⟩ K:=by
 intro a w hh;have h1:=h a w hh;unfold uZ at h1 ⊢;rw [aM (by simp [Region.wanted])] at h1;have hy:yielded ops a.tmps j=some want:=by simp [yielded,hj,hh.env t _ he]
 rw [aM (by simp [Region.wanted,hy])];exact h1
theorem Wl.pass {o:Op} {j:Nat} {want:Bool} {t:Nat} (hj:(ops[j]?).bind (·.dst)=some t) (he:e.get t=some (.bool (!want))) (hn:Nat.ble (d+1) B.n=true)
 (h:Wl P ops rest B ⟨(d,undef) :: e,D,H,G⟩ K):Wl P ops (⟨some d,o,ty,pos,after,some (j,want)⟩ :: rest) B ⟨e,D,H,G⟩ K:=by
 intro a w hh;unfold uZ;have hy:yielded ops a.tmps j=some (!want):=by simp [yielded,hj,hh.env t _ he]
 rw [aE (by simp [Region.wanted,hy])];exact h _ _ (hh.put hn undef)
theorem Tz {v:Value} (h:v.oneCell'=true):v.cells=#[v]:=by cases v <;> simp_all [Value.oneCell',Value.cells]
theorem wR (w:World) (g:Nat) (c:Array Value):D2 (·=g) w (w.setRow g c):=
 ⟨U,U,U,by simp [World.setRow],fun k _ hk=>setRow_other w g k _ hk⟩
theorem Sr (cs:List Value) (off:Nat) (v:Value) (h:off<cs.length):cs.take off++[v]++cs.drop (off+1)=cs.set off v:=by
 rw [List.set_eq_take_append_cons_drop,aM h];simp
theorem Cg {T:TypeId} {b off:Nat} {w:World} {cs vs:List Value} {bt:TypeId} {v:Value} (hs:(P.info? T).map (·.size)=some vs.length) (hv:v.cells=vs.toArray)
 (h1:vs.all (·.oneCell')=true) (hb:w.heap[b]?=some (.cells cs.toArray bt (0,0))) (ho:off+vs.length≤cs.length) :
 (Instr.storeAt T (.pointer (some ⟨b,off,none⟩)) v).run P w=.ok () (w.setRow b (cs.take off++vs++cs.drop (off+vs.length)).toArray):=by
 have hst:=mF P b off bt vs 0 cs.toArray w hb (by simpa using ho) (by simpa using h1);simp only [fQ] at hst;simp [Instr.storeAt,Instr.sureAddr,storeVar,run_sizeOf w hs,hv,hst]
theorem Wl.store {T:TypeId} {x y:Operand} {b off:Nat} {cs:List Value} {bt:TypeId} {v:Value} (t:Nat) (hs:xB P T=true)
 (hx:e.ev x=some (.pointer (some ⟨b,off,none⟩))) (hy:e.ev y=some v) (h1:v.oneCell'=true) (ht:H.get t=some (some b,.cells cs.toArray bt (0,0))) (ho:Nat.ble (off+1) cs.length=true)
 (h:Wl P ops rest B ⟨e,D,(t,some b,.cells (cs.set off v).toArray bt (0,0)) :: H,G⟩ K):Wl P ops (⟨none,.store T x y,ty,pos,after,none⟩ :: rest) B ⟨e,D,H,G⟩ K:=
 rC (v:=undef) (x:=.skip) ht (.inl ⟨U,U⟩) (fun a w hh=>by
  have ho':=bK ho;have hb:=hh.mem.own t b _ ht;have:=Cg (P:=P) (T:=T) (off:=off) (cs:=cs) (vs:=[v]) (OJ hs) (by rw [Tz h1]) (by simp [h1]) hb ho';refine ⟨_,by simp [execOp,hh.eval hx,hh.eval hy,this];rfl,wR w b _,?_⟩;rw [mK w b _ _ bt _ hb,←Sr cs off v ho'];simp) h
theorem JW {T:TypeId} {x y:Operand} {b off k:Nat} {cs vs:List Value} {bt:TypeId} (t:Nat) (hs:(P.info? T).map (·.size)=some k)
 (hx:e.ev x=some (.pointer (some ⟨b,off,none⟩))) (hy:e.ev y=some (.agg vs.toArray)) (hk:vs.length=k) (h1:vs.all (·.oneCell')=true) (ht:H.get t=some (some b,.cells cs.toArray bt (0,0))) (ho:Nat.ble (off+vs.length) cs.length=true)
 (h:Wl P ops rest B ⟨e,D,(t,some b,.cells (cs.take off++vs++cs.drop (off+vs.length)).toArray bt (0,0)) :: H,G⟩ K):Wl P ops (⟨none,.store T x y,ty,pos,after,none⟩ :: rest) B ⟨e,D,H,G⟩ K:=
 rC (v:=undef) (x:=.skip) ht (.inl ⟨U,U⟩) (fun a w hh=>by
  have ho':=bK ho;have hb:=hh.mem.own t b _ ht;have:=Cg (P:=P) (T:=T) (off:=off) (cs:=cs) (vs:=vs) (v:=.agg vs.toArray) (by rw [hk];exact hs) U h1 hb ho';refine ⟨_,by simp [execOp,hh.eval hx,hh.eval hy,this];rfl,wR w b _,?_⟩;rw [mK w b _ _ bt _ hb,cU]) h
abbrev tW:=@JW
theorem Zl {T:TypeId} {x y:Operand} {b k:Nat} {cs vs:List Value} {bt:TypeId} (t:Nat) (hs:(P.info? T).map (·.size)=some k)
 (hx:e.ev x=some (.pointer (some ⟨b,0,none⟩))) (hy:e.ev y=some (.agg vs.toArray)) (hk:vs.length=k) (h1:vs.all (·.oneCell')=true) (ht:H.get t=some (some b,.cells cs.toArray bt (0,0))) (ho:Nat.beq vs.length cs.length=true)
 (h:Wl P ops rest B ⟨e,D,(t,some b,.cells vs.toArray bt (0,0)) :: H,G⟩ K):Wl P ops (⟨none,.store T x y,ty,pos,after,none⟩ :: rest) B ⟨e,D,H,G⟩ K:=by
 have hl:vs.length=cs.length:=aD ho;refine tW t hs hx hy hk h1 ht (by rw [hl];simp) ?_;rw [bX,gI,cF,hl,uG,fH];exact h
abbrev oB:=@Zl
theorem Wl.box {T:TypeId} {x:Operand} {v:Value} {cs:List Value} (t:Nat) (hn:Nat.ble (d+1) B.n=true) (hx:e.ev x=some v) (hv:v.cells=cs.toArray)
 (h:∀ b,Wl P ops rest B ⟨(d,.pointer (some ⟨b,0,none⟩)) :: e,D,(t,some b,.cells cs.toArray T (0,0)) :: H,G⟩ K) :
 Wl P ops (⟨some d,.box T x,ty,pos,after,none⟩ :: rest) B ⟨e,D,H,G⟩ K:=
 oA (v:=fun b=>.pointer (some ⟨b,0,none⟩)) t hn (fun a w hh=>by simp [execOp,Instr.box,newVar,newRow,hh.eval hx,hv]) h
abbrev gU:=@Wl.box
def C3 (P:Program) (T:TypeId) (cs:List Value):Prop:=∀ w,∃ z,(zeroValue T).run P w=.ok z w∧z.cells=cs.toArray
theorem C3.of {P:Program} {T:TypeId} {cs:List Value} (h:((P.info? T).bind (·.zero)).map (·.cells)=some cs.toArray):C3 P T cs:=fun w=>by
 cases hi:P.info? T with
 | none=>simp [hi] at h
 | some i =>
   cases hz:i.zero with
   | none=>simp [hi,hz] at h
   | some z=>exact ⟨z,by simp [zeroValue,typeInfo,hi,hz],by simpa [hi,hz] using h⟩
abbrev iZ:=@C3.of
theorem Wl.alloc {T:TypeId} {cs:List Value} (t:Nat) (hn:Nat.ble (d+1) B.n=true) (hz:C3 P T cs)
 (h:∀ b,Wl P ops rest B ⟨(d,.pointer (some ⟨b,0,none⟩)) :: e,D,(t,some b,.cells cs.toArray T (0,0)) :: H,G⟩ K) :
 Wl P ops (⟨some d,.alloc T,ty,pos,after,none⟩ :: rest) B ⟨e,D,H,G⟩ K:=
 oA (v:=fun b=>.pointer (some ⟨b,0,none⟩)) t hn (fun a w hh=>by
  obtain ⟨z,hz,hc⟩:=hz w;simp [execOp,Instr.alloc,newVar,newRow,hz,hc]) h
abbrev bB:=@Wl.alloc
end ops
theorem Ss (A B:Hp) (i:Nat):Hp.get (A++B) i=(Hp.get A i).or (Hp.get B i):=by
 induction A with
 | nil=>rfl
 | cons x A ih =>
   obtain ⟨j,v⟩:=x;show Hp.get ((j,v) :: (A++B)) i=_;rw [bZ,bZ,ih];split <;> rfl
abbrev jP:=@Ss
def Hp.shift (k:Nat):Hp→Hp
 | []=>[]
 | (t,x) :: h=>(k+t,x) :: Hp.shift k h
def Hp.kill (k:Nat):Hp→Hp
 | []=>[]
 | (t,_) :: h=>(k+t,none,default) :: Hp.kill k h
theorem Xa (k:Nat) (h:Hp) (i:Nat):(h.shift k).get i=if k≤i then h.get (i - k) else none:=by
 induction h with
 | nil=>simp [Hp.shift,Hp.get]
 | cons x h ih =>
   obtain ⟨t,x⟩:=x;show Hp.get ((k+t,x) :: Hp.shift k h) i=_;rw [bZ,ih,bZ];by_cases hi:k≤i
   · rw [aM hi,aM hi];by_cases ht:k+t=i
     · rw [aM ht,aM (by omega)]
     rw [aE ht,aE (by omega)]
   rw [aE hi,aE hi,aE (by omega)]
abbrev lT:=@Xa
theorem Ko {k:Nat} {h:Hp} {i:Nat} {x:Option Nat×Obj} (hx:(h.kill k).get i=some x):x.1=none:=by
 induction h with
 | nil=>simp [Hp.kill,Hp.get] at hx
 | cons y h ih =>
   obtain ⟨t,y⟩:=y;have hx':Hp.get ((k+t,none,default) :: Hp.kill k h) i=some x:=hx;rw [bZ] at hx';split at hx'
   · simp only [cO] at hx';rw [←hx']
   exact ih hx'
theorem Kp {k:Nat} {h:Hp} {i:Nat} (hx:(h.kill k).get i=none):∀ t x,h.get t=some x→i≠k+t:=by
 induction h with
 | nil=>intro t x h;simp [Hp.get] at h
 | cons y h ih =>
   obtain ⟨t,y⟩:=y;intro t' x hg he;have hx':Hp.get ((k+t,none,default) :: Hp.kill k h) i=none:=hx;rw [bZ] at hx' hg;split at hx'
   · cases hx'
   rename_i hne;split at hg
   · rename_i h2;omega
   exact ih hx' t' x hg he
def yA (G:A3) (Hi:Hp) (w:World) (post:Value→A3→Hp→Prop):Ending→World→Prop:=fun x w' =>
 ∃ v G' Ho,x=.returned v∧B6 Ho G' w'∧G.le G'∧D2 Hi.has w w'∧(∀ b,G' b≠none→G b=none→w.heap.size≤b∨Hi.has b)∧
  (∀ t b o,Ho.get t=some (some b,o)→w.heap.size≤b∨Hi.has b)∧post v G' Ho
def Does (P:Program) (f:FuncId) (args:List Value) (G:A3) (Hi:Hp) (post:Value→A3→Hp→Prop):Prop:=
 ∀ w,B6 Hi G w→Calls P f args.toArray w (yA G Hi w post)
theorem Does.mono {P:Program} {f:FuncId} {args:List Value} {G:A3} {Hi:Hp} {post post':Value→A3→Hp→Prop} (h:Does P f args G Hi post)
 (hp:∀ v G' Ho,G.le G'→post v G' Ho→post' v G' Ho):Does P f args G Hi post':=
 fun w hw=>(h w hw).mono fun _ _ ⟨v,G',Ho,h1,h2,h3,h4,h5,h6,h7⟩=>⟨v,G',Ho,h1,h2,h3,h4,h5,h6,hp v G' Ho h3 h7⟩
section
variable {P:Program} {B:Bs} {e:B0} {D:List Deferred} {H:Hp} {G:A3}
theorem A7.called {a:Act} {w w':World} (hh:A7 B ⟨e,D,H,G⟩ a w) {Hi:Hp} (k:Nat) (hHi:∀ t x,Hi.get t=some x→H.get (k+t)=some x)
 {G':A3} {Ho:Hp} (h2:B6 Ho G' w') (h3:G.le G') (h4:D2 Hi.has w w') (h5:∀ b,G' b≠none→G b=none→w.heap.size≤b∨Hi.has b)
 (h6:∀ t b o,Ho.get t=some (some b,o)→w.heap.size≤b∨Hi.has b):A7 B ⟨e,D,Ho.shift k++(Hi.kill k++H),G'⟩ a w':=by
 have hin:∀ b,Hi.has b→∃ t o,H.get (k+t)=some (some b,o)∧Hi.get t=some (some b,o):=fun b ⟨t,o,h⟩=>⟨t,o,hHi t _ h,h⟩
 have hmine:∀ b,Hi.has b→B.W.heap.size≤b∨B.X b:=fun b hb=>by obtain ⟨t,o,h,_⟩:=hin b hb;exact hh.mine _ b o h
 -- what is left of H: its blocks are none of Hi's
 have hleft:∀ i b o,(Hi.kill k++H).get i=some (some b,o)→H.get i=some (some b,o)∧¬Hi.has b:=by
  intro i b o hx;rw [jP] at hx;cases hk:(Hi.kill k).get i with
  | some x =>
    rw [hk] at hx;have h1:=Ko hk;have hx':x=(some b,o):=by simpa using hx
    rw [hx'] at h1;cases h1
  | none =>
    rw [hk] at hx;simp only [qH] at hx;refine ⟨hx,fun hb=>?_⟩;obtain ⟨t,o',h1,h1'⟩:=hin b hb;have:=hh.mem.one _ _ b _ _ hx h1;exact Kp hk t _ h1' this
 have hsplit:∀ i b o,(Ho.shift k++(Hi.kill k++H)).get i=some (some b,o)→(k≤i∧Ho.get (i - k)=some (some b,o))∨(H.get i=some (some b,o)∧¬Hi.has b):=by
  intro i b o hx;rw [jP,lT] at hx;by_cases hi:k≤i
  · rw [aM hi] at hx;cases hg:Ho.get (i - k) with
    | some x=>rw [hg] at hx;exact .inl ⟨hi,by simpa using hx⟩
    | none=>rw [hg] at hx;simp only [qH] at hx;exact .inr (hleft i b o hx)
  rw [aE hi] at hx;simp only [qH] at hx;exact .inr (hleft i b o hx)
 have hfar:∀ t b o i o',Ho.get t=some (some b,o)→H.get i=some (some b,o')→¬Hi.has b→False:=fun t b o i o' h1 h2 h3=>by
  rcases h6 t b o h1 with h | h
  · have:b<w.heap.size:=hh.mem.lt h2;omega
  exact h3 h
 refine ⟨hh.size,hh.defers,hh.env,⟨?_,?_,h2.imm,?_⟩,?_,?_,bH hh.le h3,?_⟩
 · intro i b o hx;rcases hsplit i b o hx with ⟨_,h⟩ | ⟨h,hn⟩
   · exact h2.own _ b o h
   rw [h4.same b (hh.mem.lt h) hn];exact hh.mem.own _ b o h
 · intro i j b o o' hx hy;rcases hsplit i b o hx with ⟨hi,h⟩ | ⟨h,hn⟩ <;> rcases hsplit j b o' hy with ⟨hj,h'⟩ | ⟨h',hn'⟩
   · have:=h2.one _ _ b _ _ h h';omega
   · exact (hfar _ b _ _ _ h h' hn').elim
   · exact (hfar _ b _ _ _ h' h hn).elim
   exact hh.mem.one _ _ b _ _ h h'
 · intro i b o hx;rcases hsplit i b o hx with ⟨_,h⟩ | ⟨h,hn⟩
   · exact h2.off _ b o h
   have hg:G b=none:=hh.mem.off i b o h;cases hb:G' b with
   | none=>exact hb
   | some x =>
     rcases h5 b (by rw [hb];simp) hg with h' | h'
     · have:b<w.heap.size:=hh.mem.lt h;omega
     exact (hn h').elim
 · refine ⟨h4.os.trans hh.upd.os,h4.tape.trans hh.upd.tape,h4.output.trans hh.upd.output,aP hh.upd.size h4.size,fun b hb hx=>?_⟩;by_cases hi:Hi.has b
   · rcases hmine b hi with h' | h'
     · omega
     exact (hx h').elim
   exact (h4.same b (bW hb hh.upd.size) hi).trans (hh.upd.same b hb hx)
 · intro i b o hx;rcases hsplit i b o hx with ⟨_,h⟩ | ⟨h,_⟩
   · rcases h6 _ b o h with h' | h'
     · exact .inl (aP hh.upd.size h')
     exact hmine b h'
   exact hh.mine i b o h
 intro b hb h0;by_cases hg:G b=none
 · rcases h5 b hb hg with h' | h'
   · exact .inl (aP hh.upd.size h')
   exact hmine b h'
 exact hh.new b hg h0
section call
variable {ops:Array Oper} {rest:List Oper} {K:Act→World→Prop} {ty:TypeId} {pos:String} {after:Array Edge} {d:Nat}
theorem Az {f : FuncId} {fn : Func} (w : World) (args : Array Value) (hf : P.funcs[f]? = some fn) (hb : fn.body.isSome = true) (hn : (fn.name == "runtime.NumGoroutine") = false) :
 (callFunc f args).run P w=.ok (.enter f args) w:=by
 have h1:fn.body≠none:=by intro h;simp [h] at hb
 have h2 : fn.name ≠ "runtime.NumGoroutine" := by simpa using hn
 simp [callFunc,hf,h1,h2]
def wJ (P : Program) (f : FuncId) : Prop := ∃ fn, P.funcs[f]? = some fn ∧ fn.body.isSome = true ∧ (fn.name == "runtime.NumGoroutine") = false
theorem OM {g:Operand} {f:FuncId} {fst cap:List Value} {xs:Array Operand} {ats:Array TypeId} {vs:List Value} {Hi:Hp} {post:Value→A3→Hp→Prop} (k:Nat)
 (hn:Nat.ble (d+1) B.n=true) (hf:wJ P f) (hg:e.ev g=some (.func (.func f) fst.toArray cap.toArray)) (hx:e.evs xs.toList=some vs)
 (hF:Does P f (fst++vs++cap) G Hi post) (hHi:∀ t x,Hi.get t=some x→H.get (k+t)=some x)
 (h:∀ v G' Ho,G.le G'→post v G' Ho→Wl P ops rest B ⟨(d,v) :: e,D,Ho.shift k++(Hi.kill k++H),G'⟩ K) :
 Wl P ops (⟨some d,.call { callee:=.value g,args:=xs,argTypes:=ats },ty,pos,after,none⟩ :: rest) B ⟨e,D,H,G⟩ K:=by
 intro a w hh;obtain ⟨fn,h1,h2,h3⟩:=hf;unfold uZ;rw [aM (by simp [Region.wanted])];unfold Ag;have hrun:(execOp a.eval ⟨some d,.call { callee:=.value g,args:=xs,argTypes:=ats },ty,pos,after,none⟩).run P w=.ok (.enter f (fst++vs++cap).toArray) w:=by
  simp [execOp,resolve,Deferred.ofValue,invoke,hh.eval hg,hh.args hx,Az w _ h1 h2 h3]
 rw [hrun];have hw:B6 Hi G w:=⟨fun t b o x=>hh.mem.own _ b o (hHi _ _ x),fun t t' b o o' x y=>by have:=hh.mem.one _ _ b _ _ (hHi _ _ x) (hHi _ _ y);omega,hh.mem.imm,fun t b o x=>hh.mem.off _ b o (hHi _ _ x)⟩
 refine (hF w hw).mono fun x w' ⟨v,G',Ho,h1,h2,h3,h4,h5,h6,h7⟩=>⟨v,h1,?_⟩
 exact h v G' Ho h3 h7 _ _ ((hh.called k hHi h2 h3 h4 h5 h6).put hn v)
abbrev fM:=@OM
theorem Wl.call {f:FuncId} {xs:Array Operand} {ats:Array TypeId} {vs:List Value} {Hi:Hp} {post:Value→A3→Hp→Prop} (k:Nat)
 (hn:Nat.ble (d+1) B.n=true) (hf:wJ P f) (hx:e.evs xs.toList=some vs)
 (hF:Does P f vs G Hi post) (hHi:∀ t x,Hi.get t=some x→H.get (k+t)=some x)
 (h:∀ v G' Ho,G.le G'→post v G' Ho→Wl P ops rest B ⟨(d,v) :: e,D,Ho.shift k++(Hi.kill k++H),G'⟩ K) :
 Wl P ops (⟨some d,.call { callee:=.value (.func f),args:=xs,argTypes:=ats },ty,pos,after,none⟩ :: rest) B ⟨e,D,H,G⟩ K:=
 fM (fst:=[]) (cap:=[]) k hn hf U hx (by simpa using hF) hHi h
abbrev pF:=@Wl.call
theorem ON {f:FuncId} {xs:Array Operand} {ats:Array TypeId} {vs:List Value} {r:Value}
 (hn:Nat.ble (d+1) B.n=true) (hf:wJ P f) (hx:e.evs xs.toList=some vs)
 (hF:Does P f vs G [] (fun v G' Ho=>v=r∧G'=G∧Ho=[]))
 (h:Wl P ops rest B ⟨(d,r) :: e,D,H,G⟩ K) :
 Wl P ops (⟨some d,.call { callee:=.value (.func f),args:=xs,argTypes:=ats },ty,pos,after,none⟩ :: rest) B ⟨e,D,H,G⟩ K:=
 pF 0 hn hf hx hF (fun t x h=>by simp [Hp.get] at h) (fun v G' Ho _ ⟨h1,h2,h3⟩=>by subst h1 h2 h3;exact h)
abbrev rY:=@ON
end call
def xC:Nat→List Value→B0
 | _,[]=>[]
 | i,v :: vs=>(i,v) :: xC (i+1) vs
theorem El:∀ (vs:List Value) (i j:Nat) (v:Value),(xC i vs).get j=some v→i≤j∧vs[j - i]?=some v
 | [],i,j,v,h=>by simp [xC,B0.get] at h
 | u :: vs,i,j,v,h=>by
   have h':B0.get ((i,u) :: xC (i+1) vs) j=some v:=h;rw [jQ] at h';split at h'
   · rename_i hij;subst hij;simpa using h'
   obtain ⟨h1,h2⟩:=El vs (i+1) j v h';refine ⟨by omega,?_⟩;rw [show j - i=(j - (i+1))+1 by omega];simpa using h2
abbrev sP:=@El
def HE (P:Program) (fn:Func) (G:A3) (Hi:Hp) (w:World) (post:Value→A3→Hp→Prop):Exit→Act→World→Prop:=bodyPost P fn (yA G Hi w post)
theorem Does.enter {f:FuncId} {fn:Func} {c:Code} {n:Nat} {args:List Value} {Hi:Hp} {post:Value→A3→Hp→Prop} (hf:P.funcs[f]?=some fn) (hb:fn.body=some c) (hn:fn.ntmps=n)
 (hl:Nat.ble args.length n=true) (h:∀ w,Wc none P c ⟨n,w,Hi.has,G⟩ ⟨xC 0 args,[],Hi,G⟩ (HE P fn G Hi w post)):Does P f args G Hi post:=by
 intro w hw;have hl':=bK hl;refine zS.1 (callsIn_of_wp (F:=FF none) (n:=0) hf hb I8 (h w _ w ?_));refine ⟨?_,U,?_,hw,lE _ _,fun t b o hx=>.inr ⟨t,o,hx⟩,cC _,fun b h1 h2=>(h1 h2).elim⟩
 · simp [hn];omega
 intro i v hi;obtain ⟨_,h2⟩:=sP args 0 i v hi;have h2':args[i]?=some v:=by simpa using h2
 have hlt:i<args.length:=(aR.1 h2').1;show (args.toArray++Array.replicate (fn.ntmps - args.toArray.size) undef)[i]?=some v;rw [qP (by simpa using hlt)];simpa using h2'
abbrev bU:=@Does.enter
def F9 (P:Program) (S:St) (x:ResultVar) (v:Value):Prop:=
 (∃ t,x=.tmp t∧S.e.get t=some v)∨
 (∃ t T b tag cs bt fz,x=.cell t T∧S.e.get t=some (.pointer (some ⟨b,0,none⟩))∧S.H.get tag=some (some b,.cells cs bt fz)∧
  ((xZ P T cs.size=true∧v=.agg cs)∨(xB P T=true∧cs[0]?=some v)))
theorem F9.tmp {S:St} {t:Nat} {v:Value} (h:S.e.get t=some v):F9 P S (.tmp t) v:=.inl ⟨t,U,h⟩
theorem F9.agg {S:St} {t T b:Nat} {cs:List Value} {bt:TypeId} {fz:Nat×Nat} (tag:Nat) (h:S.e.get t=some (.pointer (some ⟨b,0,none⟩))) (hH:S.H.get tag=some (some b,.cells cs.toArray bt fz))
 (hT:xZ P T cs.length=true):F9 P S (.cell t T) (.agg cs.toArray):=.inr ⟨t,T,b,tag,cs.toArray,bt,fz,U,h,hH,.inl ⟨by simpa using hT,rfl⟩⟩
def Bm (tmps:Array Value):ResultVar→Sem Value:=fun
 | .tmp t=>pure (tmps.getD t undef)
 | .cell a t=>do loadVar t (←asAddr (tmps.getD a undef))
theorem F9.run {S:St} {x:ResultVar} {v:Value} {a:Act} {w:World} (h:F9 P S x v) (hh:A7 B S a w):(Bm a.tmps x).run P w=.ok v w:=by
 rcases h with ⟨t,rfl,ht⟩ | ⟨t,T,b,tag,cs,bt,fz,rfl,ht,hH,hT⟩
 · have:=hh.env t v ht;simp [Bm,this]
 have h1:=hh.env t _ ht;have h2:=hh.mem.own tag b _ hH;simp only [Bm];have h3:a.tmps.getD t undef=.pointer (some ⟨b,0,none⟩):=by simp [h1]
 rw [h3];rcases hT with ⟨hT,rfl⟩ | ⟨hT,hv⟩
 · have hl:=zC (P:=P) (T:=T) (b:=b) (off:=0) (w:=w) (vs:=cs.toList) hT vL (fun j v hj=>by
    simp only [cF];rw [cell_of_block (cs:=cs.toList) (by simpa using h2)];exact hj)
   simpa [Instr.loadAt,Instr.sureAddr,asAddr] using hl
 have hl:=zB (P:=P) (T:=T) (ad:=⟨b,0,none⟩) (w:=w) (v:=v) hT (by rw [cell_of_block (cs:=cs.toList) (by simpa using h2)];simpa using hv);simpa [Instr.loadAt,Instr.sureAddr,asAddr] using hl
theorem zT (fn:Func) (tmps:Array Value):results fn tmps=(do let vs ←fn.results.mapM (Bm tmps);pure (if h:vs.size=1 then vs[0] else .tuple vs)):=rfl
section ret
variable {fn:Func} {G0:A3} {Hi:Hp} {w0:World} {post:Value→A3→Hp→Prop} {n:Nat} {v:Value} {x:Exit}
theorem Ar.out (hx:x=.normal∨x=.ret) {Ho:Hp} (hHo:H.sub Ho) (hr:∀ a w,A7 ⟨n,w0,Hi.has,G0⟩ ⟨e,[],H,G⟩ a w→(results fn a.tmps).run P w=.ok v w)
 (hp:post v G Ho):Ar (HE P fn G0 Hi w0 post) x ⟨n,w0,Hi.has,G0⟩ ⟨e,[],H,G⟩:=by
 intro a w hh;have hH:=hh.weaken (e':=e) (H':=Ho) (fun _ _ h=>h) (nW hHo);have key:a.defers=[]∧∃ v,(results fn a.tmps).run P w=.ok v w∧yA G0 Hi w0 post (.returned v) w:=
  ⟨hh.defers,v,hr a w hh,v,G,Ho,U,hH.mem,hh.le,hh.upd,hh.new,hH.mine,hp⟩
 rcases hx with rfl | rfl <;> exact key
theorem HF (hx:x=.normal∨x=.ret) {Ho:Hp} (hres:fn.results=#[]) (hHo:H.sub Ho) (hp:post (.tuple #[]) G Ho):Ar (HE P fn G0 Hi w0 post) x ⟨n,w0,Hi.has,G0⟩ ⟨e,[],H,G⟩:=
 Ar.out hx hHo (fun a w _=>by simp [zT,hres]) hp
theorem VH (hx:x=.normal∨x=.ret) {Ho:Hp} {r1:ResultVar} {v1:Value} (hres:fn.results=#[r1]) (h1:F9 P ⟨e,[],H,G⟩ r1 v1) (hHo:H.sub Ho) (hp:post v1 G Ho) :
 Ar (HE P fn G0 Hi w0 post) x ⟨n,w0,Hi.has,G0⟩ ⟨e,[],H,G⟩:=
 Ar.out hx hHo (fun a w hh=>by simp [zT,hres,h1.run hh]) hp
abbrev cP:=@VH
theorem VI (hx:x=.normal∨x=.ret) {Ho:Hp} {r1 r2:ResultVar} {v1 v2:Value} (hres:fn.results=#[r1,r2]) (h1:F9 P ⟨e,[],H,G⟩ r1 v1) (h2:F9 P ⟨e,[],H,G⟩ r2 v2) (hHo:H.sub Ho)
 (hp:post (.tuple #[v1,v2]) G Ho):Ar (HE P fn G0 Hi w0 post) x ⟨n,w0,Hi.has,G0⟩ ⟨e,[],H,G⟩:=
 Ar.out hx hHo (fun a w hh=>by simp [zT,hres,h1.run hh,h2.run hh]) hp
abbrev jZ:=@VI
theorem VJ (hx:x=.normal∨x=.ret) {Ho:Hp} {r1 r2 r3:ResultVar} {v1 v2 v3:Value} (hres:fn.results=#[r1,r2,r3]) (h1:F9 P ⟨e,[],H,G⟩ r1 v1) (h2:F9 P ⟨e,[],H,G⟩ r2 v2)
 (h3:F9 P ⟨e,[],H,G⟩ r3 v3) (hHo:H.sub Ho) (hp:post (.tuple #[v1,v2,v3]) G Ho):Ar (HE P fn G0 Hi w0 post) x ⟨n,w0,Hi.has,G0⟩ ⟨e,[],H,G⟩:=
 Ar.out hx hHo (fun a w hh=>by simp [zT,hres,h1.run hh,h2.run hh,h3.run hh]) hp
abbrev sW:=@VJ
end ret
def A3.with (G:A3) (b:Nat) (o:Obj):A3:=fun k=>if k=b then some o else G k
theorem A7.freeze {a:Act} {w:World} (hh:A7 B ⟨e,D,H,G⟩ a w) {t b:Nat} {o:Obj} (ht:H.get t=some (some b,o)) :
 A7 B ⟨e,D,(t,none,default) :: H,G.with b o⟩ a w∧G.le (G.with b o):=by
 have hG:G b=none:=hh.mem.off t b o ht;have hle:G.le (G.with b o):=fun k x hk=>by
  unfold A3.with
  split
  · rename_i h;subst h;rw [hG] at hk;cases hk
  exact hk
 have hget:∀ i b' o',Hp.get ((t,none,default) :: H) i=some (some b',o')→t≠i∧H.get i=some (some b',o'):=fun i b' o' hx=>by
  rw [bZ] at hx;split at hx
  · simp at hx
  rename_i h;exact ⟨h,hx⟩
 refine ⟨⟨hh.size,hh.defers,hh.env,⟨?_,?_,?_,?_⟩,hh.upd,?_,bH hh.le hle,?_⟩,hle⟩
 · intro i b' o' hx;exact hh.mem.own i b' o' (hget i b' o' hx).2
 · intro i j b' o1 o2 hx hy;exact hh.mem.one i j b' o1 o2 (hget _ _ _ hx).2 (hget _ _ _ hy).2
 · intro k x hk;have hk':(if k=b then some o else G k)=some x:=hk;split at hk'
   · rename_i h;subst h;simp only [cO] at hk';subst hk';exact hh.mem.own t k o ht
   exact hh.mem.imm k x hk'
 · intro i b' o' hx;obtain ⟨hne,hg⟩:=hget i b' o' hx;show (if b'=b then some o else G b')=none;split
   · rename_i h;subst h;exact (hne (hh.mem.one _ _ _ _ _ ht hg)).elim
   exact hh.mem.off i b' o' hg
 · intro i b' o' hx;exact hh.mine i b' o' (hget i b' o' hx).2
 intro k hk h0;have hk':(if k=b then some o else G k)≠none:=hk;split at hk'
 · rename_i h;subst h;exact hh.mine t k o ht
 exact hh.new k hk' h0
section freeze
variable {ops:Array Oper} {l:List Oper} {K:Act→World→Prop} {r:Option Nat} {c:Code} {Q:Exit→Act→World→Prop} {x:Exit}
theorem Wl.freeze (t:Nat) {b:Nat} {o:Obj} (ht:H.get t=some (some b,o)) (h:∀ G',G.le G'→G' b=some o→Wl P ops l B ⟨e,D,(t,none,default) :: H,G'⟩ K):Wl P ops l B ⟨e,D,H,G⟩ K:=
 fun a w hh=>h _ (hh.freeze ht).2 (by simp [A3.with]) a w (hh.freeze ht).1
abbrev tX:=@Wl.freeze
theorem Ar.freeze (t:Nat) {b:Nat} {o:Obj} (ht:H.get t=some (some b,o)) (h:∀ G',G.le G'→G' b=some o→Ar Q x B ⟨e,D,(t,none,default) :: H,G'⟩):Ar Q x B ⟨e,D,H,G⟩:=
 fun a w hh=>h _ (hh.freeze ht).2 (by simp [A3.with]) a w (hh.freeze ht).1
abbrev sX:=@Ar.freeze
end freeze
end
section gm
variable {P:Program} {ops:Array Oper} {K:Act→World→Prop}
def stp (P:Program) (ops:Array Oper) (i:Nat) (K:Act→World→Prop) (a:Act) (w:World):Prop:=
 match ops[i]? with
 | none=>K a w
 | some o=>if Region.wanted o (yielded ops a.tmps) then Ag P o a w K else K (a.put o.dst undef) w
theorem Ol {i:Nat} {a:Act} {w:World} {K K':Act→World→Prop} (h:∀ a w,K a w→K' a w) (hh:stp P ops i K a w):stp P ops i K' a w:=by
 unfold stp at *;split
 · rename_i ho;simp only [ho] at hh;exact h _ _ hh
 rename_i o ho;simp only [ho] at hh;split
 · rename_i hw;simp only [hw,fI] at hh;exact Ft h hh
 rename_i hw;simp only [hw] at hh;exact h _ _ hh
def gm (P:Program) (ops:Array Oper) (K:Act→World→Prop) (C:Array Bool→World→Prop):Nat→Array Bool→Act→World→Prop
 | 0,listed,a,w=>C listed w∧Region.ready .any ops listed=[]∧K a w
 | f+1,listed,a,w=>C listed w∧(Region.ready .any ops listed=[]→K a w)∧
   ∀ i∈Region.ready .any ops listed,stp P ops i (gm P ops K C f (listed.setIfInBounds i true)) a w
theorem JX {i:Nat} {a:Act} {w:World} {K:Act→World→Prop} {Q:Exit→Act→World→Prop} {r:Option Nat} {n:Nat} (hd:ops.toList.all vT=true)
 (h:stp P ops i K a w):wpOpIn (FF r) n P ops Q i K a w:=by
 unfold stp at h;unfold wpOpIn;split
 · rename_i ho;simp only [ho] at h;exact h
 rename_i o ho;simp only [ho] at h;have hdo:vT o=true:=by
  have:=eT.1 hd o (by rw [mV];exact Array.mem_of_getElem? ho);exact this
 split
 · rename_i hw;simp only [hw,fI] at h;exact Of hdo h
 rename_i hw;simp only [hw] at h;exact ⟨fun _ _=>trivial,h⟩
theorem Om {Q:Exit→Act→World→Prop} {r:Option Nat} {n:Nat} {C:Array Bool→World→Prop} (hd:ops.toList.all vT=true):∀ (f:Nat) (listed:Array Bool) (a:Act) (w:World),
 gm P ops (Q .normal) C f listed a w→wpAnyIn (FF r) n P .any ops Q f listed a w
 | 0,_,_,_,h=>⟨h.2.1,h.2.2⟩
 | f+1,_,_,_,h=>⟨h.2.1,fun i hi=>JX hd (Ol (fun a w h=>Om hd f _ a w h) (h.2.2 i hi))⟩
def yl (P:Program) (ops:Array Oper) (o:Oper) (a:Act) (C:World→Prop) (v:Value):Prop:=
 (Region.wanted o (yielded ops a.tmps)=true∧∀ w,C w→(execOp a.eval o).run P w=.ok (.value v) w)∨(Region.wanted o (yielded ops a.tmps)=false∧v=undef)
theorem yl.stp {i:Nat} {o:Oper} {v:Value} {a:Act} {w:World} {C:World→Prop} {K:Act→World→Prop} (hi:ops[i]?=some o) (hy:yl P ops o a C v) (hC:C w) (h:K (a.put o.dst v) w):stp P ops i K a w:=by
 unfold Go.Sl.stp;simp only [hi];rcases hy with ⟨hw,hv⟩ | ⟨hw,rfl⟩
 · simp only [hw,fI,Ag,hv w hC];exact h
 simp only [hw,nY,fJ];exact h
theorem VK {j:Nat} {oi oj:Oper} {v:Value} {C:World→Prop} (hj:ops[j]?=some oj) (hap:oi.apart ops oj=true) (hsi:∀ cs b,oi.op≠.select cs b) (hsj:∀ cs b,oj.op≠.select cs b)
 {K:Act→World→Prop} {a:Act} {w:World} (hy:yl P ops oi a C v) (h:stp P ops j K (a.put oi.dst v) w) :
 stp P ops j (fun a' w'=>yl P ops oi a' C v∧K (a'.put oi.dst v) w') a w:=by
 obtain ⟨h1,h2,h3⟩:=Oper.apart_spec hap;have keep:∀ u,yl P ops oi (a.put oj.dst u) C v:=fun u=>by
  unfold yl at *;rw [execOp_put oi hsi a oj.dst u h3,wanted_put oi a oj.dst u h3];exact hy
 unfold stp at *;simp only [hj] at *;rw [wanted_put oj a oi.dst v h1] at h;split
 · rename_i hw;simp only [hw,fI] at h;unfold Ag at *;rw [execOp_put oj hsj a oi.dst v h1] at h;generalize (execOp a.eval oj).run P w=r at *;cases r with
   | ok x w' =>
     cases x <;> simp only at h ⊢
     case value u=>exact ⟨keep u,by rw [←rR a v u h2];exact h⟩
     case skip=>exact ⟨keep undef,by rw [←rR a v undef h2];exact h⟩
     case enter f args=>exact h.mono fun x w'' ⟨u,hu,hk⟩=>⟨u,hu,keep u,by rw [←rR a v u h2];exact hk⟩
     case round l f tmps assign body=>exact h.mono fun x w'' ⟨u,hu,hk⟩=>⟨u,hu,keep u,by rw [←rR a v u h2];exact hk⟩
   | halt x w'=>exact h
 rename_i hw;simp only [hw] at h;exact ⟨keep undef,by rw [←rR a v undef h2];exact h⟩
theorem Zm {i:Nat} {oi:Oper} {v:Value} {C:Array Bool→World→Prop} {Wr:List Nat} {Cq:World→Prop} (hi:ops[i]?=some oi) (hsel:Region.noSelect ops=true)
 (hC:∀ L w,(∀ j∈Wr,L.getD j false=false)→C L w→Cq w) (hset:∀ L w,C (L.setIfInBounds i true) w→C L w)
 (hedge:∀ j∈Wr,∀ oj,ops[j]?=some oj→∃ e∈oj.after,Region.binds .any e=true∧e.on=i) :
 ∀ (f:Nat) (listed:Array Bool) (a:Act) (w:World),
  (∀ j oj,ops[j]?=some oj→j≠i→listed.getD j true=false→(∀ e∈oj.after,Region.binds .any e=true→e.on≠i)→oi.apart ops oj=true)→
  (∀ j∈Wr,listed.getD j false=false)→i∈Region.ready .any ops listed→yl P ops oi a Cq v→
  gm P ops K C f (listed.setIfInBounds i true) (a.put oi.dst v) w→gm P ops K C (f+1) listed a w:=by
 intro f;induction f with
 | zero =>
   intro listed a w _ hWr hr hy H;have hc:=hset _ _ H.1;refine ⟨hc,fun h=>(by rw [h] at hr;cases hr),fun j hj=>?_⟩;by_cases hji:j=i
   · subst hji;exact hy.stp hi (hC _ _ hWr hc) H
   · have:=ready_mono hj hji;rw [H.2.1] at this;cases this
 | succ f ih =>
   intro listed a w hfree hWr hr hy H;have hc:=hset _ _ H.1;refine ⟨hc,fun h=>(by rw [h] at hr;cases hr),fun j hj=>?_⟩;by_cases hji:j=i
   · subst hji;exact hy.stp hi (hC _ _ hWr hc) H
   have h1:=H.2.2 j (ready_mono hj hji);obtain ⟨hjun,oj,hoj,hall⟩:=fS.1 hj;have hnot:∀ e∈oj.after,Region.binds .any e=true→e.on≠i:=fun e he hb heq=>by
    have h1:=hall e he hb;have h0:=(fS.1 hr).1;rw [heq] at h1;rcases aK i listed.size with h' | h'
    · simp [h'] at h0 h1;rw [h0] at h1;cases h1
    simp [lV h'] at h1
   have h2:=VK hoj (hfree j oj hoj hji hjun hnot) (fun cs b=>Region.noSelect_spec hsel i oi cs b hi) (fun cs b=>Region.noSelect_spec hsel j oj cs b hoj) hy h1;have hfree':∀ k ok,ops[k]?=some ok→k≠i→(listed.setIfInBounds j true).getD k true=false→
    (∀ e∈ok.after,Region.binds .any e=true→e.on≠i)→oi.apart ops ok=true:=fun k ok hk hki hun hno=>by
    refine hfree k ok hk hki ?_ hno;by_cases hjk:j=k
    · subst hjk;exact hjun
    rw [jR true hjk] at hun;exact hun
   have hWr':∀ k∈Wr,(listed.setIfInBounds j true).getD k false=false:=fun k hk=>by
    have hjk:j≠k:=fun e=>by
     subst e;obtain ⟨e,he,hb,hon⟩:=hedge j hk oj hoj;exact hnot e he hb hon
    rw [jR false hjk];exact hWr k hk
   refine Ol (fun a' w' h3=>?_) h2;obtain ⟨hy',hg⟩:=h3;refine ih (listed.setIfInBounds j true) a' w' hfree' hWr' (ready_mono hr (rM hji)) hy' ?_;rw [Array.setIfInBounds_comm _ _ hji];exact hg
end gm
theorem Gj (p:Nat→Bool):∀ (H:Hp) (t:Nat),Hp.get (H.filter fun x=>p x.1) t=if p t then H.get t else none
 | [],t=>by simp [Hp.get]
 | (i,x) :: H,t=>by
   have ih:=Gj p H t;rw [List.filter_cons];split
   · rename_i hp;show Hp.get ((i,x) :: H.filter fun x=>p x.1) t=_;rw [bZ,bZ,ih];by_cases h:i=t
     · subst h;simp [show p i=true from hp]
     simp [h]
   rename_i hp;rw [ih,bZ];by_cases h:i=t
   · subst h;simp [show ¬p i=true from hp]
   simp [h]
def Hp.live (wr:List (Nat×Nat)) (L:Array Bool) (H:Hp):Hp:=H.filter fun x=>wr.all fun q=>!(Nat.beq q.1 x.1 && L.getD q.2 false)
theorem Mi (wr:List (Nat×Nat)) (L:Array Bool) (H:Hp) (t:Nat):(H.live wr L).get t=if (wr.all fun q=>!(Nat.beq q.1 t && L.getD q.2 false)) then H.get t else none:=
 Gj (fun t=>wr.all fun q=>!(Nat.beq q.1 t && L.getD q.2 false)) H t
def Hp.only (H:Hp):List Nat→Hp
 | []=>[]
 | t :: ts=>match H.get t with | some x=>(t,x) :: Hp.only H ts | none=>Hp.only H ts
theorem En (H:Hp):∀ ts,H.sub (H.only ts)
 | []=>trivial
 | t :: ts=>by
   unfold Hp.only;split
   · rename_i x hx;exact ⟨hx,En H ts⟩
   exact En H ts
abbrev aV:=@En
theorem Zn {H:Hp} {ts:List Nat} {p:Nat×Option Nat×Obj} (hp:p∈H.only ts):p.1∈ts:=by
 induction ts with
 | nil=>simp [Hp.only] at hp
 | cons t ts ih =>
   unfold Hp.only at hp;split at hp
   · rcases dK.1 hp with rfl | hp
     · exact bM
     exact bD _ (ih hp)
   exact bD _ (ih hp)
theorem Hp.get_mem:∀ {L:Hp} {i:Nat} {x:Option Nat×Obj},L.get i=some x→(i,x)∈L
 | [],i,x,h=>by simp [Hp.get] at h
 | (j,y) :: L,i,x,h=>by
   rw [bZ] at h;split at h
   · rename_i hj;subst hj;cases h;exact bM
   exact bD _ (Hp.get_mem h)
theorem B6.part {H H':Hp} {G G':A3} {w:World} (h:B6 H G w) (hs:∀ t x,H'.get t=some x→H.get t=some x) (hG:G'.le G):B6 H' G' w:=
 ⟨fun t b o x=>h.own t b o (hs _ _ x),fun t t' b o o' x y=>h.one t t' b o o' (hs _ _ x) (hs _ _ y),fun b o x=>h.imm b o (hG b o x),fun t b o x=>by
  have h1:=h.off t b o (hs _ _ x);cases hg:G' b with
  | none=>rfl
  | some y=>rw [hG b y hg] at h1;cases h1⟩
def zD (ops:Array Oper) (listed:Array Bool) (wr:List (Nat×Nat)) (i:Nat) (ts:List Nat):Bool:=
 Region.noSelect ops && ops.toList.all vT && (Region.ready .any ops listed).contains i && Region.free .any ops listed i &&
  wr.all fun q=>!Nat.beq q.2 i && (!(ts.any (Nat.beq q.1)) || (!(listed.getD q.2 false) && (match ops[q.2]? with | some oj=>oj.after.any (fun e=>Region.binds .any e && e.on == i) | none=>true)))
def gn (wr:List (Nat×Nat)) (H0:Hp) (G0:A3):Array Bool→World→Prop:=fun L w=>B6 (H0.live wr L) G0 w
def Gm (P:Program) (ops:Array Oper) (f:Nat) (listed:Array Bool) (wr:List (Nat×Nat)) (H0:Hp) (G0:A3) (B:Bs) (S:St) (K:Act→World→Prop):Prop:=∀ a w,A7 B S a w→gm P ops K (gn wr H0 G0) f listed a w
section
variable {P:Program} {ops:Array Oper} {B:Bs} {e:B0} {D:List Deferred} {H H0:Hp} {G G0:A3} {K:Act→World→Prop} {f:Nat} {listed:Array Bool} {wr:List (Nat×Nat)}
 {ty:TypeId} {pos:String} {after:Array Edge} {d:Nat}
theorem Wc.draw {r:Option Nat} {id:Nat} {l:List Oper} {Q:Exit→Act→World→Prop} (ts:List Nat) (wr:List (Nat×Nat)) (hm:P.follows .mixedOrders=true) (hd:l.all vT=true)
 (h:Gm P l.toArray l.length (Array.replicate l.length false) wr (H.only ts) G B ⟨e,D,H,G⟩ (Q .normal)):Wc r P (.region id l.toArray true) B ⟨e,D,H,G⟩ Q:=fun a w hh=>by
 have:=Om (r:=r) (n:=0) (by simpa using hd) _ _ _ _ (h a _ hh.drew);exact wpIn_region_any hm (by simpa using this)
abbrev gV:=@Wc.draw
theorem On {l:List Oper} {o:Oper} {v:Value} {i:Nat} {ts:List Nat} (hB:zD l.toArray listed wr i ts=true) (ho:l[i]?=some o) {a:Act} {w:World}
 (hy:yl P l.toArray o a (fun w=>B6 (H0.only ts) G0 w) v) (h:gm P l.toArray K (gn wr H0 G0) f (listed.setIfInBounds i true) (a.put o.dst v) w):gm P l.toArray K (gn wr H0 G0) (f+1) listed a w:=by
 simp only [zD,aB] at hB;obtain ⟨⟨⟨⟨h1,h2⟩,h3⟩,h4⟩,h5⟩:=hB;have ho':l.toArray[i]?=some o:=by simpa using ho
 have hq:∀ q∈wr,q.2≠i∧(q.1∈ts→listed.getD q.2 false=false∧∀ oj,l.toArray[q.2]?=some oj→∃ e∈oj.after,Region.binds .any e=true∧e.on=i):=fun q hq=>by
  have:=eT.1 h5 q hq;simp only [aB,nS,eJ] at this;obtain ⟨g1,g2⟩:=this;refine ⟨fun e=>by rw [e] at g1;simp at g1,fun hm=>?_⟩;rcases g2 with g2 | ⟨g2,g3⟩
  · have:(ts.any (Nat.beq q.1))=true:=List.any_eq_true.2 ⟨q.1,hm,by simp⟩;rw [this] at g2;cases g2
  refine ⟨g2,fun oj hoj=>?_⟩;rw [hoj] at g3;obtain ⟨e,he,hb⟩:=Array.any_eq_true'.1 g3;simp only [aB,beq_iff_eq] at hb;exact ⟨e,he,hb⟩
 refine Zm (Wr:=(wr.filter fun q=>decide (q.1∈ts)).map (·.2)) (Cq:=fun w=>B6 (H0.only ts) G0 w) ho' h1 ?_ ?_ ?_ f listed a w (Region.free_spec ho' h4) ?_ (by simpa using h3) hy h
 · intro L w hL hc;refine B6.part hc (fun t x hx=>?_) (cC _);have hm:=Zn (Hp.get_mem hx);have hx':=nW (aV H0 ts) t x hx;rw [Mi,aM ?_];exact hx';rw [eT];intro q hqm;by_cases he:q.1=t
   · have hm':q.1∈ts:=by rw [he];exact hm
     have:=hL q.2 (cV.2 ⟨q,jC.2 ⟨hqm,by simpa using hm'⟩,rfl⟩);rw [this];simp
   have:Nat.beq q.1 t=false:=by cases hb:Nat.beq q.1 t with | false=>rfl | true=>exact absurd (aD hb) he
   simp [this]
 · intro L w hc;refine B6.part hc (fun t x hx=>?_) (cC _);rw [Mi] at hx ⊢;have e:(wr.all fun q=>!(Nat.beq q.1 t && (L.setIfInBounds i true).getD q.2 false))=(wr.all fun q=>!(Nat.beq q.1 t && L.getD q.2 false)):=by
    rw [Bool.eq_iff_iff,eT,eT];constructor
    · intro h q hqm;have h':=h q hqm;rw [jR false (rM (hq q hqm).1)] at h';exact h'
    intro h q hqm;rw [jR false (rM (hq q hqm).1)];exact h q hqm
   rw [e];exact hx
 · intro j hj oj hoj;obtain ⟨q,hqm,rfl⟩:=cV.1 hj;obtain ⟨hqm,hts⟩:=jC.1 hqm;exact ((hq q hqm).2 (by simpa using hts)).2 oj hoj
 intro j hj;obtain ⟨q,hqm,rfl⟩:=cV.1 hj;obtain ⟨hqm,hts⟩:=jC.1 hqm;exact ((hq q hqm).2 (by simpa using hts)).1
theorem Gm.q {l:List Oper} {o:Op} {v:Value} (i:Nat) (ts:List Nat) (hB:zD l.toArray listed wr i ts=true) (ho:l[i]?=some ⟨some d,o,ty,pos,after,none⟩) (hn:Nat.ble (d+1) B.n=true)
 (hq:Qy P o ty e (H0.only ts) G0 v) (h:Gm P l.toArray f (listed.setIfInBounds i true) wr H0 G0 B ⟨(d,v) :: e,D,H,G⟩ K):Gm P l.toArray (f+1) listed wr H0 G0 B ⟨e,D,H,G⟩ K:=fun a w hh =>
 On hB ho (.inl ⟨by simp [Region.wanted],fun w' hw'=>hq a w' _ _ _ _ ⟨hh.env,hw'⟩⟩) (h _ _ (hh.put hn v))
theorem Oo {j:Nat} {t:Nat} {b:Bool} {a:Act} {w:World} (hh:A7 B ⟨e,D,H,G⟩ a w) (hj:(ops[j]?).bind (·.dst)=some t) (he:e.get t=some (.bool b)):yielded ops a.tmps j=some b:=by
 simp [yielded,hj,hh.env t _ he]
theorem VL {l:List Oper} {o:Op} {v:Value} {j:Nat} {want:Bool} {t:Nat} (i:Nat) (ts:List Nat) (hB:zD l.toArray listed wr i ts=true) (ho:l[i]?=some ⟨some d,o,ty,pos,after,some (j,want)⟩)
 (hj:(l[j]?).bind (·.dst)=some t) (he:e.get t=some (.bool want)) (hn:Nat.ble (d+1) B.n=true)
 (hq:Qy P o ty e (H0.only ts) G0 v) (h:Gm P l.toArray f (listed.setIfInBounds i true) wr H0 G0 B ⟨(d,v) :: e,D,H,G⟩ K):Gm P l.toArray (f+1) listed wr H0 G0 B ⟨e,D,H,G⟩ K:=fun a w hh =>
 On hB ho (.inl ⟨by simp [Region.wanted,Oo hh (ops:=l.toArray) (by simpa using hj) he],fun w' hw'=>hq a w' _ _ _ _ ⟨hh.env,hw'⟩⟩) (h _ _ (hh.put hn v))
abbrev nR:=@VL
theorem ZX {l:List Oper} {o:Op} {j:Nat} {want:Bool} {t:Nat} (i:Nat) (hB:zD l.toArray listed wr i []=true) (ho:l[i]?=some ⟨some d,o,ty,pos,after,some (j,want)⟩)
 (hj:(l[j]?).bind (·.dst)=some t) (he:e.get t=some (.bool (!want))) (hn:Nat.ble (d+1) B.n=true)
 (h:Gm P l.toArray f (listed.setIfInBounds i true) wr H0 G0 B ⟨(d,undef) :: e,D,H,G⟩ K):Gm P l.toArray (f+1) listed wr H0 G0 B ⟨e,D,H,G⟩ K:=fun a w hh =>
 On hB ho (.inr ⟨by simp [Region.wanted,Oo hh (ops:=l.toArray) (by simpa using hj) he],rfl⟩) (h _ _ (hh.put hn undef))
def Eo (P:Program) (ops:Array Oper) (f:Nat) (listed:Array Bool) (wr:List (Nat×Nat)) (H0:Hp) (G0:A3) (K:Act→World→Prop) (a:Act) (w:World):Prop:=gm P ops K (gn wr H0 G0) f listed a w
theorem A7.cst (hH:H.sub (H0.live wr listed)) (hG:G0.le G) {a:Act} {w:World} (hh:A7 B ⟨e,D,H,G⟩ a w):gn wr H0 G0 listed w:=hh.mem.part (nW hH) hG
theorem Gm.any (hH:H.sub (H0.live wr listed)) (hG:G0.le G) (l:List Nat) (hr:Region.ready .any ops listed=l) (hne:l.isEmpty=false)
 (h:∀ i∈l,∀ o,ops[i]?=some o→Wl P ops [o] B ⟨e,D,H,G⟩ (Eo P ops f (listed.setIfInBounds i true) wr H0 G0 K)):Gm P ops (f+1) listed wr H0 G0 B ⟨e,D,H,G⟩ K:=fun a w hh=>by
 refine ⟨hh.cst hH hG,fun h=>?_,fun i hi=>?_⟩
 · rw [hr] at h;subst h;simp at hne
 rw [hr] at hi;obtain ⟨_,o,ho,_⟩:=fS.1 (show i∈Region.ready .any ops listed by rw [hr];exact hi);have h1:=h i hi o ho a w hh;unfold stp;simp only [ho];unfold uZ at h1;split
 · rename_i hw;rw [aM hw] at h1;exact h1
 rename_i hw;rw [aE hw] at h1;exact h1
theorem Gm.one {l:List Oper} {o:Oper} (i:Nat) (hH:H.sub (H0.live wr listed)) (hG:G0.le G) (hr:Region.ready .any l.toArray listed=[i]) (ho:l[i]?=some o)
 (h:Wl P l.toArray [o] B ⟨e,D,H,G⟩ (Eo P l.toArray f (listed.setIfInBounds i true) wr H0 G0 K)):Gm P l.toArray (f+1) listed wr H0 G0 B ⟨e,D,H,G⟩ K:=
 Gm.any hH hG [i] hr U fun j hj o' ho'=>by
  simp only [lN] at hj;subst hj;have:l[j]?=some o':=by simpa using ho'
  rw [ho] at this;cases this;exact h
abbrev rB:=@Gm.one
theorem ZY {l:List Oper} {o1 o2:Oper} (i j:Nat) (hH:H.sub (H0.live wr listed)) (hG:G0.le G) (hr:Region.ready .any l.toArray listed=[i,j]) (h1:l[i]?=some o1) (h2:l[j]?=some o2)
 (g1:Wl P l.toArray [o1] B ⟨e,D,H,G⟩ (Eo P l.toArray f (listed.setIfInBounds i true) wr H0 G0 K)) (g2:Wl P l.toArray [o2] B ⟨e,D,H,G⟩ (Eo P l.toArray f (listed.setIfInBounds j true) wr H0 G0 K)) :
 Gm P l.toArray (f+1) listed wr H0 G0 B ⟨e,D,H,G⟩ K:=
 Gm.any hH hG [i,j] hr U fun k hk o' ho'=>by
  have ho:l[k]?=some o':=by simpa using ho'
  simp only [dK,List.not_mem_nil,or_false] at hk;rcases hk with rfl | rfl
  · rw [h1] at ho;cases ho;exact g1
  rw [h2] at ho;cases ho;exact g2
theorem OO {l:List Oper} {o1 o2 o3:Oper} (i j k:Nat) (hH:H.sub (H0.live wr listed)) (hG:G0.le G) (hr:Region.ready .any l.toArray listed=[i,j,k]) (h1:l[i]?=some o1) (h2:l[j]?=some o2) (h3:l[k]?=some o3)
 (g1:Wl P l.toArray [o1] B ⟨e,D,H,G⟩ (Eo P l.toArray f (listed.setIfInBounds i true) wr H0 G0 K)) (g2:Wl P l.toArray [o2] B ⟨e,D,H,G⟩ (Eo P l.toArray f (listed.setIfInBounds j true) wr H0 G0 K))
 (g3:Wl P l.toArray [o3] B ⟨e,D,H,G⟩ (Eo P l.toArray f (listed.setIfInBounds k true) wr H0 G0 K)) :
 Gm P l.toArray (f+1) listed wr H0 G0 B ⟨e,D,H,G⟩ K:=
 Gm.any hH hG [i,j,k] hr U fun m hk o' ho'=>by
  have ho:l[m]?=some o':=by simpa using ho'
  simp only [dK,List.not_mem_nil,or_false] at hk;rcases hk with rfl | rfl | rfl
  · rw [h1] at ho;cases ho;exact g1
  · rw [h2] at ho;cases ho;exact g2
  rw [h3] at ho;cases ho;exact g3
theorem ZZ (h:Gm P ops f listed wr H0 G0 B ⟨e,D,H,G⟩ K):Wl P ops [] B ⟨e,D,H,G⟩ (Eo P ops f listed wr H0 G0 K):=h
abbrev dG:=@ZZ
theorem OP {Q:Exit→Act→World→Prop} {x:Exit} (hr:Region.ready .any ops listed=[]) (hH:H.sub (H0.live wr listed)) (hG:G0.le G) (h:Ar Q x B ⟨e,D,H,G⟩):Gm P ops 0 listed wr H0 G0 B ⟨e,D,H,G⟩ (Q x):=
 fun a w hh=>⟨hh.cst hH hG,hr,h a w hh⟩
abbrev mU:=@OP
end
class A2 (α:Type) where
 sz:Nat
 enc:α→List Value
 len:∀ x,(enc x).length=sz
 one:∀ x,(enc x).all (·.oneCell')=true
instance:A2 Int:=⟨1,fun n=>[.int .i64 n],fun _=>rfl,fun _=>rfl⟩
instance:A2 Bool:=⟨1,fun b=>[.bool b],fun _=>rfl,fun _=>rfl⟩
structure A4 where
 v:Int
 deriving DecidableEq
instance:Inhabited A4:=⟨⟨0⟩⟩
instance:A2 A4:=⟨1,fun n=>[.int .u32 n.v],fun _=>rfl,fun _=>rfl⟩
structure Instr where
 op:Int
 to:Int
 a:Int
 b:Int
 c:Int
 deriving DecidableEq
instance:Inhabited Instr:=⟨⟨0,0,0,0,0⟩⟩
instance:A2 Instr:=⟨5,fun i=>[.int .i64 i.op,.int .i64 i.to,.int .i64 i.a,.int .i64 i.b,.int .i64 i.c],fun _=>rfl,fun _=>rfl⟩
def uT {α:Type} [A2 α] (xs:List α):List Value:=xs.flatMap A2.enc
section
variable {α:Type} [A2 α]
theorem xT (x:α) (xs:List α):uT (x :: xs)=A2.enc x++uT xs:=rfl
theorem wB (xs ys:List α):uT (xs++ys)=uT xs++uT ys:=by simp [uT]
theorem uV (xs:List α):(uT xs).length=xs.length*A2.sz α:=by
 induction xs with
 | nil=>simp [uT]
 | cons x xs ih=>rw [xT,aI,ih,A2.len,bN,eB];omega
theorem Ep [Inhabited α]:∀ (xs:List α) (i k:Nat),i<xs.length→k<A2.sz α→(uT xs)[i*A2.sz α+k]?=(A2.enc (xs[i]?.getD default))[k]?
 | [],i,k,h,_=>by simp at h
 | x :: xs,0,k,_,hk=>by
   rw [xT,jN,cF,bC (by rw [A2.len];exact hk)];rfl
 | x :: xs,i+1,k,h,hk=>by
   rw [xT,cD (by rw [A2.len,eB];omega),A2.len,show (i+1)*A2.sz α+k - A2.sz α=i*A2.sz α+k by rw [eB];omega,
    Ep xs i k (by simpa using h) hk]
   rfl
theorem Ii (xs:List α):(uT xs).all (·.oneCell')=true:=by
 induction xs with
 | nil=>rfl
 | cons x xs ih=>rw [xT,List.all_append,A2.one,ih];rfl
def Arr (G:A3) (a:Option Addr) (xs:List α):Prop:=I2 G a xs.length (A2.sz α) (uT xs)
variable {G G':A3} {a:Option Addr} {xs:List α}
theorem Arr.up (h:Arr G a xs) (hl:G.le G'):Arr G' a xs:=I2.le hl h
theorem Arr.nil (G:A3):Arr G none ([]:List α):=⟨by simp [uT],.inl U⟩
abbrev oT:=@Arr.nil
theorem Arr.cellK [Inhabited α] (h:Arr G a xs) {m:Int} (hm:0≤m∧m<xs.length) (k:Nat) (hk:k<A2.sz α) :
 G.cell (ab a) (ao a+m.toNat*A2.sz α+k)=(A2.enc (xs[m.toNat]?.getD default))[k]?:=by
 have hlt:m.toNat<xs.length:=uJ;have hr:=I2.row h uJ;have hg:=Ep xs m.toNat k hlt hk;have hl:k<(A2.enc (xs[m.toNat]?.getD default)).length:=by rw [A2.len];exact hk
 rw [aA hl] at hg ⊢;rw [nK];exact hr _ _ hg
theorem Arr.cell [Inhabited α] (h:Arr G a xs) {m:Int} (hm:0≤m∧m<xs.length) (k:Nat) (hk:Nat.ble (k+1) (A2.sz α)=true) {v:Value} (hv:(A2.enc (xs[m.toNat]?.getD default))[k]?=some v) :
 G.cell (ab a) (ao a+m.toNat*A2.sz α+k)=some v:=(h.cellK hm k (bK hk)).trans hv
abbrev gZ:=@Arr.cell
theorem Arr.elem [Inhabited α] (h:Arr G a xs) {m:Int} (hm:0≤m∧m<xs.length):G.row (ab a) (ao a+m.toNat*A2.sz α) (A2.enc (xs[m.toNat]?.getD default)):=fun i v hi=>by
 have hl:i<A2.sz α:=by rw [←A2.len (xs[m.toNat]?.getD default)];exact (aR.1 hi).1
 exact (h.cellK hm i hl).trans hi
abbrev jV:=@Arr.elem
theorem Qy.at {P:Program} {e:B0} {H:Hp} {ty:TypeId} {T:TypeId} {x i:Operand} {c:Nat} {k:IntKind} {m:Int} {E:Nat} (hT:uX P T E (A2.sz α)) (hx:e.ev x=some (.slice a xs.length c))
 (hi:e.ev i=some (.int k m)) (hs:Arr G a xs) (hb:0≤m∧m<xs.length):Qy P (.indexAddr T x i) ty e H G (.pointer (some ⟨ab a,ao a+m.toNat*A2.sz α,none⟩)):=
 Sq hT hx hi hs hb
abbrev jH:=@Qy.at
end
section
variable {P:Program} {ops:Array Oper} {l:List Oper} {B:Bs} {e:B0} {D:List Deferred} {H H0:Hp} {G:A3} {K:Act→World→Prop} {r:Option Nat} {c:Code} {Q:Exit→Act→World→Prop}
 {f:Nat} {listed:Array Bool} {wr:List (Nat×Nat)} {G0:A3} {d:Nat}
theorem A7.re {a:Act} {w:World} (hh:A7 B ⟨e,D,H,G⟩ a w) {t:Nat} {v v':Value} (he:e.get t=some v) (hv:v=v'):A7 B ⟨(t,v') :: e,D,H,G⟩ a w:=by
 subst hv;refine ⟨hh.size,hh.defers,fun i u hu=>?_,hh.mem,hh.upd,hh.mine,hh.le,hh.new⟩;rw [jQ] at hu;split at hu
 · rename_i h;subst h;cases hu;exact hh.env _ _ he
 exact hh.env i u hu
theorem Wl.re (t:Nat) {v v':Value} (he:e.get t=some v) (hv:v=v') (h:Wl P ops l B ⟨(t,v') :: e,D,H,G⟩ K):Wl P ops l B ⟨e,D,H,G⟩ K:=fun a w hh=>h a w (hh.re he hv)
abbrev jB:=@Wl.re
theorem Wc.re (t:Nat) {v v':Value} (he:e.get t=some v) (hv:v=v') (h:Wc r P c B ⟨(t,v') :: e,D,H,G⟩ Q):Wc r P c B ⟨e,D,H,G⟩ Q:=fun a w hh=>h a w (hh.re he hv)
abbrev iD:=@Wc.re
theorem Gm.re (t:Nat) {v v':Value} (he:e.get t=some v) (hv:v=v') (h:Gm P ops f listed wr H0 G0 B ⟨(t,v') :: e,D,H,G⟩ K):Gm P ops f listed wr H0 G0 B ⟨e,D,H,G⟩ K:=fun a w hh=>h a w (hh.re he hv)
theorem Ar.re {x:Exit} (t:Nat) {v v':Value} (he:e.get t=some v) (hv:v=v') (h:Ar Q x B ⟨(t,v') :: e,D,H,G⟩):Ar Q x B ⟨e,D,H,G⟩:=fun a w hh=>h a w (hh.re he hv)
abbrev dH:=@Ar.re
section dec
variable {p:Prop} [Decidable p]
theorem ae (t:Nat) (he:e.get t=some (.bool (decide p))) (hp:p) (h:Wl P ops l B ⟨(t,.bool true) :: e,D,H,G⟩ K):Wl P ops l B ⟨e,D,H,G⟩ K:=jB t he Mg h
abbrev rX:=@ae
theorem gp (t:Nat) (he:e.get t=some (.bool (decide p))) (hp:¬p) (h:Wl P ops l B ⟨(t,.bool false) :: e,D,H,G⟩ K):Wl P ops l B ⟨e,D,H,G⟩ K:=jB t he Mg h
abbrev pJ:=@gp
theorem DT (t:Nat) (he:e.get t=some (.bool (decide p))) (hp:p) (h:Gm P ops f listed wr H0 G0 B ⟨(t,.bool true) :: e,D,H,G⟩ K):Gm P ops f listed wr H0 G0 B ⟨e,D,H,G⟩ K:=Gm.re t he Mg h
theorem ZF (t:Nat) (he:e.get t=some (.bool (decide p))) (hp:¬p) (h:Gm P ops f listed wr H0 G0 B ⟨(t,.bool false) :: e,D,H,G⟩ K):Gm P ops f listed wr H0 G0 B ⟨e,D,H,G⟩ K:=Gm.re t he Mg h
theorem OQ {c:Operand} {x y:Code} {S:St} (hc:S.e.ev c=some (.bool (decide p))) (hp:p) (ht:Wc r P x B S Q):Wc r P (.cond c x y) B S Q:=jF hc (fun _=>ht) (fun h=>(h hp).elim)
abbrev pK:=@OQ
theorem OR {c:Operand} {x y:Code} {S:St} (hc:S.e.ev c=some (.bool (decide p))) (hp:¬p) (hf:Wc r P y B S Q):Wc r P (.cond c x y) B S Q:=jF hc (fun h=>(hp h).elim) (fun _=>hf)
abbrev iE:=@OR
end dec
theorem Ua (t:Nat) {b:Bool} (he:e.get t=some (.bool b)) (ht:b=true→Wl P ops l B ⟨(t,.bool true) :: e,D,H,G⟩ K) (hf:b=false→Wl P ops l B ⟨(t,.bool false) :: e,D,H,G⟩ K):Wl P ops l B ⟨e,D,H,G⟩ K:=by
 cases b
 · exact jB t he U (hf U)
 exact jB t he U (ht U)
def B0.hasKey:B0→Nat→Bool
 | [],_=>false
 | (i,_) :: e,j=>bif Nat.beq i j then true else B0.hasKey e j
def B0.fresh (e:B0):B0→Bool
 | []=>true
 | (i,_) :: l=>(bif e.hasKey i then false else true) && B0.fresh e l
def Hp.hasKey:Hp→Nat→Bool
 | [],_=>false
 | (i,_) :: e,j=>bif Nat.beq i j then true else Hp.hasKey e j
def Hp.fresh (e:Hp):Hp→Bool
 | []=>true
 | (i,_) :: l=>(bif e.hasKey i then false else true) && Hp.fresh e l
theorem Er:∀ {e:B0} {i:Nat} {v:Value},e.get i=some v→e.hasKey i=true
 | [],i,v,h=>by simp [B0.get] at h
 | (j,u) :: e,i,v,h=>by
   show (bif Nat.beq j i then true else B0.hasKey e i)=true;rw [jQ] at h;split at h
   · rename_i hj;subst hj;simp
   rw [Er h];cases Nat.beq j i <;> rfl
theorem Gk:∀ {e:Hp} {i:Nat} {v:Option Nat×Obj},e.get i=some v→e.hasKey i=true
 | [],i,v,h=>by simp [Hp.get] at h
 | (j,u) :: e,i,v,h=>by
   show (bif Nat.beq j i then true else Hp.hasKey e i)=true;rw [bZ] at h;split at h
   · rename_i hj;subst hj;simp
   rw [Gk h];cases Nat.beq j i <;> rfl
theorem Gl {e:B0} {i:Nat} {v:Value} (h:e.get i=some v):∀ {l:B0},e.fresh l=true→B0.get (l++e) i=some v
 | [],_=>h
 | (j,u) :: l,hf=>by
   have hf':((bif e.hasKey j then false else true) && B0.fresh e l)=true:=hf;simp only [aB] at hf';show B0.get ((j,u) :: (l++e)) i=some v;rw [jQ];split
   · rename_i hj;subst hj;rw [Er h] at hf';simp at hf'
   exact Gl h hf'.2
theorem Ij {e:Hp} {i:Nat} {v:Option Nat×Obj} (h:e.get i=some v):∀ {l:Hp},e.fresh l=true→Hp.get (l++e) i=some v
 | [],_=>h
 | (j,u) :: l,hf=>by
   have hf':((bif e.hasKey j then false else true) && Hp.fresh e l)=true:=hf;simp only [aB] at hf';show Hp.get ((j,u) :: (l++e)) i=some v;rw [bZ];split
   · rename_i hj;subst hj;rw [Gk h] at hf';simp at hf'
   exact Ij h hf'.2
theorem A7.back {a:Act} {w:World} {e0:B0} {H0:Hp} (n m:Nat) (hh:A7 B ⟨e,D,H,G⟩ a w) (he:e.drop n=e0) (hf:e0.fresh (e.take n)=true) (hH:H.drop m=H0) (hg:H0.fresh (H.take m)=true) {v:Value} (hv:e.get d=some v) :
 A7 B ⟨(d,v) :: e0,D,H0,G⟩ a w:=by
 refine (hh.re hv U).weaken (fun i u hu=>?_) fun t x hx=>?_
 · rw [jQ] at hu ⊢;split <;> rename_i h
   · rw [aM h] at hu;exact hu
   rw [aE h] at hu;have:=Gl hu hf;rw [←he,dF] at this;exact this
 have:=Ij hx hg;rw [←hH,dF] at this;exact this
theorem Wl.back {e0:B0} {H0:Hp} (n m:Nat) (he:e.drop n=e0) (hf:e0.fresh (e.take n)=true) (hH:H.drop m=H0) (hg:H0.fresh (H.take m)=true) {v:Value} (hv:e.get d=some v) :
 Wl P ops [] B ⟨e,D,H,G⟩ (A7 B ⟨(d,v) :: e0,D,H0,G⟩):=fun a w hh=>hh.back n m he hf hH hg hv
abbrev kR:=@Wl.back
theorem A7.swap {a:Act} {w:World} {t:Nat} {u u' v:Value} (hh:A7 B ⟨(d,v) :: (t,u') :: e,D,H,G⟩ a w) (he:e.get t=some u) (hu:u=u'):A7 B ⟨(d,v) :: e,D,H,G⟩ a w:=by
 subst hu;refine hh.weaken (fun i x hx=>?_) (fun _ _ h=>h);rw [jQ] at hx ⊢;split <;> rename_i h
 · rw [aM h] at hx;exact hx
 rw [aE h] at hx;rw [jQ];split
 · rename_i h2;subst h2;rw [←hx,he]
 exact hx
theorem Wl.cut (k:Nat) {K1:Act→World→Prop} {S S1:St} (h1:Wl P ops (l.take k) B S K1) (h2:∀ a w,K1 a w→A7 B S1 a w) (h3:Wl P ops (l.drop k) B S1 K):Wl P ops l B S K:=by
 intro a w hh;have:=Do (P:=P) (ops:=ops) (K:=K) (l.take k) (l.drop k) a w;rw [dF] at this;refine this ?_;have h0:=h1 a w hh;exact Gu (fun a w hk=>h3 a w (h2 a w hk)) _ _ _ h0
theorem DU {p q:Prop} [ip:Decidable p] {iq:Decidable q} (k t d:Nat) (he:e.get t=some (.bool (decide p)))
 (h1:p→Wl P ops (l.take k) B ⟨(t,.bool true) :: e,D,H,G⟩ (A7 B ⟨(d,.bool (decide q)) :: (t,.bool true) :: e,D,H,G⟩))
 (h2:¬p→Wl P ops (l.take k) B ⟨(t,.bool false) :: e,D,H,G⟩ (A7 B ⟨(d,.bool false) :: (t,.bool false) :: e,D,H,G⟩))
 (h3:Wl P ops (l.drop k) B ⟨(d,.bool (decide (p∧q))) :: e,D,H,G⟩ K):Wl P ops l B ⟨e,D,H,G⟩ K:=by
 by_cases hp:p
 · refine rX t he hp (Wl.cut k (h1 hp) (fun a w hh=>?_) h3);have:=hh.swap he Mg;simpa [hp] using this
 refine pJ t he hp (Wl.cut k (h2 hp) (fun a w hh=>?_) h3);have:=hh.swap he Mg;simpa [hp] using this
abbrev gE:=@DU
theorem JY {p q:Prop} [ip:Decidable p] {iq:Decidable q} (k t d:Nat) (he:e.get t=some (.bool (decide p)))
 (h1:¬p→Wl P ops (l.take k) B ⟨(t,.bool false) :: e,D,H,G⟩ (A7 B ⟨(d,.bool (decide q)) :: (t,.bool false) :: e,D,H,G⟩))
 (h2:p→Wl P ops (l.take k) B ⟨(t,.bool true) :: e,D,H,G⟩ (A7 B ⟨(d,.bool true) :: (t,.bool true) :: e,D,H,G⟩))
 (h3:Wl P ops (l.drop k) B ⟨(d,.bool (decide (p∨q))) :: e,D,H,G⟩ K):Wl P ops l B ⟨e,D,H,G⟩ K:=by
 by_cases hp:p
 · refine rX t he hp (Wl.cut k (h2 hp) (fun a w hh=>?_) h3);have:=hh.swap he Mg;simpa [hp] using this
 refine pJ t he hp (Wl.cut k (h1 hp) (fun a w hh=>?_) h3);have:=hh.swap he Mg;simpa [hp] using this
abbrev fG:=@JY
end
def B8 (P:Program) (E sz bytes:Nat) (zs:List Value):Prop:=∃ i z,P.info? E=some i∧i.zero=some z∧z.cells=zs.toArray∧i.size=sz∧i.bytes=bytes∧zs.length=sz∧0<sz
theorem B8.of {P:Program} {E sz bytes:Nat} {zs:List Value} (h:(P.info? E).map (fun i=>(i.zero.map (·.cells),i.size,i.bytes))=some (some zs.toArray,sz,bytes)) (h1:(Nat.beq zs.length sz && Nat.ble 1 sz)=true):B8 P E sz bytes zs:=by
 simp only [aB] at h1;cases hi:P.info? E with
 | none=>simp [hi] at h
 | some i =>
   simp only [hi,fR,cO,eF] at h;obtain ⟨h2,h3,h4⟩:=h;cases hz:i.zero with
   | none=>simp [hz] at h2
   | some z=>exact ⟨i,z,hi,hz,by simpa [hz] using h2,h3,h4,aD h1.1,bK h1.2⟩
abbrev mD:=@B8.of
def Row {α:Type} [A2 α] (E:TypeId) (xs:List α) (junk:List Value):Obj:=.cells (uT xs++junk).toArray E (0,0)
def A5 {α:Type} [A2 α] (a:Option Addr) (c:Nat) (xs:List α) (junk:List Value):Prop:=
 (a=none∧xs=[]∧junk=[]∧c=0)∨(∃ b,a=some ⟨b,0,none⟩∧xs.length*A2.sz α+junk.length=c*A2.sz α∧xs.length≤c∧c≤maxLen)
theorem A5.nil {α:Type} [A2 α]:A5 none 0 ([]:List α) []:=.inl ⟨U,U,U,U⟩
abbrev fN:=@A5.nil
section zero
variable {α:Type} [A2 α] [Inhabited α]
theorem Ub {zs:List Value} (hz:A2.enc (default:α)=zs) (h0:0<A2.sz α) (n:Nat):madeCells zs.toArray (n*A2.sz α)=(uT (List.replicate n (default:α))).toArray:=by
 have hzl:zs.length=A2.sz α:=by rw [←hz,A2.len]
 apply tG;apply dW;intro q;by_cases hq:q<n*A2.sz α
 · have h1:q=(q / A2.sz α)*A2.sz α+q % A2.sz α:=by rw [eG];exact (lY q _).symm
   have h2:q % A2.sz α<A2.sz α:=iX _ h0;have h3:q / A2.sz α<n:=(eY h0).2 hq;have h4:=Ep (List.replicate n (default:α)) (q / A2.sz α) (q % A2.sz α) (by simpa using h3) h2;rw [←h1] at h4;rw [h4];have h5:((List.replicate n (default:α))[q / A2.sz α]?).getD default=default:=by simp [h3]
   rw [h5,hz];simp only [madeCells,rG,Array.toList_range,bJ,dP hq,fR];have h6:q % zs.toArray.size<zs.length:=by simp [hzl];exact h2
   have h7:zs.toArray[q % zs.toArray.size]! = zs[q % zs.length]'(by simpa using h6):=by
    simp only [oL] at h6 ⊢;rw [pV zs.toArray _ (by simpa using h6)];simp
   rw [h7,aA (by rw [hzl];exact h2)];congr 1;simp only [hzl]
 rw [bF (by simp [madeCells];omega),bF (by simp [uV];omega)]
end zero
section
variable {P:Program} {ops:Array Oper} {rest:List Oper} {B:Bs} {e:B0} {D:List Deferred} {H:Hp} {G:A3} {K:Act→World→Prop}
 {ty:TypeId} {pos:String} {after:Array Edge} {d:Nat}
theorem A7.reH {a:Act} {w:World} (hh:A7 B ⟨e,D,H,G⟩ a w) {t:Nat} {k:Option Nat} {o o':Obj} (ht:H.get t=some (k,o)) (ho:o=o'):A7 B ⟨e,D,(t,k,o') :: H,G⟩ a w:=by
 subst ho;have key:∀ i x,Hp.get ((t,k,o) :: H) i=some x→H.get i=some x:=fun i x hx=>by
  rw [bZ] at hx;split at hx
  · rename_i h;subst h;rw [←hx];exact ht
  exact hx
 exact hh.weaken (fun _ _ h=>h) key
theorem Wl.reH {l:List Oper} (t:Nat) {k:Option Nat} {o:Obj} (o':Obj) (ht:H.get t=some (k,o)) (ho:o=o') (h:Wl P ops l B ⟨e,D,(t,k,o') :: H,G⟩ K):Wl P ops l B ⟨e,D,H,G⟩ K:=fun a w hh=>h a w (hh.reH ht ho)
abbrev oF:=@Wl.reH
theorem Wc.reH {r:Option Nat} {c:Code} {Q:Exit→Act→World→Prop} (t:Nat) {k:Option Nat} {o:Obj} (o':Obj) (ht:H.get t=some (k,o)) (ho:o=o') (h:Wc r P c B ⟨e,D,(t,k,o') :: H,G⟩ Q):Wc r P c B ⟨e,D,H,G⟩ Q:=fun a w hh=>h a w (hh.reH ht ho)
abbrev rZ:=@Wc.reH
theorem Ar.reH {x:Exit} {Q:Exit→Act→World→Prop} (t:Nat) {k:Option Nat} {o:Obj} (o':Obj) (ht:H.get t=some (k,o)) (ho:o=o') (h:Ar Q x B ⟨e,D,(t,k,o') :: H,G⟩):Ar Q x B ⟨e,D,H,G⟩:=fun a w hh=>h a w (hh.reH ht ho)
abbrev jW:=@Ar.reH
theorem A7.noBlock {a:Act} {w:World} (hh:A7 B ⟨e,D,H,G⟩ a w) (t:Nat) (o:Obj):A7 B ⟨e,D,(t,none,o) :: H,G⟩ a w:=by
 have key:∀ i b o',Hp.get ((t,none,o) :: H) i=some (some b,o')→H.get i=some (some b,o'):=fun i b o' hx=>by
  rw [bZ] at hx;split at hx
  · simp at hx
  exact hx
 exact ⟨hh.size,hh.defers,hh.env,⟨fun t b o x=>hh.mem.own t b o (key _ _ _ x),fun t t' b o o' x y=>hh.mem.one t t' b o o' (key _ _ _ x) (key _ _ _ y),hh.mem.imm,fun t b o x=>hh.mem.off t b o (key _ _ _ x)⟩,
  hh.upd,fun t b o x=>hh.mine t b o (key _ _ _ x),hh.le,hh.new⟩
theorem JZ {r:Option Nat} {c:Code} {Q:Exit→Act→World→Prop} (t:Nat) (o:Obj) (h:Wc r P c B ⟨e,D,(t,none,o) :: H,G⟩ Q):Wc r P c B ⟨e,D,H,G⟩ Q:=fun a w hh=>h a w (hh.noBlock t o)
abbrev gA:=@JZ
section row
variable {α:Type} [A2 α]
theorem HG {E:TypeId} {xs:List α} {junk:List Value} {b:Nat} (hG:G b=some (Row E xs junk)):Arr G (some ⟨b,0,none⟩) xs:=by
 refine ⟨uV xs,.inr ⟨b,0,U,fun i v hi=>?_⟩⟩;have hl:i<(uT xs).length:=(aR.1 hi).1;simp only [A3.cell,hG,Row,cF,oU];rw [bC hl];exact hi
theorem A7.freezeRow {a:Act} {w:World} (hh:A7 B ⟨e,D,H,G⟩ a w) {t:Nat} {ad:Option Addr} {c:Nat} {E:TypeId} {xs:List α} {junk:List Value} (ht:H.get t=some (ad.map (·.block),Row E xs junk)) (ho:A5 ad c xs junk) :
 ∃ G',G.le G'∧Arr G' ad xs∧A7 B ⟨e,D,(t,none,default) :: H,G'⟩ a w:=by
 rcases ho with ⟨rfl,rfl,rfl,_⟩ | ⟨b,rfl,_⟩
 · exact ⟨G,cC _,oT G,hh.noBlock t default⟩
 have ht':H.get t=some (some b,Row E xs junk):=ht;obtain ⟨h1,h2⟩:=hh.freeze ht';exact ⟨_,h2,HG (E:=E) (junk:=junk) (by simp [A3.with]),h1⟩
variable {r:Option Nat} {cd:Code} {Q:Exit→Act→World→Prop} {x:Exit} {l:List Oper}
theorem Wl.freezeRow (t:Nat) {ad:Option Addr} {c:Nat} {E:TypeId} {xs:List α} {junk:List Value} (ht:H.get t=some (ad.map (·.block),Row E xs junk)) (ho:A5 ad c xs junk)
 (h:∀ G',G.le G'→Arr G' ad xs→Wl P ops l B ⟨e,D,(t,none,default) :: H,G'⟩ K):Wl P ops l B ⟨e,D,H,G⟩ K:=fun a w hh=>let ⟨G',h1,h2,h3⟩:=hh.freezeRow ht ho;h G' h1 h2 a w h3
abbrev eC:=@Wl.freezeRow
theorem Wc.freezeRow (t:Nat) {ad:Option Addr} {c:Nat} {E:TypeId} {xs:List α} {junk:List Value} (ht:H.get t=some (ad.map (·.block),Row E xs junk)) (ho:A5 ad c xs junk)
 (h:∀ G',G.le G'→Arr G' ad xs→Wc r P cd B ⟨e,D,(t,none,default) :: H,G'⟩ Q):Wc r P cd B ⟨e,D,H,G⟩ Q:=fun a w hh=>let ⟨G',h1,h2,h3⟩:=hh.freezeRow ht ho;h G' h1 h2 a w h3
abbrev oG:=@Wc.freezeRow
theorem Ar.freezeRow (t:Nat) {ad:Option Addr} {c:Nat} {E:TypeId} {xs:List α} {junk:List Value} (ht:H.get t=some (ad.map (·.block),Row E xs junk)) (ho:A5 ad c xs junk)
 (h:∀ G',G.le G'→Arr G' ad xs→Ar Q x B ⟨e,D,(t,none,default) :: H,G'⟩):Ar Q x B ⟨e,D,H,G⟩:=fun a w hh=>let ⟨G',h1,h2,h3⟩:=hh.freezeRow ht ho;h G' h1 h2 a w h3
abbrev dX:=@Ar.freezeRow
theorem Wl.make [Inhabited α] {T:TypeId} {x:Operand} {k:IntKind} {m:Int} {E bytes:Nat} {zs:List Value} (t:Nat) (hn:Nat.ble (d+1) B.n=true) (hT:uX P T E (A2.sz α)) (hE:B8 P E (A2.sz α) bytes zs)
 (hz:A2.enc (default:α)=zs) (hx:e.ev x=some (.int k m)) (h0:0≤m) (hb:bytes*m≤281474976710656∧m≤9223372036854775807)
 (h:∀ b,Wl P ops rest B ⟨(d,.slice (some ⟨b,0,none⟩) (List.replicate m.toNat (default:α)).length (List.replicate m.toNat (default:α)).length) :: e,D,(t,some b,Row E (List.replicate m.toNat (default:α)) []) :: H,G⟩ K) :
 Wl P ops (⟨some d,.makeSlice T x x,ty,pos,after,none⟩ :: rest) B ⟨e,D,H,G⟩ K:=by
 obtain ⟨i,z,hi,hz1,hz2,hs,hby,hzl,hsz⟩:=hE;have hr:(List.replicate m.toNat (default:α)).length=m.toNat:=vL;refine oA (v:=fun b=>.slice (some ⟨b,0,none⟩) (List.replicate m.toNat (default:α)).length (List.replicate m.toNat (default:α)).length) t hn (fun a w hh=>?_) h;have h1:=run_make (P:=P) w T E i z hT.1 hi hz1 k k m m h0 (sM _) (by rw [hby];exact hb.1) hb.2;have h2:madeCells z.cells (m.toNat*i.size)=(uT (List.replicate m.toNat (default:α))++[]).toArray:=by rw [hz2,hs,Ub hz hsz,fH]
 rw [h2] at h1;simp only [execOp,hh.eval hx,Row,hr];simp [h1]
abbrev jL:=@Wl.make
theorem Uc [Inhabited α] {b:Nat} {xs:List α} (h:xs.length≤maxLen):A5 (some ⟨b,0,none⟩) xs.length xs []:=.inr ⟨b,U,by simp,aG _,h⟩
abbrev kW:=@Uc
theorem HH [Inhabited α] {xs:List α} {junk:List Value} {m:Int} (hm:0≤m∧m<xs.length) (k:Nat) (hk:k<A2.sz α) :
 (uT xs++junk)[0+m.toNat*A2.sz α+k]?=(A2.enc (xs[m.toNat]?.getD default))[k]?:=by
 have hlt:m.toNat<xs.length:=uJ;rw [cF,bC (by rw [uV];have:=dQ (A2.sz α) (show m.toNat+1≤xs.length by omega);rw [eB] at this;omega)];exact Ep xs m.toNat k hlt hk
theorem Zo [Inhabited α] {T:TypeId} {x:Operand} {b:Nat} {E:TypeId} {xs:List α} {junk:List Value} {m:Int} {v:Value} (t k:Nat) (h1:xB P T=true) (hx:e.ev x=some (.pointer (some ⟨b,0+m.toNat*A2.sz α+k,none⟩)))
 (ht:H.get t=some (some b,Row E xs junk)) (hm:0≤m∧m<xs.length) (hk:Nat.ble (k+1) (A2.sz α)=true) (hv:(A2.enc (xs[m.toNat]?.getD default))[k]?=some v):Qy P (.load T x) ty e H G v:=
 oH t h1 hx ht ((HH hm k (bK hk)).trans hv)
theorem Ud [Inhabited α] {T:TypeId} {x:Operand} {b:Nat} {E:TypeId} {xs:List α} {junk:List Value} {m:Int} (t:Nat) (h1:xZ P T (A2.sz α)=true) (hx:e.ev x=some (.pointer (some ⟨b,0+m.toNat*A2.sz α,none⟩)))
 (ht:H.get t=some (some b,Row E xs junk)) (hm:0≤m∧m<xs.length):Qy P (.load T x) ty e H G (.agg (A2.enc (xs[m.toNat]?.getD default)).toArray):=fun a w _ _ _ _ hh=>by
 have hc:∀ j v,(A2.enc (xs[m.toNat]?.getD default))[j]?=some v→w.cell? ⟨b,0+m.toNat*A2.sz α+j,none⟩=some v:=fun j v hj=>by
  rw [cell_of_block (hh.mem.own t b _ ht)];have hl:j<A2.sz α:=by rw [←A2.len (xs[m.toNat]?.getD default)];exact (aR.1 hj).1
  exact (HH hm j hl).trans hj
 have hr:=zC h1 (A2.len _) hc;simp only [execOp,hh.eval hx,bL,hr,aO,bR]
theorem flat_set:∀ (xs:List α) (i:Nat) (y:α),i<xs.length→(uT xs).take (i*A2.sz α)++A2.enc y++(uT xs).drop (i*A2.sz α+A2.sz α)=uT (xs.set i y)
 | [],i,y,h=>by simp at h
 | x :: xs,0,y,_=>by
   rw [xT,jN,cF,bX,gI,List.drop_left' (A2.len x),tE,xT]
 | x :: xs,i+1,y,h=>by
   have ih:=flat_set xs i y (by simpa using h);rw [xT,tF,xT,←ih];have h1:(i+1)*A2.sz α=(A2.enc x).length+i*A2.sz α:=by rw [A2.len,eB];omega
   rw [h1,List.take_length_add_append,nK,mH,cU,cU,cU]
theorem Xb {T:TypeId} {x y:Operand} {b:Nat} {E:TypeId} {xs:List α} {junk:List Value} {m:Int} {v:Value} {z:α} (t:Nat) (hs:(P.info? T).map (·.size)=some (A2.sz α))
 (hx:e.ev x=some (.pointer (some ⟨b,0+m.toNat*A2.sz α,none⟩))) (hy:e.ev y=some v) (hv:v.cells=(A2.enc z).toArray) (ht:H.get t=some (some b,Row E xs junk)) (hm:0≤m∧m<xs.length)
 (h:Wl P ops rest B ⟨e,D,(t,some b,Row E (xs.set m.toNat z) junk) :: H,G⟩ K):Wl P ops (⟨none,.store T x y,ty,pos,after,none⟩ :: rest) B ⟨e,D,H,G⟩ K:=
 rC (v:=undef) (x:=.skip) ht (.inl ⟨U,U⟩) (fun a w hh=>by
  have hlt:m.toNat<xs.length:=uJ;have hle:m.toNat*A2.sz α+A2.sz α≤(uT xs).length:=by rw [uV,←rN];exact dQ _ hlt
  have hb:=hh.mem.own t b _ ht;have hst:=Cg (P:=P) (T:=T) (off:=0+m.toNat*A2.sz α) (cs:=uT xs++junk) (vs:=A2.enc z) (v:=v) (by rw [A2.len];exact hs) hv (A2.one z) hb (by rw [A2.len,aI];omega);refine ⟨_,by simp only [execOp,hh.eval hx,hh.eval hy,bL,hst,aO,bR];rfl,wR w b _,?_⟩;rw [mK w b _ _ E _ hb,A2.len,cF,fA uJ,fB uJ,←cU,flat_set xs m.toNat z hlt];simp [Row]) h
def Src (H:Hp) (G:A3) (a:Option Addr) (ys:List α):Prop:=∀ w,B6 H G w→(a=none∧ys=[])∨∃ ad,a=some ad∧∀ j v,(uT ys)[j]?=some v→w.cell? (ad.add j)=some v
theorem Src.row {b:Nat} {E:TypeId} {ys:List α} {junk:List Value} (t:Nat) (ht:H.get t=some (some b,Row E ys junk)):Src H G (some ⟨b,0,none⟩) ys:=fun w hw =>
 .inr ⟨_,U,fun j v hj=>by
  rw [add_lit,cF,cell_of_block (hw.own _ b _ ht),bC (aR.1 hj).1];exact hj⟩
abbrev fP:=@Src.row
theorem VM {a:Option Addr} {ys:List α} (h:Arr G a ys):Src H G a ys:=fun w hw=>by
 rcases h.2 with h2 | ⟨b,o,rfl,hr⟩
 · have h3:ys=[]:=bS h2;subst h3;cases a with
   | none=>exact .inl ⟨U,U⟩
   | some ad=>exact .inr ⟨ad,U,fun j v hj=>by simp [uT] at hj⟩
 exact .inr ⟨_,U,fun j v hj=>by rw [add_lit];exact hw.cellG (hr j v hj)⟩
abbrev mX:=@VM
theorem Ec {xs:List α} {junk:List Value}:(uT xs++junk).take (xs.length*A2.sz α)=uT xs:=by rw [←uV];exact List.take_left
theorem A7.ownNew {a:Act} {w w':World} (hh:A7 B ⟨e,D,H,G⟩ a w) (t:Nat) {ob:Obj} (hu:D2 (fun _=>False) w w') (hs:w'.heap.size=w.heap.size+1) (hb:w'.heap[w.heap.size]?=some ob) :
 A7 B ⟨e,D,(t,some w.heap.size,ob) :: H,G⟩ a w':=by
 have hG:G w.heap.size=none:=by
  cases hg:G w.heap.size with
  | none=>rfl
  | some x=>exact absurd (hh.mem.ltG hg) (mC _)
 have hg:=hh.grow hu;refine ⟨hg.size,hg.defers,hg.env,⟨?_,?_,hg.mem.imm,?_⟩,hg.upd,?_,hg.le,hg.new⟩
 · intro t' b o' x;rw [bZ] at x;split at x
   · simp only [cO,eF] at x;obtain ⟨rfl,rfl⟩:=x;exact hb
   exact hg.mem.own t' b o' x
 · intro t1 t2 b o1 o2 x y;rw [bZ] at x y;split at x <;> split at y
   · omega
   · simp only [cO,eF] at x;obtain ⟨rfl,rfl⟩:=x;exact absurd (hh.mem.lt y) (mC _)
   · simp only [cO,eF] at y;obtain ⟨rfl,rfl⟩:=y;exact absurd (hh.mem.lt x) (mC _)
   exact hg.mem.one _ _ _ _ _ x y
 · intro t' b o' x;rw [bZ] at x;split at x
   · simp only [cO,eF] at x;obtain ⟨rfl,rfl⟩:=x;exact hG
   exact hg.mem.off t' b o' x
 intro t' b o' x;rw [bZ] at x;split at x
 · simp only [cO,eF] at x;obtain ⟨rfl,rfl⟩:=x;exact .inl hh.upd.size
 exact hg.mine t' b o' x
theorem DW {w:World} (hw:B6 H G w) {T E bytes:Nat} {zs:List Value} (hT:uX P T E (A2.sz α)) (hE:B8 P E (A2.sz α) bytes zs) {t:Nat} {a ad:Option Addr} {c c2:Nat} {xs ys:List α} {junk:List Value}
 (ht:H.get t=some (a.map (·.block),Row E xs junk)) (ho:A5 a c xs junk) (hsrc:Src H G ad ys) (hb:(xs.length+ys.length)*bytes≤140737488355328) (hl:xs.length+ys.length≤maxLen) :
 ∃ a' c' junk' w',(Builtin.append_ #[T,T] ty #[.slice a xs.length c,.slice ad ys.length c2]).run P w=.ok (.slice a' (xs++ys).length c') w'∧A5 a' c' (xs++ys) junk'∧
  ((a'=none∧a=none∧w'=w)∨
   (∃ b,a'=some ⟨b,0,none⟩∧a=a'∧D2 (·=b) w w'∧w'.heap[b]?=some (Row E (xs++ys) junk'))∨
   (a'=some ⟨w.heap.size,0,none⟩∧D2 (fun _=>False) w w'∧w'.heap.size=w.heap.size+1∧w'.heap[w.heap.size]?=some (Row E (xs++ys) junk'))):=by
 obtain ⟨i,z,hi,hz1,hz2,hs,hby,hzl,hsz⟩:=hE;have hm63:xs.length+ys.length≤9223372036854775807:=by simp only [maxLen] at hl;omega
 have hlen:(xs++ys).length=xs.length+ys.length:=aI;have hyl:(uT ys).length=ys.length*i.size:=by rw [uV,hs]
 have hxl:(uT xs).length=xs.length*i.size:=by rw [uV,hs]
 have junkLen:∀ k,(Builtin.zeroCells z.cells k).toList.length=k*A2.sz α:=fun k=>by
  rw [lB,rW,hz2];simp [hzl]
 have fresh:∀ old,old<xs.length+ys.length→∃ junk',A5 (some ⟨w.heap.size,0,none⟩) (grownCap w (xs.length+ys.length) old E) (xs++ys) junk'∧
  (w.drew.alloc (.cells ((uT xs).toArray++(uT ys).toArray++Builtin.zeroCells z.cells (grownCap w (xs.length+ys.length) old E - (xs.length+ys.length))) E)).heap[w.heap.size]?=some (Row E (xs++ys) junk'):=fun old hold=>by
  have hge:=grownCap_ge w (xs.length+ys.length) old E;have hcm:grownCap w (xs.length+ys.length) old E≤maxLen:=qE w _ old E hl;refine ⟨(Builtin.zeroCells z.cells (grownCap w (xs.length+ys.length) old E - (xs.length+ys.length))).toList,.inr ⟨_,U,?_,by rw [hlen];exact hge,hcm⟩,?_⟩
  · rw [junkLen,hlen,←eB];congr 1;omega
  rw [show w.heap.size=w.drew.heap.size from rfl,vQ];congr 1;simp [Row,wB]
 have hupd:∀ o,D2 (fun _=>False) w (w.drew.alloc o):=fun o=>(lE _ w).drew.alloc o;rcases hsrc w hw with ⟨rfl,rfl⟩ | ⟨src,rfl,hsr⟩
 · -- nothing to append
   simp only [fH,cR,fQ] at hb hl fresh hlen hm63 ⊢;rcases ho with ⟨rfl,rfl,rfl,rfl⟩ | ⟨b,rfl,hj,hc,hcm⟩
   · refine ⟨none,0,[],w,?_,fN,.inl ⟨U,U,U⟩⟩;simp [Builtin.append_,aQ hT.1,sizeOf,typeInfo,hi,Builtin.lenOf,Builtin.firstCells]
   have hblk:=hw.own t b _ ht;refine ⟨some ⟨b,0,none⟩,c,junk,w,?_,.inr ⟨b,U,hj,hc,hcm⟩,.inr (.inl ⟨b,U,U,lE _ _,hblk⟩)⟩;simp [Builtin.append_,aQ hT.1,sizeOf,typeInfo,hi,Builtin.lenOf,Builtin.firstCells,hc,storeCells]
 rcases ho with ⟨rfl,rfl,rfl,rfl⟩ | ⟨b,rfl,hj,hc,hcm⟩
 · -- from nil
   simp only [cR,cF,gI] at hb hl fresh hlen hm63 ⊢;by_cases h0:ys.length=0
   · have hy:ys=[]:=bS h0;subst hy;refine ⟨none,0,[],w,?_,fN,.inl vL⟩;simp [Builtin.append_,aQ hT.1,sizeOf,typeInfo,hi,Builtin.lenOf,Builtin.firstCells,loadCells,loadCellsFrom]
   have hr:=run_append_nil (P:=P) w T ty E i z hT.1 hi hz1 src ys.length c2 (uT ys) hyl hsr uJ uJ (by rw [hby];omega);obtain ⟨junk',h1,h2⟩:=fresh 0 uJ;refine ⟨_,_,junk',_,hr,h1,.inr (.inr ⟨U,hupd _,by simp,?_⟩)⟩;simpa [uT] using h2
 have hblk:=hw.own t b _ ht;have hcsz:(uT xs++junk).toArray.size=c*i.size:=by simp [uV,hs,hj]
 by_cases hroom:xs.length+ys.length≤c
 · have hfit:xs.length*i.size+(uT ys).length≤(uT xs++junk).toArray.size:=by rw [hcsz,hyl,←eB];exact dQ _ hroom
   have hr:=run_append_room (P:=P) w T ty E i hT.1 hi b xs.length c (uT xs++junk).toArray hblk src ys.length c2 (uT ys) hyl hsr (by simpa using Ii ys) hroom hfit;have e1:((uT xs++junk).toArray.toList.take (xs.length*i.size)++uT ys++(uT xs++junk).toArray.toList.drop (xs.length*i.size+(uT ys).length))=uT (xs++ys)++junk.drop (uT ys).length:=by
    rw [hs,Ec,wB];congr 1;rw [←uV,mH]
   rw [e1] at hr;refine ⟨_,_,junk.drop (uT ys).length,_,by rw [hlen];exact hr,.inr ⟨b,U,?_,by rw [hlen];exact hroom,hcm⟩,.inr (.inl ⟨b,U,U,wR w b _,?_⟩)⟩
   · rw [cE,hlen,uV];have h2:xs.length*A2.sz α+ys.length*A2.sz α≤c*A2.sz α:=by rw [←eB];exact dQ _ hroom
     rw [eB];omega
   rw [mK w b _ _ E _ hblk];rfl
 have hcell:∀ j v,(uT xs)[j]?=some v→w.cell? ((⟨b,0,none⟩:Addr).add j)=some v:=fun j v hv=>by
  rw [add_lit,cF,cell_of_block hblk,bC (aR.1 hv).1];exact hv
 have hr:=run_append_grow (P:=P) w T ty E i z hT.1 hi hz1 ⟨b,0,none⟩ xs.length c (uT xs) hxl hcell src ys.length c2 (uT ys) hyl hsr uJ uJ (qD uJ (by rw [hby];exact hb));obtain ⟨junk',h1,h2⟩:=fresh c uJ;exact ⟨_,_,junk',_,by rw [hlen];exact hr,h1,.inr (.inr ⟨U,hupd _,by simp,h2⟩)⟩
theorem Wl.append {s x:Operand} {T E bytes:Nat} {zs:List Value} {a ad:Option Addr} {c c2:Nat} {xs ys:List α} {junk:List Value} (t:Nat) (hn:Nat.ble (d+1) B.n=true) (hT:uX P T E (A2.sz α)) (hE:B8 P E (A2.sz α) bytes zs)
 (hs:e.ev s=some (.slice a xs.length c)) (hx:e.ev x=some (.slice ad ys.length c2)) (ht:H.get t=some (a.map (·.block),Row E xs junk)) (ho:A5 a c xs junk) (hsrc:Src H G ad ys)
 (hb:(xs.length+ys.length)*bytes≤140737488355328) (hl:xs.length+ys.length≤maxLen)
 (h:∀ a' c' junk',A5 a' c' (xs++ys) junk'→Wl P ops rest B ⟨(d,.slice a' (xs++ys).length c') :: e,D,(t,a'.map (·.block),Row E (xs++ys) junk') :: H,G⟩ K) :
 Wl P ops (⟨some d,.call { callee:=.builtin .append,args:=#[s,x],argTypes:=#[T,T] },ty,pos,after,none⟩ :: rest) B ⟨e,D,H,G⟩ K:=by
 intro ac w hh;obtain ⟨a',c',junk',w',hrun,ho',hcase⟩:=DW (c2:=c2) (ty:=ty) hh.mem hT hE ht ho hsrc hb hl;unfold uZ;rw [aM (by simp [Region.wanted])];unfold Ag;have hex:(execOp ac.eval ⟨some d,.call { callee:=.builtin .append,args:=#[s,x],argTypes:=#[T,T] },ty,pos,after,none⟩).run P w=.ok (.value (.slice a' (xs++ys).length c')) w':=by
  simp only [execOp,resolve,invoke,builtin,bL,bR,aO,kH,cA,jO,hh.eval hs,hh.eval hx,hrun]
 rw [hex];refine h a' c' junk' ho' _ _ (A7.put ?_ hn _);rcases hcase with ⟨rfl,rfl,rfl⟩ | ⟨b,rfl,rfl,hu,hbk⟩ | ⟨rfl,hu,hsz,hbk⟩
 · exact hh.noBlock t _
 · exact hh.set (t:=t) (b:=b) ht hu hbk
 exact hh.ownNew t hu hsz hbk
abbrev fZ:=@Wl.append
end row
end
def Au (pl:List (Nat×Nat)) (cells:List Value):List (Nat×Value)→List Value
 | []=>cells
 | (i,v) :: rest=>match pl[i]? with
   | some (off,_)=>Au pl (cells.take off++(v.cells.toList++cells.drop (off+v.cells.toList.length))) rest
   | none=>Au pl cells rest
def Gv (pl:List (Nat×Nat)) (n:Nat):List (Nat×Value)→Bool
 | []=>true
 | (i,v) :: rest=>(match pl[i]? with
   | some (off,size)=>Nat.beq v.cells.toList.length size && Nat.ble (off+v.cells.toList.length) n
   | none=>false) && Gv pl n rest
theorem VN (off:Nat) (v:Value) (cells:List Value) (h2:off+v.cells.toList.length≤cells.length) :
 (v.cells.zipIdx.foldl (fun cs (x:Value×Nat)=>cs.setIfInBounds (off+x.2) x.1) cells.toArray)=(cells.take off++(v.cells.toList++cells.drop (off+v.cells.toList.length))).toArray:=by
 obtain ⟨g1,g2⟩:=Great.foldl_set off v.cells.toList 0 cells.toArray;have e0:v.cells.zipIdx.foldl (fun cs (x:Value×Nat)=>cs.setIfInBounds (off+x.2) x.1) cells.toArray=(v.cells.toList.zipIdx 0).foldl (fun cs (x:Value×Nat)=>cs.setIfInBounds (off+x.2) x.1) cells.toArray:=by
  rw [←Array.foldl_toList];simp
 rw [e0];apply tG;apply dW;intro k;rw [oV,g2 k];simp only [fQ,oL,oU];simp only [List.getElem?_append,bI,fO,eW];have hm:min off cells.length=off:=uJ;rw [hm];by_cases ha:k<off
 · rw [aE (by omega),aM ha,aM ha]
 rw [aE ha];by_cases hb:k - off<v.cells.toList.length
 · rw [aM (by omega),aM hb]
 rw [aE (by omega),aE hb];congr 1;omega
theorem Ue (place:Nat→Option (Nat×Nat)) {i off size:Nat} {v:Value} (rest:List (Nat×Value)) {cells:List Value} (hp:place i=some (off,size)) (h1:v.cells.toList.length=size) (h2:off+v.cells.toList.length≤cells.length) :
 Instr.fill place cells.toArray ((i,v) :: rest)=Instr.fill place (cells.take off++(v.cells.toList++cells.drop (off+v.cells.toList.length))).toArray rest:=by
 have hsz:v.cells.size=size:=by rw [←h1];simp
 rw [Instr.fill,hp];rw [lB,hsz] at h2;simp only [hsz];rw [aE (by simp;omega),←VN off v cells (by rw [lB,hsz];exact h2)]
theorem Ik (place:Nat→Option (Nat×Nat)) (pl:List (Nat×Nat)) (hp:∀ i x,pl[i]?=some x→place i=some x):∀ (parts:List (Nat×Value)) (cells:List Value) (n:Nat),cells.length=n→Gv pl n parts=true→
 Instr.fill place cells.toArray parts=some (Au pl cells parts).toArray
 | [],_,_,_,_=>rfl
 | (i,v) :: rest,cells,n,hn,hok=>by
   unfold Gv at hok;cases hpl:pl[i]? with
   | none=>simp [hpl] at hok
   | some x =>
     obtain ⟨off,size⟩:=x;simp only [hpl,aB] at hok;obtain ⟨⟨h1,h2⟩,h3⟩:=hok;have h1:v.cells.toList.length=size:=aD h1;have h2:off+v.cells.toList.length≤n:=bK h2;rw [Ue place rest (hp i _ hpl) h1 uJ,Ik place pl hp rest _ n (by simp only [aI,bI,cE];omega) h3];simp [Au,hpl]
def C0 (P:Program) (t:TypeId) (pl:List (Nat×Nat)) (zs:List Value):Prop:=
 ∃ z fs,P.underlying t=some (.struct fs)∧(∀ w,(zeroValue t).run P w=.ok z w)∧z.cells=zs.toArray∧fs.toList.map (fun f=>(f.offset,(P.info? f.type).map (·.size)))=pl.map fun x=>(x.1,some x.2)
theorem C0.of {P:Program} {t:TypeId} {pl:List (Nat×Nat)} {zs:List Value} (fs:Array Field) (hu:P.underlying t=some (.struct fs)) (hz:((P.info? t).bind (·.zero)).map (·.cells)=some zs.toArray)
 (hp:fs.toList.map (fun f=>(f.offset,(P.info? f.type).map (·.size)))=pl.map fun x=>(x.1,some x.2)):C0 P t pl zs:=by
 cases hi:P.info? t with
 | none=>simp [hi] at hz
 | some i =>
   cases hz':i.zero with
   | none=>simp [hi,hz'] at hz
   | some z=>exact ⟨z,fs,hu,fun w=>by simp [zeroValue,typeInfo,hi,hz'],by simpa [hi,hz'] using hz,hp⟩
abbrev kB:=@C0.of
theorem run_places {P:Program} (w:World):∀ (fs:List Field) (pl:List (Nat×Nat)),fs.map (fun f=>(f.offset,(P.info? f.type).map (·.size)))=pl.map (fun x=>(x.1,some x.2))→
 (fs.mapM (fun f=>do pure (f.offset,←sizeOf f.type)):Sem (List (Nat×Nat))).run P w=.ok pl w
 | [],[],_=>rfl
 | [],_ :: _,h=>by simp at h
 | _ :: _,[],h=>by simp at h
 | f :: fs,(o,s) :: pl,h=>by
   simp only [cA,jD,eF] at h;obtain ⟨⟨h1,h2⟩,h3⟩:=h;have ih:=run_places w fs pl h3;rw [List.mapM_cons];simp only [bL,run_sizeOf w h2,aO,bR,ih,h1]
def Ba (e:B0):List (Nat×Operand)→Option (List (Nat×Value))
 | []=>some []
 | (i,x) :: xs=>match e.ev x,Ba e xs with
   | some v,some vs=>some ((i,v) :: vs)
   | _,_=>none
section
variable {P:Program} {ops:Array Oper} {rest:List Oper} {B:Bs} {e:B0} {D:List Deferred} {H:Hp} {G:A3} {K:Act→World→Prop}
 {ty:TypeId} {pos:String} {after:Array Edge} {d:Nat}
theorem H3.parts {a:Act} {w:World} (h:H3 e H G a w):∀ {xs:List (Nat×Operand)} {vs:List (Nat×Value)},Ba e xs=some vs→xs.map (fun (i,x)=>(i,a.eval x))=vs
 | [],vs,hx=>by simp [Ba] at hx;simp [←hx]
 | (i,x) :: xs,vs,hx=>by
   unfold Ba at hx;split at hx
   · rename_i v us h1 h2;simp only [cO] at hx;subst hx;simp [h.eval h1,h.parts h2]
   cases hx
theorem Qy.build {t:TypeId} {pl:List (Nat×Nat)} {zs cs:List Value} {parts:List (Nat×Operand)} {vs:List (Nat×Value)} (hT:C0 P t pl zs) (hx:Ba e parts=some vs) (hok:Gv pl zs.length vs=true)
 (hc:Au pl zs vs=cs):Qy P (.build t parts.toArray) ty e H G (.agg cs.toArray):=fun a w _ _ _ _ hh=>by
 obtain ⟨z,fs,hu,hz,hzc,hp⟩:=hT;have hpl:=run_places (P:=P) w fs.toList pl hp;have hpl':(fs.mapM (fun f=>do pure (f.offset,←sizeOf f.type)):Sem (Array (Nat×Nat))).run P w=.ok pl.toArray w:=by
  have e1:(fs.mapM (fun f=>do pure (f.offset,←sizeOf f.type)):Sem (Array (Nat×Nat)))=List.toArray <$> (fs.toList.mapM (fun f=>do pure (f.offset,←sizeOf f.type))):=by
   rw [Array.mapM_eq_mapM_toList]
  rw [e1,map_eq_pure_bind];simp only [bL,hpl,aO,bR]
 have hf:=Ik (fun i=>pl[i]?) pl (fun i x h=>h) vs zs zs.length U hok;have hm:(parts.toArray.map fun (i,x)=>(i,a.eval x))=vs.toArray:=by rw [←hh.parts hx];simp
 subst hc;simp only [execOp,hm,Instr.build,bL,hz w,aO,aQ hu,hpl',hzc];simp [hf]
abbrev fY:=@Qy.build
def C9 (P:Program) (t:TypeId) (n sz:Nat) (zs:List Value):Prop:=
 ∃ z E,P.underlying t=some (.array n E)∧(∀ w,(zeroValue t).run P w=.ok z w)∧z.cells=zs.toArray∧(P.info? E).map (·.size)=some sz
theorem C9.of {P:Program} {t:TypeId} {n sz:Nat} {zs:List Value} (E:TypeId) (hu:P.underlying t=some (.array n E)) (hz:((P.info? t).bind (·.zero)).map (·.cells)=some zs.toArray)
 (hp:(P.info? E).map (·.size)=some sz):C9 P t n sz zs:=by
 cases hi:P.info? t with
 | none=>simp [hi] at hz
 | some i =>
   cases hz':i.zero with
   | none=>simp [hi,hz'] at hz
   | some z=>exact ⟨z,E,hu,fun w=>by simp [zeroValue,typeInfo,hi,hz'],by simpa [hi,hz'] using hz,hp⟩
abbrev qO:=@C9.of
def xJ (n sz:Nat):List (Nat×Nat):=(List.range n).map fun i=>(i*sz,sz)
theorem KA {t:TypeId} {n sz:Nat} {zs cs:List Value} {parts:List (Nat×Operand)} {vs:List (Nat×Value)} (hT:C9 P t n sz zs) (hx:Ba e parts=some vs) (hok:Gv (xJ n sz) zs.length vs=true)
 (hc:Au (xJ n sz) zs vs=cs):Qy P (.build t parts.toArray) ty e H G (.agg cs.toArray):=fun a w _ _ _ _ hh=>by
 obtain ⟨z,E,hu,hz,hzc,hp⟩:=hT;have hf:=Ik (fun i=>some (i*sz,sz)) (xJ n sz) (fun i x h=>by
  simp only [xJ,bJ,gG] at h;obtain ⟨j,hj,rfl⟩:=h;obtain ⟨hlt,hj⟩:=aR.1 hj;simp at hj;subst hj;rfl) vs zs zs.length U hok
 have hm:(parts.toArray.map fun (i,x)=>(i,a.eval x))=vs.toArray:=by rw [←hh.parts hx];simp
 subst hc;simp only [execOp,hm,Instr.build,bL,hz w,aO,aQ hu,run_sizeOf w hp,hzc];simp [hf]
abbrev sU:=@KA
theorem Uf {α:Type} [A2 α] (ys:List α):∀ (xs:List α) (i:Nat) (vs:List (Nat×Value)) (cells:List Value),cells.length=(i+xs.length)*A2.sz α→
 vs.map (fun v=>(v.1,v.2.cells))=(xs.zipIdx i).map (fun x=>(x.2,(A2.enc x.1).toArray))→
 Instr.fill (fun i=>some (i*A2.sz α,A2.sz α)) cells.toArray vs=some (cells.take (i*A2.sz α)++uT xs).toArray
 | [],i,vs,cells,hl,hv=>by
   simp only [List.zipIdx_nil,jO,pU] at hv;subst hv;simp only [cR,fQ] at hl;simp [Instr.fill,uT,←hl]
 | x :: xs,i,vs,cells,hl,hv=>by
   cases vs with
   | nil=>simp at hv
   | cons v vs =>
     simp only [cA,List.zipIdx_cons,jD,eF] at hv;obtain ⟨⟨h1,h2⟩,h3⟩:=hv;obtain ⟨j,v⟩:=v;simp only at h1 h2;subst h1;have e1:(j+(x :: xs).length)*A2.sz α=j*A2.sz α+A2.sz α+xs.length*A2.sz α:=by simp only [bN,eB,oD];omega
     have hvl:v.cells.toList.length=A2.sz α:=by rw [h2];simp [A2.len]
     have step:=Ue (fun i=>some (i*A2.sz α,A2.sz α)) (i:=j) (v:=v) vs (cells:=cells) U hvl (by rw [hl,e1,hvl];omega);rw [step,Uf ys xs (j+1) vs _ (by simp only [aI,bI,cE,hvl,eB,oD];omega) h3];have e2:(j+1)*A2.sz α=j*A2.sz α+A2.sz α:=by simp only [eB,oD]
     have e3:List.take ((j+1)*A2.sz α) (List.take (j*A2.sz α) cells++(v.cells.toList++List.drop (j*A2.sz α+v.cells.toList.length) cells))=List.take (j*A2.sz α) cells++A2.enc x:=by
      rw [e2,←cU,fA (by simp only [aI,bI,hvl];omega),eQ (by simp only [aI,bI,hvl];omega),h2]
     rw [e3,xT,cU]
theorem Wl.lit {α:Type} [A2 α] {T:TypeId} {E bytes n:Nat} {zs:List Value} {parts:List (Nat×Operand)} {vs:List (Nat×Value)} (t:Nat) (xs:List α) (hn:Nat.ble (d+1) B.n=true) (hT:uX P T E (A2.sz α)) (hE:B8 P E (A2.sz α) bytes zs)
 (hx:Ba e parts=some vs) (hv:vs.map (fun v=>(v.1,v.2.cells))=(xs.zipIdx 0).map (fun x=>(x.2,(A2.enc x.1).toArray))) (hl:xs.length=n) (hp:Nat.ble 1 n=true) (hs:Nat.ble (n*A2.sz α) 16777216=true)
 (h:∀ b,Wl P ops rest B ⟨(d,.slice (some ⟨b,0,none⟩) xs.length n) :: e,D,(t,some b,Row E xs []) :: H,G⟩ K) :
 Wl P ops (⟨some d,.buildSlice T n parts.toArray,ty,pos,after,none⟩ :: rest) B ⟨e,D,H,G⟩ K:=by
 obtain ⟨i,z,hi,hz1,hz2,hsz,hby,hzl,hs0⟩:=hE;have hp:=bK hp;have hs:=bK hs;refine oA (v:=fun b=>.slice (some ⟨b,0,none⟩) xs.length n) t hn (fun a w hh=>?_) h;have hm:(parts.toArray.map fun (i,x)=>(i,a.eval x))=vs.toArray:=by rw [←hh.look.parts hx];simp
 have hf:=Uf xs xs 0 vs (((Array.range (n*i.size)).map (z.cells[· % z.cells.size]!)).toList) (by simp [hsz,hl]) hv;simp only [Array.toArray_toList,jN,bX,gI] at hf;have h1:=run_buildSlice (P:=P) w T E n vs.toArray (uT xs).toArray i z hT.1 hi hz1 Zg (by rw [hsz];have:=pL hp hs0;omega) (by rw [hsz];rw [hsz] at hf;exact hf);subst hl;simp only [execOp,hm,bL,h1,aO,bR,Row,fH]
abbrev eV:=@Wl.lit
theorem VO {T:TypeId} {E sz:Nat} (t:Nat) (hn:Nat.ble (d+1) B.n=true) (hT:uX P T E sz)
 (h:∀ b,Wl P ops rest B ⟨(d,.slice (some ⟨b,0,none⟩) 0 0) :: e,D,(t,some b,.cells #[] E (0,0)) :: H,G⟩ K) :
 Wl P ops (⟨some d,.buildSlice T 0 #[],ty,pos,after,none⟩ :: rest) B ⟨e,D,H,G⟩ K:=
 oA (v:=fun b=>.slice (some ⟨b,0,none⟩) 0 0) t hn (fun a w hh=>by
  simp [execOp,Instr.buildSlice,aQ hT.1,run_sizeOf w hT.2,Instr.fill,newRow,show Array.range 0=#[] from pD vL]) h
abbrev sS:=@VO
section cut
variable {T:TypeId} {x:Operand} {a:Option Addr} {n c E sz:Nat}
theorem Xc {hi:Operand} {k:IntKind} {m:Int} (hT:uX P T E sz) (hx:e.ev x=some (.slice a n c)) (hh:e.ev hi=some (.int k m)) (hb:0≤m∧m≤c) :
 Qy P (.slice T x none (some hi) none) ty e H G (.slice (C4 a c 0 sz) m.toNat c):=fun ac w _ _ _ _ hk=>by
 have hr:=run_sizeOf (P:=P) w hT.2;have hu:P.underlying T=some (.slice (P.elem T)):=by simp [Program.elem,hT.1]
 have he:P.elem T=E:=by simp [Program.elem,hT.1]
 have:=run_slice_h (P:=P) (w:=w) T a n c hu k m hb.1 hb.2;simp only [execOp,hk.eval hx,fR,lX,hk.eval hh,bL,qR (P:=P) (w:=w) T _ _ _ _ hu,this,he,hr,aO,bR,sliced,C4,pY]
theorem Qy.cutL {lo:Operand} {k:IntKind} {m:Int} (hT:uX P T E sz) (hx:e.ev x=some (.slice a n c)) (hh:e.ev lo=some (.int k m)) (hb:0≤m∧m≤n) (hc:n≤c) :
 Qy P (.slice T x (some lo) none none) ty e H G (.slice (C4 a c m.toNat sz) (n - m.toNat) (c - m.toNat)):=fun ac w _ _ _ _ hk=>by
 have hr:=run_sizeOf (P:=P) w hT.2;have hu:P.underlying T=some (.slice (P.elem T)):=by simp [Program.elem,hT.1]
 have he:P.elem T=E:=by simp [Program.elem,hT.1]
 have:=run_slice_l (P:=P) (w:=w) T a n c hu k m hb.1 hb.2;simp only [execOp,hk.eval hx,fR,lX,hk.eval hh,bL,qR (P:=P) (w:=w) T _ _ _ _ hu,this,he,hr,aO,bR,sliced,C4]
theorem OS {lo hi:Operand} {k k':IntKind} {m m':Int} (hT:uX P T E sz) (hx:e.ev x=some (.slice a n c)) (hh:e.ev lo=some (.int k m)) (hh':e.ev hi=some (.int k' m')) (h0:0≤m) (h1:m≤m') (h2:m'≤c) :
 Qy P (.slice T x (some lo) (some hi) none) ty e H G (.slice (C4 a c m.toNat sz) (m'.toNat - m.toNat) (c - m.toNat)):=fun ac w _ _ _ _ hk=>by
 have hr:=run_sizeOf (P:=P) w hT.2;have hu:P.underlying T=some (.slice (P.elem T)):=by simp [Program.elem,hT.1]
 have he:P.elem T=E:=by simp [Program.elem,hT.1]
 have:=run_slice_lh (P:=P) (w:=w) T a n c hu k k' m m' h0 h1 h2;simp only [execOp,hk.eval hx,fR,lX,hk.eval hh,hk.eval hh',bL,qR (P:=P) (w:=w) T _ _ _ _ hu,this,he,hr,aO,bR,sliced,C4]
end cut
def Ah (P : Program) (f : Field) : Bool × Nat := (f.name != "_" && (match P.underlying f.type with | some (.int .i64) => true | _ => false) && xB P f.type, f.offset)
def Es (P:Program) (t n:Nat):Prop:=P.underlying t=some (.struct (P.fieldsOf t))∧P.stoodInHeld t=false∧P.eqGuardType P.depth t=false∧
 (P.fieldsOf t).toList.map (Ah P)=(List.range n).map fun i=>(true,i)
def Cv (xs:List Int):Array Value:=(xs.map (Value.int .i64)).toArray
theorem Oq {P:Program} (w:World) (xs ys:List Int) (n:Nat) (hx:xs.length=n) (hy:ys.length=n):∀ (fs:List Field) (s:Nat),
 fs.map (Ah P)=(List.range' s (n - s)).map (fun i=>(true,i))→s≤n→
 (Op.eqFields 9999 (Cv xs) (Cv ys) fs).run P w=.ok (decide (xs.drop s=ys.drop s)) w
 | [],s,h,hs=>by
   have h0:n - s=0:=by
    have:=congrArg List.length h;simpa using this.symm
   simp only [Op.eqFields,bR];rw [cY uJ,cY uJ];simp
 | f :: fs,s,h,hs=>by
   have hlen:n - s=fs.length+1:=by have:=congrArg List.length h;simpa using this.symm
   have hsn:s<n:=uJ;rw [show n - s=(n - (s+1))+1 by omega,uE] at h;simp only [cA,Ah,jD,eF,aB] at h;obtain ⟨⟨⟨⟨h1,h2⟩,h3⟩,h4⟩,h5⟩:=h;have ih:=Oq (P:=P) w xs ys n hx hy fs (s+1) h5 uJ;have hname : f.name ≠ "_" := by simpa using h1
   have hint:P.underlying f.type=some (.int .i64):=by
    split at h2
    · assumption
    cases h2
   have hpart:∀ zs:List Int,zs.length=n→(part f.type (Cv zs) f.offset).run P w=.ok (.int .i64 (zs[s]?.getD 0)) w:=fun zs hz=>by
    have hl:s<zs.length:=uJ;simp [part,xS w h3,h4,Cv,hl]
   rw [Op.eqFields,aM hname];simp only [bL,hpart xs hx,hpart ys hy,aO,run_equalIn_int (P:=P) w 9998 f.type .i64 .i64 _ _ hint];have hxl:s<xs.length:=uJ;have hyl:s<ys.length:=uJ;have ex:xs.drop s=(xs[s]?.getD 0) :: xs.drop (s+1):=by rw [eN hxl];simp [hxl]
   have ey:ys.drop s=(ys[s]?.getD 0) :: ys.drop (s+1):=by rw [eN hyl];simp [hyl]
   rw [ex,ey];by_cases hq:xs[s]?.getD 0=ys[s]?.getD 0
   · simp [hq,ih]
   simp [hq]
theorem Bn {P:Program} {t n:Nat} (hT:Es P t n) (w:World) (xs ys:List Int) (hx:xs.length=n) (hy:ys.length=n):(Op.equal t (.agg (Cv xs)) (.agg (Cv ys))).run P w=.ok (decide (xs=ys)) w:=by
 obtain ⟨h1,h2,h3,h4⟩:=hT;have:=Oq (P:=P) w xs ys n hx hy (P.fieldsOf t).toList 0 (by rw [h4,pY,sE]) (aS _);simp only [Op.equal,Op.maxDepth];rw [run_equalIn_agg (P:=P) w 9999 t _ _ h1 h2,this];simp
theorem Nh {t t':TypeId} {x y:Operand} {n:Nat} (xs ys:List Int) (hT:Es P t n) (hx:e.ev x=some (.agg (Cv xs))) (hy:e.ev y=some (.agg (Cv ys))) (h1:xs.length=n) (h2:ys.length=n) :
 Qy P (.binOp .eql t x y t') ty e H G (.bool (decide (xs=ys))):=fun a w _ _ _ _ hh=>by
 simp only [execOp,hh.eval hx,hh.eval hy,bL,run_eqGuard_agg (P:=P) w .eql t x y _ _ hT.2.2.1,aO,run_eql_struct];have:=Bn hT w xs ys h1 h2;simp only [Op.equal,Op.maxDepth] at this;simp [this]
theorem VP {t t':TypeId} {x y:Operand} {n:Nat} (xs ys:List Int) (hT:Es P t n) (hx:e.ev x=some (.agg (Cv xs))) (hy:e.ev y=some (.agg (Cv ys))) (h1:xs.length=n) (h2:ys.length=n) :
 Qy P (.binOp .neq t x y t') ty e H G (.bool (decide (xs≠ys))):=fun a w _ _ _ _ hh=>by
 simp only [execOp,hh.eval hx,hh.eval hy,bL,run_eqGuard_agg (P:=P) w .neq t x y _ _ hT.2.2.1,aO,run_neq_struct];have:=Bn hT w xs ys h1 h2;simp only [Op.equal,Op.maxDepth] at this;simp [this]
end
class A9 (κ:Type) where
 val:κ→Value
instance:A9 Int:=⟨fun n=>.int .i64 n⟩
instance:A9 Bool:=⟨fun b=>.bool b⟩
structure K4 where
 op:Int
 a:Int
 b:Int
 c:Int
 deriving DecidableEq
instance:A9 K4:=⟨fun k=>.agg (Cv [k.op,k.a,k.b,k.c])⟩
structure H7 (P:Program) (kt:TypeId) (κ:Type) [DecidableEq κ] [A9 κ]:Prop where
 check:∀ em w (k:κ),(Instr.checkKey em 10000 kt (A9.val k)).run P w=.ok () w
 find:∀ w (k:κ) (l:List MapEntry) (ks:List κ),l.map (·.key)=ks.map A9.val→
  (Instr.findKey kt (A9.val k) l).run P w=.ok ((ks.findIdx? (fun k'=>decide (k'=k))).bind fun i=>(l[i]?).map fun x=>(i,x.val)) w
 stays:∀ w (k:κ),(Instr.keyThatStays (A9.val k) (A9.val k)).run P w=.ok (A9.val k) w
section maps
variable {κ:Type} [DecidableEq κ] [A9 κ]
def vI (s:Nat):List (κ×Int)→List MapEntry
 | []=>[]
 | (k,v) :: xs=>{ key:=A9.val k,val:=.int .i64 v,born:=s } :: vI (s+1) xs
def vV (xs:List (κ×Int)):Obj:=.map (vI 0 xs).toArray xs.length
def yZ (xs:List (κ×Int)) (k:κ):Option Int:=(xs.find? (fun x=>decide (x.1=k))).map (·.2)
def Su:List (κ×Int)→κ→Int→List (κ×Int)
 | [],k,v=>[(k,v)]
 | (k',v') :: xs,k,v=>if k'=k then (k',v) :: xs else (k',v') :: Su xs k v
theorem Ot (xs:List (κ×Int)):∀ s,(vI s xs).length=xs.length:=by
 induction xs with
 | nil=>intro s;rfl
 | cons x xs ih=>intro s;simp [vI,ih]
theorem Xd (xs:List (κ×Int)):∀ s,(vI s xs).map (·.key)=(xs.map (·.1)).map A9.val:=by
 induction xs with
 | nil=>intro s;rfl
 | cons x xs ih=>intro s;simp [vI,ih]
theorem yV (xs:List (κ×Int)):∀ (s i:Nat),(vI s xs)[i]?=(xs[i]?).map fun (x:κ×Int)=>({ key:=A9.val x.1,val:=.int .i64 x.2,born:=s+i }:MapEntry):=by
 induction xs with
 | nil=>intro s i;simp [vI]
 | cons x xs ih =>
   intro s i;cases i with
   | zero=>simp [vI]
   | succ i=>simp [vI,ih];congr 1;funext x;congr 1;omega
theorem Et (xs ys:List (κ×Int)):∀ s,vI s (xs++ys)=vI s xs++vI (s+xs.length) ys:=by
 induction xs with
 | nil=>intro s;simp [vI]
 | cons x xs ih=>intro s;simp [vI,ih];congr 1;omega
theorem Mj (xs:List (κ×Int)) (i:Nat) (k:κ) (v v':Int) (h:xs[i]?=some (k,v)):∀ s,vI s (xs.set i (k,v'))=(vI s xs).modify i (fun e=>{ e with val:=.int .i64 v' }):=by
 intro s;apply dW;intro j;rw [yV,sI,yV,gL];by_cases hij:i=j
 · subst hij;obtain ⟨hl,hg⟩:=aR.1 h;simp [hl,hg]
 simp [hij]
theorem OT (xs:List (κ×Int)) (k:κ):((xs.map (·.1)).findIdx? (fun k'=>decide (k'=k))).bind (fun i=>((vI 0 xs)[i]?).map fun x=>(i,x.val)) =
 ((xs.map (·.1)).findIdx? (fun k'=>decide (k'=k))).bind (fun i=>(yZ xs k).map fun v=>(i,Value.int .i64 v)):=by
 have key:∀ (xs:List (κ×Int)) s,((xs.map (·.1)).findIdx? (fun k'=>decide (k'=k))).bind (fun i=>((vI s xs)[i]?).map fun x=>(i,x.val)) =
  ((xs.map (·.1)).findIdx? (fun k'=>decide (k'=k))).bind (fun i=>(yZ xs k).map fun v=>(i,Value.int .i64 v)):=by
  intro xs;induction xs with
  | nil=>intro s;rfl
  | cons x xs ih =>
    intro s;obtain ⟨k',v⟩:=x;simp only [cA,lO];by_cases hk:k'=k
    · simp [hk,vI,yZ]
    have hm:yZ ((k',v) :: xs) k=yZ xs k:=by simp [yZ,hk]
    have ih':=ih (s+1);simp only [hk,decide_false,nY,fJ,hm];cases hf:(xs.map (·.1)).findIdx? (fun k'=>decide (k'=k)) with
    | none=>simp
    | some i =>
      rw [hf] at ih';simp only [kG] at ih';simp only [fR,kG,vI,gP];cases h1:(vI (s+1) xs)[i]? <;> cases h2:yZ xs k <;> simp_all
 exact key xs 0
theorem Kq (xs:List (κ×Int)) (k:κ):yZ xs k=none↔(xs.map (·.1)).findIdx? (fun k'=>decide (k'=k))=none:=by
 simp [yZ,qQ]
theorem Ug (xs:List (κ×Int)) (k:κ) {v:Int} (h:yZ xs k=some v):∃ i,(xs.map (·.1)).findIdx? (fun k'=>decide (k'=k))=some i∧xs[i]?=some (k,v)∧∀ v',Su xs k v'=xs.set i (k,v'):=by
 induction xs with
 | nil=>simp [yZ] at h
 | cons x xs ih =>
   obtain ⟨k',u⟩:=x;by_cases hk:k'=k
   · subst hk;refine ⟨0,by simp [lO],?_,fun v'=>by simp [Su]⟩;rw [yZ,List.find?_cons] at h;simp at h;simp [h]
   have hm:yZ ((k',u) :: xs) k=yZ xs k:=by simp [yZ,hk]
   obtain ⟨i,h1,h2,h3⟩:=ih (hm▸h);exact ⟨i+1,by simp [lO,hk,h1],by simpa using h2,fun v'=>by simp [Su,hk,h3]⟩
theorem KB (xs:List (κ×Int)) (k:κ) (v:Int) (h:yZ xs k=none):Su xs k v=xs++[(k,v)]:=by
 induction xs with
 | nil=>rfl
 | cons x xs ih =>
   obtain ⟨k',u⟩:=x;by_cases hk:k'=k
   · simp [yZ,hk] at h
   have hm:yZ ((k',u) :: xs) k=yZ xs k:=by simp [yZ,hk]
   simp [Su,hk,ih (hm▸h)]
section find
variable {P:Program} {kt:TypeId}
theorem H7.look (h:H7 P kt κ) (w:World) (xs:List (κ×Int)) (k:κ):(Instr.findKey kt (A9.val k) (vI 0 xs)).run P w =
 .ok (((xs.map (·.1)).findIdx? (fun k'=>decide (k'=k))).bind (fun i=>(yZ xs k).map fun v=>(i,Value.int .i64 v))) w:=by
 rw [h.find w k (vI 0 xs) (xs.map (·.1)) (Xd xs 0),OT]
end find
end maps
theorem H7.int {P:Program} {kt:TypeId} (h:P.underlying kt=some (.int .i64)):H7 P kt Int where
 check em w k:=MapKept.run_checkKey (k:=.int .i64 k) h (show MapKept.IsKey (.int .i64) (.int .i64 k) from U) em 9999
 stays w k:=MapKept.run_keyThatStays (d:=.int .i64) (show MapKept.IsKey (.int .i64) (.int .i64 k) from U)
 find w k l ks hk:=by
  have key:∀ (l:List MapEntry) (ks:List Int) (s:Nat),l.map (·.key)=ks.map A9.val→Instr.findNow (.int .i64) (.int .i64 k) l s=some ((ks.findIdx? (fun k'=>decide (k'=k))).bind fun i=>(l[i]?).map fun x=>(s+i,x.val)):=by
   intro l;induction l with
   | nil=>intro ks s hk;cases ks <;> simp at hk;rfl
   | cons x l ih =>
     intro ks s hk;cases ks with
     | nil=>simp at hk
     | cons k' ks =>
       simp only [cA,jD] at hk;obtain ⟨h1,h2⟩:=hk;have h1:x.key=.int .i64 k':=h1;have hs:Instr.sameNow (.int .i64) (.int .i64 k) x.key=some (k == k'):=by rw [h1];simp [Instr.sameNow]
       by_cases he:k'=k
       · subst he;have hb:(k' == k')=true:=vL;rw [hb] at hs;simp only [Instr.findNow,hs,lO,decide_true,fI,kG,rE,fR,fQ]
       have hb:(k == k')=false:=beq_eq_false_iff_ne.2 (rM he);rw [hb] at hs;simp only [Instr.findNow,hs,ih ks (s+1) h2,lO,he,decide_false,nY,fJ];congr 1;cases ks.findIdx? (fun k'=>decide (k'=k)) with
       | none=>rfl
       | some i=>simp only [fR,kG,gP,show s+1+i=s+(i+1) by omega]
  have:=MapKept.run_findKey (P:=P) (w:=w) h (key l ks 0 hk);simp only [cF] at this;exact this
theorem Sv (xs:List Int) (n:Nat):Instr.sameBits (n+1) (.agg (Cv xs)) (.agg (Cv xs))=true:=by
 simp only [Instr.sameBits,BEq.rfl,pI,Cv];rw [eT];intro x hx;have:∀ (l:List Int) (x:Value×Value),x∈(l.map (Value.int .i64)).zip (l.map (Value.int .i64))→∃ v,x=(.int .i64 v,.int .i64 v):=by
  intro l;induction l with
  | nil=>intro x h;simp at h
  | cons a l ih =>
    intro x h;simp only [cA,List.zip_cons_cons,dK] at h;rcases h with rfl | h
    · exact ⟨a,U⟩
    exact ih x h
 obtain ⟨v,rfl⟩:=this xs x hx;cases n <;> simp [Instr.sameBits]
theorem Sw {P:Program} {t n:Nat} (hT:Es P t n) (em:Bool) (w:World) (xs:List Int) (hx:xs.length=n):(Instr.checkKey em 10000 t (.agg (Cv xs))).run P w=.ok () w:=by
 obtain ⟨h1,h2,h3,h4⟩:=hT;have key:∀ (fs:List Field) (s:Nat),fs.map (Ah P)=(List.range' s (n - s)).map (fun i=>(true,i))→s≤n→
  (forIn fs PUnit.unit (fun f _ => if f.name ≠ "_" then (do let a ← part f.type (Cv xs) f.offset; Instr.checkKey em 9999 f.type a; pure (ForInStep.yield PUnit.unit)) else pure (ForInStep.yield PUnit.unit)) : Sem PUnit).run P w = .ok PUnit.unit w := by
  intro fs;induction fs with
  | nil=>intro s _ _;simp
  | cons f fs ih =>
    intro s h hs;have hlen:n - s=fs.length+1:=by have:=congrArg List.length h;simpa using this.symm
    rw [show n - s=(n - (s+1))+1 by omega,uE] at h;simp only [cA,Ah,jD,eF,aB] at h;obtain ⟨⟨⟨⟨g1,g2⟩,g3⟩,g4⟩,g5⟩:=h;have ih:=ih (s+1) g5 uJ;have hname : f.name ≠ "_" := by simpa using g1
    have hint:P.underlying f.type=some (.int .i64):=by
     split at g2
     · assumption
     cases g2
    have hl:s<xs.length:=uJ;have hpart:(part f.type (Cv xs) f.offset).run P w=.ok (.int .i64 (xs[s]?.getD 0)) w:=by
     simp [part,xS w g3,g4,Cv,hl]
    have hck:(Instr.checkKey em 9999 f.type (.int .i64 (xs[s]?.getD 0))).run P w=.ok () w:=MapKept.run_checkKey hint (show MapKept.IsKey (.int .i64) (.int .i64 _) from U) em 9998;rw [List.forIn_cons];simp only [hname,ne_eq,not_false_eq_true,fI,bL,hpart,hck,aO,bR];exact ih
 have h0:=key (P.fieldsOf t).toList 0 (by rw [h4,pY,sE]) (aS _);unfold Instr.checkKey;simp only [bL,aQ h1,aO];rw [Array.forIn_toList] at h0;simp only [h0,aO,bR]
theorem H7.k4 {P:Program} {kt:TypeId} (hT:Es P kt 4):H7 P kt K4 where
 check em w k:=Sw hT em w _ U
 stays w k:=by
  have:Instr.sameBits 10000 (A9.val k) (A9.val k)=true:=Sv _ 9999;simp [Instr.keyThatStays,this]
 find w k l ks hk:=by
  have hwide:(match P.underlying kt with | some (.array _ _) | some (.struct _)=>true | _=>false)=true:=by rw [hT.1]
  have key:∀ (l:List MapEntry) (ks:List K4) (s:Nat),l.map (·.key)=ks.map A9.val→
   (Instr.findAsking kt (A9.val k) l s).run P w=.ok ((ks.findIdx? (fun k'=>decide (k'=k))).bind fun i=>(l[i]?).map fun x=>(s+i,x.val)) w:=by
   intro l;induction l with
   | nil=>intro ks s hk;cases ks <;> simp at hk;simp [Instr.findAsking]
   | cons x l ih =>
     intro ks s hk;cases ks with
     | nil=>simp at hk
     | cons k' ks =>
       simp only [cA,jD] at hk;obtain ⟨h1,h2⟩:=hk;have heq:(Op.equal kt (A9.val k) x.key).run P w=.ok (decide (k=k')) w:=by
        rw [h1];have:=Bn hT w [k.op,k.a,k.b,k.c] [k'.op,k'.a,k'.b,k'.c] U U;rw [show (A9.val k:Value)=.agg (Cv [k.op,k.a,k.b,k.c]) from rfl,show (A9.val k':Value)=.agg (Cv [k'.op,k'.a,k'.b,k'.c]) from rfl,this];congr 1;cases k;cases k';simp
       simp only [Instr.findAsking,bL,heq,aO,lO];by_cases he:k'=k
       · subst he;simp
       have he':k≠k':=rM he;simp only [he',he,decide_false,nY,fJ];rw [ih ks (s+1) h2];congr 1;cases ks.findIdx? (fun k'=>decide (k'=k)) with
       | none=>rfl
       | some i=>simp only [fR,kG,gP,show s+1+i=s+(i+1) by omega]
  rw [run_findKey_eq (P:=P) w hwide];have:=key l ks 0 hk;simp only [cF] at this;exact this
section ops
variable {P:Program} {ops:Array Oper} {rest:List Oper} {B:Bs} {e:B0} {D:List Deferred} {H:Hp} {G:A3} {K:Act→World→Prop}
 {ty:TypeId} {pos:String} {after:Array Edge} {d:Nat}
variable {κ:Type} [DecidableEq κ] [A9 κ] {T kt et:TypeId}
theorem Cw (t:TypeId) (w:World):(Instr.makeMap t none).run P w=.ok (.map (some w.heap.size)) (w.alloc (.map #[] 0)):=rfl
structure I1 (P:Program) (T kt:TypeId) (κ:Type) [DecidableEq κ] [A9 κ]:Prop where
 und:∃ et,P.underlying T=some (.map kt et)∧∀ w,(zeroValue et).run P w=.ok (.int .i64 0) w
 key:H7 P kt κ
theorem VQ {w:World} {r:Nat} {o:Obj}:D2 (·=r) w { w with heap:=w.heap.setIfInBounds r o }:=
 ⟨U,U,U,by simp,fun k _ hk=>by simp [rM hk]⟩
end ops
end Go.Sl
