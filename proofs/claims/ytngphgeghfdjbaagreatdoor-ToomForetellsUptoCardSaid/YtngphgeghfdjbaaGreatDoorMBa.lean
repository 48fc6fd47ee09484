/- sN of the proof (part 1): what the rows' text needs of the texts that lead to it. -/
import Derived.CallsIn
import Derived.OrdersIn
import Derived.TacticsIn
import Derived.RangeFuncIn
import Derived.RangeFuncLeaves
import Derived.Laws.World
import Derived.Laws.Sem
import Derived.WalkKit
import Derived.Laws.StructEq
import Derived.Great.FillDense
import Derived.Laws.Slices
import Derived.Great.BuildSlice
import Derived.MapKept
import Derived.WideKeyRuns
import Derived.RangeFuncRecord
import Derived.RangeFuncNested
import Derived.Laws.Bits64b
import Derived.Test.YtngphgeghfdjbaaGreatDoorProg
import Derived.JoinedCond
import Derived.Carry
import Derived.ChangeSame
import Derived.ChangeShapes
import Derived.RowKit
import Derived.Deep.Slices
import Derived.Test.YtngphgeghfdjbaaGreatDoorCards
import Derived.Test.YtngphgeghfdjbaaGreatDoorTie
import Derived.Test.YtngphgeghfdjbaaGreatDoorRows
import Derived.Lib.SmallJoins
import Derived.Deep.DeepHandedRow
import Derived.Lib.LaidTab
import Derived.Test.YtngphgeghfdjbaaGreatDoorIy
import Derived.LaidEql
import Derived.Deep.AppendSrc
import Derived.Laws.BytesString
import Derived.Lib.Builder
import Derived.Lib.UnsafeStr
import Derived.Laws.Externs
set_option linter.unusedVariables false
set_option linter.unusedSimpArgs false
set_option linter.unusedSectionVars false
set_option maxHeartbeats 4000000
set_option maxRecDepth 100000
namespace Go
theorem qX {p:Prop} (h:p:=by omega):p:=h
theorem sW {p:Prop} (h:p:=by first | assumption | omega):p:=h
theorem rD {p:Prop} (h:p:=by kernel_rfl):p:=h
theorem Ie {p:Prop} (h:p:=by first | exact trivial | with_reducible rfl | assumption | exact cR sW | exact bR sW | omega | rfl):p:=h
theorem rI {p:Prop} (h:p:=by decide):p:=h
theorem Ms {p:Prop} (h:p:=by first | omega | (simp only [bH,cE];omega)):p:=h
theorem Tv {p:Prop} (h:p:=by first | exact Imm.le_refl _ | repeat (first | assumption | refine Imm.le_trans ?_ qY)):p:=h
theorem Tw {p:Prop} (h:p:=by repeat (first | exact Py _ _ | refine Pz rfl ?_)):p:=h
theorem CQ {p:Prop} (h:p:=by first | omega | (simp only [aQ,bH,cE,maxLen];omega)):p:=h
theorem Jc {p:Prop} (h:p:=by apply PC <;> first | assumption | omega | rfl):p:=h
theorem rV {p:Prop} (h:p:=by simp):p:=h
theorem Jd {p:Prop} (h:p:=by rw [←es,aN]):p:=h
theorem yU {p:Prop} (h:p:=by decide +kernel):p:=h
theorem Mt {p:Prop} (h:p:=by rw [aN];omega):p:=h
theorem Cv {p:Prop} (h:p:=by intro h;cases h):p:=h
theorem tL {p:Prop} (h:p:=by rfl):p:=h
theorem Mu {p:Prop} (h:p:=by rw [aN]):p:=h
theorem Je {p:Prop} (h:p:=by unfold tU at *;omega):p:=h
theorem Xd {p:Prop} (h:p:=by rw [cE];simp only [maxLen];omega):p:=h
theorem Sa {p:Prop} (h:p:=by rw [cU];omega):p:=h
theorem Xe {p:Prop} (h:p:=by rw [mC w (ρ t).1 _ _ bt _ g1]):p:=h
theorem Sb {p:Prop} (h:p:=by rw [es,aN]):p:=h
theorem zU {p:Prop} (h:p:=by cases ht):p:=h
theorem Cw {p:Prop} (h:p:=by simp [hp]):p:=h
theorem Sc {p:Prop} (h:p:=by unfold tU at hp;omega):p:=h
theorem GF {p:Prop} (h:p:=by first | exact trivial | with_reducible rfl | assumption | omega | rfl):p:=h
theorem Sd {p:Prop} (h:p:=by rw [aH];omega):p:=h
theorem Xf {p:Prop} (h:p:=by rw [z,lB,gL]):p:=h
theorem Mv {p:Prop} (h:p:=by rw [hsz];omega):p:=h
theorem vU {p:Prop} (h:p:=by cases h):p:=h
theorem qY {p:Prop} (h:p:=by assumption):p:=h
end Go
namespace Go.Sl
abbrev aA:=@Bool.and_eq_true
abbrev aB:=@Nat.eq_of_beq_eq_true
abbrev aD:=@List.getElem?_eq_getElem
abbrev aE:=@Nat.le_refl
abbrev aF:=@if_neg
abbrev aG:=@Go.Result.andThen_ok
abbrev aH:=@List.length_replicate
abbrev aI:=@List.length_set
abbrev aJ:=@List.getElem?_eq_some_iff
abbrev aK:=@Nat.le_trans
abbrev aN:=@Int.toNat_natCast
abbrev aO:=@Go.run_underlying
abbrev aQ:=@List.length_append
abbrev aR:=@Nat.lt_or_ge
abbrev aS:=@decide_eq_true_eq
abbrev aT:=@if_pos
abbrev aU:=@Nat.le_of_ble_eq_true
abbrev aV:=@List.mem_cons_of_mem
abbrev aY:=@Go.Sem.run_bind
abbrev aZ:=@Nat.zero_le
abbrev bB:=@Go.Sem.run_pure
abbrev bC:=@List.mem_cons_self
abbrev bD:=@Int.mul_le_mul_of_nonneg_left
abbrev bE:=@List.getElem?_append_left
abbrev bG:=@Nat.lt_of_lt_of_le
abbrev bH:=@List.length_cons
abbrev bJ:=@List.length_take
abbrev bK:=@List.map_cons
abbrev bL:=@Option.some.injEq
abbrev bM:=@Array.getElem?_eq_some_iff
abbrev bO:=@Nat.zero_add
abbrev bR:=@decide_eq_false
abbrev bT:=@Int.mul_add
abbrev bU:=@Nat.lt_succ_self
abbrev bY:=@List.take_zero
abbrev bZ:=@List.length_map
abbrev cA:=@List.eq_nil_of_length_eq_zero
abbrev cB:=@Int.le_of_lt
abbrev cD:=@Nat.le_succ
abbrev cE:=@List.length_nil
abbrev cF:=@Int.natCast_mul
abbrev cG:=@List.getElem?_map
abbrev cH:=@List.mem_cons
abbrev cJ:=@List.getElem?_eq_none
abbrev cM:=@List.getElem?_append_right
abbrev cN:=@Int.toNat_of_nonneg
abbrev cP:=@Prod.mk.injEq
abbrev cQ:=@Int.mul_comm
abbrev cR:=@decide_eq_true
abbrev cU:=@List.length_drop
abbrev cV:=@List.append_assoc
abbrev cW:=@Bool.not_eq_true'
abbrev dC:=@List.take_append_drop
abbrev dD:=@List.mem_map
abbrev dE:=@decide_eq_false_iff_not
abbrev dF:=@List.drop_append_of_le_length
abbrev dI:=@Nat.add_mul
abbrev dJ:=@Int.mul_zero
abbrev dK:=@Int.mul_left_comm
abbrev dL:=@Int.mul_assoc
abbrev dM:=@Int.emod_lt_of_pos
abbrev dN:=@if_true
abbrev dO:=@if_false
abbrev dP:=@Option.map_some
abbrev dQ:=@Go.mem_ready
abbrev dW:=@List.all_eq_true
abbrev dZ:=@Nat.pow_le_pow_right
abbrev eB:=@List.take_append_of_le_length
abbrev eC:=@List.drop_eq_nil_of_le
abbrev eD:=@List.mem_append
abbrev eE:=@List.take_add_one
abbrev eG:=@Array.getD_eq_getD_getElem?
abbrev eM:=@Nat.min_eq_left
abbrev eN:=@List.append_nil
abbrev eP:=@Go.World.putObj_heap_same
abbrev eR:=@List.getElem_mem
abbrev eS:=@Int.mul_le_mul_of_nonneg_right
abbrev eW:=@List.ext_getElem?
abbrev eY:=@cond_true
abbrev fB:=@Go.DataW.trod_int
abbrev fD:=@List.nil_append
abbrev fF:=@List.getElem?_drop
abbrev fH:=@decide_eq_decide
abbrev fJ:=@Nat.mul_le_mul_right
abbrev fK:=@List.take_length
abbrev fO:=@List.getElem?_set
abbrev fP:=@List.mem_filter
abbrev fQ:=@Array.getElem?_setIfInBounds_ne
abbrev fR:=@List.eq_nil_iff_forall_not_mem
abbrev fW:=@Go.getD_set_ne
abbrev fY:=@List.mem_append_left
abbrev fZ:=@Int.one_mul
abbrev gB:=@List.getElem?_cons_succ
abbrev gD:=@Decidable.not_not
abbrev gE:=@List.cons.injEq
abbrev gG:=@Nat.mul_le_mul_left
abbrev gH:=@List.getElem?_range
abbrev gI:=@Option.map_eq_some_iff
abbrev gJ:=@Nat.add_zero
abbrev gK:=@List.take_of_length_le
abbrev gL:=@Int.add_zero
abbrev gO:=@Option.bind_some
abbrev gP:=@Nat.mod_eq_of_lt
abbrev gR:=@List.getElem?_take
abbrev gS:=@Go.IntWalk.u64_in
abbrev gU:=@List.mem_append_right
abbrev gV:=@Int.emod_add_mul_ediv
abbrev gW:=@List.drop_eq_getElem_cons
abbrev gX:=@Classical.byContradiction
abbrev gZ:=@Nat.mul_comm
abbrev hJ:=@List.length_range
abbrev hZ:=@Int.ofNat_eq_natCast
abbrev iA:=@BitVec.ofInt_natCast
abbrev iB:=@Nat.pow_le_pow_left
abbrev iH:=@Option.getD_some
abbrev iI:=@Nat.mul_le_mul
abbrev iJ:=@Nat.add_sub_cancel_left
abbrev iM:=@Int.mul_one
abbrev iO:=@Nat.eq_zero_or_pos
abbrev iQ:=@List.map_nil
abbrev iR:=@List.findIdx?_cons
abbrev iT:=@BitVec.toNat_ofNat
abbrev iU:=@Array.getElem?_eq_none
abbrev iV:=@Option.map_none
abbrev iW:=@List.nodup_cons
abbrev iX:=@Int.natCast_add
abbrev iY:=@Int.emod_nonneg
abbrev iZ:=@Nat.lt_irrefl
abbrev jA:=@List.all_cons
abbrev jB:=@Array.getElem?_modify
abbrev jM:=@List.nodup_nil
abbrev jN:=@List.drop_zero
abbrev jO:=@Go.IntWalk.i64_in
abbrev jP:=@Int.mul_nonneg
abbrev jQ:=@Array.mem_toList_iff
abbrev kB:=@List.mem_or_eq_of_mem_set
abbrev kD:=@List.take_set_of_le
abbrev kE:=@Array.length_toList
abbrev kH:=@Nat.div_add_mod
abbrev kI:=@Bool.or_eq_true
abbrev kK:=@Go.run_loadCells_list
abbrev kL:=@cond_false
abbrev kM:=@Int.natCast_nonneg
abbrev kP:=@Bool.false_eq_true
abbrev kQ:=@Go.fenced_calm
abbrev kV:=@Int.mul_sub
abbrev kX:=@Nat.pow_succ
abbrev kY:=@Go.MapKept.run_setObj_map
abbrev kZ:=@Go.MapKept.run_getObj_map
abbrev lB:=@Int.zero_mul
abbrev lC:=@Iff.rfl
abbrev lH:=@List.getElem?_toArray
abbrev lI:=@Int.ediv_lt_of_lt_mul
abbrev lJ:=@Array.getElem?_toList
abbrev lN:=@Nat.mod_lt
abbrev lO:=@List.map_toArray
abbrev lP:=@List.getElem_map
abbrev lQ:=@List.ext_getElem
abbrev lV:=@Go.IntKind.wrap_u64
abbrev lX:=@Array.eq_empty_of_size_eq_zero
abbrev mB:=@Nat.mul_assoc
abbrev mC:=@Go.setRow_heap
abbrev mF:=@Nat.pow_pos
abbrev mG:=@Nat.one_mul
abbrev mH:=@Nat.mul_add
abbrev mI:=@Int.add_mul
abbrev mK:=@Int.ediv_nonneg
abbrev mL:=@List.length_zipWith
abbrev mQ:=@Nat.zero_mul
abbrev mR:=@Nat.two_pow_add_eq_or_of_lt
abbrev mS:=@Nat.sub_zero
abbrev mT:=@Nat.sub_self
abbrev mU:=@List.drop_length_add_append
abbrev mV:=@Int.zero_add
abbrev mW:=@Int.ofNat_le
abbrev mX:=@Int.ne_of_gt
abbrev nD:=@Option.none_or
abbrev nE:=@List.getElem_range
abbrev nF:=@List.drop_drop
abbrev nH:=@Int.lt_of_lt_of_le
abbrev nI:=@Array.getElem?_append_left
abbrev nJ:=@List.findIdx?_eq_none_iff
abbrev nK:=@Go.run_storeCells_at
abbrev nL:=@Go.run_sliceAt_slice
abbrev nO:=@Nat.pow_add
abbrev nP:=@List.size_toArray
abbrev nQ:=@List.nodup_append
abbrev nS:=@Go.DataW.trod_struct
abbrev nT:=@Go.getD_set_true
abbrev nW:=@Nat.add_assoc
abbrev nX:=@List.eq_of_mem_replicate
abbrev nY:=@Bool.true_and
abbrev oB:=@Nat.le_mul_of_pos_right
abbrev oC:=@List.getElem?_replicate
abbrev oD:=@Array.toList_map
abbrev oI:=@Ne.symm
abbrev oJ:=@Int.sub_zero
abbrev oK:=@Int.ediv_eq_zero_of_lt
abbrev oP:=@Go.Act.put_comm
abbrev oQ:=@Option.some.inj
abbrev oR:=@List.map_append
abbrev oT:=@Nat.div_lt_iff_lt_mul
abbrev oU:=@Classical.choose_spec
abbrev oW:=@Nat.mul_one
abbrev oX:=@List.range_eq_range'
abbrev oY:=@List.mem_range
abbrev oZ:=@List.mem_iff_getElem
abbrev pA:=@List.getElem?_modify
abbrev pB:=@Int.sub_mul
abbrev pC:=@Int.neg_mul
abbrev pD:=@Int.natAbs_pow
abbrev pE:=@Int.ediv_emod_unique
abbrev pU:=@List.replicate_succ
abbrev pV:=@Go.StepsIn.trans
abbrev pY:=@Go.grownCap_le_maxLen
abbrev qA:=@Array.ext'
abbrev qB:=@List.findIdx?_eq_some_iff_getElem
abbrev qC:=@of_decide_eq_true
abbrev qD:=@getElem!_pos
abbrev qI:=@Nat.ne_of_lt
abbrev qJ:=@Nat.le_succ_of_le
abbrev qT:=@Nat.le_add_right
abbrev qU:=@List.range'_succ
abbrev qV:=@Go.IntKind.wrap_u32
open Go
def FF (r:Option Nat):Fence:={ fn:=fun _=>True,depth:=none,alive:=false,round:=r }
theorem CR (r:Option Nat) (n:Nat):(FF r).room n:=fun _ h=>by simp [FF] at h
theorem uT {r:Option Nat} {n:Nat} {P:Program} {f:FuncId} {args:Array Value} {w:World} {R:Ending→World→Prop} :
 CallsIn (FF r) n P f args w R↔Calls P f args w R:=
 ⟨fun h=>(callsIn_wide (n:=0)).1 ⟨trivial,fun cs _=>h.2 cs (CR _ _)⟩,fun h=>⟨trivial,fun cs _=>((callsIn_wide (n:=0)).2 h).2 cs (room_wide _)⟩⟩
def vO (P:Program) (o:Oper) (a:Act) (w:World) (K:Act→World→Prop):Prop:=
 match (execOp a.eval o).run P w with
 | .ok (.value v) w'=>K (a.put o.dst v) w'
 | .ok .skip w'=>K (a.put o.dst undef) w'
 | .ok (.enter f args) w'=>Calls P f args w' (fun e w''=>∃ v,e=.returned v∧K (a.put o.dst v) w'')
 | .ok (.round l f tmps assign body) w'=>RoundIn Fence.wide 0 P l f tmps assign body w' (fun e w''=>∃ v,e=.returned v∧K (a.put o.dst v) w'')
 | _=>False
def sA (o:Oper):Bool:=match o.op with | .defer _=>false | _=>true
theorem Mw {o:Oper} (h:sA o=true):∀ c,o.op≠.defer c:=by
 intro c hc;simp [sA,hc] at h
theorem yN {P:Program} {o:Oper} {a:Act} {w:World} {K K':Act→World→Prop} (hK:∀ a w,K a w→K' a w) (h:vO P o a w K):vO P o a w K':=by
 unfold vO at *
 generalize (execOp a.eval o).run P w=r at *
 cases r with
 | ok x w' =>
   cases x <;> simp only at h ⊢ <;> first
    | exact hK _ _ h
    | exact h.mono fun e w ⟨v,hv,hk⟩=>⟨v,hv,hK _ _ hk⟩
 | halt x w'=>exact h
theorem Ei {P:Program} {o:Oper} {a:Act} {w:World} {K:Act→World→Prop} {Q:Exit→Act→World→Prop} {r:Option Nat} {n:Nat}
 (hd:sA o=true) (h:vO P o a w K):o.wpIn (FF r) n P a w K Q:=by
 refine ⟨fun _ _=>trivial,?_⟩
 rw [Oper.semAt_eq _ _ _ (Mw hd)]
 unfold vO at h
 split at h
 · rename_i v w' hr;rw [hr];exact h
 · rename_i w' hr;rw [hr];exact h
 · rename_i f args w' hr
   rw [hr]
   exact ⟨fun h=>by simp [FF] at h,uT.2 (h.mono fun e w'' ⟨v,hv,hk⟩=>by subst hv;exact hk)⟩
 · rename_i l f tmps assign body w' hr
   rw [hr]
   exact ⟨fun h=>by simp [FF] at h,trivial,fun c cs _=>(h.mono fun e w'' ⟨v,hv,hk⟩=>by subst hv;exact hk).2 c cs (room_wide _)⟩
 exact h.elim
def rM (P:Program) (ops:Array Oper):List Oper→Act→World→(Act→World→Prop)→Prop
 | [],a,w,K=>K a w
 | o :: rest,a,w,K=>if Region.wanted o (yielded ops a.tmps) then vO P o a w (fun a w=>rM P ops rest a w K) else rM P ops rest (a.put o.dst undef) w K
theorem wL {P:Program} {ops:Array Oper} {Q:Exit→Act→World→Prop} {r:Option Nat} {n:Nat} :
 ∀ (l:List Oper) (a:Act) (w:World),l.all sA=true→rM P ops l a w (Q .normal)→wpListIn (FF r) n P ops Q l a w
 | [],_,_,_,h=>h
 | o :: rest,a,w,hd,h=>by
   simp only [jA,aA] at hd
   unfold rM at h
   unfold wpListIn
   split <;> rename_i hw
   · rw [aT hw] at h
     exact Ei hd.1 (yN (fun a w h=>wL rest a w hd.2 h) h)
   rw [aF hw] at h
   exact ⟨fun _ _=>trivial,wL rest _ _ hd.2 h⟩
theorem zD {P:Program} {ops:Array Oper} {K K':Act→World→Prop} (hK:∀ a w,K a w→K' a w):∀ (l:List Oper) (a:Act) (w:World),rM P ops l a w K→rM P ops l a w K'
 | [],_,_,h=>hK _ _ h
 | o :: rest,a,w,h=>by
   unfold rM at h ⊢
   split <;> rename_i hw
   · rw [aT hw] at h;exact yN (fun a w h=>zD hK rest a w h) h
   rw [aF hw] at h;exact zD hK rest _ _ h
theorem xI {P:Program} {ops:Array Oper} {K:Act→World→Prop}:∀ (l l':List Oper) (a:Act) (w:World),
 rM P ops l a w (fun a w=>rM P ops l' a w K)→rM P ops (l++l') a w K
 | [],_,_,_,h=>h
 | o :: rest,l',a,w,h=>by
   unfold rM at h
   simp only [List.cons_append]
   unfold rM
   split <;> rename_i hw
   · rw [aT hw] at h;exact yN (fun a w h=>xI rest l' a w h) h
   rw [aF hw] at h;exact xI rest l' _ _ h
abbrev Env:=List (Nat×Value)
def Env.get:Env→Nat→Option Value
 | [],_=>none
 | (i,v) :: e,j=>bif Nat.beq i j then some v else Env.get e j
def Env.ev (e:Env):Operand→Option Value
 | .tmp t=>e.get t
 | .const v=>some v
 | .global g=>some (.pointer (some ⟨g,0,none⟩))
 | .func f=>some (.func (.func f) #[] #[])
def Env.evs (e:Env):List Operand→Option (List Value)
 | []=>some []
 | x :: xs=>match e.ev x,Env.evs e xs with
   | some v,some vs=>some (v :: vs)
   | _,_=>none
theorem Kq (e:Env) (i j:Nat) (v:Value):Env.get ((i,v) :: e) j=if i=j then some v else e.get j:=by
 show (bif Nat.beq i j then some v else Env.get e j)=_
 by_cases h:i=j
 · subst h;simp
 have:Nat.beq i j=false:=by cases hb:Nat.beq i j with | false=>rfl | true=>exact absurd (aB hb) h
 simp [this,h]
abbrev fV:=@Kq
abbrev Hp:=List (Nat×Option Nat×Obj)
def Hp.get:Hp→Nat→Option (Option Nat×Obj)
 | [],_=>none
 | (i,x) :: h,j=>bif Nat.beq i j then some x else Hp.get h j
theorem Mx (h:Hp) (i j:Nat) (x:Option Nat×Obj):Hp.get ((i,x) :: h) j=if i=j then some x else h.get j:=by
 show (bif Nat.beq i j then some x else Hp.get h j)=_
 by_cases e:i=j
 · subst e;simp
 have:Nat.beq i j=false:=by cases hb:Nat.beq i j with | false=>rfl | true=>exact absurd (aB hb) e
 simp [this,e]
abbrev bF:=@Mx
def Hp.has (h:Hp) (b:Nat):Prop:=∃ t o,h.get t=some (some b,o)
abbrev Imm:=Nat→Option Obj
def Imm.le (G G':Imm):Prop:=∀ b o,G b=some o→G' b=some o
theorem Imm.le_refl (G:Imm):G.le G:=fun _ _ h=>h
abbrev cC:=@Imm.le_refl
theorem Imm.le_trans {A B C:Imm} (h:A.le B) (k:B.le C):A.le C:=fun b o x=>k b o (h b o x)
abbrev bI:=@Imm.le_trans
structure HoldH (H:Hp) (G:Imm) (w:World):Prop where
 own:∀ t b o,H.get t=some (some b,o)→w.heap[b]?=some o
 one:∀ t t' b o o',H.get t=some (some b,o)→H.get t'=some (some b,o')→t=t'
 imm:∀ b o,G b=some o→w.heap[b]?=some o
 off:∀ t b o,H.get t=some (some b,o)→G b=none
structure Upd (X:Nat→Prop) (w w':World):Prop where
 os:w'.os=w.os
 tape:w'.tape=w.tape
 output:w'.output=w.output
 size:w.heap.size≤w'.heap.size
 same:∀ k,k<w.heap.size→¬X k→w'.heap[k]?=w.heap[k]?
theorem Upd.refl (X:Nat→Prop) (w:World):Upd X w w:=⟨rfl,rfl,rfl,aE _,fun _ _ _=>rfl⟩
abbrev jF:=@Upd.refl
theorem Upd.trans {X:Nat→Prop} {a b c:World} (h:Upd X a b) (k:Upd X b c):Upd X a c:=
 ⟨k.os.trans h.os,k.tape.trans h.tape,k.output.trans h.output,aK h.size k.size,fun i hi hx=>(k.same i (bG hi h.size) hx).trans (h.same i hi hx)⟩
theorem Upd.mono {X Y:Nat→Prop} {a b:World} (h:Upd X a b) (hx:∀ k,k<a.heap.size→X k→Y k):Upd Y a b:=
 ⟨h.os,h.tape,h.output,h.size,fun i hi hy=>h.same i hi (fun x=>hy (hx i hi x))⟩
theorem alloc_old (w:World) (o:Obj) (k:Nat) (hk:k<w.heap.size):(w.alloc o).heap[k]?=w.heap[k]?:=by
 show (w.heap.push o)[k]?=_
 rw [Array.getElem?_push,aF (qI hk)]
theorem rY (w:World) (o:Obj):(w.alloc o).heap[w.heap.size]?=some o:=by
 show (w.heap.push o)[w.heap.size]?=_
 rw [Array.getElem?_push,aT rfl]
theorem Upd.alloc {X:Nat→Prop} {w0 w:World} (h:Upd X w0 w) (o:Obj):Upd X w0 (w.alloc o):=
 h.trans ⟨rfl,rfl,rfl,by simp,fun k hk _=>alloc_old w o k hk⟩
theorem Upd.drew {X:Nat→Prop} {w0 w:World} (h:Upd X w0 w):Upd X w0 w.drew:=h.trans ⟨rfl,rfl,rfl,aE _,fun _ _ _=>rfl⟩
structure Bs where
 n:Nat
 W:World
 X:Nat→Prop
 G0:Imm
structure St where
 e:Env
 D:List Deferred
 H:Hp
 G:Imm
structure Hold (B:Bs) (S:St) (a:Act) (w:World):Prop where
 size:a.tmps.size=B.n
 defers:a.defers=S.D
 env:∀ i v,S.e.get i=some v→a.tmps[i]?=some v
 mem:HoldH S.H S.G w
 upd:Upd B.X B.W w
 mine:∀ t b o,S.H.get t=some (some b,o)→B.W.heap.size≤b∨B.X b
 le:B.G0.le S.G
 new:∀ b,S.G b≠none→B.G0 b=none→B.W.heap.size≤b∨B.X b
theorem Hold.eval {B:Bs} {S:St} {a:Act} {w:World} (h:Hold B S a w) {x:Operand} {v:Value} (hx:S.e.ev x=some v):a.eval x=v:=by
 cases x with
 | tmp t =>
   have:=h.env t v hx
   simp [Act.eval,this]
 | const u=>simpa [Env.ev,Act.eval] using hx
 | global g=>simpa [Env.ev,Act.eval] using hx
 | func f=>simpa [Env.ev,Act.eval] using hx
theorem Hold.evals {B:Bs} {S:St} {a:Act} {w:World} (h:Hold B S a w):∀ {xs:List Operand} {vs:List Value},S.e.evs xs=some vs→xs.map a.eval=vs
 | [],vs,hx=>by simp [Env.evs] at hx;simp [←hx]
 | x :: xs,vs,hx=>by
   unfold Env.evs at hx
   split at hx
   · rename_i v us h1 h2
     simp only [bL] at hx
     subst hx
     simp [h.eval h1,h.evals h2]
   cases hx
theorem Hold.args {B:Bs} {S:St} {a:Act} {w:World} (h:Hold B S a w) {xs:Array Operand} {vs:List Value} (hx:S.e.evs xs.toList=some vs):xs.map a.eval=vs.toArray:=by
 rw [←h.evals hx,←oD]
theorem Hold.put {B:Bs} {e:Env} {D:List Deferred} {H:Hp} {G:Imm} {a:Act} {w:World} (h:Hold B ⟨e,D,H,G⟩ a w) {d:Nat} (hd:Nat.ble (d+1) B.n=true) (v:Value) :
 Hold B ⟨(d,v) :: e,D,H,G⟩ (a.put (some d) v) w:=by
 have hd':d<a.tmps.size:=by rw [h.size];exact aU hd
 refine ⟨by rw [←h.size];exact Array.size_setIfInBounds,h.defers,?_,h.mem,h.upd,h.mine,h.le,h.new⟩
 intro i u hu
 rw [fV] at hu
 have hh:(a.put (some d) v).tmps[i]?=if d=i then (if d<a.tmps.size then some v else none) else a.tmps[i]?:=by
  show (a.tmps.setIfInBounds d v)[i]?=_
  rw [Array.getElem?_setIfInBounds]
 rw [hh]
 by_cases hi:d=i
 · rw [aT hi] at hu ⊢;rw [aT hd'];exact hu
 rw [aF hi] at hu ⊢;exact h.env i u hu
theorem Hold.weaken {B:Bs} {e e':Env} {D:List Deferred} {H H':Hp} {G:Imm} {a:Act} {w:World} (h:Hold B ⟨e,D,H,G⟩ a w)
 (he:∀ i v,e'.get i=some v→e.get i=some v) (hH:∀ t x,H'.get t=some x→H.get t=some x):Hold B ⟨e',D,H',G⟩ a w:=
 ⟨h.size,h.defers,fun i v x=>h.env i v (he i v x),⟨fun t b o x=>h.mem.own t b o (hH _ _ x),fun t t' b o o' x y=>h.mem.one t t' b o o' (hH _ _ x) (hH _ _ y),h.mem.imm,fun t b o x=>h.mem.off t b o (hH _ _ x)⟩,
  h.upd,fun t b o x=>h.mine t b o (hH _ _ x),h.le,h.new⟩
theorem HoldH.lt {H:Hp} {G:Imm} {w:World} (h:HoldH H G w) {t b:Nat} {o:Obj} (ht:H.get t=some (some b,o)):b<w.heap.size:=
 (bM.1 (h.own t b o ht)).1
theorem HoldH.ltG {H:Hp} {G:Imm} {w:World} (h:HoldH H G w) {b:Nat} {o:Obj} (ht:G b=some o):b<w.heap.size:=
 (bM.1 (h.imm b o ht)).1
theorem HoldH.grow {H:Hp} {G:Imm} {w w':World} (h:HoldH H G w) (hs:∀ k,k<w.heap.size→w'.heap[k]?=w.heap[k]?):HoldH H G w':=
 ⟨fun t b o x=>(hs b (h.lt x)).trans (h.own t b o x),h.one,fun b o x=>(hs b (h.ltG x)).trans (h.imm b o x),h.off⟩
theorem Hold.grow {B:Bs} {S:St} {a:Act} {w w':World} (h:Hold B S a w) (hu:Upd (fun _=>False) w w'):Hold B S a w':=
 ⟨h.size,h.defers,h.env,h.mem.grow (fun k hk=>hu.same k hk id),h.upd.trans (hu.mono (fun _ _ x=>x.elim)),h.mine,h.le,h.new⟩
theorem Hold.drew {B:Bs} {S:St} {a:Act} {w:World} (h:Hold B S a w):Hold B S a { w with drawn:=w.drawn+1 }:=h.grow ⟨rfl,rfl,rfl,aE _,fun _ _ _=>rfl⟩
theorem Hold.alloc {B:Bs} {e:Env} {D:List Deferred} {H:Hp} {G:Imm} {a:Act} {w:World} (h:Hold B ⟨e,D,H,G⟩ a w) (t:Nat) (o:Obj) :
 Hold B ⟨e,D,(t,some w.heap.size,o) :: H,G⟩ a (w.alloc o):=by
 have hold:∀ k,k<w.heap.size→(w.alloc o).heap[k]?=w.heap[k]?:=fun k hk=>alloc_old w o k hk
 have hnew:(w.alloc o).heap[w.heap.size]?=some o:=rY w o
 have hG:G w.heap.size=none:=by
  cases hg:G w.heap.size with
  | none=>rfl
  | some x=>exact absurd (h.mem.ltG hg) (iZ _)
 refine ⟨h.size,h.defers,h.env,⟨?_,?_,(h.mem.grow hold).imm,?_⟩,h.upd.alloc o,?_,h.le,h.new⟩
 · intro t' b o' x
   rw [bF] at x
   split at x
   · simp only [bL,cP] at x;obtain ⟨rfl,rfl⟩:=x;exact hnew
   exact (h.mem.grow hold).own t' b o' x
 · intro t1 t2 b o1 o2 x y
   rw [bF] at x y
   split at x <;> split at y
   · omega
   · simp only [bL,cP] at x;obtain ⟨rfl,rfl⟩:=x;exact absurd (h.mem.lt y) (iZ _)
   · simp only [bL,cP] at y;obtain ⟨rfl,rfl⟩:=y;exact absurd (h.mem.lt x) (iZ _)
   exact h.mem.one _ _ _ _ _ x y
 · intro t' b o' x
   rw [bF] at x
   split at x
   · simp only [bL,cP] at x;obtain ⟨rfl,rfl⟩:=x;exact hG
   exact h.mem.off t' b o' x
 intro t' b o' x
 rw [bF] at x
 split at x
 · simp only [bL,cP] at x;obtain ⟨rfl,rfl⟩:=x;exact .inl h.upd.size
 exact h.mine t' b o' x
theorem Hold.set {B:Bs} {e:Env} {D:List Deferred} {H:Hp} {G:Imm} {a:Act} {w w':World} (h:Hold B ⟨e,D,H,G⟩ a w) {t b:Nat} {o o':Obj} (ht:H.get t=some (some b,o))
 (hu:Upd (·=b) w w') (hb:w'.heap[b]?=some o'):Hold B ⟨e,D,(t,some b,o') :: H,G⟩ a w':=by
 have hl:b<w.heap.size:=h.mem.lt ht
 have key:∀ t' b1 o1,t≠t'→H.get t'=some (some b1,o1)→b1≠b:=fun t' b1 o1 hne x e=>hne (h.mem.one t t' b o o1 ht (e▸x))
 refine ⟨h.size,h.defers,h.env,⟨?_,?_,?_,?_⟩,?_,?_,h.le,h.new⟩
 · intro t' b1 o1 x
   rw [bF] at x
   split at x
   · simp only [bL,cP] at x;obtain ⟨rfl,rfl⟩:=x;exact hb
   rename_i hne;rw [hu.same b1 (h.mem.lt x) (key t' b1 o1 hne x)];exact h.mem.own t' b1 o1 x
 · intro t1 t2 b1 o1 o2 x y
   rw [bF] at x y
   split at x <;> split at y
   · omega
   · rename_i hne;simp only [bL,cP] at x;obtain ⟨rfl,rfl⟩:=x;exact absurd rfl (key _ _ _ hne y)
   · rename_i hne _;simp only [bL,cP] at y;obtain ⟨rfl,rfl⟩:=y;exact absurd rfl (key _ _ _ hne x)
   exact h.mem.one _ _ _ _ _ x y
 · intro b1 o1 x
   have hne:b1≠b:=fun e=>by have h1:G b=none:=h.mem.off t b o ht;have h2:G b1=some o1:=x;rw [e,h1] at h2;cases h2
   rw [hu.same b1 (h.mem.ltG x) hne];exact h.mem.imm b1 o1 x
 · intro t' b1 o1 x
   rw [bF] at x
   split at x
   · simp only [bL,cP] at x;obtain ⟨rfl,rfl⟩:=x;exact h.mem.off t b o ht
   exact h.mem.off t' b1 o1 x
 · refine ⟨hu.os.trans h.upd.os,hu.tape.trans h.upd.tape,hu.output.trans h.upd.output,aK h.upd.size hu.size,fun k hk hx=>?_⟩
   have hne:k≠b:=fun e=>by
    rcases h.mine t b o ht with h1 | h1
    · omega
    exact hx (e▸h1)
   exact (hu.same k (bG hk h.upd.size) hne).trans (h.upd.same k hk hx)
 intro t' b1 o1 x
 rw [bF] at x
 split at x
 · simp only [bL,cP] at x;obtain ⟨rfl,rfl⟩:=x;exact h.mine t b o ht
 exact h.mine t' b1 o1 x
def Wl (P:Program) (ops:Array Oper) (l:List Oper) (B:Bs) (S:St) (K:Act→World→Prop):Prop:=∀ a w,Hold B S a w→rM P ops l a w K
def Wc (r:Option Nat) (P:Program) (c:Code) (B:Bs) (S:St) (Q:Exit→Act→World→Prop):Prop:=∀ a w,Hold B S a w→c.wpIn (FF r) 0 P Q a w
def Ar (Q:Exit→Act→World→Prop) (x:Exit) (B:Bs) (S:St):Prop:=∀ a w,Hold B S a w→Q x a w
section code
variable {r:Option Nat} {P:Program} {B:Bs} {S:St} {Q:Exit→Act→World→Prop}
theorem Wc.region {id:Nat} {l:List Oper} (hd:l.all sA=true) (h:Wl P l.toArray l B S (Q .normal)):Wc r P (.region id l.toArray false) B S Q:=
 fun a w hh=>wpIn_region_lit (wL l a w hd (h a w hh))
abbrev bX:=@Wc.region
theorem Wc.seq {x y:Code} (h:Wc r P x B S (Exit.then (y.wpIn (FF r) 0 P Q) Q)):Wc r P (.seq x y) B S Q:=fun a w hh=>wpIn_seq (h a w hh)
abbrev cO:=@Wc.seq
theorem Wc.skip (h:Ar Q .normal B S):Wc r P .skip B S Q:=fun a w hh=>wpIn_skip (h a w hh)
abbrev kF:=@Wc.skip
theorem Wc.label {l:Nat} (h:Ar Q .normal B S):Wc r P (.label l) B S Q:=fun a w hh=>wpIn_label (h a w hh)
theorem Wc.exit {id:Nat} (h:Ar Q (.exit id) B S):Wc r P (.exit id) B S Q:=fun a w hh=>wpIn_exit (h a w hh)
theorem Wc.ret (h:Ar Q .ret B S):Wc r P .ret B S Q:=fun a w hh=>wpIn_ret (h a w hh)
abbrev lM:=@Wc.ret
theorem Wc.block {id:Nat} {c:Code} (h:Wc r P c B S (Exit.inBlock id Q)):Wc r P (.block id c) B S Q:=fun a w hh=>wpIn_block (h a w hh)
theorem Bo {c:Operand} {x y:Code} {t:Bool} (hc:S.e.ev c=some (.bool t)) (ht:t=true→Wc r P x B S Q) (hf:t=false→Wc r P y B S Q):Wc r P (.cond c x y) B S Q:=
 fun a w hh=>wpIn_cond_split (hh.eval hc) (fun e=>ht e a w hh) (fun e=>hf e a w hh)
theorem Wc.cond {c:Operand} {x y:Code} {p:Prop} [Decidable p] (hc:S.e.ev c=some (.bool (decide p))) (ht:p→Wc r P x B S Q) (hf:¬p→Wc r P y B S Q):Wc r P (.cond c x y) B S Q:=
 Bo hc (fun h=>ht (qC h)) (fun h=>hf (of_decide_eq_false h))
abbrev lZ:=@Wc.cond
theorem Xg {c:Operand} {x y:Code} (hc:S.e.ev c=some (.bool true)) (ht:Wc r P x B S Q):Wc r P (.cond c x y) B S Q:=Bo hc (fun _=>ht) (fun h=>by cases h)
theorem Xh {c:Operand} {x y:Code} (hc:S.e.ev c=some (.bool false)) (hf:Wc r P y B S Q):Wc r P (.cond c x y) B S Q:=Bo hc (fun h=>by cases h) (fun _=>hf)
theorem Wl.done {ops:Array Oper} {x:Exit} (h:Ar Q x B S):Wl P ops [] B S (Q x):=h
abbrev cY:=@Wl.done
theorem Ar.next {y:Code} (h:Wc r P y B S Q):Ar (Exit.then (y.wpIn (FF r) 0 P Q) Q) .normal B S:=h
abbrev bW:=@Ar.next
theorem My {K:Act→World→Prop} {id:Nat} (h:Ar Q (.exit id) B S):Ar (Exit.then K Q) (.exit id) B S:=h
abbrev pL:=@My
theorem Ps {K:Act→World→Prop} (h:Ar Q .ret B S):Ar (Exit.then K Q) .ret B S:=h
abbrev oN:=@Ps
theorem Kr {id:Nat} (h:Ar Q .normal B S):Ar (Exit.inBlock id Q) .normal B S:=h
abbrev qN:=@Kr
theorem Bp {id:Nat} (h:Ar Q .ret B S):Ar (Exit.inBlock id Q) .ret B S:=h
theorem Ar.here {id:Nat} (h:Ar Q .normal B S):Ar (Exit.inBlock id Q) (.exit id) B S:=fun a w hh=>by simp only [Exit.inBlock,dN];exact h a w hh
theorem Pt {id id':Nat} (hne:Nat.beq id' id=false) (h:Ar Q (.exit id') B S):Ar (Exit.inBlock id Q) (.exit id') B S:=fun a w hh=>by
 have:id'≠id:=fun e=>by subst e;simp at hne
 simp only [Exit.inBlock,this,dO];exact h a w hh
def Env.sub (e:Env):Env→Prop
 | []=>True
 | (i,v) :: l=>e.get i=some v∧Env.sub e l
def Hp.sub (h:Hp):Hp→Prop
 | []=>True
 | (i,x) :: l=>h.get i=some x∧Hp.sub h l
theorem xQ {e:Env}:∀ {l:Env},e.sub l→∀ i v,l.get i=some v→e.get i=some v
 | [],_,i,v,h=>by simp [Env.get] at h
 | (j,u) :: l,hs,i,v,h=>by
   rw [fV] at h
   split at h
   · rename_i hj;subst hj;simp only [bL] at h;subst h;exact hs.1
   exact xQ hs.2 i v h
theorem Ej {e:Hp}:∀ {l:Hp},e.sub l→∀ i v,l.get i=some v→e.get i=some v
 | [],_,i,v,h=>by simp [Hp.get] at h
 | (j,u) :: l,hs,i,v,h=>by
   rw [bF] at h
   split at h
   · rename_i hj;subst hj;simp only [bL] at h;subst h;exact hs.1
   exact Ej hs.2 i v h
abbrev kN:=@Ej
theorem Hold.sub {e e':Env} {D:List Deferred} {H H':Hp} {G:Imm} {a:Act} {w:World} (h:Hold B ⟨e,D,H,G⟩ a w) (he:e.sub e') (hH:H.sub H'):Hold B ⟨e',D,H',G⟩ a w:=
 h.weaken (xQ he) (kN hH)
def zV {ι:Type} (B:Bs) (I:ι→St) (φ:ι→Prop) (μ:ι→Nat) (m:Nat):Act→World→Prop:=fun a w=>∃ j,φ j∧μ j<m∧Hold B (I j) a w
theorem Ek {ι:Type} {c:Code} (I:ι→St) (φ:ι→Prop) (μ:ι→Nat) (i0:ι) (h0:φ i0) (hs:∀ a w,Hold B S a w→Hold B (I i0) a w)
 (hb:∀ i,φ i→Wc r P c B (I i) (Exit.then (zV B I φ μ (μ i)) Q)):Wc r P (.loop c) B S Q:=by
 intro a w hh b k cs hro hb' hr
 have key:∀ m i a w,μ i=m→φ i→Hold B (I i) a w→
  ∃ e a' w',Q e a' w'∧ArrivesIn (Machine.fenced P (FF r)) P (lone (b.atR a (.code c :: .inLoop c :: k)) cs w) b k cs e a' w':=by
  intro m
  induction m using Nat.strongRecOn with
  | _ m ih =>
    intro i a w hm hφ hI
    obtain ⟨x,a₁,w₁,hq,harr⟩:=hb i hφ a w hI b (.inLoop c :: k) cs hro hb' hr
    cases x with
    | normal =>
      obtain ⟨j,hj,hlt,hI'⟩:=hq
      obtain ⟨e₂,a₂,w₂,hq₂,harr₂⟩:=ih (μ j) (hm▸hlt) j a₁ w₁ rfl hj hI'
      exact ⟨e₂,a₂,w₂,hq₂,.of_steps (pV harr (.one (kQ hb' hr rfl) stepR_inLoop)) harr₂⟩
    | exit id=>exact ⟨_,a₁,w₁,hq,.pass (x:=.inLoop c) rfl (fun _ _=>.inl rV) harr⟩
    | goto l=>exact ⟨_,a₁,w₁,hq,.pass (x:=.inLoop c) rfl (fun _ _=>.inl rV) harr⟩
    | ret=>exact ⟨_,a₁,w₁,hq,.pass (x:=.inLoop c) rfl (fun _ _=>.inl rV) harr⟩
    | panic ch=>exact ⟨_,a₁,w₁,hq,.pass (x:=.inLoop c) rfl (fun _ _=>.inl rV) harr⟩
    | outgrown=>exact ⟨_,a₁,w₁,hq,.pass (x:=.inLoop c) rfl (fun _ _=>.inl rV) harr⟩
 obtain ⟨e,a',w',hq,harr⟩:=key _ i0 a w rfl h0 (hs a w hh)
 exact ⟨e,a',w',hq,.of_steps (.one (kQ hb' hr rfl) stepR_loop) harr⟩
theorem Wc.loop {ι:Type} {c:Code} {e:Env} {D:List Deferred} {H:Hp} {G:Imm} (I:ι→Env×Hp) (φ:ι→Prop) (μ:ι→Nat) (i0:ι) (h0:φ i0)
 (he:e.sub (I i0).1) (hH:H.sub (I i0).2)
 (hb:∀ i,φ i→Wc r P c B ⟨(I i).1,D,(I i).2,G⟩ (Exit.then (zV B (fun i=>⟨(I i).1,D,(I i).2,G⟩) φ μ (μ i)) Q)):Wc r P (.loop c) B ⟨e,D,H,G⟩ Q:=
 Ek (fun i=>⟨(I i).1,D,(I i).2,G⟩) φ μ i0 h0 (fun _ _ h=>h.sub he hH) hb
theorem Ar.again {ι:Type} {I:ι→St} {φ:ι→Prop} {μ:ι→Nat} {m:Nat} {e:Env} {D:List Deferred} {H:Hp} {G:Imm} (j:ι) (hφ:φ j) (hμ:μ j<m)
 (hI:I j=⟨(I j).e,D,(I j).H,G⟩) (he:e.sub (I j).e) (hH:H.sub (I j).H):Ar (Exit.then (zV B I φ μ m) Q) .normal B ⟨e,D,H,G⟩:=
 fun a w hh=>⟨j,hφ,hμ,by rw [hI];exact hh.sub he hH⟩
end code
def sY (P:Program) (t:TypeId):Bool:=
 (match P.underlying t with | some (.struct _) | some (.array _ _) | none=>false | some _=>true) && ((P.info? t).map (·.size) == some 1)
def tX (P:Program) (t k:Nat):Bool:=
 (match P.underlying t with | some (.struct _) | some (.array _ _)=>true | _=>false) && ((P.info? t).map (·.size) == some k)
section types
variable {P:Program} {t k:Nat} (w:World)
theorem run_sizeOf {n:Nat} (h:(P.info? t).map (·.size)=some n):(sizeOf t).run P w=.ok n w:=by
 cases hi:P.info? t with
 | none=>simp [hi] at h
 | some i=>simp [hi] at h;simp [sizeOf,typeInfo,hi,h]
theorem tG (h:sY P t=true):(isAgg t).run P w=.ok false w:=by
 unfold sY at h
 cases hu:P.underlying t with
 | none=>simp [hu] at h
 | some d=>cases d <;> simp [hu] at h <;> simp [isAgg,aO hu]
theorem wR (h:tX P t k=true):(isAgg t).run P w=.ok true w:=by
 unfold tX at h
 cases hu:P.underlying t with
 | none=>simp [hu] at h
 | some d=>cases d <;> simp [hu] at h <;> simp [isAgg,aO hu]
theorem Xi (h:sY P t=true):(P.info? t).map (·.size)=some 1:=by
 unfold sY at h;simp at h;simpa using h.2
theorem El (h:tX P t k=true):(P.info? t).map (·.size)=some k:=by
 unfold tX at h;simp at h;simpa using h.2
end types
theorem cell_of_block {w:World} {b off:Nat} {cs:List Value} {ty:TypeId} {fz:Nat×Nat} (h:w.heap[b]?=some (.cells cs.toArray ty fz)) :
 w.cell? ⟨b,off,none⟩=cs[off]?:=by simp [World.cell?,h]
def Imm.cell (G:Imm) (b off:Nat):Option Value:=match G b with | some (.cells c _ _)=>c[off]? | _=>none
def Imm.row (G:Imm) (b off:Nat) (vs:List Value):Prop:=∀ i v,vs[i]?=some v→G.cell b (off+i)=some v
theorem HoldH.cellG {H:Hp} {G:Imm} {w:World} (h:HoldH H G w) {b off:Nat} {v:Value} (hc:G.cell b off=some v):w.cell? ⟨b,off,none⟩=some v:=by
 unfold Imm.cell at hc
 split at hc
 · rename_i c ty fz hb
   simp [World.cell?,h.imm b _ hb,hc]
 cases hc
theorem Mz {G G':Imm} (h:G.le G') {b off:Nat} {v:Value} (hc:G.cell b off=some v):G'.cell b off=some v:=by
 unfold Imm.cell at *
 split at hc
 · rename_i c ty fz hb;rw [h b _ hb];exact hc
 cases hc
theorem Em {G G':Imm} (h:G.le G') {b off:Nat} {vs:List Value} (hc:G.row b off vs):G'.row b off vs:=fun i v hv=>Mz h (hc i v hv)
theorem add_lit (b o n:Nat):Addr.add ⟨b,o,none⟩ n=⟨b,o+n,none⟩:=by unfold Addr.add;split <;> simp_all
structure Look (e:Env) (H:Hp) (G:Imm) (a:Act) (w:World):Prop where
 env:∀ i v,e.get i=some v→a.tmps[i]?=some v
 mem:HoldH H G w
section look
variable {e:Env} {H:Hp} {G:Imm} {a:Act} {w:World}
theorem Hold.look {B:Bs} {D:List Deferred} (h:Hold B ⟨e,D,H,G⟩ a w):Look e H G a w:=⟨h.env,h.mem⟩
theorem Look.eval (h:Look e H G a w) {x:Operand} {v:Value} (hx:e.ev x=some v):a.eval x=v:=by
 cases x with
 | tmp t=>simp [Act.eval,h.env t v hx]
 | const u=>simpa [Env.ev,Act.eval] using hx
 | global g=>simpa [Env.ev,Act.eval] using hx
 | func f=>simpa [Env.ev,Act.eval] using hx
theorem Look.evals (h:Look e H G a w):∀ {xs:List Operand} {vs:List Value},e.evs xs=some vs→xs.map a.eval=vs
 | [],vs,hx=>by simp [Env.evs] at hx;simp [←hx]
 | x :: xs,vs,hx=>by
   unfold Env.evs at hx
   split at hx
   · rename_i v us h1 h2
     simp only [bL] at hx
     subst hx
     simp [h.eval h1,h.evals h2]
   cases hx
theorem Look.args (h:Look e H G a w) {xs:Array Operand} {vs:List Value} (hx:e.evs xs.toList=some vs):xs.map a.eval=vs.toArray:=by
 rw [←h.evals hx,←oD]
end look
def Qy (P:Program) (o:Op) (ty:TypeId) (e:Env) (H:Hp) (G:Imm) (v:Value):Prop:=
 ∀ (a:Act) (w:World) (dst:Option Tmp) (pos:String) (after:Array Edge) (g:Option (Nat×Bool)),Look e H G a w→(execOp a.eval ⟨dst,o,ty,pos,after,g⟩).run P w=.ok (.value v) w
section qy
variable {P:Program} {e:Env} {H:Hp} {G:Imm} {ty:TypeId}
theorem Qy.move {x:Operand} {v:Value} (hx:e.ev x=some v):Qy P (.move x) ty e H G v:=fun a w _ _ _ _ hh=>by simp [execOp,hh.eval hx]
abbrev mO:=@Qy.move
theorem Qy.assign {x:Operand} {v:Value} (hx:e.ev x=some v):Qy P (.assign x) ty e H G v:=fun a w _ _ _ _ hh=>by simp [execOp,hh.eval hx]
theorem Qy.pick {c x y:Operand} {b:Bool} {v:Value} (hc:e.ev c=some (.bool b)) (hv:e.ev (bif b then x else y)=some v):Qy P (.pick c x y) ty e H G v:=fun a w _ _ _ _ hh=>by
 cases b
 · simp only [kL] at hv;simp [execOp,asBool,hh.eval hc,hh.eval hv]
 simp only [eY] at hv;simp [execOp,asBool,hh.eval hc,hh.eval hv]
theorem Qy.not {t:TypeId} {x:Operand} {b:Bool} (hx:e.ev x=some (.bool b)):Qy P (.unOp .not t x) ty e H G (.bool (!b)):=fun a w _ _ _ _ hh=>by simp [execOp,Op.unary,hh.eval hx]
theorem CS {t:TypeId} {x:Operand} {p:Prop} [Decidable p] (hx:e.ev x=some (.bool (decide p))):Qy P (.unOp .not t x) ty e H G (.bool (decide (¬p))):=fun a w _ _ _ _ hh=>by simp [execOp,Op.unary,hh.eval hx]
abbrev eK:=@CS
section cmp
variable {t t':TypeId} {x y:Operand} {k:IntKind} {m n:Int} (hx:e.ev x=some (.int k m)) (hy:e.ev y=some (.int k n))
include hx hy
theorem Qy.eql:Qy P (.binOp .eql t x y t') ty e H G (.bool (decide (m=n))):=fun a w _ _ _ _ hh=>by simp [execOp,hh.eval hx,hh.eval hy,binOp,Op.intCmp,eqGuard];rfl
theorem Qy.neq:Qy P (.binOp .neq t x y t') ty e H G (.bool (decide (m≠n))):=fun a w _ _ _ _ hh=>by
 simp only [execOp,hh.eval hx,hh.eval hy,binOp,Op.intCmp,eqGuard]
 by_cases h:m=n <;> simp [h]
theorem Qy.lss:Qy P (.binOp .lss t x y t') ty e H G (.bool (decide (m<n))):=fun a w _ _ _ _ hh=>by simp [execOp,hh.eval hx,hh.eval hy,binOp,Op.intCmp,eqGuard]
theorem Qy.leq:Qy P (.binOp .leq t x y t') ty e H G (.bool (decide (m≤n))):=fun a w _ _ _ _ hh=>by simp [execOp,hh.eval hx,hh.eval hy,binOp,Op.intCmp,eqGuard]
theorem Qy.gtr:Qy P (.binOp .gtr t x y t') ty e H G (.bool (decide (n<m))):=fun a w _ _ _ _ hh=>by simp [execOp,hh.eval hx,hh.eval hy,binOp,Op.intCmp,eqGuard]
theorem Qy.geq:Qy P (.binOp .geq t x y t') ty e H G (.bool (decide (n≤m))):=fun a w _ _ _ _ hh=>by simp [execOp,hh.eval hx,hh.eval hy,binOp,Op.intCmp,eqGuard]
theorem Ks:Qy P (.binOp .add t x y t') ty e H G (.int k (k.wrap (m+n))):=fun a w _ _ _ _ hh=>by simp [execOp,hh.eval hx,hh.eval hy,binOp,Op.intArith,eqGuard]
theorem Do:Qy P (.binOp .sub t x y t') ty e H G (.int k (k.wrap (m - n))):=fun a w _ _ _ _ hh=>by simp [execOp,hh.eval hx,hh.eval hy,binOp,Op.intArith,eqGuard]
theorem CT:Qy P (.binOp .mul t x y t') ty e H G (.int k (k.wrap (m*n))):=fun a w _ _ _ _ hh=>by simp [execOp,hh.eval hx,hh.eval hy,binOp,Op.intArith,eqGuard]
abbrev kG:=@CT
theorem Ku (h0:n≠0):Qy P (.binOp .quo t x y t') ty e H G (.int k (k.wrap (m.tdiv n))):=fun a w _ _ _ _ hh=>by simp [execOp,hh.eval hx,hh.eval hy,binOp,Op.intDiv,eqGuard,h0]
theorem Qy.rem (h0:n≠0):Qy P (.binOp .rem t x y t') ty e H G (.int k (m.tmod n)):=fun a w _ _ _ _ hh=>by simp [execOp,hh.eval hx,hh.eval hy,binOp,Op.intDiv,eqGuard,h0]
theorem CU:Qy P (.binOp .and t x y t') ty e H G (.int k (bits .and k m n)):=fun a w _ _ _ _ hh=>by simp [execOp,hh.eval hx,hh.eval hy,binOp,eqGuard];rfl
abbrev kW:=@CU
theorem En:Qy P (.binOp .or t x y t') ty e H G (.int k (bits .or k m n)):=fun a w _ _ _ _ hh=>by simp [execOp,hh.eval hx,hh.eval hy,binOp,eqGuard];rfl
end cmp
theorem Qy.shl {t t':TypeId} {x y:Operand} {k k':IntKind} {m n:Int} (hx:e.ev x=some (.int k m)) (hy:e.ev y=some (.int k' n)) (h0:0≤n) :
 Qy P (.binOp .shl t x y t') ty e H G (.int k (k.wrap (m*2 ^ (min n.toNat k.bits)))):=fun a w _ _ _ _ hh=>by
 simp [execOp,hh.eval hx,hh.eval hy,binOp,Op.shift,eqGuard,Int.not_lt.2 h0]
theorem Qy.shr {t t':TypeId} {x y:Operand} {k k':IntKind} {m n:Int} (hx:e.ev x=some (.int k m)) (hy:e.ev y=some (.int k' n)) (h0:0≤n) :
 Qy P (.binOp .shr t x y t') ty e H G (.int k (m.fdiv (2 ^ (min n.toNat k.bits)))):=fun a w _ _ _ _ hh=>by
 simp [execOp,hh.eval hx,hh.eval hy,binOp,Op.shift,eqGuard,Int.not_lt.2 h0]
abbrev nC:=@Qy.shr
section arith64
variable {t t':TypeId} {x y:Operand} {m n:Int} (hx:e.ev x=some (.int .i64 m)) (hy:e.ev y=some (.int .i64 n))
include hx hy
theorem Qy.add (hb:-9223372036854775808≤m+n∧m+n≤9223372036854775807):Qy P (.binOp .add t x y t') ty e H G (.int .i64 (m+n)):=by
 have:=Ks (P:=P) (H:=H) (G:=G) (ty:=ty) (t:=t) (t':=t') hx hy;rwa [jO _ hb] at this
theorem Qy.sub (hb:-9223372036854775808≤m - n∧m - n≤9223372036854775807):Qy P (.binOp .sub t x y t') ty e H G (.int .i64 (m - n)):=by
 have:=Do (P:=P) (H:=H) (G:=G) (ty:=ty) (t:=t) (t':=t') hx hy;rwa [jO _ hb] at this
theorem Qy.mul (hb:-9223372036854775808≤m*n∧m*n≤9223372036854775807):Qy P (.binOp .mul t x y t') ty e H G (.int .i64 (m*n)):=by
 have:=kG (P:=P) (H:=H) (G:=G) (ty:=ty) (t:=t) (t':=t') hx hy;rwa [jO _ hb] at this
abbrev mJ:=@Qy.mul
theorem Qy.quo (h0:n≠0) (hb:-9223372036854775808≤m.tdiv n∧m.tdiv n≤9223372036854775807):Qy P (.binOp .quo t x y t') ty e H G (.int .i64 (m.tdiv n)):=by
 have:=Ku (P:=P) (H:=H) (G:=G) (ty:=ty) (t:=t) (t':=t') hx hy h0;rwa [jO _ hb] at this
end arith64
theorem Qy.neg {t:TypeId} {x:Operand} {m:Int} (hx:e.ev x=some (.int .i64 m)) (hb:-9223372036854775807≤m∧m≤9223372036854775808):Qy P (.unOp .neg t x) ty e H G (.int .i64 (-m)):=
 fun a w _ _ _ _ hh=>by simp [execOp,Op.unary,Op.intArith,hh.eval hx,jO _ (show -9223372036854775808≤-m∧-m≤9223372036854775807 by omega)]
theorem CW {t:TypeId} {x:Operand} {k:IntKind} {m:Int} (hx:e.ev x=some (.int k m)):Qy P (.unOp .neg t x) ty e H G (.int k (k.wrap (0 - m))):=
 fun a w _ _ _ _ hh=>by simp [execOp,Op.unary,Op.intArith,hh.eval hx]
abbrev mA:=@CW
theorem CX {s t:TypeId} {x:Operand} {k k':IntKind} {m:Int} (hs:(P.underlying s).isSome=true) (ht:P.underlying t=some (.int k')) (hx:e.ev x=some (.int k m)) :
 Qy P (.convert s t x) ty e H G (.int k' (k'.wrap m)):=fun a w _ _ _ _ hh=>by
 cases hu:P.underlying s with
 | none=>simp [hu] at hs
 | some u=>simp [execOp,hh.eval hx,convert,aO hu,aO ht,Conv.intToInt]
abbrev jY:=@CX
theorem Dp {t t':TypeId} {x y:Operand} {m n:Bool} (ht:P.underlying t=some .bool) (hx:e.ev x=some (.bool m)) (hy:e.ev y=some (.bool n)) :
 Qy P (.binOp .eql t x y t') ty e H G (.bool (decide (m=n))):=fun a w _ _ _ _ hh=>by
 have:=run_equalIn_bool' (P:=P) w 9999 t m n ht
 simp [execOp,hh.eval hx,hh.eval hy,binOp,eqGuard,Op.equal,Op.maxDepth,this];rfl
theorem Kv {t t':TypeId} {x y:Operand} {m n:Bool} (ht:P.underlying t=some .bool) (hx:e.ev x=some (.bool m)) (hy:e.ev y=some (.bool n)) :
 Qy P (.binOp .neq t x y t') ty e H G (.bool (decide (m≠n))):=fun a w _ _ _ _ hh=>by
 have:=run_equalIn_bool' (P:=P) w 9999 t m n ht
 simp [execOp,hh.eval hx,hh.eval hy,binOp,eqGuard,Op.equal,Op.maxDepth,this];cases m <;> cases n <;> rfl
def Dq (P:Program) (s f off:Nat):Prop:=∀ b o w,(Instr.fieldAt s (.pointer (some ⟨b,o,none⟩)) f).run P w=.ok (.pointer (some ⟨b,o+off,none⟩)) w
theorem Qy.fieldAddr {s f:Nat} {x:Operand} {b o off:Nat} (hf:Dq P s f off) (hx:e.ev x=some (.pointer (some ⟨b,o,none⟩))) :
 Qy P (.fieldAddr s x f) ty e H G (.pointer (some ⟨b,o+off,none⟩)):=fun a w _ _ _ _ hh=>by simp [execOp,hh.eval hx,hf b o w]
theorem Qy.nilCheck {x:Operand} {ad:Addr} (hx:e.ev x=some (.pointer (some ad))):Qy P (.nilCheck x) ty e H G (.pointer (some ad)):=fun a w _ _ _ _ hh=>by simp [execOp,hh.eval hx]
theorem Kw {x:Operand} {r:Option Nat} (hx:e.ev x=some (.map r)):Qy P (.nilCheck x) ty e H G (.map r):=fun a w _ _ _ _ hh=>by simp [execOp,hh.eval hx]
theorem Ky {x:Operand} {f:FuncId} {fs cs:Array Value} (hx:e.ev x=some (.func (.func f) fs cs)):Qy P (.nilCheck x) ty e H G (.func (.func f) fs cs):=fun a w _ _ _ _ hh=>by simp [execOp,hh.eval hx]
theorem Kz {x:Operand} {f:Nat} {fs cs:Array Value} (hx:e.ev x=some (.func (.yield f) fs cs)):Qy P (.nilCheck x) ty e H G (.func (.yield f) fs cs):=fun a w _ _ _ _ hh=>by simp [execOp,hh.eval hx]
theorem uG {T:TypeId} {ad:Addr} {w:World} {v:Value} (h1:sY P T=true) (hc:w.cell? ad=some v):(Instr.loadAt T (.pointer (some ad))).run P w=.ok v w:=by
 simp [Instr.loadAt,Instr.sureAddr,loadVar,tG w h1,hc]
theorem uH {T k:TypeId} {b off:Nat} {w:World} {vs:List Value} (h1:tX P T k=true) (hl:vs.length=k) (hc:∀ j v,vs[j]?=some v→w.cell? ⟨b,off+j,none⟩=some v) :
 (Instr.loadAt T (.pointer (some ⟨b,off,none⟩))).run P w=.ok (.agg vs.toArray) w:=by
 subst hl
 have:=kK (P:=P) w ⟨b,off,none⟩ vs (fun j v hv=>by rw [add_lit];exact hc j v hv)
 simp [Instr.loadAt,Instr.sureAddr,loadVar,wR w h1,run_sizeOf w (El h1),this]
theorem Qy.load {T:TypeId} {x:Operand} {b off:Nat} {cs:List Value} {bt:TypeId} {fz:Nat×Nat} {v:Value} (t:Nat) (h1:sY P T=true)
 (hx:e.ev x=some (.pointer (some ⟨b,off,none⟩))) (ht:H.get t=some (some b,.cells cs.toArray bt fz)) (hv:cs[off]?=some v):Qy P (.load T x) ty e H G v:=fun a w _ _ _ _ hh=>by
 have hc:w.cell? ⟨b,off,none⟩=some v:=by rw [cell_of_block (hh.mem.own t b _ ht)];exact hv
 simp [execOp,hh.eval hx,uG h1 hc]
theorem Xj {T k:TypeId} {x:Operand} {b off:Nat} {cs:List Value} {bt:TypeId} {fz:Nat×Nat} {vs:List Value} (t:Nat) (h1:tX P T k=true)
 (hx:e.ev x=some (.pointer (some ⟨b,off,none⟩))) (ht:H.get t=some (some b,.cells cs.toArray bt fz)) (hv:(cs.drop off).take k=vs) (hl:vs.length=k):Qy P (.load T x) ty e H G (.agg vs.toArray):=
 fun a w _ _ _ _ hh=>by
  have hc:∀ j v,vs[j]?=some v→w.cell? ⟨b,off+j,none⟩=some v:=fun j v hj=>by
   rw [cell_of_block (hh.mem.own t b _ ht)]
   subst hv
   rw [gR] at hj
   split at hj
   · simpa using hj
   cases hj
  simp [execOp,hh.eval hx,uH h1 hl hc]
abbrev fM:=@Xj
theorem zE {T k:TypeId} {x:Operand} {b:Nat} {cs:List Value} {bt:TypeId} {fz:Nat×Nat} (t:Nat) (h1:tX P T k=true)
 (hx:e.ev x=some (.pointer (some ⟨b,0,none⟩))) (ht:H.get t=some (some b,.cells cs.toArray bt fz)) (hl:cs.length=k):Qy P (.load T x) ty e H G (.agg cs.toArray):=
 fM t h1 hx ht (by rw [jN,←hl,fK]) hl
theorem Xk {T:TypeId} {x:Operand} {b off:Nat} {v:Value} (h1:sY P T=true) (hx:e.ev x=some (.pointer (some ⟨b,off,none⟩))) (hv:G.cell b off=some v):Qy P (.load T x) ty e H G v:=
 fun a w _ _ _ _ hh=>by simp [execOp,hh.eval hx,uG h1 (hh.mem.cellG hv)]
abbrev dH:=@Xk
theorem Tx {T k:TypeId} {x:Operand} {b off:Nat} {vs:List Value} (h1:tX P T k=true) (hx:e.ev x=some (.pointer (some ⟨b,off,none⟩))) (hv:G.row b off vs) (hl:vs.length=k) :
 Qy P (.load T x) ty e H G (.agg vs.toArray):=fun a w _ _ _ _ hh=>by simp [execOp,hh.eval hx,uH h1 hl (fun j v hj=>hh.mem.cellG (hv j v hj))]
abbrev pN:=@Tx
theorem Qy.extract {x:Operand} {i:Nat} {vs:List Value} {v:Value} (hx:e.ev x=some (.tuple vs.toArray)) (hv:vs[i]?=some v):Qy P (.extract x i) ty e H G v:=
 fun a w _ _ _ _ hh=>by simp [execOp,hh.eval hx,Instr.extract,hv]
theorem Qy.makeFunc {f:FuncId} {xs ys:Array Operand} {us vs:List Value} (hx:e.evs xs.toList=some us) (hy:e.evs ys.toList=some vs):Qy P (.makeFunc (.func f) xs ys) ty e H G (.func (.func f) us.toArray vs.toArray):=
 fun a w _ _ _ _ hh=>by simp [execOp,Instr.makeFunc,hh.args hx,hh.args hy]
abbrev kU:=@Qy.makeFunc
def rH (P:Program) (T E sz:Nat):Prop:=P.underlying T=some (.slice E)∧(P.info? E).map (·.size)=some sz
theorem Qy.len {T:TypeId} {x:Operand} {ad:Option Addr} {n c:Nat} {E sz:Nat} (hT:rH P T E sz) (hx:e.ev x=some (.slice ad n c)) :
 Qy P (.call { callee:=.builtin .len,args:=#[x],argTypes:=#[T] }) ty e H G (.int .i64 n):=fun a w _ _ _ _ hh=>by
 simp [execOp,resolve,invoke,builtin,Builtin.len_,hh.eval hx,aO hT.1,goInt]
theorem Qy.cap {T:TypeId} {x:Operand} {ad:Option Addr} {n c:Nat} {E sz:Nat} (hT:rH P T E sz) (hx:e.ev x=some (.slice ad n c)) :
 Qy P (.call { callee:=.builtin .cap,args:=#[x],argTypes:=#[T] }) ty e H G (.int .i64 c):=fun a w _ _ _ _ hh=>by
 simp [execOp,resolve,invoke,builtin,Builtin.cap_,hh.eval hx,aO hT.1,goInt]
theorem Qy.min {ts:Array TypeId} {x y:Operand} {k:IntKind} {m n:Int} (hx:e.ev x=some (.int k m)) (hy:e.ev y=some (.int k n)) :
 Qy P (.call { callee:=.builtin .min,args:=#[x,y],argTypes:=ts }) ty e H G (.int k (if n<m then n else m)):=fun a w _ _ _ _ hh=>by
 simp [execOp,resolve,invoke,builtin,Builtin.min_,Builtin.min2,hh.eval hx,hh.eval hy]
theorem Qy.max {ts:Array TypeId} {x y:Operand} {k:IntKind} {m n:Int} (hx:e.ev x=some (.int k m)) (hy:e.ev y=some (.int k n)) :
 Qy P (.call { callee:=.builtin .max,args:=#[x,y],argTypes:=ts }) ty e H G (.int k (if m<n then n else m)):=fun a w _ _ _ _ hh=>by
 simp [execOp,resolve,invoke,builtin,Builtin.max_,Builtin.max2,hh.eval hx,hh.eval hy]
abbrev qR:=@Qy.max
theorem Qy.indexAddr {T:TypeId} {x i:Operand} {b o n c:Nat} {k:IntKind} {m:Int} {E sz:Nat} (hT:rH P T E sz) (hx:e.ev x=some (.slice (some ⟨b,o,none⟩) n c))
 (hi:e.ev i=some (.int k m)) (hb:0≤m∧m<n):Qy P (.indexAddr T x i) ty e H G (.pointer (some ⟨b,o+m.toNat*sz,none⟩)):=fun a w _ _ _ _ hh=>by
 simp [execOp,Instr.indexAt,hh.eval hx,hh.eval hi,asIntOf,aO hT.1,hb,run_sizeOf w hT.2,add_lit]
abbrev cL:=@Qy.indexAddr
def SlG (G:Imm) (a:Option Addr) (n sz:Nat) (cs:List Value):Prop:=
 cs.length=n*sz∧(n=0∨∃ b o,a=some ⟨b,o,none⟩∧G.row b o cs)
def ab (a:Option Addr):Nat:=match a with | some x=>x.block | none=>0
def ao (a:Option Addr):Nat:=match a with | some x=>x.off | none=>0
theorem SlG.le {G G':Imm} (h:G.le G') {a:Option Addr} {n sz:Nat} {cs:List Value} (hs:SlG G a n sz cs):SlG G' a n sz cs:=
 ⟨hs.1,hs.2.imp id fun ⟨b,o,ha,hr⟩=>⟨b,o,ha,Em h hr⟩⟩
theorem SlG.addr {G:Imm} {a:Option Addr} {n sz:Nat} {cs:List Value} (hs:SlG G a n sz cs) (hn:0<n):a=some ⟨ab a,ao a,none⟩:=by
 rcases hs.2 with h0 | ⟨b,o,rfl,_⟩
 · omega
 rfl
theorem SlG.row {G:Imm} {a:Option Addr} {n sz:Nat} {cs:List Value} (hs:SlG G a n sz cs) (hn:0<n):G.row (ab a) (ao a) cs:=by
 rcases hs.2 with h0 | ⟨b,o,rfl,h⟩
 · omega
 exact h
theorem If {T:TypeId} {x i:Operand} {ad:Option Addr} {n c:Nat} {k:IntKind} {m:Int} {E sz:Nat} {cs:List Value} (hT:rH P T E sz) (hx:e.ev x=some (.slice ad n c))
 (hi:e.ev i=some (.int k m)) (hs:SlG G ad n sz cs) (hb:0≤m∧m<n):Qy P (.indexAddr T x i) ty e H G (.pointer (some ⟨ab ad,ao ad+m.toNat*sz,none⟩)):=by
 have ha:=hs.addr qX
 rw [ha] at hx
 exact cL hT hx hi hb
def subA (a:Option Addr) (c l sz:Nat):Option Addr:=if c=l then a else a.map (·.add (l*sz))
end qy
section ops
variable {P:Program} {ops:Array Oper} {rest:List Oper} {B:Bs} {e:Env} {D:List Deferred} {H:Hp} {G:Imm} {K:Act→World→Prop}
 {ty:TypeId} {pos:String} {after:Array Edge} {d:Nat}
theorem Wl.q {o:Op} {v:Value} (hn:Nat.ble (d+1) B.n=true) (hq:Qy P o ty e H G v) (h:Wl P ops rest B ⟨(d,v) :: e,D,H,G⟩ K) :
 Wl P ops (⟨some d,o,ty,pos,after,none⟩ :: rest) B ⟨e,D,H,G⟩ K:=by
 intro a w hh
 unfold rM
 rw [aT (by simp [Region.wanted])]
 unfold vO
 rw [hq a w _ _ _ _ hh.look]
 exact h _ _ (hh.put hn v)
abbrev dS:=@Wl.q
theorem Na {o:Op} {v:Nat→Value} (t:Nat) {ob:Obj} (hn:Nat.ble (d+1) B.n=true)
 (hr:∀ a w,Hold B ⟨e,D,H,G⟩ a w→(execOp a.eval ⟨some d,o,ty,pos,after,none⟩).run P w=.ok (.value (v w.heap.size)) (w.alloc ob))
 (h:∀ b,Wl P ops rest B ⟨(d,v b) :: e,D,(t,some b,ob) :: H,G⟩ K):Wl P ops (⟨some d,o,ty,pos,after,none⟩ :: rest) B ⟨e,D,H,G⟩ K:=by
 intro a w hh
 unfold rM
 rw [aT (by simp [Region.wanted])]
 unfold vO
 rw [hr a w hh]
 exact h _ _ _ ((hh.alloc t ob).put hn _)
abbrev nM:=@Na
theorem Ty {dst:Option Nat} {o:Op} {v:Value} {t b:Nat} {ob ob':Obj} {x:Next} (ht:H.get t=some (some b,ob))
 (hx:(x=.skip∧dst=none)∨(x=.value v∧∃ d,dst=some d∧Nat.ble (d+1) B.n=true))
 (hr:∀ a w,Hold B ⟨e,D,H,G⟩ a w→∃ w',(execOp a.eval ⟨dst,o,ty,pos,after,none⟩).run P w=.ok x w'∧Upd (·=b) w w'∧w'.heap[b]?=some ob')
 (h:Wl P ops rest B ⟨(match dst with | some d=>(d,v) :: e | none=>e),D,(t,some b,ob') :: H,G⟩ K) :
 Wl P ops (⟨dst,o,ty,pos,after,none⟩ :: rest) B ⟨e,D,H,G⟩ K:=by
 intro a w hh
 obtain ⟨w',hrun,hu,hb⟩:=hr a w hh
 unfold rM
 rw [aT (by simp [Region.wanted])]
 unfold vO
 rw [hrun]
 rcases hx with ⟨rfl,rfl⟩ | ⟨rfl,d,rfl,hn⟩
 · exact h _ _ (hh.set ht hu hb)
 exact h _ _ ((hh.set ht hu hb).put hn v)
abbrev qO:=@Ty
theorem Wl.want {dst:Option Nat} {o:Op} {j:Nat} {want:Bool} {t:Nat} (hj:(ops[j]?).bind (·.dst)=some t) (he:e.get t=some (.bool want))
 (h:Wl P ops (⟨dst,o,ty,pos,after,none⟩ :: rest) B ⟨e,D,H,G⟩ K):Wl P ops (⟨dst,o,ty,pos,after,some (j,want)⟩ :: rest) B ⟨e,D,H,G⟩ K:=by
 intro a w hh
 have h1:=h a w hh
 unfold rM at h1 ⊢
 rw [aT (by simp [Region.wanted])] at h1
 have hy:yielded ops a.tmps j=some want:=by simp [yielded,hj,hh.env t _ he]
 rw [aT (by simp [Region.wanted,hy])]
 exact h1
theorem Wl.pass {o:Op} {j:Nat} {want:Bool} {t:Nat} (hj:(ops[j]?).bind (·.dst)=some t) (he:e.get t=some (.bool (!want))) (hn:Nat.ble (d+1) B.n=true)
 (h:Wl P ops rest B ⟨(d,undef) :: e,D,H,G⟩ K):Wl P ops (⟨some d,o,ty,pos,after,some (j,want)⟩ :: rest) B ⟨e,D,H,G⟩ K:=by
 intro a w hh
 unfold rM
 have hy:yielded ops a.tmps j=some (!want):=by simp [yielded,hj,hh.env t _ he]
 rw [aF (by simp [Region.wanted,hy])]
 exact h _ _ (hh.put hn undef)
theorem Jf {v:Value} (h:v.oneCell'=true):v.cells=#[v]:=by cases v <;> simp_all [Value.oneCell',Value.cells]
theorem tA (w:World) (g:Nat) (c:Array Value):Upd (·=g) w (w.setRow g c):=
 ⟨rfl,rfl,rfl,by simp [World.setRow],fun k _ hk=>setRow_other w g k _ hk⟩
theorem Ig (cs:List Value) (off:Nat) (v:Value) (h:off<cs.length):cs.take off++[v]++cs.drop (off+1)=cs.set off v:=by
 rw [List.set_eq_take_append_cons_drop,aT h];simp
theorem wM {T:TypeId} {b off:Nat} {w:World} {cs vs:List Value} {bt:TypeId} {v:Value} (hs:(P.info? T).map (·.size)=some vs.length) (hv:v.cells=vs.toArray)
 (h1:vs.all (·.oneCell')=true) (hb:w.heap[b]?=some (.cells cs.toArray bt (0,0))) (ho:off+vs.length≤cs.length) :
 (Instr.storeAt T (.pointer (some ⟨b,off,none⟩)) v).run P w=.ok () (w.setRow b (cs.take off++vs++cs.drop (off+vs.length)).toArray):=by
 have hst:=nK P b off bt vs 0 cs.toArray w hb (by simpa using ho) (by simpa using h1)
 simp only [gJ] at hst
 simp [Instr.storeAt,Instr.sureAddr,storeVar,run_sizeOf w hs,hv,hst]
theorem Wl.store {T:TypeId} {x y:Operand} {b off:Nat} {cs:List Value} {bt:TypeId} {v:Value} (t:Nat) (hs:sY P T=true)
 (hx:e.ev x=some (.pointer (some ⟨b,off,none⟩))) (hy:e.ev y=some v) (h1:v.oneCell'=true) (ht:H.get t=some (some b,.cells cs.toArray bt (0,0))) (ho:Nat.ble (off+1) cs.length=true)
 (h:Wl P ops rest B ⟨e,D,(t,some b,.cells (cs.set off v).toArray bt (0,0)) :: H,G⟩ K):Wl P ops (⟨none,.store T x y,ty,pos,after,none⟩ :: rest) B ⟨e,D,H,G⟩ K:=
 qO (v:=undef) (x:=.skip) ht (.inl ⟨rfl,rfl⟩) (fun a w hh=>by
  have ho':=aU ho
  have hb:=hh.mem.own t b _ ht
  have:=wM (P:=P) (T:=T) (off:=off) (cs:=cs) (vs:=[v]) (Xi hs) (by rw [Jf h1]) (by simp [h1]) hb ho'
  refine ⟨_,by simp [execOp,hh.eval hx,hh.eval hy,this];rfl,tA w b _,?_⟩
  rw [mC w b _ _ bt _ hb,←Ig cs off v ho'];simp) h
theorem Tz {T:TypeId} {x y:Operand} {b off k:Nat} {cs vs:List Value} {bt:TypeId} (t:Nat) (hs:(P.info? T).map (·.size)=some k)
 (hx:e.ev x=some (.pointer (some ⟨b,off,none⟩))) (hy:e.ev y=some (.agg vs.toArray)) (hk:vs.length=k) (h1:vs.all (·.oneCell')=true) (ht:H.get t=some (some b,.cells cs.toArray bt (0,0))) (ho:Nat.ble (off+vs.length) cs.length=true)
 (h:Wl P ops rest B ⟨e,D,(t,some b,.cells (cs.take off++vs++cs.drop (off+vs.length)).toArray bt (0,0)) :: H,G⟩ K):Wl P ops (⟨none,.store T x y,ty,pos,after,none⟩ :: rest) B ⟨e,D,H,G⟩ K:=
 qO (v:=undef) (x:=.skip) ht (.inl ⟨rfl,rfl⟩) (fun a w hh=>by
  have ho':=aU ho
  have hb:=hh.mem.own t b _ ht
  have:=wM (P:=P) (T:=T) (off:=off) (cs:=cs) (vs:=vs) (v:=.agg vs.toArray) (by rw [hk];exact hs) rfl h1 hb ho'
  refine ⟨_,by simp [execOp,hh.eval hx,hh.eval hy,this];rfl,tA w b _,?_⟩
  rw [mC w b _ _ bt _ hb,cV]) h
abbrev qP:=@Tz
theorem Nb {T:TypeId} {x y:Operand} {b k:Nat} {cs vs:List Value} {bt:TypeId} (t:Nat) (hs:(P.info? T).map (·.size)=some k)
 (hx:e.ev x=some (.pointer (some ⟨b,0,none⟩))) (hy:e.ev y=some (.agg vs.toArray)) (hk:vs.length=k) (h1:vs.all (·.oneCell')=true) (ht:H.get t=some (some b,.cells cs.toArray bt (0,0))) (ho:Nat.beq vs.length cs.length=true)
 (h:Wl P ops rest B ⟨e,D,(t,some b,.cells vs.toArray bt (0,0)) :: H,G⟩ K):Wl P ops (⟨none,.store T x y,ty,pos,after,none⟩ :: rest) B ⟨e,D,H,G⟩ K:=by
 have hl:vs.length=cs.length:=aB ho
 refine qP t hs hx hy hk h1 ht (by rw [hl];simp) ?_
 rw [bY,fD,bO,hl,List.drop_length,eN]
 exact h
theorem Wl.box {T:TypeId} {x:Operand} {v:Value} {cs:List Value} (t:Nat) (hn:Nat.ble (d+1) B.n=true) (hx:e.ev x=some v) (hv:v.cells=cs.toArray)
 (h:∀ b,Wl P ops rest B ⟨(d,.pointer (some ⟨b,0,none⟩)) :: e,D,(t,some b,.cells cs.toArray T (0,0)) :: H,G⟩ K) :
 Wl P ops (⟨some d,.box T x,ty,pos,after,none⟩ :: rest) B ⟨e,D,H,G⟩ K:=
 nM (v:=fun b=>.pointer (some ⟨b,0,none⟩)) t hn (fun a w hh=>by simp [execOp,Instr.box,newVar,newRow,hh.eval hx,hv]) h
abbrev lK:=@Wl.box
def ZeroOf (P:Program) (T:TypeId) (cs:List Value):Prop:=∀ w,∃ z,(zeroValue T).run P w=.ok z w∧z.cells=cs.toArray
theorem ZeroOf.of {P:Program} {T:TypeId} {cs:List Value} (h:((P.info? T).bind (·.zero)).map (·.cells)=some cs.toArray):ZeroOf P T cs:=fun w=>by
 cases hi:P.info? T with
 | none=>simp [hi] at h
 | some i =>
   cases hz:i.zero with
   | none=>simp [hi,hz] at h
   | some z=>exact ⟨z,by simp [zeroValue,typeInfo,hi,hz],by simpa [hi,hz] using h⟩
abbrev jS:=@ZeroOf.of
theorem Wl.alloc {T:TypeId} {cs:List Value} (t:Nat) (hn:Nat.ble (d+1) B.n=true) (hz:ZeroOf P T cs)
 (h:∀ b,Wl P ops rest B ⟨(d,.pointer (some ⟨b,0,none⟩)) :: e,D,(t,some b,.cells cs.toArray T (0,0)) :: H,G⟩ K) :
 Wl P ops (⟨some d,.alloc T,ty,pos,after,none⟩ :: rest) B ⟨e,D,H,G⟩ K:=
 nM (v:=fun b=>.pointer (some ⟨b,0,none⟩)) t hn (fun a w hh=>by
  obtain ⟨z,hz,hc⟩:=hz w
  simp [execOp,Instr.alloc,newVar,newRow,hz,hc]) h
abbrev aW:=@Wl.alloc
end ops
theorem Ih (A B:Hp) (i:Nat):Hp.get (A++B) i=(Hp.get A i).or (Hp.get B i):=by
 induction A with
 | nil=>rfl
 | cons x A ih =>
   obtain ⟨j,v⟩:=x
   show Hp.get ((j,v) :: (A++B)) i=_
   rw [bF,bF,ih]
   split <;> rfl
abbrev fU:=@Ih
def Hp.shift (k:Nat):Hp→Hp
 | []=>[]
 | (t,x) :: h=>(k+t,x) :: Hp.shift k h
def Hp.kill (k:Nat):Hp→Hp
 | []=>[]
 | (t,_) :: h=>(k+t,none,default) :: Hp.kill k h
theorem Lb (k:Nat) (h:Hp) (i:Nat):(h.shift k).get i=if k≤i then h.get (i - k) else none:=by
 induction h with
 | nil=>simp [Hp.shift,Hp.get]
 | cons x h ih =>
   obtain ⟨t,x⟩:=x
   show Hp.get ((k+t,x) :: Hp.shift k h) i=_
   rw [bF,ih,bF]
   by_cases hi:k≤i
   · rw [aT hi,aT hi]
     by_cases ht:k+t=i
     · rw [aT ht,aT (by omega)]
     rw [aF ht,aF (by omega)]
   rw [aF hi,aF hi,aF (by omega)]
abbrev iS:=@Lb
theorem Bq {k:Nat} {h:Hp} {i:Nat} {x:Option Nat×Obj} (hx:(h.kill k).get i=some x):x.1=none:=by
 induction h with
 | nil=>simp [Hp.kill,Hp.get] at hx
 | cons y h ih =>
   obtain ⟨t,y⟩:=y
   have hx':Hp.get ((k+t,none,default) :: Hp.kill k h) i=some x:=hx
   rw [bF] at hx'
   split at hx'
   · simp only [bL] at hx';rw [←hx']
   exact ih hx'
theorem Br {k:Nat} {h:Hp} {i:Nat} (hx:(h.kill k).get i=none):∀ t x,h.get t=some x→i≠k+t:=by
 induction h with
 | nil=>intro t x h;simp [Hp.get] at h
 | cons y h ih =>
   obtain ⟨t,y⟩:=y
   intro t' x hg he
   have hx':Hp.get ((k+t,none,default) :: Hp.kill k h) i=none:=hx
   rw [bF] at hx' hg
   split at hx'
   · cases hx'
   rename_i hne
   split at hg
   · rename_i h2;omega
   exact ih hx' t' x hg he
def tM (G:Imm) (Hi:Hp) (w:World) (post:Value→Imm→Hp→Prop):Ending→World→Prop:=fun x w' =>
 ∃ v G' Ho,x=.returned v∧HoldH Ho G' w'∧G.le G'∧Upd Hi.has w w'∧(∀ b,G' b≠none→G b=none→w.heap.size≤b∨Hi.has b)∧
  (∀ t b o,Ho.get t=some (some b,o)→w.heap.size≤b∨Hi.has b)∧post v G' Ho
def Does (P:Program) (f:FuncId) (args:List Value) (G:Imm) (Hi:Hp) (post:Value→Imm→Hp→Prop):Prop:=
 ∀ w,HoldH Hi G w→Calls P f args.toArray w (tM G Hi w post)
theorem Does.mono {P:Program} {f:FuncId} {args:List Value} {G:Imm} {Hi:Hp} {post post':Value→Imm→Hp→Prop} (h:Does P f args G Hi post)
 (hp:∀ v G' Ho,G.le G'→post v G' Ho→post' v G' Ho):Does P f args G Hi post':=
 fun w hw=>(h w hw).mono fun _ _ ⟨v,G',Ho,h1,h2,h3,h4,h5,h6,h7⟩=>⟨v,G',Ho,h1,h2,h3,h4,h5,h6,hp v G' Ho h3 h7⟩
section
variable {P:Program} {B:Bs} {e:Env} {D:List Deferred} {H:Hp} {G:Imm}
theorem Hold.called {a:Act} {w w':World} (hh:Hold B ⟨e,D,H,G⟩ a w) {Hi:Hp} (k:Nat) (hHi:∀ t x,Hi.get t=some x→H.get (k+t)=some x)
 {G':Imm} {Ho:Hp} (h2:HoldH Ho G' w') (h3:G.le G') (h4:Upd Hi.has w w') (h5:∀ b,G' b≠none→G b=none→w.heap.size≤b∨Hi.has b)
 (h6:∀ t b o,Ho.get t=some (some b,o)→w.heap.size≤b∨Hi.has b):Hold B ⟨e,D,Ho.shift k++(Hi.kill k++H),G'⟩ a w':=by
 have hin:∀ b,Hi.has b→∃ t o,H.get (k+t)=some (some b,o)∧Hi.get t=some (some b,o):=fun b ⟨t,o,h⟩=>⟨t,o,hHi t _ h,h⟩
 have hmine:∀ b,Hi.has b→B.W.heap.size≤b∨B.X b:=fun b hb=>by obtain ⟨t,o,h,_⟩:=hin b hb;exact hh.mine _ b o h
 -- what is left of H: its blocks are none of Hi's
 have hleft:∀ i b o,(Hi.kill k++H).get i=some (some b,o)→H.get i=some (some b,o)∧¬Hi.has b:=by
  intro i b o hx
  rw [fU] at hx
  cases hk:(Hi.kill k).get i with
  | some x =>
    rw [hk] at hx
    have h1:=Bq hk
    have hx':x=(some b,o):=by simpa using hx
    rw [hx'] at h1
    cases h1
  | none =>
    rw [hk] at hx
    simp only [nD] at hx
    refine ⟨hx,fun hb=>?_⟩
    obtain ⟨t,o',h1,h1'⟩:=hin b hb
    have:=hh.mem.one _ _ b _ _ hx h1
    exact Br hk t _ h1' this
 have hsplit:∀ i b o,(Ho.shift k++(Hi.kill k++H)).get i=some (some b,o)→(k≤i∧Ho.get (i - k)=some (some b,o))∨(H.get i=some (some b,o)∧¬Hi.has b):=by
  intro i b o hx
  rw [fU,iS] at hx
  by_cases hi:k≤i
  · rw [aT hi] at hx
    cases hg:Ho.get (i - k) with
    | some x=>rw [hg] at hx;exact .inl ⟨hi,by simpa using hx⟩
    | none=>rw [hg] at hx;simp only [nD] at hx;exact .inr (hleft i b o hx)
  rw [aF hi] at hx;simp only [nD] at hx;exact .inr (hleft i b o hx)
 have hfar:∀ t b o i o',Ho.get t=some (some b,o)→H.get i=some (some b,o')→¬Hi.has b→False:=fun t b o i o' h1 h2 h3=>by
  rcases h6 t b o h1 with h | h
  · have:b<w.heap.size:=hh.mem.lt h2;omega
  exact h3 h
 refine ⟨hh.size,hh.defers,hh.env,⟨?_,?_,h2.imm,?_⟩,?_,?_,bI hh.le h3,?_⟩
 · intro i b o hx
   rcases hsplit i b o hx with ⟨_,h⟩ | ⟨h,hn⟩
   · exact h2.own _ b o h
   rw [h4.same b (hh.mem.lt h) hn];exact hh.mem.own _ b o h
 · intro i j b o o' hx hy
   rcases hsplit i b o hx with ⟨hi,h⟩ | ⟨h,hn⟩ <;> rcases hsplit j b o' hy with ⟨hj,h'⟩ | ⟨h',hn'⟩
   · have:=h2.one _ _ b _ _ h h';omega
   · exact (hfar _ b _ _ _ h h' hn').elim
   · exact (hfar _ b _ _ _ h' h hn).elim
   exact hh.mem.one _ _ b _ _ h h'
 · intro i b o hx
   rcases hsplit i b o hx with ⟨_,h⟩ | ⟨h,hn⟩
   · exact h2.off _ b o h
   have hg:G b=none:=hh.mem.off i b o h
   cases hb:G' b with
   | none=>exact hb
   | some x =>
     rcases h5 b (by rw [hb];simp) hg with h' | h'
     · have:b<w.heap.size:=hh.mem.lt h;omega
     exact (hn h').elim
 · refine ⟨h4.os.trans hh.upd.os,h4.tape.trans hh.upd.tape,h4.output.trans hh.upd.output,aK hh.upd.size h4.size,fun b hb hx=>?_⟩
   by_cases hi:Hi.has b
   · rcases hmine b hi with h' | h'
     · omega
     exact (hx h').elim
   exact (h4.same b (bG hb hh.upd.size) hi).trans (hh.upd.same b hb hx)
 · intro i b o hx
   rcases hsplit i b o hx with ⟨_,h⟩ | ⟨h,_⟩
   · rcases h6 _ b o h with h' | h'
     · exact .inl (aK hh.upd.size h')
     exact hmine b h'
   exact hh.mine i b o h
 intro b hb h0
 by_cases hg:G b=none
 · rcases h5 b hb hg with h' | h'
   · exact .inl (aK hh.upd.size h')
   exact hmine b h'
 exact hh.new b hg h0
section call
variable {ops:Array Oper} {rest:List Oper} {K:Act→World→Prop} {ty:TypeId} {pos:String} {after:Array Edge} {d:Nat}
theorem vP {f : FuncId} {fn : Func} (w : World) (args : Array Value) (hf : P.funcs[f]? = some fn) (hb : fn.body.isSome = true) (hn : (fn.name == "runtime.NumGoroutine") = false) :
 (callFunc f args).run P w=.ok (.enter f args) w:=by
 have h1:fn.body≠none:=by intro h;simp [h] at hb
 have h2 : fn.name ≠ "runtime.NumGoroutine" := by simpa using hn
 simp [callFunc,hf,h1,h2]
def uE (P : Program) (f : FuncId) : Prop := ∃ fn, P.funcs[f]? = some fn ∧ fn.body.isSome = true ∧ (fn.name == "runtime.NumGoroutine") = false
theorem Xl {g:Operand} {f:FuncId} {fst cap:List Value} {xs:Array Operand} {ats:Array TypeId} {vs:List Value} {Hi:Hp} {post:Value→Imm→Hp→Prop} (k:Nat)
 (hn:Nat.ble (d+1) B.n=true) (hf:uE P f) (hg:e.ev g=some (.func (.func f) fst.toArray cap.toArray)) (hx:e.evs xs.toList=some vs)
 (hF:Does P f (fst++vs++cap) G Hi post) (hHi:∀ t x,Hi.get t=some x→H.get (k+t)=some x)
 (h:∀ v G' Ho,G.le G'→post v G' Ho→Wl P ops rest B ⟨(d,v) :: e,D,Ho.shift k++(Hi.kill k++H),G'⟩ K) :
 Wl P ops (⟨some d,.call { callee:=.value g,args:=xs,argTypes:=ats },ty,pos,after,none⟩ :: rest) B ⟨e,D,H,G⟩ K:=by
 intro a w hh
 obtain ⟨fn,h1,h2,h3⟩:=hf
 unfold rM
 rw [aT (by simp [Region.wanted])]
 unfold vO
 have hrun:(execOp a.eval ⟨some d,.call { callee:=.value g,args:=xs,argTypes:=ats },ty,pos,after,none⟩).run P w=.ok (.enter f (fst++vs++cap).toArray) w:=by
  simp [execOp,resolve,Deferred.ofValue,invoke,hh.eval hg,hh.args hx,vP w _ h1 h2 h3]
 rw [hrun]
 have hw:HoldH Hi G w:=⟨fun t b o x=>hh.mem.own _ b o (hHi _ _ x),fun t t' b o o' x y=>by have:=hh.mem.one _ _ b _ _ (hHi _ _ x) (hHi _ _ y);omega,hh.mem.imm,fun t b o x=>hh.mem.off _ b o (hHi _ _ x)⟩
 refine (hF w hw).mono fun x w' ⟨v,G',Ho,h1,h2,h3,h4,h5,h6,h7⟩=>⟨v,h1,?_⟩
 exact h v G' Ho h3 h7 _ _ ((hh.called k hHi h2 h3 h4 h5 h6).put hn v)
abbrev fX:=@Xl
theorem Wl.call {f:FuncId} {xs:Array Operand} {ats:Array TypeId} {vs:List Value} {Hi:Hp} {post:Value→Imm→Hp→Prop} (k:Nat)
 (hn:Nat.ble (d+1) B.n=true) (hf:uE P f) (hx:e.evs xs.toList=some vs)
 (hF:Does P f vs G Hi post) (hHi:∀ t x,Hi.get t=some x→H.get (k+t)=some x)
 (h:∀ v G' Ho,G.le G'→post v G' Ho→Wl P ops rest B ⟨(d,v) :: e,D,Ho.shift k++(Hi.kill k++H),G'⟩ K) :
 Wl P ops (⟨some d,.call { callee:=.value (.func f),args:=xs,argTypes:=ats },ty,pos,after,none⟩ :: rest) B ⟨e,D,H,G⟩ K:=
 fX (fst:=[]) (cap:=[]) k hn hf rfl hx (by simpa using hF) hHi h
theorem Xm {f:FuncId} {xs:Array Operand} {ats:Array TypeId} {vs:List Value} {r:Value}
 (hn:Nat.ble (d+1) B.n=true) (hf:uE P f) (hx:e.evs xs.toList=some vs)
 (hF:Does P f vs G [] (fun v G' Ho=>v=r∧G'=G∧Ho=[]))
 (h:Wl P ops rest B ⟨(d,r) :: e,D,H,G⟩ K) :
 Wl P ops (⟨some d,.call { callee:=.value (.func f),args:=xs,argTypes:=ats },ty,pos,after,none⟩ :: rest) B ⟨e,D,H,G⟩ K:=
 Wl.call 0 hn hf hx hF (fun t x h=>by simp [Hp.get] at h) (fun v G' Ho _ ⟨h1,h2,h3⟩=>by subst h1 h2 h3;exact h)
end call
def sU:Nat→List Value→Env
 | _,[]=>[]
 | i,v :: vs=>(i,v) :: sU (i+1) vs
theorem xR:∀ (vs:List Value) (i j:Nat) (v:Value),(sU i vs).get j=some v→i≤j∧vs[j - i]?=some v
 | [],i,j,v,h=>by simp [sU,Env.get] at h
 | u :: vs,i,j,v,h=>by
   have h':Env.get ((i,u) :: sU (i+1) vs) j=some v:=h
   rw [fV] at h'
   split at h'
   · rename_i hij;subst hij;simpa using h'
   obtain ⟨h1,h2⟩:=xR vs (i+1) j v h'
   refine ⟨by omega,?_⟩
   rw [show j - i=(j - (i+1))+1 by omega]
   simpa using h2
abbrev pI:=@xR
def Ua (P:Program) (fn:Func) (G:Imm) (Hi:Hp) (w:World) (post:Value→Imm→Hp→Prop):Exit→Act→World→Prop:=bodyPost P fn (tM G Hi w post)
theorem Does.enter {f:FuncId} {fn:Func} {c:Code} {n:Nat} {args:List Value} {Hi:Hp} {post:Value→Imm→Hp→Prop} (hf:P.funcs[f]?=some fn) (hb:fn.body=some c) (hn:fn.ntmps=n)
 (hl:Nat.ble args.length n=true) (h:∀ w,Wc none P c ⟨n,w,Hi.has,G⟩ ⟨sU 0 args,[],Hi,G⟩ (Ua P fn G Hi w post)):Does P f args G Hi post:=by
 intro w hw
 have hl':=aU hl
 refine uT.1 (callsIn_of_wp (F:=FF none) (n:=0) hf hb trivial (h w _ w ?_))
 refine ⟨?_,rfl,?_,hw,jF _ _,fun t b o hx=>.inr ⟨t,o,hx⟩,cC _,fun b h1 h2=>(h1 h2).elim⟩
 · simp [hn];omega
 intro i v hi
 obtain ⟨_,h2⟩:=pI args 0 i v hi
 have h2':args[i]?=some v:=by simpa using h2
 have hlt:i<args.length:=(aJ.1 h2').1
 show (args.toArray++Array.replicate (fn.ntmps - args.toArray.size) undef)[i]?=some v
 rw [nI (by simpa using hlt)]
 simpa using h2'
abbrev fG:=@Does.enter
def ResV (P:Program) (S:St) (x:ResultVar) (v:Value):Prop:=
 (∃ t,x=.tmp t∧S.e.get t=some v)∨
 (∃ t T b tag cs bt fz,x=.cell t T∧S.e.get t=some (.pointer (some ⟨b,0,none⟩))∧S.H.get tag=some (some b,.cells cs bt fz)∧
  ((tX P T cs.size=true∧v=.agg cs)∨(sY P T=true∧cs[0]?=some v)))
theorem ResV.tmp {S:St} {t:Nat} {v:Value} (h:S.e.get t=some v):ResV P S (.tmp t) v:=.inl ⟨t,rfl,h⟩
theorem ResV.agg {S:St} {t T b:Nat} {cs:List Value} {bt:TypeId} {fz:Nat×Nat} (tag:Nat) (h:S.e.get t=some (.pointer (some ⟨b,0,none⟩))) (hH:S.H.get tag=some (some b,.cells cs.toArray bt fz))
 (hT:tX P T cs.length=true):ResV P S (.cell t T) (.agg cs.toArray):=.inr ⟨t,T,b,tag,cs.toArray,bt,fz,rfl,h,hH,.inl ⟨by simpa using hT,rfl⟩⟩
def vV (tmps:Array Value):ResultVar→Sem Value:=fun
 | .tmp t=>pure (tmps.getD t undef)
 | .cell a t=>do loadVar t (←asAddr (tmps.getD a undef))
theorem ResV.run {S:St} {x:ResultVar} {v:Value} {a:Act} {w:World} (h:ResV P S x v) (hh:Hold B S a w):(vV a.tmps x).run P w=.ok v w:=by
 rcases h with ⟨t,rfl,ht⟩ | ⟨t,T,b,tag,cs,bt,fz,rfl,ht,hH,hT⟩
 · have:=hh.env t v ht
   simp [vV,this]
 have h1:=hh.env t _ ht
 have h2:=hh.mem.own tag b _ hH
 simp only [vV]
 have h3:a.tmps.getD t undef=.pointer (some ⟨b,0,none⟩):=by simp [h1]
 rw [h3]
 rcases hT with ⟨hT,rfl⟩ | ⟨hT,hv⟩
 · have hl:=uH (P:=P) (T:=T) (b:=b) (off:=0) (w:=w) (vs:=cs.toList) hT rV (fun j v hj=>by
    simp only [bO]
    rw [cell_of_block (cs:=cs.toList) (by simpa using h2)];exact hj)
   simpa [Instr.loadAt,Instr.sureAddr,asAddr] using hl
 have hl:=uG (P:=P) (T:=T) (ad:=⟨b,0,none⟩) (w:=w) (v:=v) hT (by rw [cell_of_block (cs:=cs.toList) (by simpa using h2)];simpa using hv)
 simpa [Instr.loadAt,Instr.sureAddr,asAddr] using hl
theorem vW (fn:Func) (tmps:Array Value):results fn tmps=(do let vs ←fn.results.mapM (vV tmps);pure (if h:vs.size=1 then vs[0] else .tuple vs)):=rfl
section ret
variable {fn:Func} {G0:Imm} {Hi:Hp} {w0:World} {post:Value→Imm→Hp→Prop} {n:Nat} {v:Value} {x:Exit}
theorem Ar.out (hx:x=.normal∨x=.ret) {Ho:Hp} (hHo:H.sub Ho) (hr:∀ a w,Hold ⟨n,w0,Hi.has,G0⟩ ⟨e,[],H,G⟩ a w→(results fn a.tmps).run P w=.ok v w)
 (hp:post v G Ho):Ar (Ua P fn G0 Hi w0 post) x ⟨n,w0,Hi.has,G0⟩ ⟨e,[],H,G⟩:=by
 intro a w hh
 have hH:=hh.weaken (e':=e) (H':=Ho) (fun _ _ h=>h) (kN hHo)
 have key:a.defers=[]∧∃ v,(results fn a.tmps).run P w=.ok v w∧tM G0 Hi w0 post (.returned v) w:=
  ⟨hh.defers,v,hr a w hh,v,G,Ho,rfl,hH.mem,hh.le,hh.upd,hh.new,hH.mine,hp⟩
 rcases hx with rfl | rfl <;> exact key
theorem CY (hx:x=.normal∨x=.ret) {Ho:Hp} {r1:ResultVar} {v1:Value} (hres:fn.results=#[r1]) (h1:ResV P ⟨e,[],H,G⟩ r1 v1) (hHo:H.sub Ho) (hp:post v1 G Ho) :
 Ar (Ua P fn G0 Hi w0 post) x ⟨n,w0,Hi.has,G0⟩ ⟨e,[],H,G⟩:=
 Ar.out hx hHo (fun a w hh=>by simp [vW,hres,h1.run hh]) hp
abbrev eH:=@CY
theorem CZ (hx:x=.normal∨x=.ret) {Ho:Hp} {r1 r2:ResultVar} {v1 v2:Value} (hres:fn.results=#[r1,r2]) (h1:ResV P ⟨e,[],H,G⟩ r1 v1) (h2:ResV P ⟨e,[],H,G⟩ r2 v2) (hHo:H.sub Ho)
 (hp:post (.tuple #[v1,v2]) G Ho):Ar (Ua P fn G0 Hi w0 post) x ⟨n,w0,Hi.has,G0⟩ ⟨e,[],H,G⟩:=
 Ar.out hx hHo (fun a w hh=>by simp [vW,hres,h1.run hh,h2.run hh]) hp
abbrev oO:=@CZ
theorem zW (hx:x=.normal∨x=.ret) {Ho:Hp} {r1 r2 r3:ResultVar} {v1 v2 v3:Value} (hres:fn.results=#[r1,r2,r3]) (h1:ResV P ⟨e,[],H,G⟩ r1 v1) (h2:ResV P ⟨e,[],H,G⟩ r2 v2)
 (h3:ResV P ⟨e,[],H,G⟩ r3 v3) (hHo:H.sub Ho) (hp:post (.tuple #[v1,v2,v3]) G Ho):Ar (Ua P fn G0 Hi w0 post) x ⟨n,w0,Hi.has,G0⟩ ⟨e,[],H,G⟩:=
 Ar.out hx hHo (fun a w hh=>by simp [vW,hres,h1.run hh,h2.run hh,h3.run hh]) hp
end ret
def Imm.with (G:Imm) (b:Nat) (o:Obj):Imm:=fun k=>if k=b then some o else G k
theorem Hold.freeze {a:Act} {w:World} (hh:Hold B ⟨e,D,H,G⟩ a w) {t b:Nat} {o:Obj} (ht:H.get t=some (some b,o)) :
 Hold B ⟨e,D,(t,none,default) :: H,G.with b o⟩ a w∧G.le (G.with b o):=by
 have hG:G b=none:=hh.mem.off t b o ht
 have hle:G.le (G.with b o):=fun k x hk=>by
  unfold Imm.with
  split
  · rename_i h;subst h;rw [hG] at hk;cases hk
  exact hk
 have hget:∀ i b' o',Hp.get ((t,none,default) :: H) i=some (some b',o')→t≠i∧H.get i=some (some b',o'):=fun i b' o' hx=>by
  rw [bF] at hx
  split at hx
  · simp at hx
  rename_i h;exact ⟨h,hx⟩
 refine ⟨⟨hh.size,hh.defers,hh.env,⟨?_,?_,?_,?_⟩,hh.upd,?_,bI hh.le hle,?_⟩,hle⟩
 · intro i b' o' hx;exact hh.mem.own i b' o' (hget i b' o' hx).2
 · intro i j b' o1 o2 hx hy;exact hh.mem.one i j b' o1 o2 (hget _ _ _ hx).2 (hget _ _ _ hy).2
 · intro k x hk
   have hk':(if k=b then some o else G k)=some x:=hk
   split at hk'
   · rename_i h;subst h;simp only [bL] at hk';subst hk';exact hh.mem.own t k o ht
   exact hh.mem.imm k x hk'
 · intro i b' o' hx
   obtain ⟨hne,hg⟩:=hget i b' o' hx
   show (if b'=b then some o else G b')=none
   split
   · rename_i h;subst h;exact (hne (hh.mem.one _ _ _ _ _ ht hg)).elim
   exact hh.mem.off i b' o' hg
 · intro i b' o' hx;exact hh.mine i b' o' (hget i b' o' hx).2
 intro k hk h0
 have hk':(if k=b then some o else G k)≠none:=hk
 split at hk'
 · rename_i h;subst h;exact hh.mine t k o ht
 exact hh.new k hk' h0
section freeze
variable {ops:Array Oper} {l:List Oper} {K:Act→World→Prop} {r:Option Nat} {c:Code} {Q:Exit→Act→World→Prop} {x:Exit}
theorem Wl.freeze (t:Nat) {b:Nat} {o:Obj} (ht:H.get t=some (some b,o)) (h:∀ G',G.le G'→G' b=some o→Wl P ops l B ⟨e,D,(t,none,default) :: H,G'⟩ K):Wl P ops l B ⟨e,D,H,G⟩ K:=
 fun a w hh=>h _ (hh.freeze ht).2 (by simp [Imm.with]) a w (hh.freeze ht).1
theorem Ar.freeze (t:Nat) {b:Nat} {o:Obj} (ht:H.get t=some (some b,o)) (h:∀ G',G.le G'→G' b=some o→Ar Q x B ⟨e,D,(t,none,default) :: H,G'⟩):Ar Q x B ⟨e,D,H,G⟩:=
 fun a w hh=>h _ (hh.freeze ht).2 (by simp [Imm.with]) a w (hh.freeze ht).1
abbrev pT:=@Ar.freeze
end freeze
end
section gm
variable {P:Program} {ops:Array Oper} {K:Act→World→Prop}
def stp (P:Program) (ops:Array Oper) (i:Nat) (K:Act→World→Prop) (a:Act) (w:World):Prop:=
 match ops[i]? with
 | none=>K a w
 | some o=>if Region.wanted o (yielded ops a.tmps) then vO P o a w K else K (a.put o.dst undef) w
theorem Eo {i:Nat} {a:Act} {w:World} {K K':Act→World→Prop} (h:∀ a w,K a w→K' a w) (hh:stp P ops i K a w):stp P ops i K' a w:=by
 unfold stp at *
 split
 · rename_i ho;simp only [ho] at hh;exact h _ _ hh
 rename_i o ho
 simp only [ho] at hh
 split
 · rename_i hw;simp only [hw,dN] at hh;exact yN h hh
 rename_i hw;simp only [hw] at hh;exact h _ _ hh
def gm (P:Program) (ops:Array Oper) (K:Act→World→Prop) (C:Array Bool→World→Prop):Nat→Array Bool→Act→World→Prop
 | 0,listed,a,w=>C listed w∧Region.ready .any ops listed=[]∧K a w
 | f+1,listed,a,w=>C listed w∧(Region.ready .any ops listed=[]→K a w)∧
   ∀ i∈Region.ready .any ops listed,stp P ops i (gm P ops K C f (listed.setIfInBounds i true)) a w
theorem Ub {i:Nat} {a:Act} {w:World} {K:Act→World→Prop} {Q:Exit→Act→World→Prop} {r:Option Nat} {n:Nat} (hd:ops.toList.all sA=true)
 (h:stp P ops i K a w):wpOpIn (FF r) n P ops Q i K a w:=by
 unfold stp at h
 unfold wpOpIn
 split
 · rename_i ho;simp only [ho] at h;exact h
 rename_i o ho
 simp only [ho] at h
 have hdo:sA o=true:=by
  have:=dW.1 hd o (by rw [jQ];exact Array.mem_of_getElem? ho)
  exact this
 split
 · rename_i hw;simp only [hw,dN] at h;exact Ei hdo h
 rename_i hw;simp only [hw] at h;exact ⟨fun _ _=>trivial,h⟩
theorem Ep {Q:Exit→Act→World→Prop} {r:Option Nat} {n:Nat} {C:Array Bool→World→Prop} (hd:ops.toList.all sA=true):∀ (f:Nat) (listed:Array Bool) (a:Act) (w:World),
 gm P ops (Q .normal) C f listed a w→wpAnyIn (FF r) n P .any ops Q f listed a w
 | 0,_,_,_,h=>⟨h.2.1,h.2.2⟩
 | f+1,_,_,_,h=>⟨h.2.1,fun i hi=>Ub hd (Eo (fun a w h=>Ep hd f _ a w h) (h.2.2 i hi))⟩
def yl (P:Program) (ops:Array Oper) (o:Oper) (a:Act) (C:World→Prop) (v:Value):Prop:=
 (Region.wanted o (yielded ops a.tmps)=true∧∀ w,C w→(execOp a.eval o).run P w=.ok (.value v) w)∨(Region.wanted o (yielded ops a.tmps)=false∧v=undef)
theorem yl.stp {i:Nat} {o:Oper} {v:Value} {a:Act} {w:World} {C:World→Prop} {K:Act→World→Prop} (hi:ops[i]?=some o) (hy:yl P ops o a C v) (hC:C w) (h:K (a.put o.dst v) w):stp P ops i K a w:=by
 unfold Go.Sl.stp
 simp only [hi]
 rcases hy with ⟨hw,hv⟩ | ⟨hw,rfl⟩
 · simp only [hw,dN,vO,hv w hC];exact h
 simp only [hw,kP,dO];exact h
theorem DA {j:Nat} {oi oj:Oper} {v:Value} {C:World→Prop} (hj:ops[j]?=some oj) (hap:oi.apart ops oj=true) (hsi:∀ cs b,oi.op≠.select cs b) (hsj:∀ cs b,oj.op≠.select cs b)
 {K:Act→World→Prop} {a:Act} {w:World} (hy:yl P ops oi a C v) (h:stp P ops j K (a.put oi.dst v) w) :
 stp P ops j (fun a' w'=>yl P ops oi a' C v∧K (a'.put oi.dst v) w') a w:=by
 obtain ⟨h1,h2,h3⟩:=Oper.apart_spec hap
 have keep:∀ u,yl P ops oi (a.put oj.dst u) C v:=fun u=>by
  unfold yl at *
  rw [execOp_put oi hsi a oj.dst u h3,wanted_put oi a oj.dst u h3]
  exact hy
 unfold stp at *
 simp only [hj] at *
 rw [wanted_put oj a oi.dst v h1] at h
 split
 · rename_i hw
   simp only [hw,dN] at h
   unfold vO at *
   rw [execOp_put oj hsj a oi.dst v h1] at h
   generalize (execOp a.eval oj).run P w=r at *
   cases r with
   | ok x w' =>
     cases x <;> simp only at h ⊢
     case value u=>exact ⟨keep u,by rw [←oP a v u h2];exact h⟩
     case skip=>exact ⟨keep undef,by rw [←oP a v undef h2];exact h⟩
     case enter f args=>exact h.mono fun x w'' ⟨u,hu,hk⟩=>⟨u,hu,keep u,by rw [←oP a v u h2];exact hk⟩
     case round l f tmps assign body=>exact h.mono fun x w'' ⟨u,hu,hk⟩=>⟨u,hu,keep u,by rw [←oP a v u h2];exact hk⟩
   | halt x w'=>exact h
 rename_i hw
 simp only [hw] at h
 exact ⟨keep undef,by rw [←oP a v undef h2];exact h⟩
theorem Nc {i:Nat} {oi:Oper} {v:Value} {C:Array Bool→World→Prop} {Wr:List Nat} {Cq:World→Prop} (hi:ops[i]?=some oi) (hsel:Region.noSelect ops=true)
 (hC:∀ L w,(∀ j∈Wr,L.getD j false=false)→C L w→Cq w) (hset:∀ L w,C (L.setIfInBounds i true) w→C L w)
 (hedge:∀ j∈Wr,∀ oj,ops[j]?=some oj→∃ e∈oj.after,Region.binds .any e=true∧e.on=i) :
 ∀ (f:Nat) (listed:Array Bool) (a:Act) (w:World),
  (∀ j oj,ops[j]?=some oj→j≠i→listed.getD j true=false→(∀ e∈oj.after,Region.binds .any e=true→e.on≠i)→oi.apart ops oj=true)→
  (∀ j∈Wr,listed.getD j false=false)→i∈Region.ready .any ops listed→yl P ops oi a Cq v→
  gm P ops K C f (listed.setIfInBounds i true) (a.put oi.dst v) w→gm P ops K C (f+1) listed a w:=by
 intro f
 induction f with
 | zero =>
   intro listed a w _ hWr hr hy H
   have hc:=hset _ _ H.1
   refine ⟨hc,fun h=>(by rw [h] at hr;cases hr),fun j hj=>?_⟩
   by_cases hji:j=i
   · subst hji;exact hy.stp hi (hC _ _ hWr hc) H
   · have:=ready_mono hj hji
     rw [H.2.1] at this
     cases this
 | succ f ih =>
   intro listed a w hfree hWr hr hy H
   have hc:=hset _ _ H.1
   refine ⟨hc,fun h=>(by rw [h] at hr;cases hr),fun j hj=>?_⟩
   by_cases hji:j=i
   · subst hji;exact hy.stp hi (hC _ _ hWr hc) H
   have h1:=H.2.2 j (ready_mono hj hji)
   obtain ⟨hjun,oj,hoj,hall⟩:=dQ.1 hj
   have hnot:∀ e∈oj.after,Region.binds .any e=true→e.on≠i:=fun e he hb heq=>by
    have h1:=hall e he hb
    have h0:=(dQ.1 hr).1
    rw [heq] at h1
    rcases aR i listed.size with h' | h'
    · simp [h'] at h0 h1;rw [h0] at h1;cases h1
    simp [iU h'] at h1
   have h2:=DA hoj (hfree j oj hoj hji hjun hnot) (fun cs b=>Region.noSelect_spec hsel i oi cs b hi) (fun cs b=>Region.noSelect_spec hsel j oj cs b hoj) hy h1
   have hfree':∀ k ok,ops[k]?=some ok→k≠i→(listed.setIfInBounds j true).getD k true=false→
    (∀ e∈ok.after,Region.binds .any e=true→e.on≠i)→oi.apart ops ok=true:=fun k ok hk hki hun hno=>by
    refine hfree k ok hk hki ?_ hno
    by_cases hjk:j=k
    · subst hjk;exact hjun
    rw [fW true hjk] at hun;exact hun
   have hWr':∀ k∈Wr,(listed.setIfInBounds j true).getD k false=false:=fun k hk=>by
    have hjk:j≠k:=fun e=>by
     subst e
     obtain ⟨e,he,hb,hon⟩:=hedge j hk oj hoj
     exact hnot e he hb hon
    rw [fW false hjk];exact hWr k hk
   refine Eo (fun a' w' h3=>?_) h2
   obtain ⟨hy',hg⟩:=h3
   refine ih (listed.setIfInBounds j true) a' w' hfree' hWr' (ready_mono hr (oI hji)) hy' ?_
   rw [Array.setIfInBounds_comm _ _ hji];exact hg
end gm
theorem yV (p:Nat→Bool):∀ (H:Hp) (t:Nat),Hp.get (H.filter fun x=>p x.1) t=if p t then H.get t else none
 | [],t=>by simp [Hp.get]
 | (i,x) :: H,t=>by
   have ih:=yV p H t
   rw [List.filter_cons]
   split
   · rename_i hp
     show Hp.get ((i,x) :: H.filter fun x=>p x.1) t=_
     rw [bF,bF,ih]
     by_cases h:i=t
     · subst h;simp [show p i=true from hp]
     simp [h]
   rename_i hp
   rw [ih,bF]
   by_cases h:i=t
   · subst h;simp [show ¬p i=true from hp]
   simp [h]
def Hp.live (wr:List (Nat×Nat)) (L:Array Bool) (H:Hp):Hp:=H.filter fun x=>wr.all fun q=>!(Nat.beq q.1 x.1 && L.getD q.2 false)
theorem Cx (wr:List (Nat×Nat)) (L:Array Bool) (H:Hp) (t:Nat):(H.live wr L).get t=if (wr.all fun q=>!(Nat.beq q.1 t && L.getD q.2 false)) then H.get t else none:=
 yV (fun t=>wr.all fun q=>!(Nat.beq q.1 t && L.getD q.2 false)) H t
def Hp.only (H:Hp):List Nat→Hp
 | []=>[]
 | t :: ts=>match H.get t with | some x=>(t,x) :: Hp.only H ts | none=>Hp.only H ts
theorem xS (H:Hp):∀ ts,H.sub (H.only ts)
 | []=>trivial
 | t :: ts=>by
   unfold Hp.only
   split
   · rename_i x hx;exact ⟨hx,xS H ts⟩
   exact xS H ts
abbrev bN:=@xS
theorem Nd {H:Hp} {ts:List Nat} {p:Nat×Option Nat×Obj} (hp:p∈H.only ts):p.1∈ts:=by
 induction ts with
 | nil=>simp [Hp.only] at hp
 | cons t ts ih =>
   unfold Hp.only at hp
   split at hp
   · rcases cH.1 hp with rfl | hp
     · exact bC
     exact aV _ (ih hp)
   exact aV _ (ih hp)
theorem Hp.get_mem:∀ {L:Hp} {i:Nat} {x:Option Nat×Obj},L.get i=some x→(i,x)∈L
 | [],i,x,h=>by simp [Hp.get] at h
 | (j,y) :: L,i,x,h=>by
   rw [bF] at h
   split at h
   · rename_i hj;subst hj;cases h;exact bC
   exact aV _ (Hp.get_mem h)
theorem HoldH.part {H H':Hp} {G G':Imm} {w:World} (h:HoldH H G w) (hs:∀ t x,H'.get t=some x→H.get t=some x) (hG:G'.le G):HoldH H' G' w:=
 ⟨fun t b o x=>h.own t b o (hs _ _ x),fun t t' b o o' x y=>h.one t t' b o o' (hs _ _ x) (hs _ _ y),fun b o x=>h.imm b o (hG b o x),fun t b o x=>by
  have h1:=h.off t b o (hs _ _ x)
  cases hg:G' b with
  | none=>rfl
  | some y=>rw [hG b y hg] at h1;cases h1⟩
def uI (ops:Array Oper) (listed:Array Bool) (wr:List (Nat×Nat)) (i:Nat) (ts:List Nat):Bool:=
 Region.noSelect ops && ops.toList.all sA && (Region.ready .any ops listed).contains i && Region.free .any ops listed i &&
  wr.all fun q=>!Nat.beq q.2 i && (!(ts.any (Nat.beq q.1)) || (!(listed.getD q.2 false) && (match ops[q.2]? with | some oj=>oj.after.any (fun e=>Region.binds .any e && e.on == i) | none=>true)))
def JL (wr:List (Nat×Nat)) (H0:Hp) (G0:Imm):Array Bool→World→Prop:=fun L w=>HoldH (H0.live wr L) G0 w
def Gm (P:Program) (ops:Array Oper) (f:Nat) (listed:Array Bool) (wr:List (Nat×Nat)) (H0:Hp) (G0:Imm) (B:Bs) (S:St) (K:Act→World→Prop):Prop:=∀ a w,Hold B S a w→gm P ops K (JL wr H0 G0) f listed a w
section
variable {P:Program} {ops:Array Oper} {B:Bs} {e:Env} {D:List Deferred} {H H0:Hp} {G G0:Imm} {K:Act→World→Prop} {f:Nat} {listed:Array Bool} {wr:List (Nat×Nat)}
 {ty:TypeId} {pos:String} {after:Array Edge} {d:Nat}
theorem Wc.draw {r:Option Nat} {id:Nat} {l:List Oper} {Q:Exit→Act→World→Prop} (ts:List Nat) (wr:List (Nat×Nat)) (hm:P.follows .mixedOrders=true) (hd:l.all sA=true)
 (h:Gm P l.toArray l.length (Array.replicate l.length false) wr (H.only ts) G B ⟨e,D,H,G⟩ (Q .normal)):Wc r P (.region id l.toArray true) B ⟨e,D,H,G⟩ Q:=fun a w hh=>by
 have:=Ep (r:=r) (n:=0) (by simpa using hd) _ _ _ _ (h a _ hh.drew)
 exact wpIn_region_any hm (by simpa using this)
abbrev mN:=@Wc.draw
theorem Er {l:List Oper} {o:Oper} {v:Value} {i:Nat} {ts:List Nat} (hB:uI l.toArray listed wr i ts=true) (ho:l[i]?=some o) {a:Act} {w:World}
 (hy:yl P l.toArray o a (fun w=>HoldH (H0.only ts) G0 w) v) (h:gm P l.toArray K (JL wr H0 G0) f (listed.setIfInBounds i true) (a.put o.dst v) w):gm P l.toArray K (JL wr H0 G0) (f+1) listed a w:=by
 simp only [uI,aA] at hB
 obtain ⟨⟨⟨⟨h1,h2⟩,h3⟩,h4⟩,h5⟩:=hB
 have ho':l.toArray[i]?=some o:=by simpa using ho
 have hq:∀ q∈wr,q.2≠i∧(q.1∈ts→listed.getD q.2 false=false∧∀ oj,l.toArray[q.2]?=some oj→∃ e∈oj.after,Region.binds .any e=true∧e.on=i):=fun q hq=>by
  have:=dW.1 h5 q hq
  simp only [aA,kI,cW] at this
  obtain ⟨g1,g2⟩:=this
  refine ⟨fun e=>by rw [e] at g1;simp at g1,fun hm=>?_⟩
  rcases g2 with g2 | ⟨g2,g3⟩
  · have:(ts.any (Nat.beq q.1))=true:=List.any_eq_true.2 ⟨q.1,hm,by simp⟩
    rw [this] at g2;cases g2
  refine ⟨g2,fun oj hoj=>?_⟩
  rw [hoj] at g3
  obtain ⟨e,he,hb⟩:=Array.any_eq_true'.1 g3
  simp only [aA,beq_iff_eq] at hb
  exact ⟨e,he,hb⟩
 refine Nc (Wr:=(wr.filter fun q=>decide (q.1∈ts)).map (·.2)) (Cq:=fun w=>HoldH (H0.only ts) G0 w) ho' h1 ?_ ?_ ?_ f listed a w (Region.free_spec ho' h4) ?_ (by simpa using h3) hy h
 · intro L w hL hc
   refine HoldH.part hc (fun t x hx=>?_) (cC _)
   have hm:=Nd (Hp.get_mem hx)
   have hx':=kN (bN H0 ts) t x hx
   rw [Cx,aT ?_];exact hx'
   rw [dW]
   intro q hqm
   by_cases he:q.1=t
   · have hm':q.1∈ts:=by rw [he];exact hm
     have:=hL q.2 (dD.2 ⟨q,fP.2 ⟨hqm,by simpa using hm'⟩,rfl⟩)
     rw [this];simp
   have:Nat.beq q.1 t=false:=by cases hb:Nat.beq q.1 t with | false=>rfl | true=>exact absurd (aB hb) he
   simp [this]
 · intro L w hc
   refine HoldH.part hc (fun t x hx=>?_) (cC _)
   rw [Cx] at hx ⊢
   have e:(wr.all fun q=>!(Nat.beq q.1 t && (L.setIfInBounds i true).getD q.2 false))=(wr.all fun q=>!(Nat.beq q.1 t && L.getD q.2 false)):=by
    rw [Bool.eq_iff_iff,dW,dW]
    constructor
    · intro h q hqm
      have h':=h q hqm
      rw [fW false (oI (hq q hqm).1)] at h'
      exact h'
    intro h q hqm
    rw [fW false (oI (hq q hqm).1)]
    exact h q hqm
   rw [e];exact hx
 · intro j hj oj hoj
   obtain ⟨q,hqm,rfl⟩:=dD.1 hj
   obtain ⟨hqm,hts⟩:=fP.1 hqm
   exact ((hq q hqm).2 (by simpa using hts)).2 oj hoj
 intro j hj
 obtain ⟨q,hqm,rfl⟩:=dD.1 hj
 obtain ⟨hqm,hts⟩:=fP.1 hqm
 exact ((hq q hqm).2 (by simpa using hts)).1
theorem Gm.q {l:List Oper} {o:Op} {v:Value} (i:Nat) (ts:List Nat) (hB:uI l.toArray listed wr i ts=true) (ho:l[i]?=some ⟨some d,o,ty,pos,after,none⟩) (hn:Nat.ble (d+1) B.n=true)
 (hq:Qy P o ty e (H0.only ts) G0 v) (h:Gm P l.toArray f (listed.setIfInBounds i true) wr H0 G0 B ⟨(d,v) :: e,D,H,G⟩ K):Gm P l.toArray (f+1) listed wr H0 G0 B ⟨e,D,H,G⟩ K:=fun a w hh =>
 Er hB ho (.inl ⟨by simp [Region.wanted],fun w' hw'=>hq a w' _ _ _ _ ⟨hh.env,hw'⟩⟩) (h _ _ (hh.put hn v))
theorem Es {j:Nat} {t:Nat} {b:Bool} {a:Act} {w:World} (hh:Hold B ⟨e,D,H,G⟩ a w) (hj:(ops[j]?).bind (·.dst)=some t) (he:e.get t=some (.bool b)):yielded ops a.tmps j=some b:=by
 simp [yielded,hj,hh.env t _ he]
theorem DC {l:List Oper} {o:Op} {v:Value} {j:Nat} {want:Bool} {t:Nat} (i:Nat) (ts:List Nat) (hB:uI l.toArray listed wr i ts=true) (ho:l[i]?=some ⟨some d,o,ty,pos,after,some (j,want)⟩)
 (hj:(l[j]?).bind (·.dst)=some t) (he:e.get t=some (.bool want)) (hn:Nat.ble (d+1) B.n=true)
 (hq:Qy P o ty e (H0.only ts) G0 v) (h:Gm P l.toArray f (listed.setIfInBounds i true) wr H0 G0 B ⟨(d,v) :: e,D,H,G⟩ K):Gm P l.toArray (f+1) listed wr H0 G0 B ⟨e,D,H,G⟩ K:=fun a w hh =>
 Er hB ho (.inl ⟨by simp [Region.wanted,Es hh (ops:=l.toArray) (by simpa using hj) he],fun w' hw'=>hq a w' _ _ _ _ ⟨hh.env,hw'⟩⟩) (h _ _ (hh.put hn v))
abbrev mY:=@DC
theorem Lc {l:List Oper} {o:Op} {j:Nat} {want:Bool} {t:Nat} (i:Nat) (hB:uI l.toArray listed wr i []=true) (ho:l[i]?=some ⟨some d,o,ty,pos,after,some (j,want)⟩)
 (hj:(l[j]?).bind (·.dst)=some t) (he:e.get t=some (.bool (!want))) (hn:Nat.ble (d+1) B.n=true)
 (h:Gm P l.toArray f (listed.setIfInBounds i true) wr H0 G0 B ⟨(d,undef) :: e,D,H,G⟩ K):Gm P l.toArray (f+1) listed wr H0 G0 B ⟨e,D,H,G⟩ K:=fun a w hh =>
 Er hB ho (.inr ⟨by simp [Region.wanted,Es hh (ops:=l.toArray) (by simpa using hj) he],rfl⟩) (h _ _ (hh.put hn undef))
def xT (P:Program) (ops:Array Oper) (f:Nat) (listed:Array Bool) (wr:List (Nat×Nat)) (H0:Hp) (G0:Imm) (K:Act→World→Prop) (a:Act) (w:World):Prop:=gm P ops K (JL wr H0 G0) f listed a w
theorem Hold.cst (hH:H.sub (H0.live wr listed)) (hG:G0.le G) {a:Act} {w:World} (hh:Hold B ⟨e,D,H,G⟩ a w):JL wr H0 G0 listed w:=hh.mem.part (kN hH) hG
theorem Gm.any (hH:H.sub (H0.live wr listed)) (hG:G0.le G) (l:List Nat) (hr:Region.ready .any ops listed=l) (hne:l.isEmpty=false)
 (h:∀ i∈l,∀ o,ops[i]?=some o→Wl P ops [o] B ⟨e,D,H,G⟩ (xT P ops f (listed.setIfInBounds i true) wr H0 G0 K)):Gm P ops (f+1) listed wr H0 G0 B ⟨e,D,H,G⟩ K:=fun a w hh=>by
 refine ⟨hh.cst hH hG,fun h=>?_,fun i hi=>?_⟩
 · rw [hr] at h;subst h;simp at hne
 rw [hr] at hi
 obtain ⟨_,o,ho,_⟩:=dQ.1 (show i∈Region.ready .any ops listed by rw [hr];exact hi)
 have h1:=h i hi o ho a w hh
 unfold stp
 simp only [ho]
 unfold rM at h1
 split
 · rename_i hw;rw [aT hw] at h1;exact h1
 rename_i hw;rw [aF hw] at h1;exact h1
theorem Gm.one {l:List Oper} {o:Oper} (i:Nat) (hH:H.sub (H0.live wr listed)) (hG:G0.le G) (hr:Region.ready .any l.toArray listed=[i]) (ho:l[i]?=some o)
 (h:Wl P l.toArray [o] B ⟨e,D,H,G⟩ (xT P l.toArray f (listed.setIfInBounds i true) wr H0 G0 K)):Gm P l.toArray (f+1) listed wr H0 G0 B ⟨e,D,H,G⟩ K:=
 Gm.any hH hG [i] hr rfl fun j hj o' ho'=>by
  simp only [List.mem_singleton] at hj;subst hj
  have:l[j]?=some o':=by simpa using ho'
  rw [ho] at this;cases this;exact h
theorem GY {l:List Oper} {o1 o2:Oper} (i j:Nat) (hH:H.sub (H0.live wr listed)) (hG:G0.le G) (hr:Region.ready .any l.toArray listed=[i,j]) (h1:l[i]?=some o1) (h2:l[j]?=some o2)
 (g1:Wl P l.toArray [o1] B ⟨e,D,H,G⟩ (xT P l.toArray f (listed.setIfInBounds i true) wr H0 G0 K)) (g2:Wl P l.toArray [o2] B ⟨e,D,H,G⟩ (xT P l.toArray f (listed.setIfInBounds j true) wr H0 G0 K)) :
 Gm P l.toArray (f+1) listed wr H0 G0 B ⟨e,D,H,G⟩ K:=
 Gm.any hH hG [i,j] hr rfl fun k hk o' ho'=>by
  have ho:l[k]?=some o':=by simpa using ho'
  simp only [cH,List.not_mem_nil,or_false] at hk
  rcases hk with rfl | rfl
  · rw [h1] at ho;cases ho;exact g1
  rw [h2] at ho;cases ho;exact g2
theorem Xn {l:List Oper} {o1 o2 o3:Oper} (i j k:Nat) (hH:H.sub (H0.live wr listed)) (hG:G0.le G) (hr:Region.ready .any l.toArray listed=[i,j,k]) (h1:l[i]?=some o1) (h2:l[j]?=some o2) (h3:l[k]?=some o3)
 (g1:Wl P l.toArray [o1] B ⟨e,D,H,G⟩ (xT P l.toArray f (listed.setIfInBounds i true) wr H0 G0 K)) (g2:Wl P l.toArray [o2] B ⟨e,D,H,G⟩ (xT P l.toArray f (listed.setIfInBounds j true) wr H0 G0 K))
 (g3:Wl P l.toArray [o3] B ⟨e,D,H,G⟩ (xT P l.toArray f (listed.setIfInBounds k true) wr H0 G0 K)) :
 Gm P l.toArray (f+1) listed wr H0 G0 B ⟨e,D,H,G⟩ K:=
 Gm.any hH hG [i,j,k] hr rfl fun m hk o' ho'=>by
  have ho:l[m]?=some o':=by simpa using ho'
  simp only [cH,List.not_mem_nil,or_false] at hk
  rcases hk with rfl | rfl | rfl
  · rw [h1] at ho;cases ho;exact g1
  · rw [h2] at ho;cases ho;exact g2
  rw [h3] at ho;cases ho;exact g3
theorem GZ (h:Gm P ops f listed wr H0 G0 B ⟨e,D,H,G⟩ K):Wl P ops [] B ⟨e,D,H,G⟩ (xT P ops f listed wr H0 G0 K):=h
abbrev eU:=@GZ
theorem Xo {Q:Exit→Act→World→Prop} {x:Exit} (hr:Region.ready .any ops listed=[]) (hH:H.sub (H0.live wr listed)) (hG:G0.le G) (h:Ar Q x B ⟨e,D,H,G⟩):Gm P ops 0 listed wr H0 G0 B ⟨e,D,H,G⟩ (Q x):=
 fun a w hh=>⟨hh.cst hH hG,hr,h a w hh⟩
abbrev pH:=@Xo
end
class Cells (α:Type) where
 sz:Nat
 enc:α→List Value
 len:∀ x,(enc x).length=sz
 one:∀ x,(enc x).all (·.oneCell')=true
instance:Cells Int:=⟨1,fun n=>[.int .i64 n],fun _=>rfl,fun _=>rfl⟩
instance:Cells Bool:=⟨1,fun b=>[.bool b],fun _=>rfl,fun _=>rfl⟩
structure U32 where
 v:Int
 deriving DecidableEq
instance:Inhabited U32:=⟨⟨0⟩⟩
instance:Cells U32:=⟨1,fun n=>[.int .u32 n.v],fun _=>rfl,fun _=>rfl⟩
structure Instr where
 op:Int
 to:Int
 a:Int
 b:Int
 c:Int
 deriving DecidableEq
instance:Inhabited Instr:=⟨⟨0,0,0,0,0⟩⟩
instance:Cells Instr:=⟨5,fun i=>[.int .i64 i.op,.int .i64 i.to,.int .i64 i.a,.int .i64 i.b,.int .i64 i.c],fun _=>rfl,fun _=>rfl⟩
def rO {α:Type} [Cells α] (xs:List α):List Value:=xs.flatMap Cells.enc
section
variable {α:Type} [Cells α]
theorem tR (x:α) (xs:List α):rO (x :: xs)=Cells.enc x++rO xs:=rfl
theorem uA (xs ys:List α):rO (xs++ys)=rO xs++rO ys:=by simp [rO]
theorem rK (xs:List α):(rO xs).length=xs.length*Cells.sz α:=by
 induction xs with
 | nil=>simp [rO]
 | cons x xs ih=>rw [tR,aQ,ih,Cells.len,bH,dI];omega
theorem xU [Inhabited α]:∀ (xs:List α) (i k:Nat),i<xs.length→k<Cells.sz α→(rO xs)[i*Cells.sz α+k]?=(Cells.enc (xs[i]?.getD default))[k]?
 | [],i,k,h,_=>by simp at h
 | x :: xs,0,k,_,hk=>by
   rw [tR,mQ,bO,bE (by rw [Cells.len];exact hk)]
   rfl
 | x :: xs,i+1,k,h,hk=>by
   rw [tR,cM (by rw [Cells.len,dI];omega),Cells.len,show (i+1)*Cells.sz α+k - Cells.sz α=i*Cells.sz α+k by rw [dI];omega,
    xU xs i k (by simpa using h) hk]
   rfl
theorem Nf (xs:List α):(rO xs).all (·.oneCell')=true:=by
 induction xs with
 | nil=>rfl
 | cons x xs ih=>rw [tR,List.all_append,Cells.one,ih];rfl
def Arr (G:Imm) (a:Option Addr) (xs:List α):Prop:=SlG G a xs.length (Cells.sz α) (rO xs)
variable {G G':Imm} {a:Option Addr} {xs:List α}
theorem Arr.up (h:Arr G a xs) (hl:G.le G'):Arr G' a xs:=SlG.le hl h
theorem Arr.nil (G:Imm):Arr G none ([]:List α):=⟨by simp [rO],.inl rfl⟩
abbrev pQ:=@Arr.nil
theorem Arr.cellK [Inhabited α] (h:Arr G a xs) {m:Int} (hm:0≤m∧m<xs.length) (k:Nat) (hk:k<Cells.sz α) :
 G.cell (ab a) (ao a+m.toNat*Cells.sz α+k)=(Cells.enc (xs[m.toNat]?.getD default))[k]?:=by
 have hlt:m.toNat<xs.length:=qX
 have hr:=SlG.row h qX
 have hg:=xU xs m.toNat k hlt hk
 have hl:k<(Cells.enc (xs[m.toNat]?.getD default)).length:=by rw [Cells.len];exact hk
 rw [aD hl] at hg ⊢
 rw [nW]
 exact hr _ _ hg
theorem Arr.cell [Inhabited α] (h:Arr G a xs) {m:Int} (hm:0≤m∧m<xs.length) (k:Nat) (hk:Nat.ble (k+1) (Cells.sz α)=true) {v:Value} (hv:(Cells.enc (xs[m.toNat]?.getD default))[k]?=some v) :
 G.cell (ab a) (ao a+m.toNat*Cells.sz α+k)=some v:=(h.cellK hm k (aU hk)).trans hv
abbrev oE:=@Arr.cell
theorem Arr.elem [Inhabited α] (h:Arr G a xs) {m:Int} (hm:0≤m∧m<xs.length):G.row (ab a) (ao a+m.toNat*Cells.sz α) (Cells.enc (xs[m.toNat]?.getD default)):=fun i v hi=>by
 have hl:i<Cells.sz α:=by rw [←Cells.len (xs[m.toNat]?.getD default)];exact (aJ.1 hi).1
 exact (h.cellK hm i hl).trans hi
theorem Qy.at {P:Program} {e:Env} {H:Hp} {ty:TypeId} {T:TypeId} {x i:Operand} {c:Nat} {k:IntKind} {m:Int} {E:Nat} (hT:rH P T E (Cells.sz α)) (hx:e.ev x=some (.slice a xs.length c))
 (hi:e.ev i=some (.int k m)) (hs:Arr G a xs) (hb:0≤m∧m<xs.length):Qy P (.indexAddr T x i) ty e H G (.pointer (some ⟨ab a,ao a+m.toNat*Cells.sz α,none⟩)):=
 If hT hx hi hs hb
end
section
variable {P:Program} {ops:Array Oper} {l:List Oper} {B:Bs} {e:Env} {D:List Deferred} {H H0:Hp} {G:Imm} {K:Act→World→Prop} {r:Option Nat} {c:Code} {Q:Exit→Act→World→Prop}
 {f:Nat} {listed:Array Bool} {wr:List (Nat×Nat)} {G0:Imm} {d:Nat}
theorem Hold.re {a:Act} {w:World} (hh:Hold B ⟨e,D,H,G⟩ a w) {t:Nat} {v v':Value} (he:e.get t=some v) (hv:v=v'):Hold B ⟨(t,v') :: e,D,H,G⟩ a w:=by
 subst hv
 refine ⟨hh.size,hh.defers,fun i u hu=>?_,hh.mem,hh.upd,hh.mine,hh.le,hh.new⟩
 rw [fV] at hu
 split at hu
 · rename_i h;subst h;cases hu;exact hh.env _ _ he
 exact hh.env i u hu
theorem Wl.re (t:Nat) {v v':Value} (he:e.get t=some v) (hv:v=v') (h:Wl P ops l B ⟨(t,v') :: e,D,H,G⟩ K):Wl P ops l B ⟨e,D,H,G⟩ K:=fun a w hh=>h a w (hh.re he hv)
abbrev kA:=@Wl.re
theorem Wc.re (t:Nat) {v v':Value} (he:e.get t=some v) (hv:v=v') (h:Wc r P c B ⟨(t,v') :: e,D,H,G⟩ Q):Wc r P c B ⟨e,D,H,G⟩ Q:=fun a w hh=>h a w (hh.re he hv)
abbrev kR:=@Wc.re
theorem Gm.re (t:Nat) {v v':Value} (he:e.get t=some v) (hv:v=v') (h:Gm P ops f listed wr H0 G0 B ⟨(t,v') :: e,D,H,G⟩ K):Gm P ops f listed wr H0 G0 B ⟨e,D,H,G⟩ K:=fun a w hh=>h a w (hh.re he hv)
theorem Ar.re {x:Exit} (t:Nat) {v v':Value} (he:e.get t=some v) (hv:v=v') (h:Ar Q x B ⟨(t,v') :: e,D,H,G⟩):Ar Q x B ⟨e,D,H,G⟩:=fun a w hh=>h a w (hh.re he hv)
abbrev cS:=@Ar.re
section dec
variable {p:Prop} [Decidable p]
theorem Pu (t:Nat) (he:e.get t=some (.bool (decide p))) (hp:p) (h:Wl P ops l B ⟨(t,.bool true) :: e,D,H,G⟩ K):Wl P ops l B ⟨e,D,H,G⟩ K:=kA t he Cw h
theorem JM (t:Nat) (he:e.get t=some (.bool (decide p))) (hp:¬p) (h:Wl P ops l B ⟨(t,.bool false) :: e,D,H,G⟩ K):Wl P ops l B ⟨e,D,H,G⟩ K:=kA t he Cw h
abbrev qE:=@JM
theorem Pv (t:Nat) (he:e.get t=some (.bool (decide p))) (hp:p) (h:Gm P ops f listed wr H0 G0 B ⟨(t,.bool true) :: e,D,H,G⟩ K):Gm P ops f listed wr H0 G0 B ⟨e,D,H,G⟩ K:=Gm.re t he Cw h
theorem Xp (t:Nat) (he:e.get t=some (.bool (decide p))) (hp:¬p) (h:Gm P ops f listed wr H0 G0 B ⟨(t,.bool false) :: e,D,H,G⟩ K):Gm P ops f listed wr H0 G0 B ⟨e,D,H,G⟩ K:=Gm.re t he Cw h
theorem Gm.cases (t:Nat) (he:e.get t=some (.bool (decide p))) (ht:p→Gm P ops f listed wr H0 G0 B ⟨(t,.bool true) :: e,D,H,G⟩ K) (hf:¬p→Gm P ops f listed wr H0 G0 B ⟨(t,.bool false) :: e,D,H,G⟩ K) :
 Gm P ops f listed wr H0 G0 B ⟨e,D,H,G⟩ K:=by
 by_cases hp:p
 · exact Pv t he hp (ht hp)
 exact Xp t he hp (hf hp)
theorem Xq {c:Operand} {x y:Code} {S:St} (hc:S.e.ev c=some (.bool (decide p))) (hp:¬p) (hf:Wc r P y B S Q):Wc r P (.cond c x y) B S Q:=lZ hc (fun h=>(hp h).elim) (fun _=>hf)
abbrev mD:=@Xq
end dec
def Env.hasKey:Env→Nat→Bool
 | [],_=>false
 | (i,_) :: e,j=>bif Nat.beq i j then true else Env.hasKey e j
def Env.fresh (e:Env):Env→Bool
 | []=>true
 | (i,_) :: l=>(bif e.hasKey i then false else true) && Env.fresh e l
def Hp.hasKey:Hp→Nat→Bool
 | [],_=>false
 | (i,_) :: e,j=>bif Nat.beq i j then true else Hp.hasKey e j
def Hp.fresh (e:Hp):Hp→Bool
 | []=>true
 | (i,_) :: l=>(bif e.hasKey i then false else true) && Hp.fresh e l
theorem xV:∀ {e:Env} {i:Nat} {v:Value},e.get i=some v→e.hasKey i=true
 | [],i,v,h=>by simp [Env.get] at h
 | (j,u) :: e,i,v,h=>by
   show (bif Nat.beq j i then true else Env.hasKey e i)=true
   rw [fV] at h
   split at h
   · rename_i hj;subst hj;simp
   rw [xV h];cases Nat.beq j i <;> rfl
theorem yW:∀ {e:Hp} {i:Nat} {v:Option Nat×Obj},e.get i=some v→e.hasKey i=true
 | [],i,v,h=>by simp [Hp.get] at h
 | (j,u) :: e,i,v,h=>by
   show (bif Nat.beq j i then true else Hp.hasKey e i)=true
   rw [bF] at h
   split at h
   · rename_i hj;subst hj;simp
   rw [yW h];cases Nat.beq j i <;> rfl
theorem yX {e:Env} {i:Nat} {v:Value} (h:e.get i=some v):∀ {l:Env},e.fresh l=true→Env.get (l++e) i=some v
 | [],_=>h
 | (j,u) :: l,hf=>by
   have hf':((bif e.hasKey j then false else true) && Env.fresh e l)=true:=hf
   simp only [aA] at hf'
   show Env.get ((j,u) :: (l++e)) i=some v
   rw [fV]
   split
   · rename_i hj;subst hj;rw [xV h] at hf';simp at hf'
   exact yX h hf'.2
theorem zX {e:Hp} {i:Nat} {v:Option Nat×Obj} (h:e.get i=some v):∀ {l:Hp},e.fresh l=true→Hp.get (l++e) i=some v
 | [],_=>h
 | (j,u) :: l,hf=>by
   have hf':((bif e.hasKey j then false else true) && Hp.fresh e l)=true:=hf
   simp only [aA] at hf'
   show Hp.get ((j,u) :: (l++e)) i=some v
   rw [bF]
   split
   · rename_i hj;subst hj;rw [yW h] at hf';simp at hf'
   exact zX h hf'.2
theorem Hold.back {a:Act} {w:World} {e0:Env} {H0:Hp} (n m:Nat) (hh:Hold B ⟨e,D,H,G⟩ a w) (he:e.drop n=e0) (hf:e0.fresh (e.take n)=true) (hH:H.drop m=H0) (hg:H0.fresh (H.take m)=true) {v:Value} (hv:e.get d=some v) :
 Hold B ⟨(d,v) :: e0,D,H0,G⟩ a w:=by
 refine (hh.re hv rfl).weaken (fun i u hu=>?_) fun t x hx=>?_
 · rw [fV] at hu ⊢
   split <;> rename_i h
   · rw [aT h] at hu;exact hu
   rw [aF h] at hu
   have:=yX hu hf
   rw [←he,dC] at this
   exact this
 have:=zX hx hg
 rw [←hH,dC] at this
 exact this
theorem Wl.back {e0:Env} {H0:Hp} (n m:Nat) (he:e.drop n=e0) (hf:e0.fresh (e.take n)=true) (hH:H.drop m=H0) (hg:H0.fresh (H.take m)=true) {v:Value} (hv:e.get d=some v) :
 Wl P ops [] B ⟨e,D,H,G⟩ (Hold B ⟨(d,v) :: e0,D,H0,G⟩):=fun a w hh=>hh.back n m he hf hH hg hv
abbrev eV:=@Wl.back
theorem Hold.swap {a:Act} {w:World} {t:Nat} {u u' v:Value} (hh:Hold B ⟨(d,v) :: (t,u') :: e,D,H,G⟩ a w) (he:e.get t=some u) (hu:u=u'):Hold B ⟨(d,v) :: e,D,H,G⟩ a w:=by
 subst hu
 refine hh.weaken (fun i x hx=>?_) (fun _ _ h=>h)
 rw [fV] at hx ⊢
 split <;> rename_i h
 · rw [aT h] at hx;exact hx
 rw [aF h] at hx
 rw [fV]
 split
 · rename_i h2;subst h2;rw [←hx,he]
 exact hx
theorem Wl.cut (k:Nat) {K1:Act→World→Prop} {S S1:St} (h1:Wl P ops (l.take k) B S K1) (h2:∀ a w,K1 a w→Hold B S1 a w) (h3:Wl P ops (l.drop k) B S1 K):Wl P ops l B S K:=by
 intro a w hh
 have:=xI (P:=P) (ops:=ops) (K:=K) (l.take k) (l.drop k) a w
 rw [dC] at this
 refine this ?_
 have h0:=h1 a w hh
 exact zD (fun a w hk=>h3 a w (h2 a w hk)) _ _ _ h0
theorem Pw {p q:Prop} [ip:Decidable p] {iq:Decidable q} (k t d:Nat) (he:e.get t=some (.bool (decide p)))
 (h1:p→Wl P ops (l.take k) B ⟨(t,.bool true) :: e,D,H,G⟩ (Hold B ⟨(d,.bool (decide q)) :: (t,.bool true) :: e,D,H,G⟩))
 (h2:¬p→Wl P ops (l.take k) B ⟨(t,.bool false) :: e,D,H,G⟩ (Hold B ⟨(d,.bool false) :: (t,.bool false) :: e,D,H,G⟩))
 (h3:Wl P ops (l.drop k) B ⟨(d,.bool (decide (p∧q))) :: e,D,H,G⟩ K):Wl P ops l B ⟨e,D,H,G⟩ K:=by
 by_cases hp:p
 · refine Pu t he hp (Wl.cut k (h1 hp) (fun a w hh=>?_) h3)
   have:=hh.swap he Cw
   simpa [hp] using this
 refine qE t he hp (Wl.cut k (h2 hp) (fun a w hh=>?_) h3)
 have:=hh.swap he Cw
 simpa [hp] using this
abbrev dT:=@Pw
theorem Uc {p q:Prop} [ip:Decidable p] {iq:Decidable q} (k t d:Nat) (he:e.get t=some (.bool (decide p)))
 (h1:¬p→Wl P ops (l.take k) B ⟨(t,.bool false) :: e,D,H,G⟩ (Hold B ⟨(d,.bool (decide q)) :: (t,.bool false) :: e,D,H,G⟩))
 (h2:p→Wl P ops (l.take k) B ⟨(t,.bool true) :: e,D,H,G⟩ (Hold B ⟨(d,.bool true) :: (t,.bool true) :: e,D,H,G⟩))
 (h3:Wl P ops (l.drop k) B ⟨(d,.bool (decide (p∨q))) :: e,D,H,G⟩ K):Wl P ops l B ⟨e,D,H,G⟩ K:=by
 by_cases hp:p
 · refine Pu t he hp (Wl.cut k (h2 hp) (fun a w hh=>?_) h3)
   have:=hh.swap he Cw
   simpa [hp] using this
 refine qE t he hp (Wl.cut k (h1 hp) (fun a w hh=>?_) h3)
 have:=hh.swap he Cw
 simpa [hp] using this
abbrev dA:=@Uc
end
def ElemOf (P:Program) (E sz bytes:Nat) (zs:List Value):Prop:=∃ i z,P.info? E=some i∧i.zero=some z∧z.cells=zs.toArray∧i.size=sz∧i.bytes=bytes∧zs.length=sz∧0<sz
theorem ElemOf.of {P:Program} {E sz bytes:Nat} {zs:List Value} (h:(P.info? E).map (fun i=>(i.zero.map (·.cells),i.size,i.bytes))=some (some zs.toArray,sz,bytes)) (h1:(Nat.beq zs.length sz && Nat.ble 1 sz)=true):ElemOf P E sz bytes zs:=by
 simp only [aA] at h1
 cases hi:P.info? E with
 | none=>simp [hi] at h
 | some i =>
   simp only [hi,dP,bL,cP] at h
   obtain ⟨h2,h3,h4⟩:=h
   cases hz:i.zero with
   | none=>simp [hz] at h2
   | some z=>exact ⟨i,z,hi,hz,by simpa [hz] using h2,h3,h4,aB h1.1,aU h1.2⟩
abbrev lW:=@ElemOf.of
def rP {α:Type} [Cells α] (E:TypeId) (xs:List α) (junk:List Value):Obj:=.cells (rO xs++junk).toArray E (0,0)
def OwnA {α:Type} [Cells α] (a:Option Addr) (c:Nat) (xs:List α) (junk:List Value):Prop:=
 (a=none∧xs=[]∧junk=[]∧c=0)∨(∃ b,a=some ⟨b,0,none⟩∧xs.length*Cells.sz α+junk.length=c*Cells.sz α∧xs.length≤c∧c≤maxLen)
theorem OwnA.nil {α:Type} [Cells α]:OwnA none 0 ([]:List α) []:=.inl ⟨rfl,rfl,rfl,rfl⟩
abbrev gF:=@OwnA.nil
section zero
variable {α:Type} [Cells α] [Inhabited α]
theorem Ud {zs:List Value} (hz:Cells.enc (default:α)=zs) (h0:0<Cells.sz α) (n:Nat):madeCells zs.toArray (n*Cells.sz α)=(rO (List.replicate n (default:α))).toArray:=by
 have hzl:zs.length=Cells.sz α:=by rw [←hz,Cells.len]
 apply qA
 apply eW
 intro q
 by_cases hq:q<n*Cells.sz α
 · have h1:q=(q / Cells.sz α)*Cells.sz α+q % Cells.sz α:=by rw [gZ];exact (kH q _).symm
   have h2:q % Cells.sz α<Cells.sz α:=lN _ h0
   have h3:q / Cells.sz α<n:=(oT h0).2 hq
   have h4:=xU (List.replicate n (default:α)) (q / Cells.sz α) (q % Cells.sz α) (by simpa using h3) h2
   rw [←h1] at h4
   rw [h4]
   have h5:((List.replicate n (default:α))[q / Cells.sz α]?).getD default=default:=by simp [h3]
   rw [h5,hz]
   simp only [madeCells,oD,Array.toList_range,cG,gH hq,dP]
   have h6:q % zs.toArray.size<zs.length:=by simp [hzl];exact h2
   have h7:zs.toArray[q % zs.toArray.size]! = zs[q % zs.length]'(by simpa using h6):=by
    simp only [nP] at h6 ⊢
    rw [qD zs.toArray _ (by simpa using h6)]
    simp
   rw [h7,aD (by rw [hzl];exact h2)]
   congr 1
   simp only [hzl]
 rw [cJ (by simp [madeCells];omega),cJ (by simp [rK];omega)]
end zero
section
variable {P:Program} {ops:Array Oper} {rest:List Oper} {B:Bs} {e:Env} {D:List Deferred} {H:Hp} {G:Imm} {K:Act→World→Prop}
 {ty:TypeId} {pos:String} {after:Array Edge} {d:Nat}
theorem Hold.reH {a:Act} {w:World} (hh:Hold B ⟨e,D,H,G⟩ a w) {t:Nat} {k:Option Nat} {o o':Obj} (ht:H.get t=some (k,o)) (ho:o=o'):Hold B ⟨e,D,(t,k,o') :: H,G⟩ a w:=by
 subst ho
 have key:∀ i x,Hp.get ((t,k,o) :: H) i=some x→H.get i=some x:=fun i x hx=>by
  rw [bF] at hx
  split at hx
  · rename_i h;subst h;rw [←hx];exact ht
  exact hx
 exact hh.weaken (fun _ _ h=>h) key
theorem Wl.reH {l:List Oper} (t:Nat) {k:Option Nat} {o:Obj} (o':Obj) (ht:H.get t=some (k,o)) (ho:o=o') (h:Wl P ops l B ⟨e,D,(t,k,o') :: H,G⟩ K):Wl P ops l B ⟨e,D,H,G⟩ K:=fun a w hh=>h a w (hh.reH ht ho)
abbrev mZ:=@Wl.reH
theorem Wc.reH {r:Option Nat} {c:Code} {Q:Exit→Act→World→Prop} (t:Nat) {k:Option Nat} {o:Obj} (o':Obj) (ht:H.get t=some (k,o)) (ho:o=o') (h:Wc r P c B ⟨e,D,(t,k,o') :: H,G⟩ Q):Wc r P c B ⟨e,D,H,G⟩ Q:=fun a w hh=>h a w (hh.reH ht ho)
abbrev qQ:=@Wc.reH
theorem Ar.reH {x:Exit} {Q:Exit→Act→World→Prop} (t:Nat) {k:Option Nat} {o:Obj} (o':Obj) (ht:H.get t=some (k,o)) (ho:o=o') (h:Ar Q x B ⟨e,D,(t,k,o') :: H,G⟩):Ar Q x B ⟨e,D,H,G⟩:=fun a w hh=>h a w (hh.reH ht ho)
abbrev gT:=@Ar.reH
theorem Hold.noBlock {a:Act} {w:World} (hh:Hold B ⟨e,D,H,G⟩ a w) (t:Nat) (o:Obj):Hold B ⟨e,D,(t,none,o) :: H,G⟩ a w:=by
 have key:∀ i b o',Hp.get ((t,none,o) :: H) i=some (some b,o')→H.get i=some (some b,o'):=fun i b o' hx=>by
  rw [bF] at hx
  split at hx
  · simp at hx
  exact hx
 exact ⟨hh.size,hh.defers,hh.env,⟨fun t b o x=>hh.mem.own t b o (key _ _ _ x),fun t t' b o o' x y=>hh.mem.one t t' b o o' (key _ _ _ x) (key _ _ _ y),hh.mem.imm,fun t b o x=>hh.mem.off t b o (key _ _ _ x)⟩,
  hh.upd,fun t b o x=>hh.mine t b o (key _ _ _ x),hh.le,hh.new⟩
theorem Ue {r:Option Nat} {c:Code} {Q:Exit→Act→World→Prop} (t:Nat) (o:Obj) (h:Wc r P c B ⟨e,D,(t,none,o) :: H,G⟩ Q):Wc r P c B ⟨e,D,H,G⟩ Q:=fun a w hh=>h a w (hh.noBlock t o)
abbrev jU:=@Ue
section row
variable {α:Type} [Cells α]
theorem Se {E:TypeId} {xs:List α} {junk:List Value} {b:Nat} (hG:G b=some (rP E xs junk)):Arr G (some ⟨b,0,none⟩) xs:=by
 refine ⟨rK xs,.inr ⟨b,0,rfl,fun i v hi=>?_⟩⟩
 have hl:i<(rO xs).length:=(aJ.1 hi).1
 simp only [Imm.cell,hG,rP,bO,lH]
 rw [bE hl]
 exact hi
theorem Hold.freezeRow {a:Act} {w:World} (hh:Hold B ⟨e,D,H,G⟩ a w) {t:Nat} {ad:Option Addr} {c:Nat} {E:TypeId} {xs:List α} {junk:List Value} (ht:H.get t=some (ad.map (·.block),rP E xs junk)) (ho:OwnA ad c xs junk) :
 ∃ G',G.le G'∧Arr G' ad xs∧Hold B ⟨e,D,(t,none,default) :: H,G'⟩ a w:=by
 rcases ho with ⟨rfl,rfl,rfl,_⟩ | ⟨b,rfl,_⟩
 · exact ⟨G,cC _,pQ G,hh.noBlock t default⟩
 have ht':H.get t=some (some b,rP E xs junk):=ht
 obtain ⟨h1,h2⟩:=hh.freeze ht'
 exact ⟨_,h2,Se (E:=E) (junk:=junk) (by simp [Imm.with]),h1⟩
variable {r:Option Nat} {cd:Code} {Q:Exit→Act→World→Prop} {x:Exit} {l:List Oper}
theorem Wl.freezeRow (t:Nat) {ad:Option Addr} {c:Nat} {E:TypeId} {xs:List α} {junk:List Value} (ht:H.get t=some (ad.map (·.block),rP E xs junk)) (ho:OwnA ad c xs junk)
 (h:∀ G',G.le G'→Arr G' ad xs→Wl P ops l B ⟨e,D,(t,none,default) :: H,G'⟩ K):Wl P ops l B ⟨e,D,H,G⟩ K:=fun a w hh=>let ⟨G',h1,h2,h3⟩:=hh.freezeRow ht ho;h G' h1 h2 a w h3
abbrev fT:=@Wl.freezeRow
theorem Wc.freezeRow (t:Nat) {ad:Option Addr} {c:Nat} {E:TypeId} {xs:List α} {junk:List Value} (ht:H.get t=some (ad.map (·.block),rP E xs junk)) (ho:OwnA ad c xs junk)
 (h:∀ G',G.le G'→Arr G' ad xs→Wc r P cd B ⟨e,D,(t,none,default) :: H,G'⟩ Q):Wc r P cd B ⟨e,D,H,G⟩ Q:=fun a w hh=>let ⟨G',h1,h2,h3⟩:=hh.freezeRow ht ho;h G' h1 h2 a w h3
theorem Ar.freezeRow (t:Nat) {ad:Option Addr} {c:Nat} {E:TypeId} {xs:List α} {junk:List Value} (ht:H.get t=some (ad.map (·.block),rP E xs junk)) (ho:OwnA ad c xs junk)
 (h:∀ G',G.le G'→Arr G' ad xs→Ar Q x B ⟨e,D,(t,none,default) :: H,G'⟩):Ar Q x B ⟨e,D,H,G⟩:=fun a w hh=>let ⟨G',h1,h2,h3⟩:=hh.freezeRow ht ho;h G' h1 h2 a w h3
abbrev eT:=@Ar.freezeRow
theorem Wl.make [Inhabited α] {T:TypeId} {x:Operand} {k:IntKind} {m:Int} {E bytes:Nat} {zs:List Value} (t:Nat) (hn:Nat.ble (d+1) B.n=true) (hT:rH P T E (Cells.sz α)) (hE:ElemOf P E (Cells.sz α) bytes zs)
 (hz:Cells.enc (default:α)=zs) (hx:e.ev x=some (.int k m)) (h0:0≤m) (hb:bytes*m≤281474976710656∧m≤9223372036854775807)
 (h:∀ b,Wl P ops rest B ⟨(d,.slice (some ⟨b,0,none⟩) (List.replicate m.toNat (default:α)).length (List.replicate m.toNat (default:α)).length) :: e,D,(t,some b,rP E (List.replicate m.toNat (default:α)) []) :: H,G⟩ K) :
 Wl P ops (⟨some d,.makeSlice T x x,ty,pos,after,none⟩ :: rest) B ⟨e,D,H,G⟩ K:=by
 obtain ⟨i,z,hi,hz1,hz2,hs,hby,hzl,hsz⟩:=hE
 have hr:(List.replicate m.toNat (default:α)).length=m.toNat:=rV
 refine nM (v:=fun b=>.slice (some ⟨b,0,none⟩) (List.replicate m.toNat (default:α)).length (List.replicate m.toNat (default:α)).length) t hn (fun a w hh=>?_) h
 have h1:=run_make (P:=P) w T E i z hT.1 hi hz1 k k m m h0 (Int.le_refl _) (by rw [hby];exact hb.1) hb.2
 have h2:madeCells z.cells (m.toNat*i.size)=(rO (List.replicate m.toNat (default:α))++[]).toArray:=by rw [hz2,hs,Ud hz hsz,eN]
 rw [h2] at h1
 simp only [execOp,hh.eval hx,rP,hr]
 simp [h1]
abbrev jT:=@Wl.make
theorem Uf [Inhabited α] {b:Nat} {xs:List α} (h:xs.length≤maxLen):OwnA (some ⟨b,0,none⟩) xs.length xs []:=.inr ⟨b,rfl,by simp,aE _,h⟩
abbrev iG:=@Uf
theorem Sf [Inhabited α] {xs:List α} {junk:List Value} {m:Int} (hm:0≤m∧m<xs.length) (k:Nat) (hk:k<Cells.sz α) :
 (rO xs++junk)[0+m.toNat*Cells.sz α+k]?=(Cells.enc (xs[m.toNat]?.getD default))[k]?:=by
 have hlt:m.toNat<xs.length:=qX
 rw [bO,bE (by rw [rK];have:=fJ (Cells.sz α) (show m.toNat+1≤xs.length by omega);rw [dI] at this;omega)]
 exact xU xs m.toNat k hlt hk
theorem Ng [Inhabited α] {T:TypeId} {x:Operand} {b:Nat} {E:TypeId} {xs:List α} {junk:List Value} {m:Int} {v:Value} (t k:Nat) (h1:sY P T=true) (hx:e.ev x=some (.pointer (some ⟨b,0+m.toNat*Cells.sz α+k,none⟩)))
 (ht:H.get t=some (some b,rP E xs junk)) (hm:0≤m∧m<xs.length) (hk:Nat.ble (k+1) (Cells.sz α)=true) (hv:(Cells.enc (xs[m.toNat]?.getD default))[k]?=some v):Qy P (.load T x) ty e H G v:=
 Qy.load t h1 hx ht ((Sf hm k (aU hk)).trans hv)
theorem Jg [Inhabited α] {T:TypeId} {x:Operand} {b:Nat} {E:TypeId} {xs:List α} {junk:List Value} {m:Int} (t:Nat) (h1:tX P T (Cells.sz α)=true) (hx:e.ev x=some (.pointer (some ⟨b,0+m.toNat*Cells.sz α,none⟩)))
 (ht:H.get t=some (some b,rP E xs junk)) (hm:0≤m∧m<xs.length):Qy P (.load T x) ty e H G (.agg (Cells.enc (xs[m.toNat]?.getD default)).toArray):=fun a w _ _ _ _ hh=>by
 have hc:∀ j v,(Cells.enc (xs[m.toNat]?.getD default))[j]?=some v→w.cell? ⟨b,0+m.toNat*Cells.sz α+j,none⟩=some v:=fun j v hj=>by
  rw [cell_of_block (hh.mem.own t b _ ht)]
  have hl:j<Cells.sz α:=by rw [←Cells.len (xs[m.toNat]?.getD default)];exact (aJ.1 hj).1
  exact (Sf hm j hl).trans hj
 have hr:=uH h1 (Cells.len _) hc
 simp only [execOp,hh.eval hx,aY,hr,aG,bB]
theorem flat_set:∀ (xs:List α) (i:Nat) (y:α),i<xs.length→(rO xs).take (i*Cells.sz α)++Cells.enc y++(rO xs).drop (i*Cells.sz α+Cells.sz α)=rO (xs.set i y)
 | [],i,y,h=>by simp at h
 | x :: xs,0,y,_=>by
   rw [tR,mQ,bO,bY,fD,List.drop_left' (Cells.len x),List.set_cons_zero,tR]
 | x :: xs,i+1,y,h=>by
   have ih:=flat_set xs i y (by simpa using h)
   rw [tR,List.set_cons_succ,tR,←ih]
   have h1:(i+1)*Cells.sz α=(Cells.enc x).length+i*Cells.sz α:=by rw [Cells.len,dI];omega
   rw [h1,List.take_length_add_append,nW,mU,cV,cV,cV]
theorem Sg {T:TypeId} {x y:Operand} {b:Nat} {E:TypeId} {xs:List α} {junk:List Value} {m:Int} {v:Value} {z:α} (t:Nat) (hs:(P.info? T).map (·.size)=some (Cells.sz α))
 (hx:e.ev x=some (.pointer (some ⟨b,0+m.toNat*Cells.sz α,none⟩))) (hy:e.ev y=some v) (hv:v.cells=(Cells.enc z).toArray) (ht:H.get t=some (some b,rP E xs junk)) (hm:0≤m∧m<xs.length)
 (h:Wl P ops rest B ⟨e,D,(t,some b,rP E (xs.set m.toNat z) junk) :: H,G⟩ K):Wl P ops (⟨none,.store T x y,ty,pos,after,none⟩ :: rest) B ⟨e,D,H,G⟩ K:=
 qO (v:=undef) (x:=.skip) ht (.inl ⟨rfl,rfl⟩) (fun a w hh=>by
  have hlt:m.toNat<xs.length:=qX
  have hle:m.toNat*Cells.sz α+Cells.sz α≤(rO xs).length:=by rw [rK,←Nat.succ_mul];exact fJ _ hlt
  have hb:=hh.mem.own t b _ ht
  have hst:=wM (P:=P) (T:=T) (off:=0+m.toNat*Cells.sz α) (cs:=rO xs++junk) (vs:=Cells.enc z) (v:=v) (by rw [Cells.len];exact hs) hv (Cells.one z) hb (by rw [Cells.len,aQ];omega)
  refine ⟨_,by simp only [execOp,hh.eval hx,hh.eval hy,aY,hst,aG,bB];rfl,tA w b _,?_⟩
  rw [mC w b _ _ E _ hb]
  rw [Cells.len,bO,eB qX,dF qX,←cV,flat_set xs m.toNat z hlt]
  simp [rP]) h
def Src (H:Hp) (G:Imm) (a:Option Addr) (ys:List α):Prop:=∀ w,HoldH H G w→(a=none∧ys=[])∨∃ ad,a=some ad∧∀ j v,(rO ys)[j]?=some v→w.cell? (ad.add j)=some v
theorem Src.row {b:Nat} {E:TypeId} {ys:List α} {junk:List Value} (t:Nat) (ht:H.get t=some (some b,rP E ys junk)):Src H G (some ⟨b,0,none⟩) ys:=fun w hw =>
 .inr ⟨_,rfl,fun j v hj=>by
  rw [add_lit,bO,cell_of_block (hw.own _ b _ ht),bE (aJ.1 hj).1];exact hj⟩
abbrev nN:=@Src.row
theorem DD {a:Option Addr} {ys:List α} (h:Arr G a ys):Src H G a ys:=fun w hw=>by
 rcases h.2 with h2 | ⟨b,o,rfl,hr⟩
 · have h3:ys=[]:=cA h2
   subst h3
   cases a with
   | none=>exact .inl ⟨rfl,rfl⟩
   | some ad=>exact .inr ⟨ad,rfl,fun j v hj=>by simp [rO] at hj⟩
 exact .inr ⟨_,rfl,fun j v hj=>by rw [add_lit];exact hw.cellG (hr j v hj)⟩
abbrev oG:=@DD
theorem Dk {xs:List α} {junk:List Value}:(rO xs++junk).take (xs.length*Cells.sz α)=rO xs:=by rw [←rK];exact List.take_left
theorem Hold.ownNew {a:Act} {w w':World} (hh:Hold B ⟨e,D,H,G⟩ a w) (t:Nat) {ob:Obj} (hu:Upd (fun _=>False) w w') (hs:w'.heap.size=w.heap.size+1) (hb:w'.heap[w.heap.size]?=some ob) :
 Hold B ⟨e,D,(t,some w.heap.size,ob) :: H,G⟩ a w':=by
 have hG:G w.heap.size=none:=by
  cases hg:G w.heap.size with
  | none=>rfl
  | some x=>exact absurd (hh.mem.ltG hg) (iZ _)
 have hg:=hh.grow hu
 refine ⟨hg.size,hg.defers,hg.env,⟨?_,?_,hg.mem.imm,?_⟩,hg.upd,?_,hg.le,hg.new⟩
 · intro t' b o' x
   rw [bF] at x
   split at x
   · simp only [bL,cP] at x;obtain ⟨rfl,rfl⟩:=x;exact hb
   exact hg.mem.own t' b o' x
 · intro t1 t2 b o1 o2 x y
   rw [bF] at x y
   split at x <;> split at y
   · omega
   · simp only [bL,cP] at x;obtain ⟨rfl,rfl⟩:=x;exact absurd (hh.mem.lt y) (iZ _)
   · simp only [bL,cP] at y;obtain ⟨rfl,rfl⟩:=y;exact absurd (hh.mem.lt x) (iZ _)
   exact hg.mem.one _ _ _ _ _ x y
 · intro t' b o' x
   rw [bF] at x
   split at x
   · simp only [bL,cP] at x;obtain ⟨rfl,rfl⟩:=x;exact hG
   exact hg.mem.off t' b o' x
 intro t' b o' x
 rw [bF] at x
 split at x
 · simp only [bL,cP] at x;obtain ⟨rfl,rfl⟩:=x;exact .inl hh.upd.size
 exact hg.mine t' b o' x
theorem Px {w:World} (hw:HoldH H G w) {T E bytes:Nat} {zs:List Value} (hT:rH P T E (Cells.sz α)) (hE:ElemOf P E (Cells.sz α) bytes zs) {t:Nat} {a ad:Option Addr} {c c2:Nat} {xs ys:List α} {junk:List Value}
 (ht:H.get t=some (a.map (·.block),rP E xs junk)) (ho:OwnA a c xs junk) (hsrc:Src H G ad ys) (hb:(xs.length+ys.length)*bytes≤140737488355328) (hl:xs.length+ys.length≤maxLen) :
 ∃ a' c' junk' w',(Builtin.append_ #[T,T] ty #[.slice a xs.length c,.slice ad ys.length c2]).run P w=.ok (.slice a' (xs++ys).length c') w'∧OwnA a' c' (xs++ys) junk'∧
  ((a'=none∧a=none∧w'=w)∨
   (∃ b,a'=some ⟨b,0,none⟩∧a=a'∧Upd (·=b) w w'∧w'.heap[b]?=some (rP E (xs++ys) junk'))∨
   (a'=some ⟨w.heap.size,0,none⟩∧Upd (fun _=>False) w w'∧w'.heap.size=w.heap.size+1∧w'.heap[w.heap.size]?=some (rP E (xs++ys) junk'))):=by
 obtain ⟨i,z,hi,hz1,hz2,hs,hby,hzl,hsz⟩:=hE
 have hm63:xs.length+ys.length≤9223372036854775807:=by simp only [maxLen] at hl;omega
 have hlen:(xs++ys).length=xs.length+ys.length:=aQ
 have hyl:(rO ys).length=ys.length*i.size:=by rw [rK,hs]
 have hxl:(rO xs).length=xs.length*i.size:=by rw [rK,hs]
 have junkLen:∀ k,(Builtin.zeroCells z.cells k).toList.length=k*Cells.sz α:=fun k=>by
  rw [kE,size_zeroCells,hz2];simp [hzl]
 have fresh:∀ old,old<xs.length+ys.length→∃ junk',OwnA (some ⟨w.heap.size,0,none⟩) (grownCap w (xs.length+ys.length) old E) (xs++ys) junk'∧
  (w.drew.alloc (.cells ((rO xs).toArray++(rO ys).toArray++Builtin.zeroCells z.cells (grownCap w (xs.length+ys.length) old E - (xs.length+ys.length))) E)).heap[w.heap.size]?=some (rP E (xs++ys) junk'):=fun old hold=>by
  have hge:=grownCap_ge w (xs.length+ys.length) old E
  have hcm:grownCap w (xs.length+ys.length) old E≤maxLen:=pY w _ old E hl
  refine ⟨(Builtin.zeroCells z.cells (grownCap w (xs.length+ys.length) old E - (xs.length+ys.length))).toList,.inr ⟨_,rfl,?_,by rw [hlen];exact hge,hcm⟩,?_⟩
  · rw [junkLen,hlen,←dI];congr 1;omega
  rw [show w.heap.size=w.drew.heap.size from rfl,rY]
  congr 1
  simp [rP,uA]
 have hupd:∀ o,Upd (fun _=>False) w (w.drew.alloc o):=fun o=>(jF _ w).drew.alloc o
 rcases hsrc w hw with ⟨rfl,rfl⟩ | ⟨src,rfl,hsr⟩
 · -- nothing to append
   simp only [eN,cE,gJ] at hb hl fresh hlen hm63 ⊢
   rcases ho with ⟨rfl,rfl,rfl,rfl⟩ | ⟨b,rfl,hj,hc,hcm⟩
   · refine ⟨none,0,[],w,?_,gF,.inl ⟨rfl,rfl,rfl⟩⟩
     simp [Builtin.append_,aO hT.1,sizeOf,typeInfo,hi,Builtin.lenOf,Builtin.firstCells]
   have hblk:=hw.own t b _ ht
   refine ⟨some ⟨b,0,none⟩,c,junk,w,?_,.inr ⟨b,rfl,hj,hc,hcm⟩,.inr (.inl ⟨b,rfl,rfl,jF _ _,hblk⟩)⟩
   simp [Builtin.append_,aO hT.1,sizeOf,typeInfo,hi,Builtin.lenOf,Builtin.firstCells,hc,storeCells]
 rcases ho with ⟨rfl,rfl,rfl,rfl⟩ | ⟨b,rfl,hj,hc,hcm⟩
 · -- from nil
   simp only [cE,bO,fD] at hb hl fresh hlen hm63 ⊢
   by_cases h0:ys.length=0
   · have hy:ys=[]:=cA h0
     subst hy
     refine ⟨none,0,[],w,?_,gF,.inl rV⟩
     simp [Builtin.append_,aO hT.1,sizeOf,typeInfo,hi,Builtin.lenOf,Builtin.firstCells,loadCells,loadCellsFrom]
   have hr:=run_append_nil (P:=P) w T ty E i z hT.1 hi hz1 src ys.length c2 (rO ys) hyl hsr qX qX (by rw [hby];omega)
   obtain ⟨junk',h1,h2⟩:=fresh 0 qX
   refine ⟨_,_,junk',_,hr,h1,.inr (.inr ⟨rfl,hupd _,by simp,?_⟩)⟩
   simpa [rO] using h2
 have hblk:=hw.own t b _ ht
 have hcsz:(rO xs++junk).toArray.size=c*i.size:=by simp [rK,hs,hj]
 by_cases hroom:xs.length+ys.length≤c
 · have hfit:xs.length*i.size+(rO ys).length≤(rO xs++junk).toArray.size:=by rw [hcsz,hyl,←dI];exact fJ _ hroom
   have hr:=run_append_room (P:=P) w T ty E i hT.1 hi b xs.length c (rO xs++junk).toArray hblk src ys.length c2 (rO ys) hyl hsr (by simpa using Nf ys) hroom hfit
   have e1:((rO xs++junk).toArray.toList.take (xs.length*i.size)++rO ys++(rO xs++junk).toArray.toList.drop (xs.length*i.size+(rO ys).length))=rO (xs++ys)++junk.drop (rO ys).length:=by
    rw [hs,Dk,uA]
    congr 1
    rw [←rK,mU]
   rw [e1] at hr
   refine ⟨_,_,junk.drop (rO ys).length,_,by rw [hlen];exact hr,.inr ⟨b,rfl,?_,by rw [hlen];exact hroom,hcm⟩,.inr (.inl ⟨b,rfl,rfl,tA w b _,?_⟩)⟩
   · rw [cU,hlen,rK]
     have h2:xs.length*Cells.sz α+ys.length*Cells.sz α≤c*Cells.sz α:=by rw [←dI];exact fJ _ hroom
     rw [dI];omega
   rw [mC w b _ _ E _ hblk];rfl
 have hcell:∀ j v,(rO xs)[j]?=some v→w.cell? ((⟨b,0,none⟩:Addr).add j)=some v:=fun j v hv=>by
  rw [add_lit,bO,cell_of_block hblk,bE (aJ.1 hv).1];exact hv
 have hr:=run_append_grow (P:=P) w T ty E i z hT.1 hi hz1 ⟨b,0,none⟩ xs.length c (rO xs) hxl hcell src ys.length c2 (rO ys) hyl hsr qX qX (growslice_fits qX (by rw [hby];exact hb))
 obtain ⟨junk',h1,h2⟩:=fresh c qX
 exact ⟨_,_,junk',_,by rw [hlen];exact hr,h1,.inr (.inr ⟨rfl,hupd _,by simp,h2⟩)⟩
theorem Wl.append {s x:Operand} {T E bytes:Nat} {zs:List Value} {a ad:Option Addr} {c c2:Nat} {xs ys:List α} {junk:List Value} (t:Nat) (hn:Nat.ble (d+1) B.n=true) (hT:rH P T E (Cells.sz α)) (hE:ElemOf P E (Cells.sz α) bytes zs)
 (hs:e.ev s=some (.slice a xs.length c)) (hx:e.ev x=some (.slice ad ys.length c2)) (ht:H.get t=some (a.map (·.block),rP E xs junk)) (ho:OwnA a c xs junk) (hsrc:Src H G ad ys)
 (hb:(xs.length+ys.length)*bytes≤140737488355328) (hl:xs.length+ys.length≤maxLen)
 (h:∀ a' c' junk',OwnA a' c' (xs++ys) junk'→Wl P ops rest B ⟨(d,.slice a' (xs++ys).length c') :: e,D,(t,a'.map (·.block),rP E (xs++ys) junk') :: H,G⟩ K) :
 Wl P ops (⟨some d,.call { callee:=.builtin .append,args:=#[s,x],argTypes:=#[T,T] },ty,pos,after,none⟩ :: rest) B ⟨e,D,H,G⟩ K:=by
 intro ac w hh
 obtain ⟨a',c',junk',w',hrun,ho',hcase⟩:=Px (c2:=c2) (ty:=ty) hh.mem hT hE ht ho hsrc hb hl
 unfold rM
 rw [aT (by simp [Region.wanted])]
 unfold vO
 have hex:(execOp ac.eval ⟨some d,.call { callee:=.builtin .append,args:=#[s,x],argTypes:=#[T,T] },ty,pos,after,none⟩).run P w=.ok (.value (.slice a' (xs++ys).length c')) w':=by
  simp only [execOp,resolve,invoke,builtin,aY,bB,aG,lO,bK,iQ,hh.eval hs,hh.eval hx,hrun]
 rw [hex]
 refine h a' c' junk' ho' _ _ (Hold.put ?_ hn _)
 rcases hcase with ⟨rfl,rfl,rfl⟩ | ⟨b,rfl,rfl,hu,hbk⟩ | ⟨rfl,hu,hsz,hbk⟩
 · exact hh.noBlock t _
 · exact hh.set (t:=t) (b:=b) ht hu hbk
 exact hh.ownNew t hu hsz hbk
abbrev lL:=@Wl.append
end row
end
def vL (pl:List (Nat×Nat)) (cells:List Value):List (Nat×Value)→List Value
 | []=>cells
 | (i,v) :: rest=>match pl[i]? with
   | some (off,_)=>vL pl (cells.take off++(v.cells.toList++cells.drop (off+v.cells.toList.length))) rest
   | none=>vL pl cells rest
def zF (pl:List (Nat×Nat)) (n:Nat):List (Nat×Value)→Bool
 | []=>true
 | (i,v) :: rest=>(match pl[i]? with
   | some (off,size)=>Nat.beq v.cells.toList.length size && Nat.ble (off+v.cells.toList.length) n
   | none=>false) && zF pl n rest
theorem DE (off:Nat) (v:Value) (cells:List Value) (h2:off+v.cells.toList.length≤cells.length) :
 (v.cells.zipIdx.foldl (fun cs (x:Value×Nat)=>cs.setIfInBounds (off+x.2) x.1) cells.toArray)=(cells.take off++(v.cells.toList++cells.drop (off+v.cells.toList.length))).toArray:=by
 obtain ⟨g1,g2⟩:=Great.foldl_set off v.cells.toList 0 cells.toArray
 have e0:v.cells.zipIdx.foldl (fun cs (x:Value×Nat)=>cs.setIfInBounds (off+x.2) x.1) cells.toArray=(v.cells.toList.zipIdx 0).foldl (fun cs (x:Value×Nat)=>cs.setIfInBounds (off+x.2) x.1) cells.toArray:=by
  rw [←Array.foldl_toList];simp
 rw [e0]
 apply qA
 apply eW
 intro k
 rw [lJ,g2 k]
 simp only [gJ,nP,lH]
 simp only [List.getElem?_append,bJ,gR,fF]
 have hm:min off cells.length=off:=qX
 rw [hm]
 by_cases ha:k<off
 · rw [aF (by omega),aT ha,aT ha]
 rw [aF ha]
 by_cases hb:k - off<v.cells.toList.length
 · rw [aT (by omega),aT hb]
 rw [aF (by omega),aF hb]
 congr 1
 omega
theorem Jh (place:Nat→Option (Nat×Nat)) {i off size:Nat} {v:Value} (rest:List (Nat×Value)) {cells:List Value} (hp:place i=some (off,size)) (h1:v.cells.toList.length=size) (h2:off+v.cells.toList.length≤cells.length) :
 Instr.fill place cells.toArray ((i,v) :: rest)=Instr.fill place (cells.take off++(v.cells.toList++cells.drop (off+v.cells.toList.length))).toArray rest:=by
 have hsz:v.cells.size=size:=by rw [←h1];simp
 rw [Instr.fill,hp]
 rw [kE,hsz] at h2
 simp only [hsz]
 rw [aF (by simp;omega)]
 rw [←DE off v cells (by rw [kE,hsz];exact h2)]
theorem zY (place:Nat→Option (Nat×Nat)) (pl:List (Nat×Nat)) (hp:∀ i x,pl[i]?=some x→place i=some x):∀ (parts:List (Nat×Value)) (cells:List Value) (n:Nat),cells.length=n→zF pl n parts=true→
 Instr.fill place cells.toArray parts=some (vL pl cells parts).toArray
 | [],_,_,_,_=>rfl
 | (i,v) :: rest,cells,n,hn,hok=>by
   unfold zF at hok
   cases hpl:pl[i]? with
   | none=>simp [hpl] at hok
   | some x =>
     obtain ⟨off,size⟩:=x
     simp only [hpl,aA] at hok
     obtain ⟨⟨h1,h2⟩,h3⟩:=hok
     have h1:v.cells.toList.length=size:=aB h1
     have h2:off+v.cells.toList.length≤n:=aU h2
     rw [Jh place rest (hp i _ hpl) h1 qX]
     rw [zY place pl hp rest _ n (by simp only [aQ,bJ,cU];omega) h3]
     simp [vL,hpl]
def StructOf (P:Program) (t:TypeId) (pl:List (Nat×Nat)) (zs:List Value):Prop:=
 ∃ z fs,P.underlying t=some (.struct fs)∧(∀ w,(zeroValue t).run P w=.ok z w)∧z.cells=zs.toArray∧fs.toList.map (fun f=>(f.offset,(P.info? f.type).map (·.size)))=pl.map fun x=>(x.1,some x.2)
theorem StructOf.of {P:Program} {t:TypeId} {pl:List (Nat×Nat)} {zs:List Value} (fs:Array Field) (hu:P.underlying t=some (.struct fs)) (hz:((P.info? t).bind (·.zero)).map (·.cells)=some zs.toArray)
 (hp:fs.toList.map (fun f=>(f.offset,(P.info? f.type).map (·.size)))=pl.map fun x=>(x.1,some x.2)):StructOf P t pl zs:=by
 cases hi:P.info? t with
 | none=>simp [hi] at hz
 | some i =>
   cases hz':i.zero with
   | none=>simp [hi,hz'] at hz
   | some z=>exact ⟨z,fs,hu,fun w=>by simp [zeroValue,typeInfo,hi,hz'],by simpa [hi,hz'] using hz,hp⟩
abbrev kS:=@StructOf.of
theorem run_places {P:Program} (w:World):∀ (fs:List Field) (pl:List (Nat×Nat)),fs.map (fun f=>(f.offset,(P.info? f.type).map (·.size)))=pl.map (fun x=>(x.1,some x.2))→
 (fs.mapM (fun f=>do pure (f.offset,←sizeOf f.type)):Sem (List (Nat×Nat))).run P w=.ok pl w
 | [],[],_=>rfl
 | [],_ :: _,h=>by simp at h
 | _ :: _,[],h=>by simp at h
 | f :: fs,(o,s) :: pl,h=>by
   simp only [bK,gE,cP] at h
   obtain ⟨⟨h1,h2⟩,h3⟩:=h
   have ih:=run_places w fs pl h3
   rw [List.mapM_cons]
   simp only [aY,run_sizeOf w h2,aG,bB,ih,h1]
def vQ (e:Env):List (Nat×Operand)→Option (List (Nat×Value))
 | []=>some []
 | (i,x) :: xs=>match e.ev x,vQ e xs with
   | some v,some vs=>some ((i,v) :: vs)
   | _,_=>none
section
variable {P:Program} {ops:Array Oper} {rest:List Oper} {B:Bs} {e:Env} {D:List Deferred} {H:Hp} {G:Imm} {K:Act→World→Prop}
 {ty:TypeId} {pos:String} {after:Array Edge} {d:Nat}
theorem Look.parts {a:Act} {w:World} (h:Look e H G a w):∀ {xs:List (Nat×Operand)} {vs:List (Nat×Value)},vQ e xs=some vs→xs.map (fun (i,x)=>(i,a.eval x))=vs
 | [],vs,hx=>by simp [vQ] at hx;simp [←hx]
 | (i,x) :: xs,vs,hx=>by
   unfold vQ at hx
   split at hx
   · rename_i v us h1 h2
     simp only [bL] at hx
     subst hx
     simp [h.eval h1,h.parts h2]
   cases hx
theorem Qy.build {t:TypeId} {pl:List (Nat×Nat)} {zs cs:List Value} {parts:List (Nat×Operand)} {vs:List (Nat×Value)} (hT:StructOf P t pl zs) (hx:vQ e parts=some vs) (hok:zF pl zs.length vs=true)
 (hc:vL pl zs vs=cs):Qy P (.build t parts.toArray) ty e H G (.agg cs.toArray):=fun a w _ _ _ _ hh=>by
 obtain ⟨z,fs,hu,hz,hzc,hp⟩:=hT
 have hpl:=run_places (P:=P) w fs.toList pl hp
 have hpl':(fs.mapM (fun f=>do pure (f.offset,←sizeOf f.type)):Sem (Array (Nat×Nat))).run P w=.ok pl.toArray w:=by
  have e1:(fs.mapM (fun f=>do pure (f.offset,←sizeOf f.type)):Sem (Array (Nat×Nat)))=List.toArray <$> (fs.toList.mapM (fun f=>do pure (f.offset,←sizeOf f.type))):=by
   rw [Array.mapM_eq_mapM_toList]
  rw [e1,map_eq_pure_bind]
  simp only [aY,hpl,aG,bB]
 have hf:=zY (fun i=>pl[i]?) pl (fun i x h=>h) vs zs zs.length rfl hok
 have hm:(parts.toArray.map fun (i,x)=>(i,a.eval x))=vs.toArray:=by rw [←hh.parts hx];simp
 subst hc
 simp only [execOp,hm,Instr.build,aY,hz w,aG,aO hu,hpl',hzc]
 simp [hf]
abbrev fI:=@Qy.build
def ArrayOf (P:Program) (t:TypeId) (n sz:Nat) (zs:List Value):Prop:=
 ∃ z E,P.underlying t=some (.array n E)∧(∀ w,(zeroValue t).run P w=.ok z w)∧z.cells=zs.toArray∧(P.info? E).map (·.size)=some sz
theorem ArrayOf.of {P:Program} {t:TypeId} {n sz:Nat} {zs:List Value} (E:TypeId) (hu:P.underlying t=some (.array n E)) (hz:((P.info? t).bind (·.zero)).map (·.cells)=some zs.toArray)
 (hp:(P.info? E).map (·.size)=some sz):ArrayOf P t n sz zs:=by
 cases hi:P.info? t with
 | none=>simp [hi] at hz
 | some i =>
   cases hz':i.zero with
   | none=>simp [hi,hz'] at hz
   | some z=>exact ⟨z,E,hu,fun w=>by simp [zeroValue,typeInfo,hi,hz'],by simpa [hi,hz'] using hz,hp⟩
def sZ (n sz:Nat):List (Nat×Nat):=(List.range n).map fun i=>(i*sz,sz)
theorem Ug {t:TypeId} {n sz:Nat} {zs cs:List Value} {parts:List (Nat×Operand)} {vs:List (Nat×Value)} (hT:ArrayOf P t n sz zs) (hx:vQ e parts=some vs) (hok:zF (sZ n sz) zs.length vs=true)
 (hc:vL (sZ n sz) zs vs=cs):Qy P (.build t parts.toArray) ty e H G (.agg cs.toArray):=fun a w _ _ _ _ hh=>by
 obtain ⟨z,E,hu,hz,hzc,hp⟩:=hT
 have hf:=zY (fun i=>some (i*sz,sz)) (sZ n sz) (fun i x h=>by
  simp only [sZ,cG,gI] at h
  obtain ⟨j,hj,rfl⟩:=h
  obtain ⟨hlt,hj⟩:=aJ.1 hj
  simp at hj;subst hj;rfl) vs zs zs.length rfl hok
 have hm:(parts.toArray.map fun (i,x)=>(i,a.eval x))=vs.toArray:=by rw [←hh.parts hx];simp
 subst hc
 simp only [execOp,hm,Instr.build,aY,hz w,aG,aO hu,run_sizeOf w hp,hzc]
 simp [hf]
abbrev qS:=@Ug
theorem Ji {α:Type} [Cells α] (ys:List α):∀ (xs:List α) (i:Nat) (vs:List (Nat×Value)) (cells:List Value),cells.length=(i+xs.length)*Cells.sz α→
 vs.map (fun v=>(v.1,v.2.cells))=(xs.zipIdx i).map (fun x=>(x.2,(Cells.enc x.1).toArray))→
 Instr.fill (fun i=>some (i*Cells.sz α,Cells.sz α)) cells.toArray vs=some (cells.take (i*Cells.sz α)++rO xs).toArray
 | [],i,vs,cells,hl,hv=>by
   simp only [List.zipIdx_nil,iQ,List.map_eq_nil_iff] at hv
   subst hv
   simp only [cE,gJ] at hl
   simp [Instr.fill,rO,←hl]
 | x :: xs,i,vs,cells,hl,hv=>by
   cases vs with
   | nil=>simp at hv
   | cons v vs =>
     simp only [bK,List.zipIdx_cons,gE,cP] at hv
     obtain ⟨⟨h1,h2⟩,h3⟩:=hv
     obtain ⟨j,v⟩:=v
     simp only at h1 h2
     subst h1
     have e1:(j+(x :: xs).length)*Cells.sz α=j*Cells.sz α+Cells.sz α+xs.length*Cells.sz α:=by simp only [bH,dI,mG];omega
     have hvl:v.cells.toList.length=Cells.sz α:=by rw [h2];simp [Cells.len]
     have step:=Jh (fun i=>some (i*Cells.sz α,Cells.sz α)) (i:=j) (v:=v) vs (cells:=cells) rfl hvl (by rw [hl,e1,hvl];omega)
     rw [step]
     rw [Ji ys xs (j+1) vs _ (by simp only [aQ,bJ,cU,hvl,dI,mG];omega) h3]
     have e2:(j+1)*Cells.sz α=j*Cells.sz α+Cells.sz α:=by simp only [dI,mG]
     have e3:List.take ((j+1)*Cells.sz α) (List.take (j*Cells.sz α) cells++(v.cells.toList++List.drop (j*Cells.sz α+v.cells.toList.length) cells))=List.take (j*Cells.sz α) cells++Cells.enc x:=by
      rw [e2,←cV,eB (by simp only [aQ,bJ,hvl];omega)]
      rw [gK (by simp only [aQ,bJ,hvl];omega),h2]
     rw [e3,tR,cV]
theorem Wl.lit {α:Type} [Cells α] {T:TypeId} {E bytes n:Nat} {zs:List Value} {parts:List (Nat×Operand)} {vs:List (Nat×Value)} (t:Nat) (xs:List α) (hn:Nat.ble (d+1) B.n=true) (hT:rH P T E (Cells.sz α)) (hE:ElemOf P E (Cells.sz α) bytes zs)
 (hx:vQ e parts=some vs) (hv:vs.map (fun v=>(v.1,v.2.cells))=(xs.zipIdx 0).map (fun x=>(x.2,(Cells.enc x.1).toArray))) (hl:xs.length=n) (hp:Nat.ble 1 n=true) (hs:Nat.ble (n*Cells.sz α) 16777216=true)
 (h:∀ b,Wl P ops rest B ⟨(d,.slice (some ⟨b,0,none⟩) xs.length n) :: e,D,(t,some b,rP E xs []) :: H,G⟩ K) :
 Wl P ops (⟨some d,.buildSlice T n parts.toArray,ty,pos,after,none⟩ :: rest) B ⟨e,D,H,G⟩ K:=by
 obtain ⟨i,z,hi,hz1,hz2,hsz,hby,hzl,hs0⟩:=hE
 have hp:=aU hp
 have hs:=aU hs
 refine nM (v:=fun b=>.slice (some ⟨b,0,none⟩) xs.length n) t hn (fun a w hh=>?_) h
 have hm:(parts.toArray.map fun (i,x)=>(i,a.eval x))=vs.toArray:=by rw [←hh.look.parts hx];simp
 have hf:=Ji xs xs 0 vs (((Array.range (n*i.size)).map (z.cells[· % z.cells.size]!)).toList) (by simp [hsz,hl]) hv
 simp only [Array.toArray_toList,mQ,bY,fD] at hf
 have h1:=run_buildSlice (P:=P) w T E n vs.toArray (rO xs).toArray i z hT.1 hi hz1 Mv (by rw [hsz];have:=Nat.mul_pos hp hs0;omega) (by rw [hsz];rw [hsz] at hf;exact hf)
 subst hl
 simp only [execOp,hm,aY,h1,aG,bB,rP,eN]
abbrev iC:=@Wl.lit
theorem DF {T:TypeId} {E sz:Nat} (t:Nat) (hn:Nat.ble (d+1) B.n=true) (hT:rH P T E sz)
 (h:∀ b,Wl P ops rest B ⟨(d,.slice (some ⟨b,0,none⟩) 0 0) :: e,D,(t,some b,.cells #[] E (0,0)) :: H,G⟩ K) :
 Wl P ops (⟨some d,.buildSlice T 0 #[],ty,pos,after,none⟩ :: rest) B ⟨e,D,H,G⟩ K:=
 nM (v:=fun b=>.slice (some ⟨b,0,none⟩) 0 0) t hn (fun a w hh=>by
  simp [execOp,Instr.buildSlice,aO hT.1,run_sizeOf w hT.2,Instr.fill,newRow,show Array.range 0=#[] from lX rV]) h
abbrev pM:=@DF
section cut
variable {T:TypeId} {x:Operand} {a:Option Addr} {n c E sz:Nat}
theorem DG {hi:Operand} {k:IntKind} {m:Int} (hT:rH P T E sz) (hx:e.ev x=some (.slice a n c)) (hh:e.ev hi=some (.int k m)) (hb:0≤m∧m≤c) :
 Qy P (.slice T x none (some hi) none) ty e H G (.slice (subA a c 0 sz) m.toNat c):=fun ac w _ _ _ _ hk=>by
 have hr:=run_sizeOf (P:=P) w hT.2
 have hu:P.underlying T=some (.slice (P.elem T)):=by simp [Program.elem,hT.1]
 have he:P.elem T=E:=by simp [Program.elem,hT.1]
 have:=run_slice_h (P:=P) (w:=w) T a n c hu k m hb.1 hb.2
 simp only [execOp,hk.eval hx,dP,iV,hk.eval hh,aY,nL (P:=P) (w:=w) T _ _ _ _ hu,this,he,hr,aG,bB,sliced,subA,mS]
theorem DH {lo:Operand} {k:IntKind} {m:Int} (hT:rH P T E sz) (hx:e.ev x=some (.slice a n c)) (hh:e.ev lo=some (.int k m)) (hb:0≤m∧m≤n) (hc:n≤c) :
 Qy P (.slice T x (some lo) none none) ty e H G (.slice (subA a c m.toNat sz) (n - m.toNat) (c - m.toNat)):=fun ac w _ _ _ _ hk=>by
 have hr:=run_sizeOf (P:=P) w hT.2
 have hu:P.underlying T=some (.slice (P.elem T)):=by simp [Program.elem,hT.1]
 have he:P.elem T=E:=by simp [Program.elem,hT.1]
 have:=run_slice_l (P:=P) (w:=w) T a n c hu k m hb.1 hb.2
 simp only [execOp,hk.eval hx,dP,iV,hk.eval hh,aY,nL (P:=P) (w:=w) T _ _ _ _ hu,this,he,hr,aG,bB,sliced,subA]
theorem Xr {lo hi:Operand} {k k':IntKind} {m m':Int} (hT:rH P T E sz) (hx:e.ev x=some (.slice a n c)) (hh:e.ev lo=some (.int k m)) (hh':e.ev hi=some (.int k' m')) (h0:0≤m) (h1:m≤m') (h2:m'≤c) :
 Qy P (.slice T x (some lo) (some hi) none) ty e H G (.slice (subA a c m.toNat sz) (m'.toNat - m.toNat) (c - m.toNat)):=fun ac w _ _ _ _ hk=>by
 have hr:=run_sizeOf (P:=P) w hT.2
 have hu:P.underlying T=some (.slice (P.elem T)):=by simp [Program.elem,hT.1]
 have he:P.elem T=E:=by simp [Program.elem,hT.1]
 have:=run_slice_lh (P:=P) (w:=w) T a n c hu k k' m m' h0 h1 h2
 simp only [execOp,hk.eval hx,dP,iV,hk.eval hh,hk.eval hh',aY,nL (P:=P) (w:=w) T _ _ _ _ hu,this,he,hr,aG,bB,sliced,subA]
end cut
def vF (P : Program) (f : Field) : Bool × Nat := (f.name != "_" && (match P.underlying f.type with | some (.int .i64) => true | _ => false) && sY P f.type, f.offset)
def xW (P:Program) (t n:Nat):Prop:=P.underlying t=some (.struct (P.fieldsOf t))∧P.stoodInHeld t=false∧P.eqGuardType P.depth t=false∧
 (P.fieldsOf t).toList.map (vF P)=(List.range n).map fun i=>(true,i)
def wW (xs:List Int):Array Value:=(xs.map (Value.int .i64)).toArray
theorem Et {P:Program} (w:World) (xs ys:List Int) (n:Nat) (hx:xs.length=n) (hy:ys.length=n):∀ (fs:List Field) (s:Nat),
 fs.map (vF P)=(List.range' s (n - s)).map (fun i=>(true,i))→s≤n→
 (Op.eqFields 9999 (wW xs) (wW ys) fs).run P w=.ok (decide (xs.drop s=ys.drop s)) w
 | [],s,h,hs=>by
   have h0:n - s=0:=by
    have:=congrArg List.length h;simpa using this.symm
   simp only [Op.eqFields,bB]
   rw [eC qX,eC qX]
   simp
 | f :: fs,s,h,hs=>by
   have hlen:n - s=fs.length+1:=by have:=congrArg List.length h;simpa using this.symm
   have hsn:s<n:=qX
   rw [show n - s=(n - (s+1))+1 by omega,qU] at h
   simp only [bK,vF,gE,cP,aA] at h
   obtain ⟨⟨⟨⟨h1,h2⟩,h3⟩,h4⟩,h5⟩:=h
   have ih:=Et (P:=P) w xs ys n hx hy fs (s+1) h5 qX
   have hname : f.name ≠ "_" := by simpa using h1
   have hint:P.underlying f.type=some (.int .i64):=by
    split at h2
    · assumption
    cases h2
   have hpart:∀ zs:List Int,zs.length=n→(part f.type (wW zs) f.offset).run P w=.ok (.int .i64 (zs[s]?.getD 0)) w:=fun zs hz=>by
    have hl:s<zs.length:=qX
    simp [part,tG w h3,h4,wW,hl]
   rw [Op.eqFields,aT hname]
   simp only [aY,hpart xs hx,hpart ys hy,aG,run_equalIn_int (P:=P) w 9998 f.type .i64 .i64 _ _ hint]
   have hxl:s<xs.length:=qX
   have hyl:s<ys.length:=qX
   have ex:xs.drop s=(xs[s]?.getD 0) :: xs.drop (s+1):=by rw [gW hxl];simp [hxl]
   have ey:ys.drop s=(ys[s]?.getD 0) :: ys.drop (s+1):=by rw [gW hyl];simp [hyl]
   rw [ex,ey]
   by_cases hq:xs[s]?.getD 0=ys[s]?.getD 0
   · simp [hq,ih]
   simp [hq]
theorem vX {P:Program} {t n:Nat} (hT:xW P t n) (w:World) (xs ys:List Int) (hx:xs.length=n) (hy:ys.length=n):(Op.equal t (.agg (wW xs)) (.agg (wW ys))).run P w=.ok (decide (xs=ys)) w:=by
 obtain ⟨h1,h2,h3,h4⟩:=hT
 have:=Et (P:=P) w xs ys n hx hy (P.fieldsOf t).toList 0 (by rw [h4,mS,oX]) (aZ _)
 simp only [Op.equal,Op.maxDepth]
 rw [run_equalIn_agg (P:=P) w 9999 t _ _ h1 h2,this]
 simp
theorem zZ {t t':TypeId} {x y:Operand} {n:Nat} (xs ys:List Int) (hT:xW P t n) (hx:e.ev x=some (.agg (wW xs))) (hy:e.ev y=some (.agg (wW ys))) (h1:xs.length=n) (h2:ys.length=n) :
 Qy P (.binOp .eql t x y t') ty e H G (.bool (decide (xs=ys))):=fun a w _ _ _ _ hh=>by
 simp only [execOp,hh.eval hx,hh.eval hy,aY,run_eqGuard_agg (P:=P) w .eql t x y _ _ hT.2.2.1,aG,run_eql_struct]
 have:=vX hT w xs ys h1 h2
 simp only [Op.equal,Op.maxDepth] at this
 simp [this]
theorem DI {t t':TypeId} {x y:Operand} {n:Nat} (xs ys:List Int) (hT:xW P t n) (hx:e.ev x=some (.agg (wW xs))) (hy:e.ev y=some (.agg (wW ys))) (h1:xs.length=n) (h2:ys.length=n) :
 Qy P (.binOp .neq t x y t') ty e H G (.bool (decide (xs≠ys))):=fun a w _ _ _ _ hh=>by
 simp only [execOp,hh.eval hx,hh.eval hy,aY,run_eqGuard_agg (P:=P) w .neq t x y _ _ hT.2.2.1,aG,run_neq_struct]
 have:=vX hT w xs ys h1 h2
 simp only [Op.equal,Op.maxDepth] at this
 simp [this]
end
class OneVal (κ:Type) where
 val:κ→Value
instance:OneVal Int:=⟨fun n=>.int .i64 n⟩
instance:OneVal Bool:=⟨fun b=>.bool b⟩
structure K4 where
 op:Int
 a:Int
 b:Int
 c:Int
 deriving DecidableEq
instance:OneVal K4:=⟨fun k=>.agg (wW [k.op,k.a,k.b,k.c])⟩
structure KeyT (P:Program) (kt:TypeId) (κ:Type) [DecidableEq κ] [OneVal κ]:Prop where
 check:∀ em w (k:κ),(Instr.checkKey em 10000 kt (OneVal.val k)).run P w=.ok () w
 find:∀ w (k:κ) (l:List MapEntry) (ks:List κ),l.map (·.key)=ks.map OneVal.val→
  (Instr.findKey kt (OneVal.val k) l).run P w=.ok ((ks.findIdx? (fun k'=>decide (k'=k))).bind fun i=>(l[i]?).map fun x=>(i,x.val)) w
 stays:∀ w (k:κ),(Instr.keyThatStays (OneVal.val k) (OneVal.val k)).run P w=.ok (OneVal.val k) w
section maps
variable {κ:Type} [DecidableEq κ] [OneVal κ]
def rN (s:Nat):List (κ×Int)→List MapEntry
 | []=>[]
 | (k,v) :: xs=>{ key:=OneVal.val k,val:=.int .i64 v,born:=s } :: rN (s+1) xs
def sC (xs:List (κ×Int)):Obj:=.map (rN 0 xs).toArray xs.length
def uF (xs:List (κ×Int)) (k:κ):Option Int:=(xs.find? (fun x=>decide (x.1=k))).map (·.2)
def Ii:List (κ×Int)→κ→Int→List (κ×Int)
 | [],k,v=>[(k,v)]
 | (k',v') :: xs,k,v=>if k'=k then (k',v) :: xs else (k',v') :: Ii xs k v
theorem Eu (xs:List (κ×Int)):∀ s,(rN s xs).length=xs.length:=by
 induction xs with
 | nil=>intro s;rfl
 | cons x xs ih=>intro s;simp [rN,ih]
theorem Ld (xs:List (κ×Int)):∀ s,(rN s xs).map (·.key)=(xs.map (·.1)).map OneVal.val:=by
 induction xs with
 | nil=>intro s;rfl
 | cons x xs ih=>intro s;simp [rN,ih]
theorem uB (xs:List (κ×Int)):∀ (s i:Nat),(rN s xs)[i]?=(xs[i]?).map fun (x:κ×Int)=>({ key:=OneVal.val x.1,val:=.int .i64 x.2,born:=s+i }:MapEntry):=by
 induction xs with
 | nil=>intro s i;simp [rN]
 | cons x xs ih =>
   intro s i
   cases i with
   | zero=>simp [rN]
   | succ i=>simp [rN,ih];congr 1;funext x;congr 1;omega
theorem xX (xs ys:List (κ×Int)):∀ s,rN s (xs++ys)=rN s xs++rN (s+xs.length) ys:=by
 induction xs with
 | nil=>intro s;simp [rN]
 | cons x xs ih=>intro s;simp [rN,ih];congr 1;omega
theorem Cy (xs:List (κ×Int)) (i:Nat) (k:κ) (v v':Int) (h:xs[i]?=some (k,v)):∀ s,rN s (xs.set i (k,v'))=(rN s xs).modify i (fun e=>{ e with val:=.int .i64 v' }):=by
 intro s
 apply eW
 intro j
 rw [uB,pA,uB,fO]
 by_cases hij:i=j
 · subst hij
   obtain ⟨hl,hg⟩:=aJ.1 h
   simp [hl,hg]
 simp [hij]
theorem Xs (xs:List (κ×Int)) (k:κ):((xs.map (·.1)).findIdx? (fun k'=>decide (k'=k))).bind (fun i=>((rN 0 xs)[i]?).map fun x=>(i,x.val)) =
 ((xs.map (·.1)).findIdx? (fun k'=>decide (k'=k))).bind (fun i=>(uF xs k).map fun v=>(i,Value.int .i64 v)):=by
 have key:∀ (xs:List (κ×Int)) s,((xs.map (·.1)).findIdx? (fun k'=>decide (k'=k))).bind (fun i=>((rN s xs)[i]?).map fun x=>(i,x.val)) =
  ((xs.map (·.1)).findIdx? (fun k'=>decide (k'=k))).bind (fun i=>(uF xs k).map fun v=>(i,Value.int .i64 v)):=by
  intro xs
  induction xs with
  | nil=>intro s;rfl
  | cons x xs ih =>
    intro s
    obtain ⟨k',v⟩:=x
    simp only [bK,iR]
    by_cases hk:k'=k
    · simp [hk,rN,uF]
    have hm:uF ((k',v) :: xs) k=uF xs k:=by simp [uF,hk]
    have ih':=ih (s+1)
    simp only [hk,decide_false,kP,dO,hm]
    cases hf:(xs.map (·.1)).findIdx? (fun k'=>decide (k'=k)) with
    | none=>simp
    | some i =>
      rw [hf] at ih'
      simp only [gO] at ih'
      simp only [dP,gO,rN,gB]
      cases h1:(rN (s+1) xs)[i]? <;> cases h2:uF xs k <;> simp_all
 exact key xs 0
theorem Bt (xs:List (κ×Int)) (k:κ):uF xs k=none↔(xs.map (·.1)).findIdx? (fun k'=>decide (k'=k))=none:=by
 simp [uF,nJ]
theorem Jj (xs:List (κ×Int)) (k:κ) {v:Int} (h:uF xs k=some v):∃ i,(xs.map (·.1)).findIdx? (fun k'=>decide (k'=k))=some i∧xs[i]?=some (k,v)∧∀ v',Ii xs k v'=xs.set i (k,v'):=by
 induction xs with
 | nil=>simp [uF] at h
 | cons x xs ih =>
   obtain ⟨k',u⟩:=x
   by_cases hk:k'=k
   · subst hk
     refine ⟨0,by simp [iR],?_,fun v'=>by simp [Ii]⟩
     rw [uF,List.find?_cons] at h
     simp at h
     simp [h]
   have hm:uF ((k',u) :: xs) k=uF xs k:=by simp [uF,hk]
   obtain ⟨i,h1,h2,h3⟩:=ih (hm▸h)
   exact ⟨i+1,by simp [iR,hk,h1],by simpa using h2,fun v'=>by simp [Ii,hk,h3]⟩
theorem Uh (xs:List (κ×Int)) (k:κ) (v:Int) (h:uF xs k=none):Ii xs k v=xs++[(k,v)]:=by
 induction xs with
 | nil=>rfl
 | cons x xs ih =>
   obtain ⟨k',u⟩:=x
   by_cases hk:k'=k
   · simp [uF,hk] at h
   have hm:uF ((k',u) :: xs) k=uF xs k:=by simp [uF,hk]
   simp [Ii,hk,ih (hm▸h)]
section find
variable {P:Program} {kt:TypeId}
theorem KeyT.look (h:KeyT P kt κ) (w:World) (xs:List (κ×Int)) (k:κ):(Instr.findKey kt (OneVal.val k) (rN 0 xs)).run P w =
 .ok (((xs.map (·.1)).findIdx? (fun k'=>decide (k'=k))).bind (fun i=>(uF xs k).map fun v=>(i,Value.int .i64 v))) w:=by
 rw [h.find w k (rN 0 xs) (xs.map (·.1)) (Ld xs 0),Xs]
end find
end maps
theorem KeyT.int {P:Program} {kt:TypeId} (h:P.underlying kt=some (.int .i64)):KeyT P kt Int where
 check em w k:=MapKept.run_checkKey (k:=.int .i64 k) h (show MapKept.IsKey (.int .i64) (.int .i64 k) from rfl) em 9999
 stays w k:=MapKept.run_keyThatStays (d:=.int .i64) (show MapKept.IsKey (.int .i64) (.int .i64 k) from rfl)
 find w k l ks hk:=by
  have key:∀ (l:List MapEntry) (ks:List Int) (s:Nat),l.map (·.key)=ks.map OneVal.val→Instr.findNow (.int .i64) (.int .i64 k) l s=some ((ks.findIdx? (fun k'=>decide (k'=k))).bind fun i=>(l[i]?).map fun x=>(s+i,x.val)):=by
   intro l
   induction l with
   | nil=>intro ks s hk;cases ks <;> simp at hk;rfl
   | cons x l ih =>
     intro ks s hk
     cases ks with
     | nil=>simp at hk
     | cons k' ks =>
       simp only [bK,gE] at hk
       obtain ⟨h1,h2⟩:=hk
       have h1:x.key=.int .i64 k':=h1
       have hs:Instr.sameNow (.int .i64) (.int .i64 k) x.key=some (k == k'):=by rw [h1];simp [Instr.sameNow]
       by_cases he:k'=k
       · subst he
         have hb:(k' == k')=true:=rV
         rw [hb] at hs
         simp only [Instr.findNow,hs,iR,decide_true,dN,gO,List.getElem?_cons_zero,dP,gJ]
       have hb:(k == k')=false:=beq_eq_false_iff_ne.2 (oI he)
       rw [hb] at hs
       simp only [Instr.findNow,hs,ih ks (s+1) h2,iR,he,decide_false,kP,dO]
       congr 1
       cases ks.findIdx? (fun k'=>decide (k'=k)) with
       | none=>rfl
       | some i=>simp only [dP,gO,gB,show s+1+i=s+(i+1) by omega]
  have:=MapKept.run_findKey (P:=P) (w:=w) h (key l ks 0 hk)
  simp only [bO] at this
  exact this
theorem Ij (xs:List Int) (n:Nat):Instr.sameBits (n+1) (.agg (wW xs)) (.agg (wW xs))=true:=by
 simp only [Instr.sameBits,BEq.rfl,nY,wW]
 rw [dW]
 intro x hx
 have:∀ (l:List Int) (x:Value×Value),x∈(l.map (Value.int .i64)).zip (l.map (Value.int .i64))→∃ v,x=(.int .i64 v,.int .i64 v):=by
  intro l
  induction l with
  | nil=>intro x h;simp at h
  | cons a l ih =>
    intro x h
    simp only [bK,List.zip_cons_cons,cH] at h
    rcases h with rfl | h
    · exact ⟨a,rfl⟩
    exact ih x h
 obtain ⟨v,rfl⟩:=this xs x hx
 cases n <;> simp [Instr.sameBits]
theorem Ik {P:Program} {t n:Nat} (hT:xW P t n) (em:Bool) (w:World) (xs:List Int) (hx:xs.length=n):(Instr.checkKey em 10000 t (.agg (wW xs))).run P w=.ok () w:=by
 obtain ⟨h1,h2,h3,h4⟩:=hT
 have key:∀ (fs:List Field) (s:Nat),fs.map (vF P)=(List.range' s (n - s)).map (fun i=>(true,i))→s≤n→
  (forIn fs PUnit.unit (fun f _ => if f.name ≠ "_" then (do let a ← part f.type (wW xs) f.offset; Instr.checkKey em 9999 f.type a; pure (ForInStep.yield PUnit.unit)) else pure (ForInStep.yield PUnit.unit)) : Sem PUnit).run P w = .ok PUnit.unit w := by
  intro fs
  induction fs with
  | nil=>intro s _ _;simp
  | cons f fs ih =>
    intro s h hs
    have hlen:n - s=fs.length+1:=by have:=congrArg List.length h;simpa using this.symm
    rw [show n - s=(n - (s+1))+1 by omega,qU] at h
    simp only [bK,vF,gE,cP,aA] at h
    obtain ⟨⟨⟨⟨g1,g2⟩,g3⟩,g4⟩,g5⟩:=h
    have ih:=ih (s+1) g5 qX
    have hname : f.name ≠ "_" := by simpa using g1
    have hint:P.underlying f.type=some (.int .i64):=by
     split at g2
     · assumption
     cases g2
    have hl:s<xs.length:=qX
    have hpart:(part f.type (wW xs) f.offset).run P w=.ok (.int .i64 (xs[s]?.getD 0)) w:=by
     simp [part,tG w g3,g4,wW,hl]
    have hck:(Instr.checkKey em 9999 f.type (.int .i64 (xs[s]?.getD 0))).run P w=.ok () w:=MapKept.run_checkKey hint (show MapKept.IsKey (.int .i64) (.int .i64 _) from rfl) em 9998
    rw [List.forIn_cons]
    simp only [hname,ne_eq,not_false_eq_true,dN,aY,hpart,hck,aG,bB]
    exact ih
 have h0:=key (P.fieldsOf t).toList 0 (by rw [h4,mS,oX]) (aZ _)
 unfold Instr.checkKey
 simp only [aY,aO h1,aG]
 rw [Array.forIn_toList] at h0
 simp only [h0,aG,bB]
theorem KeyT.k4 {P:Program} {kt:TypeId} (hT:xW P kt 4):KeyT P kt K4 where
 check em w k:=Ik hT em w _ rfl
 stays w k:=by
  have:Instr.sameBits 10000 (OneVal.val k) (OneVal.val k)=true:=Ij _ 9999
  simp [Instr.keyThatStays,this]
 find w k l ks hk:=by
  have hwide:(match P.underlying kt with | some (.array _ _) | some (.struct _)=>true | _=>false)=true:=by rw [hT.1]
  have key:∀ (l:List MapEntry) (ks:List K4) (s:Nat),l.map (·.key)=ks.map OneVal.val→
   (Instr.findAsking kt (OneVal.val k) l s).run P w=.ok ((ks.findIdx? (fun k'=>decide (k'=k))).bind fun i=>(l[i]?).map fun x=>(s+i,x.val)) w:=by
   intro l
   induction l with
   | nil=>intro ks s hk;cases ks <;> simp at hk;simp [Instr.findAsking]
   | cons x l ih =>
     intro ks s hk
     cases ks with
     | nil=>simp at hk
     | cons k' ks =>
       simp only [bK,gE] at hk
       obtain ⟨h1,h2⟩:=hk
       have heq:(Op.equal kt (OneVal.val k) x.key).run P w=.ok (decide (k=k')) w:=by
        rw [h1]
        have:=vX hT w [k.op,k.a,k.b,k.c] [k'.op,k'.a,k'.b,k'.c] rfl rfl
        rw [show (OneVal.val k:Value)=.agg (wW [k.op,k.a,k.b,k.c]) from rfl,show (OneVal.val k':Value)=.agg (wW [k'.op,k'.a,k'.b,k'.c]) from rfl,this]
        congr 1
        cases k;cases k'
        simp
       simp only [Instr.findAsking,aY,heq,aG,iR]
       by_cases he:k'=k
       · subst he;simp
       have he':k≠k':=oI he
       simp only [he',he,decide_false,kP,dO]
       rw [ih ks (s+1) h2]
       congr 1
       cases ks.findIdx? (fun k'=>decide (k'=k)) with
       | none=>rfl
       | some i=>simp only [dP,gO,gB,show s+1+i=s+(i+1) by omega]
  rw [run_findKey_eq (P:=P) w hwide]
  have:=key l ks 0 hk
  simp only [bO] at this
  exact this
section ops
variable {P:Program} {ops:Array Oper} {rest:List Oper} {B:Bs} {e:Env} {D:List Deferred} {H:Hp} {G:Imm} {K:Act→World→Prop}
 {ty:TypeId} {pos:String} {after:Array Edge} {d:Nat}
variable {κ:Type} [DecidableEq κ] [OneVal κ] {T kt et:TypeId}
theorem wX (t:TypeId) (w:World):(Instr.makeMap t none).run P w=.ok (.map (some w.heap.size)) (w.alloc (.map #[] 0)):=rfl
structure MapT (P:Program) (T kt:TypeId) (κ:Type) [DecidableEq κ] [OneVal κ]:Prop where
 und:∃ et,P.underlying T=some (.map kt et)∧∀ w,(zeroValue et).run P w=.ok (.int .i64 0) w
 key:KeyT P kt κ
theorem DJ {w:World} {r:Nat} {o:Obj}:Upd (·=r) w { w with heap:=w.heap.setIfInBounds r o }:=
 ⟨rfl,rfl,rfl,by simp,fun k _ hk=>by simp [oI hk]⟩
end ops
end Go.Sl
