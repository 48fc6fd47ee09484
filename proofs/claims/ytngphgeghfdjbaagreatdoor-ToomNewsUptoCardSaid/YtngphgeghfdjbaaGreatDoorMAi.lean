/- sT of the proof (part 9): what the rows' text needs of the texts that lead to it. -/
import Derived.Test.YtngphgeghfdjbaaGreatDoorMAh
set_option linter.unusedVariables false
set_option linter.unusedSimpArgs false
set_option linter.unusedSectionVars false
set_option maxHeartbeats 4000000
noncomputable section
set_option maxRecDepth 100000
namespace Go.Sl.Ev
open Go Go.Sl
def QY (P:Program) (op:Op) (ρ:Pl) (h:Tr CB) (nx:Nat) (a:Act) (c:CV) (h':Tr CB) (nx':Nat):Prop:=
 ∃ (b:CB) (s:Nat) (o:Obj) (V:Nat→Value),nx'=nx+1∧h'=h.set (some b) rO nx∧nx+1≤rO∧Og b=nx∧DB nx ρ s b o∧
  (∀ (ρ':Pl) (p:Nat),ρ' nx=(p,s)→Kn (nx+1) ρ' c (V p))∧
  ∀ (w:World) (d:Option Tmp) (ty:TypeId) (pos:String) (after:Array Edge) (g:Option (Nat×Bool)),(execOp a.eval ⟨d,op,ty,pos,after,g⟩).run P w=.ok (.value (V w.heap.size)) (w.alloc o)
def QZ:Op→Option (List Operand)
 | .alloc _=>some []
 | .box _ x=>some [x]
 | .makeSlice _ x y=>some [x,y]
 | .buildSlice _ _ parts=>some (parts.toList.map (·.2))
 | .makeMap _ none=>some []
 | _=>none
section
variable {P:Program} {nx n:Nat} {ρ:Pl} {E:Tr CV} {h:Tr CB} {a:Act}
theorem GJ (hs:Slots ρ E nx n a) {op:Op} {xs:List Operand} (hx:QZ op=some xs) {c:CV} {h':Tr CB} {nx':Nat} (hw:wm P E h nx op=.val c h' nx'):QY P op ρ h nx a c h' nx':=by
 have hv:wv P E h nx op=.val c h' nx'∨mv P E h nx op=.val c h' nx':=by
  unfold wm at hw
  split at hw
  · exact .inr hw
  exact .inl hw
 cases op with
 | alloc T =>
   rcases hv with hv | hv
   · have hv':(match LA P T with | some z=>bif Nat.ble (Nat.succ nx) rO then Ro.val (.ptr nx 0) (h.set (some (.cells (Kz z) T false nx)) rO nx) (Nat.succ nx) else .bad | none=>.bad)=.val c h' nx':=hv
     split at hv'
     · rename_i z hz
       rcases rK hv' with ⟨hf,h1⟩ | ⟨_,h1⟩
       · cases h1
         obtain ⟨i,v,hi,hv,kz⟩:=Jc hz nx ρ
         refine ⟨_,v.cells.toList.length,.cells v.cells.toList.toArray T (0,0),fun p=>.pointer (some ⟨p,0,none⟩),rfl,rfl,rU hf,rfl,uT kz T,fun ρ' p hρ=>⟨cK nx,?_⟩,fun w d ty pos after g=>?_⟩
         · show _=Value.pointer (some ⟨(ρ' nx).1,0,none⟩)
           rw [hρ]
         simp [execOp,Instr.alloc,newVar,newRow,zeroValue,typeInfo,hi,hv]
       cases h1
     cases hv'
   · cases hv
 | box T x =>
   rcases hv with hv | hv
   · have hv':(match sU E x with
      | some c=>match xU c with
        | some l=>bif Nat.ble (Nat.succ nx) rO then Ro.val (.ptr nx 0) (h.set (some (.cells (Kz l) T false nx)) rO nx) (Nat.succ nx) else .bad
        | none=>.bad
      | none=>.bad)=.val c h' nx':=hv
     split at hv'
     · rename_i c1 hc
       split at hv'
       · rename_i l hl
         rcases rK hv' with ⟨hf,h1⟩ | ⟨_,h1⟩
         · cases h1
           obtain ⟨v,e1,k1⟩:=rM hs hc
           have kz:=yB k1 hl
           refine ⟨_,v.cells.toList.length,.cells v.cells.toList.toArray T (0,0),fun p=>.pointer (some ⟨p,0,none⟩),rfl,rfl,rU hf,rfl,uT kz T,fun ρ' p hρ=>⟨cK nx,?_⟩,fun w d ty pos after g=>?_⟩
           · show _=Value.pointer (some ⟨(ρ' nx).1,0,none⟩)
             rw [hρ]
           simp [execOp,Instr.box,newVar,newRow,tH e1]
         cases h1
       cases hv'
     cases hv'
   · cases hv
 | makeSlice T x y =>
   rcases hv with hv | hv
   · have hv':(match FU P T with
      | some (e,sz,by',z)=>match sU E x with
        | some (.int _ n)=>match sU E y with
          | some (.int _ c)=>bif uO 0 n && (uO n c && (Nat.ble (Nat.mul by' c.toNat) 281474976710656 && (Nat.ble c.toNat 4611686018427387904 && Nat.ble (Nat.succ nx) rO))) then
           Ro.val (.sl nx 0 n.toNat sz (some c.toNat)) (h.set (some (.cells (Kz (Ua z c.toNat)) e false nx)) rO nx) (Nat.succ nx) else .bad
          | _=>.bad
        | _=>.bad
      | none=>.bad)=.val c h' nx':=hv
     split at hv'
     · rename_i e sz by' z hz
       split at hv'
       · rename_i k N hx
         split at hv'
         · rename_i k' C hy
           rcases rK hv' with ⟨hb,h1⟩ | ⟨_,h1⟩
           · cases h1
             simp only [aB,sZ,aQ] at hb
             obtain ⟨hb1,hb2,hb3,hb4,hb5⟩:=hb
             have hb3:by'*C.toNat≤281474976710656:=rU hb3
             have hb4:=rU hb4
             obtain ⟨hu,i,zv,hi,hzv,hsz,hby,kz,hzl,h0⟩:=Eo hz nx ρ
             obtain ⟨v1,e1,k1⟩:=rM hs hx
             obtain ⟨v2,e2,k2⟩:=rM hs hy
             rw [fY.1 k1.2] at e1
             rw [fY.1 k2.2] at e2
             have hbc:(i.bytes:Int)*C≤281474976710656:=by
              have:((by'*C.toNat:Nat):Int)=(i.bytes:Int)*C:=by rw [eW,cL rG,hby]
              omega
             have hmade:madeCells zv.cells (C.toNat*i.size)=(List.replicate C.toNat zv.cells.toList).flatten.toArray:=by
              have:=Hc (zs:=zv.cells.toList) rG C.toNat
              rw [hzl] at this
              rw [hsz,←this]
             have hlen:(List.replicate C.toNat zv.cells.toList).flatten.length=C.toNat*sz:=by simp [←hzl]
             refine ⟨_,C.toNat*sz,.cells (List.replicate C.toNat zv.cells.toList).flatten.toArray e (0,0),fun p=>.slice (some ⟨p,0,none⟩) N.toNat C.toNat,rfl,rfl,rU hb5,rfl,by rw [←hlen];exact uT (Gs kz C.toNat) e,fun ρ' p hρ=>⟨cK nx,?_⟩,fun w d ty pos after g=>?_⟩
             · refine jG.2 ⟨by rw [hρ],by rw [hρ];show 0+C.toNat*sz≤C.toNat*sz;omega,by omega,?_⟩
               simp only [maxLen];omega
             have hrun:=run_make (P:=P) w T e i zv hu hi hzv k k' N C hb1 hb2 hbc rG
             rw [hmade] at hrun
             simp only [execOp,tH e1,tH e2,bE,hrun,aO,bJ]
           cases h1
         cases hv'
       cases hv'
     cases hv'
   · cases hv
 | buildSlice T N parts =>
   obtain ⟨parts⟩:=parts
   rcases hv with hv | hv
   · have hv':(match FU P T with
      | some (e,sz,_,z)=>bif Nat.ble 1 N && (Nat.ble (Nat.mul N sz) 16777216 && Nat.ble (Nat.succ nx) rO) then
       (match Dc E (tR N sz) (Nat.mul N sz) parts (Ua z N) with
       | some l=>Ro.val (.sl nx 0 N sz (some N)) (h.set (some (.cells (Kz l) e false nx)) rO nx) (Nat.succ nx)
       | none=>.bad) else .bad
      | none=>.bad)=.val c h' nx':=hv
     split at hv'
     · rename_i e sz by' z hz
       rcases rK hv' with ⟨hb,h1⟩ | ⟨_,h1⟩
       · split at h1
         · rename_i l hl
           cases h1
           simp only [aB] at hb
           obtain ⟨hu,i,zv,hi,hzv,hsz,hby,kz,hzl,h0⟩:=Eo hz nx ρ
           have kr:=Gs kz N
           obtain ⟨vs,e1,o1,k1⟩:=Dd hs kr hl
           have hN:=bH hb.1
           have hNs:N*sz≤16777216:=bH hb.2.1
           have hpos:0<N*sz:=Nat.mul_pos hN h0
           have hlen:(List.replicate N zv.cells.toList).flatten.length=N*sz:=by simp [←hzl]
           have hf:=By (fun i=>some (i*sz,sz)) (tR N sz) (fun i x h=>by
            simp only [tR,cF,fQ] at h
            obtain ⟨j,hj,rfl⟩:=h
            obtain ⟨hlt,hj⟩:=aV.1 hj
            simp at hj;subst hj;rfl) vs (List.replicate N zv.cells.toList).flatten (N*sz) hlen o1
           have hmade:((Array.range (N*i.size)).map (zv.cells[· % zv.cells.size]!))=(List.replicate N zv.cells.toList).flatten.toArray:=by
            have:=Hc (zs:=zv.cells.toList) rG N
            rw [hzl] at this
            simpa [madeCells,hsz] using this
           have hmm:(parts.toArray.map fun (i,x)=>(i,a.eval x))=vs.toArray:=by rw [←(lookN a (default:World)).parts e1];simp
           have hlenF:(wL (tR N sz) (List.replicate N zv.cells.toList).flatten vs).length=N*sz:=by
            rw [←sJ k1,Mm hl (by rw [sJ kr,hlen];exact aH _),sJ kr,hlen]
           refine ⟨_,(wL (tR N sz) (List.replicate N zv.cells.toList).flatten vs).length,.cells (wL (tR N sz) (List.replicate N zv.cells.toList).flatten vs).toArray e (0,0),fun p=>.slice (some ⟨p,0,none⟩) N N,rfl,rfl,rU hb.2.2,rfl,uT k1 e,fun ρ' p hρ=>⟨cK nx,?_⟩,fun w d ty pos after g=>?_⟩
           · refine jG.2 ⟨by rw [hρ],by rw [hρ,hlenF];omega,aH _,?_⟩
             have:=Nat.le_mul_of_pos_right N h0
             simp only [maxLen];omega
           have hrun:=run_buildSlice (P:=P) w T e N vs.toArray (wL (tR N sz) (List.replicate N zv.cells.toList).flatten vs).toArray i zv hu hi hzv Pf Pf (by rw [hmade,hsz];exact hf)
           simp only [execOp,hmm,bE,hrun,aO,bJ]
         cases h1
       cases h1
     cases hv'
   · have hv':(bif Nat.beq N 0 && Nat.ble (Nat.succ nx) rO then (match parts with
      | []=>(match Mj P T with | some (e,sz)=>Ro.val (.sl nx 0 0 sz (some 0)) (h.set (some (.cells (Kz .nil) e false nx)) rO nx) (Nat.succ nx) | none=>.bad)
      | _=>.bad) else .bad)=.val c h' nx':=hv
     rcases rK hv' with ⟨hb,h1⟩ | ⟨_,h1⟩
     · rw [aB] at hb
       have hN:=aD hb.1
       subst hN
       cases parts with
       | cons q qs=>cases h1
       | nil =>
         simp only at h1
         split at h1
         · rename_i e sz hT
           cases h1
           have hT':=uG hT
           refine ⟨_,0,.cells #[] e (0,0),fun p=>.slice (some ⟨p,0,none⟩) 0 0,rfl,rfl,rU hb.2,rfl,uT (vs:=[]) mV e,fun ρ' p hρ=>⟨cK nx,?_⟩,fun w d ty pos after g=>?_⟩
           · refine jG.2 ⟨by rw [hρ],by rw [hρ];omega,aH _,by simp [maxLen]⟩
           simp [execOp,Instr.buildSlice,aS hT'.1,run_sizeOf w hT'.2,Instr.fill,newRow,show Array.range 0=#[] from mX sI]
         cases h1
     · cases h1
 | makeMap T o =>
   cases o with
   | some x=>cases hx
   | none =>
     rcases hv with hv | hv
     · cases hv
     · have hrun:∀ (w:World) (d:Option Tmp) (ty:TypeId) (pos:String) (after:Array Edge) (g:Option (Nat×Bool)),(execOp a.eval ⟨d,.makeMap T none,ty,pos,after,g⟩).run P w=.ok (.value (.map (some w.heap.size))) (w.alloc (sP ([]:List (Int×Int)))):=fun w d ty pos after g=>by
        simp only [execOp,jP,bE,xW,aO,bJ];rfl
       have hk:∀ (ρ':Pl) (p:Nat),ρ' nx=(p,0)→Kn (nx+1) ρ' (.mp nx) (.map (some p)):=fun ρ' p hρ=>⟨cK nx,by rw [DV.mp,hρ]⟩
       unfold mv WH at hv
       rcases rK hv with ⟨hf,h1⟩ | ⟨_,h1⟩
       · rcases rK h1 with ⟨_,h2⟩ | ⟨_,h2⟩
         · cases h2
           exact ⟨_,0,_,fun p=>.map (some p),rfl,rfl,rU hf,rfl,rfl,hk,hrun⟩
         rcases rK h2 with ⟨_,h3⟩ | ⟨_,h3⟩
         · cases h3
           exact ⟨_,0,_,fun p=>.map (some p),rfl,rfl,rU hf,rfl,rfl,hk,hrun⟩
         cases h3
       · cases h1
 | _=>cases hx
end
inductive Cmd where
 | code (c:Code) (n:Nat) (E:Tr CV) (h:Tr CB) (nx:Nat)
 | loop (c:Code) (n:Nat) (E:Tr CV) (h:Tr CB) (nx:Nat)
 | ops (all l:List Oper) (n:Nat) (E:Tr CV) (h:Tr CB) (nx:Nat)
 | one (o:Oper) (n:Nat) (E:Tr CV) (h:Tr CB) (nx:Nat)
 | call (f:Nat) (args:CV) (h:Tr CB) (nx:Nat)
 | round (t:Nat) (args:CV) (h:Tr CB) (nx:Nat)
 | reg (l:List Oper) (plan:List (Nat×Pk)) (pend:List (Nat×Nat×Nat)) (n:Nat) (E:Tr CV) (h:Tr CB) (nx:Nat)
inductive Res where
 | bad (why:Nat) (at_:List Oper)
 | ok (x:Exit) (E:Tr CV) (h:Tr CB) (nx:Nat)
 | ret (v:CV) (h:Tr CB) (nx:Nat)
def SL (P:Program) (f:Nat):Option Func:=match Br P.funcs.toList f with
 | some fn => bif fn.name == "runtime.NumGoroutine" then none else some fn
 | none=>none
theorem NJ {P : Program} {f : Nat} {fn : Func} (h : SL P f = some fn) : P.funcs[f]? = some fn ∧ (fn.name == "runtime.NumGoroutine") = false := by
 unfold SL at h
 split at h
 · rename_i g hg
   rcases rK h with ⟨_,h⟩ | ⟨h1,h⟩
   · cases h
   cases h
   rw [vE,mQ] at hg
   exact ⟨hg,h1⟩
 cases h
def Rx (l:CV):Nat→Tr CV→Tr CV:=lrec (fun _ E=>E) (fun a _ ih i E=>ih (Nat.succ i) (E.set (some a) rO i)) l
def NK (P:Program) (E:Tr CV) (h:Tr CB):ResultVar→Option CV
 | .tmp t=>E.get t
 | .cell t T=>qv P E h (.load T (.tmp t))
def NL (P:Program) (E:Tr CV) (h:Tr CB) (l:List ResultVar):Option CV:=List.rec (some .nil) (fun x _ ih=>match NK P E h x with | some a=>(match ih with | some b=>some (.cons a b) | none=>none) | none=>none) l
def Ry (P:Program) (E:Tr CV) (h:Tr CB) (l:List ResultVar):Option CV:=match NL P E h l with
 | some (.cons a .nil)=>some a
 | some x=>some (.tup x)
 | none=>none
def vX (E:Tr CV) (n:Nat) (d:Option Nat) (v:CV):Option (Tr CV):=match d with
 | some d=>bif Nat.ble (Nat.succ d) n then some (E.set (some v) rO d) else none
 | none=>some E
def NM (a b:Bool):Bool:=bif a then b else not b
def Ft (ih:Cmd→Res) (E:Tr CV) (n:Nat) (h:Tr CB) (nx:Nat) (dst:Option Nat):Op→Res
 | .call ⟨.value f,⟨args⟩,_⟩=>match sU E f with
   | some (.fn g fst cap)=>match AA E args with
     | some l=>(match ih (.call g (yA fst (yA l cap)) h nx) with
       | .ret v h nx=>(match vX E n dst v with | some E=>.ok .normal E h nx | none=>.bad 11 [])
       | .ok _ _ _ _=>.bad 12 []
       | r=>r)
     | none=>.bad 13 []
   | some (.yl t)=>match AA E args with
     | some l=>(match ih (.round t l h nx) with
       | .ret v h nx=>(match vX E n dst v with | some E=>.ok .normal E h nx | none=>.bad 51 [])
       | .ok _ _ _ _=>.bad 52 []
       | r=>r)
     | none=>.bad 53 []
   | _=>.bad 14 []
 | op => .bad 15 [⟨none, op, 0, "", #[], none⟩]
def LG (l:List Oper) (E:Tr CV) (o:Oper):Option Bool:=match o.guard with
 | none=>some true
 | some (j,want)=>match xT l j with
   | some t=>match E.get t with
     | some (.bool b)=>some (NM b want)
     | some (.tup .nil)=>some false
     | _=>none
   | none=>none
def rY (o:Oper) (pend:List (Nat×Nat×Nat)):List (Nat×Nat×Nat):=List.rec [] (fun x _ ih=>bif not (yV o.op) && Jk o x.2.1 then ih else x :: ih) pend
def vP (h:Tr CB) (pend:List (Nat×Nat×Nat)):Bool:=Dg (fun x=>match h.get x.1 with | some b=>Nat.ble (Nat.succ (Og b)) x.2.2 | none=>false) pend
def Pb (c:Code):Bool:=
 Code.rec (motive:=fun _=>Bool) true (fun _ _ _=>true) (fun _ _ a b=>a && b) (fun _ _ _ a b=>a && b) (fun _ _ a=>a) (fun _ a=>a) (fun _ _ _ _ _ _=>false) (fun _=>true) (fun _ a=>a) (fun _=>true) (fun _=>true) true (fun _=>true) c
def SM (n:Nat) (ps:List Nat):CV→Tr CV→Option (Tr CV):=List.rec (fun l E=>match l with | .nil=>some E | _=>none)
 (fun p _ ih l E=>match l with | .cons a b=>bif Nat.ble (Nat.succ p) n then ih b (E.set (some a) rO p) else none | _=>none) ps
def AL:Exit→Option (Option Code)
 | .normal=>some none
 | .ret=>some (some .ret)
 | .exit id=>some (some (.exit id))
 | _=>none
def Sa:LoopState→Bool | .ready=>true | _=>false
def Ov:LoopState→Bool | .busy=>true | _=>false
abbrev sY:=List (Nat×(CV→Option CV))
def WI (pr:sY) (f:Nat):Option (CV→Option CV):=List.rec none (fun x _ ih=>bif Nat.beq x.1 f then some x.2 else ih) pr
def NN (P:Program) (ih:Cmd→Res) (n:Nat) (E:Tr CV) (h:Tr CB) (nx:Nat) (a:Code) (b:Code):Res:=match ih (.code a n E h nx) with
 | .ok x E h nx=>(match x with
   | .normal=>ih (.code b n E h nx)
   | x=>.ok x E h nx)
 | r=>r
def WJ (P:Program) (ih:Cmd→Res) (n:Nat) (E:Tr CV) (h:Tr CB) (nx:Nat) (c:Operand) (a:Code) (b:Code):Res:=match sU E c with
 | some (.bool t)=>ih (.code (bif t then a else b) n E h nx)
 | _=>.bad 1 []
def NO (P:Program) (ih:Cmd→Res) (n:Nat) (E:Tr CV) (h:Tr CB) (nx:Nat) (id:Nat) (c:Code):Res:=match ih (.code c n E h nx) with
 | .ok x E h nx=>(match x with
   | .exit id'=>bif Nat.beq id' id then .ok .normal E h nx else .ok (.exit id') E h nx
   | x=>.ok x E h nx)
 | r=>r
def NP (P:Program) (ih:Cmd→Res) (n:Nat) (E:Tr CV) (h:Tr CB) (nx:Nat) (c:Code):Res:=match ih (.code c n E h nx) with
 | .ok x E h nx=>(match x with
   | .normal=>.ok .normal E h nx
   | .ret=>.ok .ret E h nx
   | .exit id=>.ok (.exit id) E h nx
   | _=>.bad 22 [])
 | r=>r
def WK (P:Program) (ih:Cmd→Res) (n:Nat) (E:Tr CV) (h:Tr CB) (nx:Nat) (g:Operand) (ps:List Nat) (asg:Code) (body:Code):Res:=match sU E g with
 | some (.fn f .nil cap)=>bif Nat.ble (Nat.succ nx) rO then
   (match ih (.call f (.cons (.yl nx) cap) (h.set (some (.lp E n ps asg body .ready none nx)) rO nx) (Nat.succ nx)) with
   | .ret _ h' nx'=>(match h'.get nx with
     | some (.lp _ _ _ _ _ st p _)=>bif Ov st || not (Nat.ble (Nat.succ nx') rO) then .bad 41 [] else
       (match p with
       | none=>.ok .normal E (h'.set none rO nx) (Nat.succ nx')
       | some c=>ih (.code c n E (h'.set none rO nx) (Nat.succ nx')))
     | _=>.bad 42 [])
   | .ok _ _ _ _=>.bad 43 []
   | r=>r) else .bad 44 []
 | _=>.bad 45 []
def GK (P:Program) (ih:Cmd→Res) (n:Nat) (E:Tr CV) (h:Tr CB) (nx:Nat) (l:List Oper):Res:=bif P.follows .mixedOrders then (match Jq l with
 | some p=>ih (.reg l p [] n E h nx)
 | none=>.bad 23 l) else .bad 24 []
def RA (P:Program) (ih:Cmd→Res) (n:Nat) (E:Tr CV) (h:Tr CB) (nx:Nat) (l:List Oper):Res:=bif l.all sM then ih (.ops l l n E h nx) else .bad 2 []
def stC (P:Program) (ih:Cmd→Res) (n:Nat) (E:Tr CV) (h:Tr CB) (nx:Nat):Code→Res
 | .skip=>.ok .normal E h nx
 | .label _=>.ok .normal E h nx
 | .exit id=>.ok (.exit id) E h nx
 | .ret=>.ok .ret E h nx
 | .seq a b=>NN P ih n E h nx a b
 | .cond c a b=>WJ P ih n E h nx c a b
 | .block id c=>NO P ih n E h nx id c
 | .scope c=>NP P ih n E h nx c
 | .rangeFunc g ⟨ps⟩ asg body=>WK P ih n E h nx g ps asg body
 | .loop c=>ih (.loop c n E h nx)
 | .region _ ⟨l⟩ true=>GK P ih n E h nx l
 | .region _ ⟨l⟩ false=>RA P ih n E h nx l
 | _=>.bad 3 []
def stG (ih:Cmd→Res) (all:List Oper) (o:Oper) (rest:List Oper) (n:Nat) (E:Tr CV) (h:Tr CB) (nx:Nat) (j:Nat) (want:Bool):Res:=
 (match xT all j with
  | some t=>(match E.get t with
    | some (.bool b)=>bif NM b want then
     (match ih (.one o n E h nx) with
     | .ok x E h nx=>ih (.ops all rest n E h nx)
     | r=>r)
      else (match vX E n o.dst (.tup .nil) with | some E=>ih (.ops all rest n E h nx) | none=>.bad 4 [])
    | some (.tup .nil)=>(match vX E n o.dst (.tup .nil) with | some E=>ih (.ops all rest n E h nx) | none=>.bad 4 [])
    | _=>.bad 5 [])
  | none=>.bad 6 [])
def Sb (P:Program) (pr:sY) (ih:Cmd→Res) (c:Code) (n:Nat) (E:Tr CV) (h:Tr CB) (nx:Nat):Res:=match ih (.code c n E h nx) with
 | .ok x E h nx=>(match x with
   | .normal=>ih (.loop c n E h nx)
   | x=>.ok x E h nx)
 | r=>r
def GL (P:Program) (pr:sY) (ih:Cmd→Res) (all:List Oper) (l:List Oper) (n:Nat) (E:Tr CV) (h:Tr CB) (nx:Nat):Res:=match l with
 | []=>.ok .normal E h nx
 | o :: rest=>match o.guard with
   | none=>(match ih (.one o n E h nx) with
     | .ok x E h nx=>ih (.ops all rest n E h nx)
     | r=>r)
   | some (j,want)=>stG ih all o rest n E h nx j want
def Dh (P:Program) (pr:sY) (ih:Cmd→Res) (o:Oper) (n:Nat) (E:Tr CV) (h:Tr CB) (nx:Nat):Res:=match qv P E h o.op with
 | some c=>(match vX E n o.dst c with | some E=>.ok .normal E h nx | none=>.bad 7 [])
 | none=>match wm P E h nx o.op with
   | .val c h nx=>(match vX E n o.dst c with | some E=>.ok .normal E h nx | none=>.bad 8 [])
   | .unit h nx=>(match o.dst with | none=>.ok .normal E h nx | some _=>.bad 10 [])
   | .bad=>Ft ih E n h nx o.dst o.op
def sF (l:List Oper) (R:List Nat) (E:Tr CV):Tr CV:=List.rec E (fun j _ ih=>match xT l j with | some d=>ih.set none rO d | none=>ih) R
def wN (P:Program) (l:List Oper) (R:List Nat) (n:Nat) (E:Tr CV) (h:Tr CB) (nx:Nat):Bool:=
 Dg (fun j=>Jm l j fun o=>(match o.dst with | some d=>Nat.ble (Nat.succ d) n | none=>false) && (match wm P E h nx o.op with | .val _ _ _=>true | _=>false)) R
def Di (P:Program) (pr:sY) (ih:Cmd→Res) (l:List Oper) (plan:List (Nat×Pk)) (pend:List (Nat×Nat×Nat)) (n:Nat) (E:Tr CV) (h:Tr CB) (nx:Nat):Res:=match plan with
 | []=>.ok .normal E h nx
 | (i,.look) :: plan=>match Br l i with
   | some o=>(match LG l E o with
     | some g=>(bif g then (match qv P E h o.op with
      | some c=>(match vX E n o.dst c with
        | some E'=>ih (.reg l plan (match FS E o.op with | some t=>(t,i,nx) :: pend | none=>pend) n E' h nx)
        | none=>.bad 25 [o])
      | none=>.bad 26 [o])
      else (match vX E n o.dst (.tup .nil) with | some E=>ih (.reg l plan pend n E h nx) | none=>.bad 27 [o]))
     | none=>.bad 30 [o])
   | none=>.bad 31 []
 | (i,.only) :: plan=>match Br l i with
   | some o=>(match LG l E o with
     | some g=>(bif g then (match ih (.one o n E h nx) with
      | .ok _ E h nx=>bif vP h (rY o pend) then ih (.reg l plan (rY o pend) n E h nx) else .bad 28 [o]
      | r=>r)
      else (match vX E n o.dst (.tup .nil) with | some E=>ih (.reg l plan (rY o pend) n E h nx) | none=>.bad 29 [o]))
     | none=>.bad 30 [o])
   | none=>.bad 31 []
 | (i,.race R) :: plan=>match Br l i with
   | some o=>bif wN P l R n (sF l R E) h nx then (match ih (.one o n (sF l R E) h nx) with
    | .ok _ E h nx=>bif vP h (rY o pend) then ih (.reg l plan (rY o pend) n E h nx) else .bad 28 [o]
    | r=>r) else .bad 32 [o]
   | none=>.bad 31 []
 | (i,.make R) :: plan=>match Br l i with
   | some o=>bif wN P l R n (sF l R E) h nx then (match wm P (sF l R E) h nx o.op with
    | .val c h nx=>(match vX (sF l R E) n o.dst c with | some E=>ih (.reg l plan (rY o pend) n E h nx) | none=>.bad 33 [o])
    | _=>.bad 34 [o]) else .bad 35 [o]
   | none=>.bad 31 []
def RB (P:Program) (pr:sY) (ih:Cmd→Res) (t:Nat) (args:CV) (h:Tr CB) (nx:Nat):Res:=match h.get t with
 | some (.lp E n ps asg body st _ _)=>bif Sa st && (Pb asg && (Pb body && Nat.ble n 100000)) then
   (match SM n ps args E with
   | some E1=>match ih (.code asg n E1 h nx) with
     | .ok .normal E2 h2 nx2=>(match h2.get t with
       | some (.lp E0 n0 ps0 as0 body0 st0 p0 _)=>bif Sa st0 && Nat.ble (Nat.succ nx2) rO then
         (match ih (.code body n E2 (h2.set (some (.lp E0 n0 ps0 as0 body0 .busy p0 nx2)) rO t) (Nat.succ nx2)) with
         | .ok x _ h3 nx3=>(match h3.get t with
           | some (.lp E4 n4 ps4 as4 body4 _ _ _)=>bif Nat.ble (Nat.succ nx3) rO then
             (match AL x with
             | some none=>.ret (.bool true) (h3.set (some (.lp E4 n4 ps4 as4 body4 .ready none nx3)) rO t) (Nat.succ nx3)
             | some (some c)=>.ret (.bool false) (h3.set (some (.lp E4 n4 ps4 as4 body4 .done (some c) nx3)) rO t) (Nat.succ nx3)
             | none=>.bad 46 []) else .bad 47 []
           | _=>.bad 48 [])
         | .ret _ _ _=>.bad 49 []
         | r=>r) else .bad 50 []
       | _=>.bad 54 [])
     | .ok _ _ _ _=>.bad 55 []
     | .ret _ _ _=>.bad 56 []
     | r=>r
   | none=>.bad 57 []) else .bad 58 []
 | _=>.bad 59 []
def RC (P:Program) (pr:sY) (ih:Cmd→Res) (f:Nat) (args:CV) (h:Tr CB) (nx:Nat):Res:=match WI pr f with
 | some g=>(match g args with | some v=>.ret v h nx | none=>.bad 60 [])
 | none=>match SL P f with
 | some fn=>(match fn.body with
   | some c=>bif Nat.ble (sG args) fn.ntmps && Nat.ble fn.ntmps 100000 then (match ih (.code c fn.ntmps (Rx args 0 .e) h nx) with
     | .ok x E h nx=>(match x with
       | .normal=>(match Ry P E h fn.results.toList with | some v=>.ret v h nx | none=>.bad 16 [])
       | .ret=>(match Ry P E h fn.results.toList with | some v=>.ret v h nx | none=>.bad 16 [])
       | _=>.bad 17 [])
     | .ret _ _ _=>.bad 18 []
     | r=>r) else .bad 19 []
   | none=>.bad 20 [])
 | none=>.bad 21 []
def step (P:Program) (pr:sY) (ih:Cmd→Res):Cmd→Res
 | .code c n E h nx=>stC P ih n E h nx c
 | .loop c n E h nx=>Sb P pr ih c n E h nx
 | .ops all l n E h nx=>GL P pr ih all l n E h nx
 | .one o n E h nx=>Dh P pr ih o n E h nx
 | .reg l plan pend n E h nx=>Di P pr ih l plan pend n E h nx
 | .round t args h nx=>RB P pr ih t args h nx
 | .call f args h nx=>RC P pr ih f args h nx
def run (P:Program) (pr:sY) (fuel:Nat):Cmd→Res:=Nat.rec (fun _=>.bad 0 []) (fun _ ih=>step P pr ih) fuel
structure Nx (ρ:Pl) (h:Tr CB) (nx:Nat) (w:World) (ρ':Pl) (h':Tr CB) (nx':Nat) (w':World):Prop where
 le:nx≤nx'
 fit:nx'≤rO
 ext:Ext nx ρ ρ'
 old:Lf ρ h nx w ρ' h' w'
theorem Nx.refl {ρ:Pl} {h:Tr CB} {nx:Nat} {w:World} (hf:nx≤rO):Nx ρ h nx w ρ h nx w:=⟨aH _,hf,dD _ _,fR⟩
theorem Nx.trans {Φ:Imm→Prop} {w0:Bas Φ} {ρ ρ' ρ2:Pl} {h h' h2:Tr CB} {nx nx' nx2:Nat} {w w' w2:World} (hm:Mem ρ w0 h nx w) (a:Nx ρ h nx w ρ' h' nx' w') (b:Nx ρ' h' nx' w' ρ2 h2 nx2 w2):Nx ρ h nx w ρ2 h2 nx2 w2:=
 ⟨aP a.le b.le,b.fit,a.ext.trans b.ext a.le,a.old.trans hm b.old a.le a.ext⟩
def AM (l:List Oper) (i j:Nat):Prop:=∃ o,l[j]?=some o∧yV o.op=false∧Jk o i=true
def CP (l:List Oper) (cs:List (Nat×Nat×Obj)) (L:Array Bool) (w:World):Prop:=∀ x∈cs,(∀ j,AM l x.1 j→L.getD j false=false)→w.heap[x.2.1]?=some x.2.2
def KF (l:List Oper) (L:Array Bool):Prop:=∀ j o,l[j]?=some o→L.getD j false=true→∀ e∈o.after,Region.binds .any e=true→L.getD e.on false=true
def PendOk (l:List Oper) (L:Array Bool) (ρ:Pl) (w:World) (nx:Nat) (pend:List (Nat×Nat×Nat)) (cs:List (Nat×Nat×Obj)):Prop:=
 ∀ x∈cs,(∃ j,AM l x.1 j∧L.getD j false=true)∨∃ t bound,(t,x.1,bound)∈pend∧t<nx∧(ρ t).1=x.2.1∧bound≤nx∧w.heap[x.2.1]?=some x.2.2
theorem PendOk.cp {l:List Oper} {L:Array Bool} {ρ:Pl} {w:World} {nx:Nat} {pend:List (Nat×Nat×Nat)} {cs:List (Nat×Nat×Obj)} (h:PendOk l L ρ w nx pend cs):CP l cs L w:=fun x hx hw=>by
 rcases h x hx with ⟨j,h1,h2⟩ | ⟨t,b,_,_,_,_,h3⟩
 · rw [hw j h1] at h2;cases h2
 exact h3
structure Early where
 j:Nat
 p:Nat
 o:Obj
 V:Nat→Value
structure EOk (P:Program) (l:List Oper) (ρ:Pl) (h:Tr CB) (a:Act) (w ws:World) (e:Early):Prop where
 ex:∃ oj d,l[e.j]?=some oj∧Jl oj=true∧oj.dst=some d∧a.tmps[d]?=some (e.V e.p)∧∀ w2,(execOp a.eval oj).run P w2=.ok (.value (e.V w2.heap.size)) (w2.alloc e.o)
 lt:e.p<w.heap.size
 at_:w.heap[e.p]?=some e.o
 ge:ws.heap.size≤e.p
 un:∀ t b,h.get t=some b→(ρ t).1≠e.p
structure LR (L:Array Bool) (S:List Early) (Lm:Array Bool):Prop where
 size:Lm.size=L.size
 iff:∀ j,Lm.getD j false=true↔(L.getD j false=true∨∃ e∈S,e.j=j)
 un:∀ e∈S,L.getD e.j true=false
structure RI {Φ:Imm→Prop} (P:Program) (l:List Oper) (n:Nat) (E:Tr CV) (h:Tr CB) (nx:Nat) (pend:List (Nat×Nat×Nat)) (ρ ρs:Pl) (w0:Bas Φ) (a:Act) (w ws:World) (hs:Tr CB) (nxs:Nat) (L Lm:Array Bool) (Rc:List Nat) (S:List Early) (cs:List (Nat×Nat×Obj)):Prop where
 rel:Rel ρ w0 n E h nx a w
 lr:LR L S Lm
 down:KF l Lm
 sub:∀ e∈S,e.j∈Rc
 ndj:(S.map (·.j)).Nodup
 ndp:(S.map (·.p)).Nodup
 eok:∀ e∈S,EOk P l ρ h a w ws e
 pend:PendOk l Lm ρ w nx pend cs
 ms:Mem ρs w0 hs nxs ws
 nxb:Nx ρs hs nxs ws ρ h nx w
def Kept (d:Option Nat) (a a':Act):Prop:=∀ i,d≠some i→a'.tmps[i]?=a.tmps[i]?
def rL (P:Program) (Φ:Imm→Prop):Cmd→Res→Prop
 | .code c n E h nx,.ok x E' h' nx'=>∀ (r:Option Nat) (ρ:Pl) (w0:Bas Φ) (a:Act) (w:World),Rel ρ w0 n E h nx a w→nx≤rO→n≤100000→(r=none∨Pb c=true)→
  ∀ Q:Exit→Act→World→Prop,(∀ ρ' a' w',Nx ρ h nx w ρ' h' nx' w'→Rel ρ' w0 n E' h' nx' a' w'→Q x a' w')→c.wpIn (FF r) 0 P Q a w
 | .loop c n E h nx,.ok x E' h' nx'=>∀ (r:Option Nat) (ρ:Pl) (w0:Bas Φ) (a:Act) (w:World),Rel ρ w0 n E h nx a w→nx≤rO→n≤100000→(r=none∨Pb c=true)→
  ∀ Q:Exit→Act→World→Prop,(∀ ρ' a' w',Nx ρ h nx w ρ' h' nx' w'→Rel ρ' w0 n E' h' nx' a' w'→Q x a' w')→Du r P c Q a w
 | .ops all l n E h nx,.ok x E' h' nx'=>x=.normal∧∀ (ρ:Pl) (w0:Bas Φ) (a:Act) (w:World),Rel ρ w0 n E h nx a w→nx≤rO→n≤100000→
  ∀ K:Act→World→Prop,(∀ ρ' a' w',Nx ρ h nx w ρ' h' nx' w'→Rel ρ' w0 n E' h' nx' a' w'→K a' w')→rZ P all.toArray l a w K
 | .one o n E h nx,.ok x E' h' nx'=>x=.normal∧∀ (ρ:Pl) (w0:Bas Φ) (a:Act) (w:World),Rel ρ w0 n E h nx a w→nx≤rO→n≤100000→
  ∀ K:Act→World→Prop,(∀ ρ' a' w',Nx ρ h nx w ρ' h' nx' w'→Rel ρ' w0 n E' h' nx' a' w'→Kept o.dst a a'→K a' w')→wD P o a w K
 | .call f args h nx,.ret v h' nx'=>uH P f∧∀ (ρ:Pl) (w0:Bas Φ) (w:World) (vs:List Value),Mem ρ w0 h nx w→KL nx ρ args vs→nx≤rO→
  Calls P f vs.toArray w (fun e w'=>∃ u ρ',e=.returned u∧Nx ρ h nx w ρ' h' nx' w'∧Kn nx' ρ' v u∧Mem ρ' w0 h' nx' w')
 | .round t args h nx,.ret v h' nx'=>∀ (ρ:Pl) (w0:Bas Φ) (w:World) (vs:List Value),Mem ρ w0 h nx w→KL nx ρ args vs→nx≤rO→
  ∃ f tmps assign body,(Instr.yield (ρ t).1 vs.toArray).run P w=.ok (.round (ρ t).1 f tmps assign body) w∧
   RoundIn Fence.wide 0 P (ρ t).1 f tmps assign body w (fun e w'=>∃ u ρ',e=.returned u∧Nx ρ h nx w ρ' h' nx' w'∧Kn nx' ρ' v u∧Mem ρ' w0 h' nx' w')
 | .reg l plan pend n E h nx,.ok x E' h' nx'=>x=.normal∧∀ (ρ ρs:Pl) (w0:Bas Φ) (a:Act) (w ws:World) (hs:Tr CB) (nxs:Nat) (L Lm:Array Bool) (Rc:List Nat) (S:List Early) (cs:List (Nat×Nat×Obj)) (f:Nat),RI P l n E h nx pend ρ ρs w0 a w ws hs nxs L Lm Rc S cs→nx≤rO→n≤100000→
  Region.noSelect l.toArray=true→PlanOk l L Rc plan→plan.length=f+S.length→
  ∀ K:Act→World→Prop,(∀ ρ' a' w',Nx ρs hs nxs ws ρ' h' nx' w'→Rel ρ' w0 n E' h' nx' a' w'→K a' w')→gm P l.toArray K (CP l cs) f Lm a w
 | _,.bad _ _=>True
 | _,_=>False
section
variable {P:Program} {Φ:Imm→Prop} {pr:sY} {nx nx' n:Nat} {ρ ρ':Pl} {w0:Bas Φ} {w w':World} {E:Tr CV} {h h':Tr CB} {a:Act}
theorem Slots.up (hs:Slots ρ E nx n a) (hn:nx≤nx') (he:Ext nx ρ ρ'):Slots ρ' E nx' n a:=⟨hs.1,fun i x hx=>by
 obtain ⟨v,h1,h2⟩:=hs.2 i x hx
 exact ⟨v,h1,h2.up hn he⟩⟩
theorem uF (hs:Slots ρ E nx n a) {d:Option Nat} {c:CV} {v:Value} {E':Tr CV} (hn:n≤100000) (hp:vX E n d c=some E') (hk:Kn nx ρ c v):Slots ρ E' nx n (a.put d v):=by
 cases d with
 | none=>cases hp;exact hs
 | some d =>
   have hp':(bif Nat.ble (Nat.succ d) n then some (E.set (some c) rO d) else none)=some E':=hp
   rcases rK hp' with ⟨h1,h2⟩ | ⟨_,h2⟩
   · cases h2
     have hd:d<n:=bH h1
     refine ⟨by show (a.tmps.setIfInBounds d v).size=n;simp [hs.1],fun i x hx=>?_⟩
     rw [eN (some c) rO E d i (by rw [Jh];omega)] at hx
     show ∃ u,(a.tmps.setIfInBounds d v)[i]?=some u∧_
     by_cases e:i=d
     · subst e
       rw [aR rfl] at hx
       cases hx
       exact ⟨v,by simp [hs.1,hd],hk⟩
     rw [aK e] at hx
     obtain ⟨u,h1,h2⟩:=hs.2 i x hx
     exact ⟨u,by rw [gK (pW e)];exact h1,h2⟩
   cases h2
theorem Ju:Kn nx ρ (.tup .nil) undef:=⟨trivial,pE.2 ⟨[],rfl,rfl⟩⟩
theorem xJ (a:Act) (d:Option Nat) (v:Value):(a.put d v).defers=a.defers:=by cases d <;> rfl
theorem Bo (hs:Slots ρ E nx n a) {all:List Oper} {j t:Nat} {b:Bool} (hd:xT all j=some t) (he:E.get t=some (.bool b)):yielded all.toArray a.tmps j=some b:=by
 obtain ⟨v,h1,h2⟩:=hs.2 t _ he
 rw [pX.1 h2.2] at h1
 rw [yM] at hd
 unfold yielded
 have:(all.toArray[j]?).bind (·.dst)=some t:=by simpa using hd
 rw [this]
 simp [h1]
theorem Jv (hs:Slots ρ E nx n a) {all:List Oper} {j t:Nat} (hd:xT all j=some t) (he:E.get t=some (.tup .nil)):yielded all.toArray a.tmps j=none:=by
 obtain ⟨v,h1,h2⟩:=hs.2 t _ he
 obtain ⟨vs,h3,h4⟩:=pE.1 h2.2
 have:vs=[]:=h3
 subst this
 rw [h4] at h1
 rw [yM] at hd
 unfold yielded
 have:(all.toArray[j]?).bind (·.dst)=some t:=by simpa using hd
 rw [this]
 simp [h1]
theorem Mem.cong {h2:Tr CB} (hm:Mem ρ w0 h nx w) (e:∀ t,h2.get t=h.get t):Mem ρ w0 h2 nx w:=
 ⟨hm.upd,fun t b ht=>hm.own t b (by rw [←e];exact ht),fun t t' b b' h1 h2=>hm.one t t' b b' (by rw [←e];exact h1) (by rw [←e];exact h2),hm.imm,hm.nod,fun b hb=>⟨(hm.kept b hb).1,(hm.kept b hb).2.1,fun t c ht=>(hm.kept b hb).2.2 t c (by rw [←e];exact ht)⟩⟩
theorem OldX.cong {h2:Tr CB} (ho:Lf ρ h nx w ρ' h' w') (e:∀ t,h2.get t=h'.get t):Lf ρ h nx w ρ' h2 w':=⟨fun t b ht=>ho.old t b (by rw [←e];exact ht),ho.fr,fun t b ht=>ho.nw t b (by rw [←e];exact ht),ho.sz⟩
theorem Kept.put (a:Act) (d:Option Nat) (v:Value):Kept d a (a.put d v):=fun i hi=>by
 cases d with
 | none=>rfl
 | some d =>
   show (a.tmps.setIfInBounds d v)[i]?=_
   rw [gK (fun e=>hi (by rw [e]))]
abbrev nS:=@Kept.put
theorem Kept.refl (d:Option Nat) (a:Act):Kept d a a:=fun _ _=>rfl
def RD (P:Program) (Q:Exit→Act→World→Prop) (p:Option Code) (a:Act) (w:World):Prop:=match p with
 | none=>Q .normal a w
 | some c=>c.wpIn (FF none) 0 P Q a w
theorem GM {g:Operand} {f:Nat} {cap:CV} {ps:List Nat} {asg body:Code} {v:CV} {h':Tr CB} {nx':Nat} {E4:Tr CV} {n4:Nat} {ps4:List Nat} {as4 body4:Code} {st:LoopState} {p0:Option Code} {stm:Nat}
 (hg:sU E g=some (.fn f .nil cap)) (hfit:Nat.ble (Nat.succ nx) rO=true) (H1:rL P Φ (.call f (.cons (.yl nx) cap) (h.set (some (.lp E n ps asg body .ready none nx)) rO nx) (Nat.succ nx)) (.ret v h' nx'))
 (hlp:h'.get nx=some (.lp E4 n4 ps4 as4 body4 st p0 stm)) (hst:Ov st=false) (hfit':Nat.ble (Nat.succ nx') rO=true)
 (ρ:Pl) (w0:Bas Φ) (a:Act) (w:World) (hR:Rel ρ w0 n E h nx a w) (hf:nx≤rO) (hn:n≤100000) (Q:Exit→Act→World→Prop)
 (hQ:∀ ρ' a' w',Nx ρ h nx w ρ' (h'.set none rO nx) (Nat.succ nx') w'→Rel ρ' w0 n E (h'.set none rO nx) (Nat.succ nx') a' w'→RD P Q p0 a' w') :
 (Code.rangeFunc g ⟨ps⟩ asg body).wpIn (FF none) 0 P Q a w:=by
 obtain ⟨os,hR⟩:=hR
 obtain ⟨isf,H1⟩:=H1
 have hf1:=rU hfit
 refine wpIn_rangeFunc fun fn _=>?_
 obtain ⟨q,hq⟩:∃ q:Loop,q={ state:=.ready,pending:=none,fn,tmps:=a.tmps,params:=ps.toArray,assign:=asg,body,defers:=w.heap.size }:=⟨_,rfl⟩
 obtain ⟨gv,e1,k1⟩:=rM hR.slots hg
 obtain ⟨xs,ys,kx,ky,rfl⟩:=En k1
 have hx0:xs=[]:=kx.2
 subst hx0
 obtain ⟨m1,o1⟩:=hR.mem.keep
 have hsz:(w.alloc (.deferred (some []))).heap.size=w.heap.size+1:=World.size_alloc ..
 obtain ⟨ρ1,x1,p1,m2,o2⟩:=m1.new (b:=.lp E n ps asg body .ready none nx) (o:=.loop q) (s:=0) (w':=(w.alloc (.deferred (some []))).alloc (.loop q)) hf1 rfl (tD _ _) (tI _ _) (sK _ _)
  ⟨q,rfl,by rw [hq],by rw [hq],by rw [hq],by rw [hq],by rw [hq],by rw [hq];exact hR.slots.1,fun i x hx=>by rw [hq];exact hR.slots.2 i x hx⟩
 rw [hsz] at p1
 obtain ⟨fnn,hf1',hf2,hf3⟩:=isf
 refine ⟨w.heap.size+1,[mark w.heap.size],(w.alloc (.deferred (some []))).alloc (.loop q),{ target:=.fn (.func f) ys.toArray,args:=#[.func (.yield (w.heap.size+1)) #[] #[]] },(w.alloc (.deferred (some []))).alloc (.loop q),f,
  (.func (.yield (w.heap.size+1)) #[] #[] :: ys).toArray,(w.alloc (.deferred (some []))).alloc (.loop q),?_,?_,?_,?_,fun h=>by simp [FF] at h,?_⟩
 · have:=run_enterLoop_outer (P:=P) (w:=w) fn a.tmps ps.toArray asg body
   rw [hq];exact this
 · have hev:Act.eval a g=.func (.func f) #[] ys.toArray:=tH e1
   simp only [resolve,hev]
   simp [go_sem]
 · intro f' hf';trivial
 · simp [invoke,wO _ _ hf1' hf2 hf3]
 have hky:KL (nx+1) ρ1 cap ys:=ky.up (cY _) x1
 have hyl:Kn (nx+1) ρ1 (.yl nx) (.func (.yield (w.heap.size+1)) #[] #[]):=⟨cK _,by show _=_;rw [p1]⟩
 have hC:=H1 ρ1 ⟨w0.w,w.heap.size :: (os++w0.ks),w0.G,w0.ok,w0.s⟩ _ (.func (.yield (w.heap.size+1)) #[] #[] :: ys) m2 (oE hyl hky) hf1
 refine yI.2 (hC.mono fun ex w' ⟨u,ρ2,h1,h2,h3,h4⟩=>?_)
 subst h1
 have hb:=h4.own nx _ hlp
 have e3:ρ2 nx=ρ1 nx:=h2.ext nx (cK _)
 rw [e3,p1] at hb
 obtain ⟨_,_,_,o,ho,hdb⟩:=hb
 obtain ⟨q4,rfl,g1,g2,g3,g4,g5,g6,g7⟩:=hdb
 have hend:(Instr.endLoop (w.heap.size+1)).run P w'=.ok q4.pending (w'.putObj (w.heap.size+1) (.loop { q4 with state:=.exhausted })):=run_endLoop ho (by rw [g1];intro hh;subst hh;cases hst)
 have hlt:=(dG.1 ho).1
 have e4:(ρ2 nx).1=w.heap.size+1:=by rw [e3,p1]
 have hfit2:=rU hfit'
 obtain ⟨m3,o3⟩:=h4.write (b':=.lp E4 n4 ps4 as4 body4 .exhausted p0 nx') (o:=.loop { q4 with state:=.exhausted }) (w':=w'.putObj (w.heap.size+1) (.loop { q4 with state:=.exhausted })) rG rfl hlp
  (by rw [e4];exact wZ w' _ _) (by rw [e4];exact lX hlt) ⟨_,rfl,rfl,g2,g3,g4,g5,g6,fun i x hx=>g7 i x hx⟩
 have hnx:nx<nx':=h2.le
 obtain ⟨m4,o4⟩:=m3.kill hfit2 (t:=nx) rG
 have hset:∀ t,(h'.set none rO nx).get t=((h'.set (some (CB.lp E4 n4 ps4 as4 body4 .exhausted p0 nx')) rO nx).set none rO nx).get t:=fun t=>by
  rw [eN _ _ _ _ _ rG,eN _ _ _ _ _ rG,eN _ _ _ _ _ rG]
  split <;> rfl
 have m4:=m4.cong hset
 have o4:=o4.cong hset
 have hnxx:Nx ρ h nx w ρ2 (h'.set none rO nx) (Nat.succ nx') (w'.putObj (w.heap.size+1) (.loop { q4 with state:=.exhausted })):=by
  have a1:Nx ρ h nx w ρ h nx (w.alloc (.deferred (some []))):=⟨aH _,hf,dD _ _,o1⟩
  have a2:Nx ρ h nx (w.alloc (.deferred (some []))) ρ1 _ (nx+1) _:=⟨cY _,hf1,x1,o2⟩
  have a3:=(a1.trans hR.mem a2).trans hR.mem h2
  have a4:Nx ρ2 h' nx' w' ρ2 _ (nx'+1) _:=⟨cY _,hfit2,dD _ _,o3⟩
  have a5:=a3.trans hR.mem a4
  exact a5.trans hR.mem ⟨aH _,hfit2,dD _ _,o4⟩
 have hRel:Rel ρ2 w0 n E (h'.set none rO nx) (Nat.succ nx') { a with defers:=[mark w.heap.size]++a.defers } (w'.putObj (w.heap.size+1) (.loop { q4 with state:=.exhausted })):=
  ⟨w.heap.size :: os,hR.slots.up hnxx.le hnxx.ext,by show [mark w.heap.size]++a.defers=_;rw [hR.defers];rfl,m4,fun b hb=>by
   rcases dE.1 hb with rfl | hb
   · exact hR.ss
   exact hR.mks b hb,aP hR.ss hnxx.old.sz⟩
 have H:=hQ _ _ _ hnxx hRel
 rw [←g2] at H
 exact ⟨q4.pending,_,hend,H⟩
theorem vY {ih:Cmd→Res} (H:∀ c,rL P Φ c (ih c)) (c:Code) (n:Nat) (E:Tr CV) (h:Tr CB) (nx:Nat):rL P Φ (.code c n E h nx) (step P pr ih (.code c n E h nx)):=by
 have quiet:∀ (x:Exit) (c:Code),(∀ (r:Option Nat) (a:Act) (w:World) (Q:Exit→Act→World→Prop),Q x a w→c.wpIn (FF r) 0 P Q a w)→rL P Φ (.code c n E h nx) (.ok x E h nx):=fun x c hc r ρ w0 a w hR hf hn hrr =>
  fun Q hQ=>hc r a w Q (hQ ρ a w (Nx.refl hf) hR)
 cases c with
 | skip=>exact quiet .normal _ fun r a w Q hq=>wpIn_skip hq
 | label l=>exact quiet .normal _ fun r a w Q hq=>wpIn_label hq
 | exit id=>exact quiet (.exit id) _ fun r a w Q hq=>wpIn_exit hq
 | ret=>exact quiet .ret _ fun r a w Q hq=>wpIn_ret hq
 | goto l=>trivial
 | refuse s=>trivial
 | rangeFunc g ps asg body =>
   obtain ⟨ps⟩:=ps
   show rL P Φ _ (match sU E g with
    | some (.fn f .nil cap)=>bif Nat.ble (Nat.succ nx) rO then
      (match ih (.call f (.cons (.yl nx) cap) (h.set (some (.lp E n ps asg body .ready none nx)) rO nx) (Nat.succ nx)) with
      | .ret _ h' nx'=>(match h'.get nx with
        | some (.lp _ _ _ _ _ st p _)=>bif Ov st || not (Nat.ble (Nat.succ nx') rO) then .bad 41 [] else
          (match p with
          | none=>.ok .normal E (h'.set none rO nx) (Nat.succ nx')
          | some c=>ih (.code c n E (h'.set none rO nx) (Nat.succ nx')))
        | _=>.bad 42 [])
      | .ok _ _ _ _=>.bad 43 []
      | r=>r) else .bad 44 []
    | _=>.bad 45 [])
   split
   · rename_i f cap hg
     refine rN (rL P Φ _) (fun hfit=>?_) fun _=>trivial
     have H1:=H (.call f (.cons (.yl nx) cap) (h.set (some (.lp E n ps asg body .ready none nx)) rO nx) (Nat.succ nx))
     generalize ih (.call f (.cons (.yl nx) cap) (h.set (some (.lp E n ps asg body .ready none nx)) rO nx) (Nat.succ nx))=q at H1
     cases q with
     | bad=>trivial
     | ok _ _ _ _=>trivial
     | ret v h' nx' =>
       show rL P Φ _ (match h'.get nx with
        | some (.lp _ _ _ _ _ st p _)=>bif Ov st || not (Nat.ble (Nat.succ nx') rO) then .bad 41 [] else
          (match p with
          | none=>.ok .normal E (h'.set none rO nx) (Nat.succ nx')
          | some c=>ih (.code c n E (h'.set none rO nx) (Nat.succ nx')))
        | _=>.bad 42 [])
       split
       · rename_i E4 n4 ps4 as4 body4 st p stm hlp
         refine rN (rL P Φ _) (fun _=>trivial) fun hbz=>?_
         rw [Bool.or_eq_false_iff,Bool.not_eq_false'] at hbz
         have hgo:=GM (P:=P) (Φ:=Φ) (ps:=ps) (asg:=asg) (body:=body) hg hfit H1 hlp hbz.1 hbz.2
         cases p with
         | none =>
           intro r ρ w0 a w hR hf hn hrr Q hQ
           have hr0:r=none:=hrr.elim id (fun q=>by cases (show (false:Bool)=true from q))
           subst hr0
           exact hgo ρ w0 a w hR hf hn Q fun ρ' a' w' e1 e2=>hQ ρ' a' w' e1 e2
         | some c =>
           show rL P Φ _ (ih (.code c n E (h'.set none rO nx) (Nat.succ nx')))
           have H2:=H (.code c n E (h'.set none rO nx) (Nat.succ nx'))
           generalize ih (.code c n E (h'.set none rO nx) (Nat.succ nx'))=q2 at H2
           cases q2 with
           | bad=>trivial
           | ret _ _ _=>exact H2.elim
           | ok x2 E2 h2 nx2 =>
             intro r ρ w0 a w hR hf hn hrr Q hQ
             have hr0:r=none:=hrr.elim id (fun q=>by cases (show (false:Bool)=true from q))
             subst hr0
             exact hgo ρ w0 a w hR hf hn Q fun ρ' a' w' e1 e2=>H2 none ρ' w0 a' w' e2 e1.fit hn (.inl rfl) Q fun ρ2 a2 w2 f1 f2=>hQ ρ2 a2 w2 (e1.trans hR.mem f1) f2
       trivial
   · trivial
 | region id ops draw =>
   obtain ⟨l⟩:=ops
   cases draw with
   | true =>
     show rL P Φ _ (bif P.follows .mixedOrders then (match Jq l with
      | some p=>ih (.reg l p [] n E h nx)
      | none=>.bad 23 l) else .bad 24 [])
     cases hmx:P.follows .mixedOrders with
     | false=>trivial
     | true =>
       simp only [fT]
       split
       · rename_i p hp
         have H1:=H (.reg l p [] n E h nx)
         generalize ih (.reg l p [] n E h nx)=q at H1
         cases q with
         | bad=>trivial
         | ret v h' nx'=>exact H1.elim
         | ok x E' h' nx' =>
           obtain ⟨rfl,H1⟩:=H1
           obtain ⟨hns,hnd,hpl,hlen⟩:=GA hp
           intro r ρ w0 a w hR hf hn hrr Q hQ
           have hR':Rel ρ w0 n E h nx a w.drew:=by
            obtain ⟨os,hR⟩:=hR
            exact ⟨os,hR.slots,hR.defers,⟨hR.mem.upd.drew,hR.mem.own,hR.mem.one,hR.mem.imm,hR.mem.nod,hR.mem.kept⟩,hR.mks,hR.ss⟩
           have hg:=H1 ρ ρ w0 a w.drew w.drew h nx (Array.replicate l.length false) (Array.replicate l.length false) [] [] [] p.length ⟨hR',⟨rfl,fun j=>⟨.inl,fun h=>h.elim (fun q=>q) fun ⟨_,h,_⟩=>by cases h⟩,fun e he=>by cases he⟩,(fun j o hj hl=>by
            rw [(LM.start l).2,Nat.zero_testBit] at hl;cases hl),(fun e he=>by cases he),kK,kK,(fun e he=>by cases he),(fun x hx=>by cases hx),hR'.mem,Nx.refl hf⟩ hf hn hns hpl rfl (Q .normal) fun ρ' a' w' e1 e2=>hQ ρ' a' w' ⟨e1.le,e1.fit,e1.ext,⟨e1.old.old,e1.old.fr,e1.old.nw,e1.old.sz⟩⟩ e2
           rw [hlen] at hg
           have:=Ht (r:=r) (n:=0) (by simpa using hnd) _ _ _ _ hg
           exact wpIn_region_any hmx (by simpa using this)
       · trivial
   | false =>
     show rL P Φ _ (bif l.all sM then ih (.ops l l n E h nx) else .bad 2 [])
     cases hd:l.all sM with
     | false=>trivial
     | true =>
       show rL P Φ _ (ih (.ops l l n E h nx))
       have H1:=H (.ops l l n E h nx)
       generalize ih (.ops l l n E h nx)=q at H1
       cases q with
       | bad=>trivial
       | ret v h' nx'=>exact H1.elim
       | ok x E' h' nx' =>
         obtain ⟨rfl,H1⟩:=H1
         intro r ρ w0 a w hR hf hn hrr Q hQ
         exact wpIn_region_lit (xM l a w hd (H1 ρ w0 a w hR hf hn _ hQ))
 | scope c =>
   show rL P Φ _ (match ih (.code c n E h nx) with
    | .ok x E h nx=>(match x with
      | .normal=>.ok .normal E h nx
      | .ret=>.ok .ret E h nx
      | .exit id=>.ok (.exit id) E h nx
      | _=>.bad 22 [])
    | r=>r)
   have H1:=H (.code c n E h nx)
   generalize ih (.code c n E h nx)=q at H1
   cases q with
   | bad=>trivial
   | ret v h' nx'=>exact H1.elim
   | ok x E' h' nx' =>
     have go:(∀ Q:Exit→Act→World→Prop,∀ a w,Q x a w→Nl Q x a w)→rL P Φ (.code (.scope c) n E h nx) (.ok x E' h' nx'):=fun hx r ρ w0 a w hR hf hn hrr Q hQ =>
      Hz (H1 r ρ w0 a w hR hf hn hrr _ fun ρ' a' w' e1 e2=>hx Q _ _ (hQ ρ' a' w' e1 e2))
     cases x with
     | normal=>exact go fun Q a w hq=>hq
     | ret=>exact go fun Q a w hq=>hq
     | exit id=>exact go fun Q a w hq=>hq
     | _=>trivial
 | loop c =>
   show rL P Φ _ (ih (.loop c n E h nx))
   have H1:=H (.loop c n E h nx)
   generalize ih (.loop c n E h nx)=q at H1
   cases q with
   | bad=>trivial
   | ret v h' nx'=>exact H1.elim
   | ok x E' h' nx' =>
     intro r ρ w0 a w hR hf hn hrr Q hQ b k cs hro hb' hr
     obtain ⟨e,a',w',hq,harr⟩:=H1 r ρ w0 a w hR hf hn hrr Q hQ b k cs hro hb' hr
     exact ⟨e,a',w',hq,.of_steps (.one (lN hb' hr rfl) stepR_loop) harr⟩
 | cond c x y =>
   show rL P Φ _ (match sU E c with
    | some (.bool t)=>ih (.code (bif t then x else y) n E h nx)
    | _=>.bad 1 [])
   split
   · rename_i t ht
     have H1:=H (.code (bif t then x else y) n E h nx)
     generalize ih (.code (bif t then x else y) n E h nx)=q at H1
     cases q with
     | bad=>trivial
     | ret v h' nx'=>exact H1.elim
     | ok x' E' h' nx' =>
       intro r ρ w0 a w hR hf hn hrr Q hQ
       obtain ⟨v,e1,g1⟩:=rM hR.slots ht
       have e2:a.eval c=.bool t:=by rw [←pX.1 g1.2];exact tH e1
       refine wpIn_cond e2 ?_
       have:=H1 r ρ w0 a w hR hf hn (hrr.imp id fun q=>by have q':(Pb x && Pb y)=true:=q;rw [aB] at q';cases t <;> first | exact q'.1 | exact q'.2) Q hQ
       cases t <;> exact this
   · trivial
 | seq x y =>
   show rL P Φ _ (match ih (.code x n E h nx) with
    | .ok x E h nx=>(match x with
      | .normal=>ih (.code y n E h nx)
      | x=>.ok x E h nx)
    | r=>r)
   have H1:=H (.code x n E h nx)
   generalize ih (.code x n E h nx)=q at H1
   cases q with
   | bad=>trivial
   | ret v h' nx'=>exact H1.elim
   | ok x' E' h' nx' =>
     have pass:x'≠.normal→rL P Φ (.code (.seq x y) n E h nx) (.ok x' E' h' nx'):=fun hx=>by
      intro r ρ w0 a w hR hf hn hrr Q hQ
      refine wpIn_seq (H1 r ρ w0 a w hR hf hn (hrr.imp id fun q=>(aB _ _▸(show (Pb x && Pb y)=true from q)).1) _ fun ρ' a' w' e1 e2=>?_)
      have:=hQ ρ' a' w' e1 e2
      cases x' <;> first | exact absurd rfl hx | exact this
     cases x' with
     | normal =>
       show rL P Φ _ (ih (.code y n E' h' nx'))
       have H2:=H (.code y n E' h' nx')
       generalize ih (.code y n E' h' nx')=q2 at H2
       cases q2 with
       | bad=>trivial
       | ret v h2 nx2=>exact H2.elim
       | ok x2 E2 h2 nx2 =>
         intro r ρ w0 a w hR hf hn hrr Q hQ
         refine wpIn_seq (H1 r ρ w0 a w hR hf hn (hrr.imp id fun q=>(aB _ _▸(show (Pb x && Pb y)=true from q)).1) _ fun ρ' a' w' e1 e2=>?_)
         exact H2 r ρ' w0 a' w' e2 e1.fit hn (hrr.imp id fun q=>(aB _ _▸(show (Pb x && Pb y)=true from q)).2) Q fun ρ2 a2 w2 f1 f2=>hQ ρ2 a2 w2 (e1.trans hR.mem f1) f2
     | _=>exact pass Ew
 | block id c =>
   show rL P Φ _ (match ih (.code c n E h nx) with
    | .ok x E h nx=>(match x with
      | .exit id'=>bif Nat.beq id' id then .ok .normal E h nx else .ok (.exit id') E h nx
      | x=>.ok x E h nx)
    | r=>r)
   have H1:=H (.code c n E h nx)
   generalize ih (.code c n E h nx)=q at H1
   cases q with
   | bad=>trivial
   | ret v h' nx'=>exact H1.elim
   | ok x' E' h' nx' =>
     have go:∀ x2,(∀ (Q:Exit→Act→World→Prop) a w,Q x2 a w→Exit.inBlock id Q x' a w)→rL P Φ (.code (.block id c) n E h nx) (.ok x2 E' h' nx'):=fun x2 hx r ρ w0 a w hR hf hn hrr Q hQ =>
      wpIn_block (H1 r ρ w0 a w hR hf hn hrr _ fun ρ' a' w' e1 e2=>hx Q _ _ (hQ ρ' a' w' e1 e2))
     cases x' with
     | exit id' =>
       show rL P Φ _ (bif Nat.beq id' id then .ok .normal E' h' nx' else .ok (.exit id') E' h' nx')
       cases hb:Nat.beq id' id with
       | true =>
         have e:=aD hb
         exact go .normal fun Q a w hq=>by simp only [Exit.inBlock,e,eO];exact hq
       | false =>
         have e:=Uj hb
         exact go (.exit id') fun Q a w hq=>by simp only [Exit.inBlock,e,eP];exact hq
     | normal=>exact go _ fun Q a w hq=>hq
     | ret=>exact go _ fun Q a w hq=>hq
     | goto l=>exact go _ fun Q a w hq=>hq
     | panic ch=>exact go _ fun Q a w hq=>hq
     | outgrown=>exact go _ fun Q a w hq=>hq
theorem Dj {r:Option Nat} {c:Code} {Q:Exit→Act→World→Prop} {a:Act} {w:World} (h:c.wpIn (FF r) 0 P (Exit.then (Du r P c Q) Q) a w):Du r P c Q a w:=by
 intro b k cs hro hb' hr
 obtain ⟨x,a₁,w₁,hq,harr⟩:=h b (.inLoop c :: k) cs hro hb' hr
 cases x with
 | normal =>
   obtain ⟨e₂,a₂,w₂,hq₂,harr₂⟩:=hq b k cs hro hb' hr
   exact ⟨e₂,a₂,w₂,hq₂,.of_steps (qA harr (.one (lN hb' hr rfl) stepR_inLoop)) harr₂⟩
 | exit id=>exact ⟨_,a₁,w₁,hq,.pass (x:=.inLoop c) rfl (fun _ _=>.inl sI) harr⟩
 | goto l=>exact ⟨_,a₁,w₁,hq,.pass (x:=.inLoop c) rfl (fun _ _=>.inl sI) harr⟩
 | ret=>exact ⟨_,a₁,w₁,hq,.pass (x:=.inLoop c) rfl (fun _ _=>.inl sI) harr⟩
 | panic ch=>exact ⟨_,a₁,w₁,hq,.pass (x:=.inLoop c) rfl (fun _ _=>.inl sI) harr⟩
 | outgrown=>exact ⟨_,a₁,w₁,hq,.pass (x:=.inLoop c) rfl (fun _ _=>.inl sI) harr⟩
theorem Um {op:Op} {t:Nat} {c:CV} (hr:FS E op=some t) (hq:qv P E h op=some c):∃ b,h.get t=some b:=by
 unfold FS at hr
 split at hr
 · rename_i T x
   split at hr
   · rename_i t' o hx
     cases hr
     have hq':(match sU E x with
      | some (.ptr t o)=>match h.get t with
        | some (.cells l _ _ _)=>bif tZ P T then Zy l o else
          (match NX P T with
          | some k=>bif Nat.beq (sG (sO l o k)) k then some (.agg (sO l o k)) else none
          | none=>none)
        | _=>none
      | _=>none)=some c:=hq
     rw [hx] at hq'
     simp only at hq'
     split at hq'
     · rename_i hb;exact ⟨_,hb⟩
     cases hq'
   cases hr
 · rename_i T x i cc
   split at hr
   · rename_i t' hx
     cases hr
     have hq':SJ P E h T x i cc=some c:=hq
     unfold SJ at hq'
     rw [hx] at hq'
     simp only at hq'
     split at hq'
     · split at hq'
       · rename_i l st hb;exact ⟨_,hb⟩
       · rename_i l st hb;exact ⟨_,hb⟩
       cases hq'
     cases hq'
   cases hr
 cases hr
theorem step_loop {ih:Cmd→Res} (H:∀ c,rL P Φ c (ih c)) (c:Code) (n:Nat) (E:Tr CV) (h:Tr CB) (nx:Nat):rL P Φ (.loop c n E h nx) (step P pr ih (.loop c n E h nx)):=by
 show rL P Φ _ (match ih (.code c n E h nx) with
  | .ok x E h nx=>(match x with
    | .normal=>ih (.loop c n E h nx)
    | x=>.ok x E h nx)
  | r=>r)
 have H1:=H (.code c n E h nx)
 generalize ih (.code c n E h nx)=q at H1
 cases q with
 | bad=>trivial
 | ret v h' nx'=>exact H1.elim
 | ok x' E' h' nx' =>
   have pass:x'≠.normal→rL P Φ (.loop c n E h nx) (.ok x' E' h' nx'):=fun hx r ρ w0 a w hR hf hn hrr Q hQ=>by
    refine Dj (H1 r ρ w0 a w hR hf hn hrr _ fun ρ' a' w' e1 e2=>?_)
    have:=hQ ρ' a' w' e1 e2
    cases x' <;> first | exact absurd rfl hx | exact this
   cases x' with
   | normal =>
     show rL P Φ _ (ih (.loop c n E' h' nx'))
     have H2:=H (.loop c n E' h' nx')
     generalize ih (.loop c n E' h' nx')=q2 at H2
     cases q2 with
     | bad=>trivial
     | ret v h2 nx2=>exact H2.elim
     | ok x2 E2 h2 nx2 =>
       intro r ρ w0 a w hR hf hn hrr Q hQ
       refine Dj (H1 r ρ w0 a w hR hf hn hrr _ fun ρ' a' w' e1 e2=>?_)
       exact H2 r ρ' w0 a' w' e2 e1.fit hn hrr Q fun ρ2 a2 w2 f1 f2=>hQ ρ2 a2 w2 (e1.trans hR.mem f1) f2
   | _=>exact pass Ew
theorem yD {ih:Cmd→Res} (H:∀ c,rL P Φ c (ih c)) (o:Oper) (n:Nat) (E:Tr CV) (h:Tr CB) (nx:Nat):rL P Φ (.one o n E h nx) (step P pr ih (.one o n E h nx)):=by
 obtain ⟨dst,op,ty,pos,after,g⟩:=o
 show rL P Φ _ (match qv P E h op with
  | some c=>(match vX E n dst c with | some E=>.ok .normal E h nx | none=>.bad 7 [])
  | none=>match wm P E h nx op with
    | .val c h nx=>(match vX E n dst c with | some E=>.ok .normal E h nx | none=>.bad 8 [])
    | .unit h nx=>(match dst with | none=>.ok .normal E h nx | some _=>.bad 10 [])
    | .bad=>Ft ih E n h nx dst op)
 split
 · rename_i c hq
   split
   · rename_i E' hp
     refine ⟨rfl,fun ρ w0 a w hR hf hn K hK=>?_⟩
     obtain ⟨ob,hob⟩:∃ ob:Nat→Obj,∀ t b,h.get t=some b→w.heap[(ρ t).1]?=some (ob t)∧DB nx ρ (ρ t).2 b (ob t):=by
      refine ⟨fun t=>(w.heap[(ρ t).1]?).getD default,fun t b hb=>?_⟩
      obtain ⟨_,_,_,o,h1,h2⟩:=hR.mem.own t b hb
      exact ⟨by show _=some ((w.heap[(ρ t).1]?).getD default);rw [h1];rfl,by show DB _ _ _ _ ((w.heap[(ρ t).1]?).getD default);rw [h1];exact h2⟩
     obtain ⟨v,k1,k2⟩:=Xb (ob:=ob) hR.slots (fun t b _ hb=>(hob t b hb).2) hq
     have hr:(execOp a.eval ⟨dst,op,ty,pos,after,g⟩).run P w=.ok (.value v) w:=by
      refine k2 w (fun t ht=>?_) dst ty pos after g
      obtain ⟨b,hb⟩:=Um ht hq
      exact (hob t b hb).1
     unfold wD
     rw [hr]
     exact hK ρ _ w (Nx.refl hf) (hR.put (uF hR.slots hn hp k1)) (nS _ _ _)
   trivial
 have hw:∀ (ρ:Pl) (w0:Bas Φ) (a:Act) (w:World),Slots ρ E nx n a→Mem ρ w0 h nx w→nx≤rO→Wd P op ρ w0 h nx a w (wm P E h nx op):=fun ρ w0 a w hR hm hf=>QX hR hm hf
 revert hw
 generalize wm P E h nx op=q
 intro hw
 cases q with
 | val c h' nx' =>
   show rL P Φ _ (match vX E n dst c with | some E=>.ok .normal E h' nx' | none=>.bad 8 [])
   split
   · rename_i E' hp
     refine ⟨rfl,fun ρ w0 a w hR hf hn K hK=>?_⟩
     obtain ⟨os,hR⟩:=hR
     obtain ⟨k1,v,w',ρ',e1,e2,e3,e4,e5,e6⟩:=hw ρ (w0.plus os) a w hR.slots hR.mem hf
     unfold wD
     rw [e6 dst ty pos after g]
     exact hK ρ' _ w' ⟨k1,e4,e1,e5⟩ ⟨os,uF (hR.slots.up k1 e1) hn hp e2,(xJ _ _ _).trans hR.defers,e3,hR.mks,aP hR.ss e5.sz⟩ (nS _ _ _)
   · trivial
 | unit h' nx' =>
   show rL P Φ _ (match dst with | none=>.ok .normal E h' nx' | some _=>.bad 10 [])
   cases dst with
   | some d=>trivial
   | none =>
     refine ⟨rfl,fun ρ w0 a w hR hf hn K hK=>?_⟩
     obtain ⟨os,hR⟩:=hR
     obtain ⟨k1,w',ρ',e1,e3,e4,e5,e6⟩:=hw ρ (w0.plus os) a w hR.slots hR.mem hf
     unfold wD
     rw [e6 ty pos after g]
     exact hK ρ' _ w' ⟨k1,e4,e1,e5⟩ ⟨os,hR.slots.up k1 e1,hR.defers,e3,hR.mks,aP hR.ss e5.sz⟩ (Kept.refl _ _)
 | bad =>
   show rL P Φ _ (Ft ih E n h nx dst op)
   unfold Ft
   split
   · rename_i f args ats _
     split
     · rename_i g' fst cap hfv
       split
       · rename_i l hl
         have H1:=H (.call g' (yA fst (yA l cap)) h nx)
         generalize ih (.call g' (yA fst (yA l cap)) h nx)=q at H1
         cases q with
         | bad=>trivial
         | ok _ _ _ _=>trivial
         | ret v h' nx' =>
           show rL P Φ _ (match vX E n dst v with | some E=>.ok .normal E h' nx' | none=>.bad 11 [])
           split
           · rename_i E' hp
             obtain ⟨⟨fn,f1,f2,f3⟩,H1⟩:=H1
             refine ⟨rfl,fun ρ w0 a w hR hf hn K hK=>?_⟩
             obtain ⟨os,hR⟩:=hR
             obtain ⟨fv,e1,k1⟩:=rM hR.slots hfv
             obtain ⟨xs,ys,k2,k3,rfl⟩:=En k1
             obtain ⟨vs,e2,k4⟩:=Gu hR.slots hl
             have hC:=H1 ρ (w0.plus os) w (xs++vs++ys) hR.mem (by rw [dJ];exact Af k2 (Af k4 k3)) hf
             have hrun:(execOp a.eval ⟨dst,.call ⟨.value f,⟨args⟩,ats⟩,ty,pos,after,g⟩).run P w=.ok (.enter g' (xs++vs++ys).toArray) w:=by
              have hargs:(args.map a.eval)=vs:=(lookN a w).evals e2
              simp [execOp,resolve,Deferred.ofValue,invoke,tH e1,hargs,wO w _ f1 f2 f3]
             unfold wD
             rw [hrun]
             refine hC.mono fun e w' ⟨u,ρ',q1,q2,q3,q4⟩=>⟨u,q1,?_⟩
             exact hK ρ' _ w' q2 ⟨os,uF (hR.slots.up q2.le q2.ext) hn hp q3,(xJ _ _ _).trans hR.defers,q4,hR.mks,aP hR.ss q2.old.sz⟩ (nS _ _ _)
           trivial
       trivial
     · rename_i t hfv
       split
       · rename_i l hl
         have H1:=H (.round t l h nx)
         generalize ih (.round t l h nx)=q at H1
         cases q with
         | bad=>trivial
         | ok _ _ _ _=>trivial
         | ret v h' nx' =>
           show rL P Φ _ (match vX E n dst v with | some E=>.ok .normal E h' nx' | none=>.bad 51 [])
           split
           · rename_i E' hp
             refine ⟨rfl,fun ρ w0 a w hR hf hn K hK=>?_⟩
             obtain ⟨os,hR⟩:=hR
             obtain ⟨fv,e1,k1⟩:=rM hR.slots hfv
             have e3:fv=.func (.yield (ρ t).1) #[] #[]:=k1.2
             subst e3
             obtain ⟨vs,e2,k4⟩:=Gu hR.slots hl
             obtain ⟨f',tmps,assign,body,hy,hC⟩:=H1 ρ (w0.plus os) w vs hR.mem k4 hf
             have hrun:(execOp a.eval ⟨dst,.call ⟨.value f,⟨args⟩,ats⟩,ty,pos,after,g⟩).run P w=.ok (.round (ρ t).1 f' tmps assign body) w:=by
              have hargs:(args.map a.eval)=vs:=(lookN a w).evals e2
              simp [execOp,resolve,Deferred.ofValue,invoke,tH e1,hargs,hy]
             unfold wD
             rw [hrun]
             refine hC.mono fun e w' ⟨u,ρ',q1,q2,q3,q4⟩=>⟨u,q1,?_⟩
             exact hK ρ' _ w' q2 ⟨os,uF (hR.slots.up q2.le q2.ext) hn hp q3,(xJ _ _ _).trans hR.defers,q4,hR.mks,aP hR.ss q2.old.sz⟩ (nS _ _ _)
           trivial
       trivial
     trivial
   trivial
end
section
variable {P:Program} {Φ:Imm→Prop} {pr:sY}
theorem NQ {nx n:Nat} {ρ:Pl} (hn:n≤100000):∀ {ps:List Nat} {args:CV} {vs:List Value} {E E1:Tr CV} {tmps:Array Value},KL nx ρ args vs→SM n ps args E=some E1→tmps.size=n→(∀ i x,E.get i=some x→∃ v,tmps[i]?=some v∧Kn nx ρ x v)→
 ps.length=vs.length∧((ps.zip vs).foldl (fun t (p:Nat×Value)=>t.setIfInBounds p.1 p.2) tmps).size=n∧∀ i x,E1.get i=some x→∃ v,((ps.zip vs).foldl (fun t (p:Nat×Value)=>t.setIfInBounds p.1 p.2) tmps)[i]?=some v∧Kn nx ρ x v:=by
 intro ps
 induction ps with
 | nil =>
   intro args vs E E1 tmps hk hp hs he
   cases args with
   | nil =>
     have hp':some E=some E1:=hp
     cases hp'
     have:vs=[]:=hk.2
     subst this
     exact ⟨rfl,by simpa using hs,by simpa using he⟩
   | _=>exact absurd (show none=some E1 from hp) sI
 | cons p ps ih =>
   intro args vs E E1 tmps hk hp hs he
   cases args with
   | cons a b =>
     have hp':(bif Nat.ble (Nat.succ p) n then SM n ps b (E.set (some a) rO p) else none)=some E1:=hp
     rcases rK hp' with ⟨h1,h2⟩ | ⟨_,h2⟩
     · have hpn:p<n:=bH h1
       obtain ⟨⟨b1,b2⟩,v,r,rfl,k1,k2⟩:=hk
       obtain ⟨q1,q2,q3⟩:=ih (E:=E.set (some a) rO p) (tmps:=tmps.setIfInBounds p v) ⟨b2,k2⟩ h2 (by simpa using hs) (fun i x hx=>by
        rw [eN (some a) rO E p i (by rw [Jh];omega)] at hx
        by_cases e:i=p
        · subst e
          rw [aR rfl] at hx
          cases hx
          exact ⟨v,by simp [hs,hpn],b1,k1⟩
        rw [aK e] at hx
        obtain ⟨u,g1,g2⟩:=he i x hx
        exact ⟨u,by rw [gK (pW e)];exact g1,g2⟩)
       exact ⟨by simp [q1],by simpa using q2,by simpa using q3⟩
     · cases h2
   | _=>exact absurd (show none=some E1 from hp) sI
theorem AN {ρ:Pl} {w0:Bas Φ} {h:Tr CB} {nx t n4 stm:Nat} {w:World} {E4:Tr CV} {ps4:List Nat} {as4 body4:Code} {st:LoopState} {p:Option Code} (hm:Mem ρ w0 h nx w) (hlp:h.get t=some (.lp E4 n4 ps4 as4 body4 st p stm)) (hfit:Nat.ble (Nat.succ nx) rO=true) (c:Option Code) :
 ∃ w',(Instr.endRound (ρ t).1 c).run P w=.ok (.bool c.isNone) w'∧Nx ρ h nx w ρ (h.set (some (.lp E4 n4 ps4 as4 body4 (LO c) c nx)) rO t) (Nat.succ nx) w'∧Mem ρ w0 (h.set (some (.lp E4 n4 ps4 as4 body4 (LO c) c nx)) rO t) (Nat.succ nx) w':=by
 obtain ⟨_,_,_,o,ho,q,rfl,g1,g2,g3,g4,g5,g6,g7⟩:=hm.own t _ hlp
 have hf:=rU hfit
 have hlt:=(dG.1 ho).1
 obtain ⟨m3,o3⟩:=hm.write (b':=.lp E4 n4 ps4 as4 body4 (LO c) c nx) (o:=.loop { q with state:=if c.isNone then .ready else .done,pending:=c }) (w':=w.putObj (ρ t).1 (.loop { q with state:=if c.isNone then .ready else .done,pending:=c })) rG rfl hlp
  (wZ w _ _) (lX hlt) ⟨_,rfl,by cases c <;> rfl,rfl,g3,g4,g5,g6,fun i x hx=>g7 i x hx⟩
 exact ⟨_,run_endRound c ho,⟨cY _,hf,dD _ _,o3⟩,m3⟩
theorem Jw {ih:Cmd→Res} (H:∀ c,rL P Φ c (ih c)) (t:Nat) (args:CV) (h:Tr CB) (nx:Nat):rL P Φ (.round t args h nx) (step P pr ih (.round t args h nx)):=by
 show rL P Φ _ (match h.get t with
  | some (.lp E n ps asg body st _ _)=>bif Sa st && (Pb asg && (Pb body && Nat.ble n 100000)) then
    (match SM n ps args E with
    | some E1=>match ih (.code asg n E1 h nx) with
      | .ok .normal E2 h2 nx2=>(match h2.get t with
        | some (.lp E0 n0 ps0 as0 body0 st0 p0 _)=>bif Sa st0 && Nat.ble (Nat.succ nx2) rO then
          (match ih (.code body n E2 (h2.set (some (.lp E0 n0 ps0 as0 body0 .busy p0 nx2)) rO t) (Nat.succ nx2)) with
          | .ok x _ h3 nx3=>(match h3.get t with
            | some (.lp E4 n4 ps4 as4 body4 _ _ _)=>bif Nat.ble (Nat.succ nx3) rO then
              (match AL x with
              | some none=>.ret (.bool true) (h3.set (some (.lp E4 n4 ps4 as4 body4 .ready none nx3)) rO t) (Nat.succ nx3)
              | some (some c)=>.ret (.bool false) (h3.set (some (.lp E4 n4 ps4 as4 body4 .done (some c) nx3)) rO t) (Nat.succ nx3)
              | none=>.bad 46 []) else .bad 47 []
            | _=>.bad 48 [])
          | .ret _ _ _=>.bad 49 []
          | r=>r) else .bad 50 []
        | _=>.bad 54 [])
      | .ok _ _ _ _=>.bad 55 []
      | .ret _ _ _=>.bad 56 []
      | r=>r
    | none=>.bad 57 []) else .bad 58 []
  | _=>.bad 59 [])
 split
 · rename_i E n ps asg body st p stm hlp
   refine rN (rL P Φ _) (fun hb=>?_) fun _=>trivial
   simp only [aB] at hb
   obtain ⟨hb1,hb2,hb3,hb4⟩:=hb
   have hn:=rU hb4
   split
   · rename_i E1 hps
     have H1:=H (.code asg n E1 h nx)
     generalize ih (.code asg n E1 h nx)=q at H1
     cases q with
     | bad=>trivial
     | ret _ _ _=>trivial
     | ok x E2 h2 nx2 =>
       cases x with
       | normal =>
         show rL P Φ _ (match h2.get t with
          | some (.lp E0 n0 ps0 as0 body0 st0 p0 _)=>bif Sa st0 && Nat.ble (Nat.succ nx2) rO then
            (match ih (.code body n E2 (h2.set (some (.lp E0 n0 ps0 as0 body0 .busy p0 nx2)) rO t) (Nat.succ nx2)) with
            | .ok x _ h3 nx3=>(match h3.get t with
              | some (.lp E4 n4 ps4 as4 body4 _ _ _)=>bif Nat.ble (Nat.succ nx3) rO then
                (match AL x with
                | some none=>.ret (.bool true) (h3.set (some (.lp E4 n4 ps4 as4 body4 .ready none nx3)) rO t) (Nat.succ nx3)
                | some (some c)=>.ret (.bool false) (h3.set (some (.lp E4 n4 ps4 as4 body4 .done (some c) nx3)) rO t) (Nat.succ nx3)
                | none=>.bad 46 []) else .bad 47 []
              | _=>.bad 48 [])
            | .ret _ _ _=>.bad 49 []
            | r=>r) else .bad 50 []
          | _=>.bad 54 [])
         split
         · rename_i E0 n0 ps0 as0 body0 st0 p0 stm0 hlp0
           refine rN (rL P Φ _) (fun hb=>?_) fun _=>trivial
           rw [aB] at hb
           obtain ⟨hb5,hb6⟩:=hb
           have hf6:=rU hb6
           have H2:=H (.code body n E2 (h2.set (some (.lp E0 n0 ps0 as0 body0 .busy p0 nx2)) rO t) (Nat.succ nx2))
           generalize ih (.code body n E2 (h2.set (some (.lp E0 n0 ps0 as0 body0 .busy p0 nx2)) rO t) (Nat.succ nx2))=q2 at H2
           cases q2 with
           | bad=>trivial
           | ret _ _ _=>trivial
           | ok x3 E3 h3 nx3 =>
             show rL P Φ _ (match h3.get t with
              | some (.lp E4 n4 ps4 as4 body4 _ _ _)=>bif Nat.ble (Nat.succ nx3) rO then
                (match AL x3 with
                | some none=>.ret (.bool true) (h3.set (some (.lp E4 n4 ps4 as4 body4 .ready none nx3)) rO t) (Nat.succ nx3)
                | some (some c)=>.ret (.bool false) (h3.set (some (.lp E4 n4 ps4 as4 body4 .done (some c) nx3)) rO t) (Nat.succ nx3)
                | none=>.bad 46 []) else .bad 47 []
              | _=>.bad 48 [])
             split
             · rename_i E4 n4 ps4 as4 body4 st4 p4 stm4 hlp4
               refine rN (rL P Φ _) (fun hb7=>?_) fun _=>trivial
               have go:∀ (c:Option Code),AL x3=some c→∀ (ρ:Pl) (w0:Bas Φ) (w:World) (vs:List Value),Mem ρ w0 h nx w→KL nx ρ args vs→nx≤rO→
                ∃ f tmps assign body,(Instr.yield (ρ t).1 vs.toArray).run P w=.ok (.round (ρ t).1 f tmps assign body) w∧
                 RoundIn Fence.wide 0 P (ρ t).1 f tmps assign body w (fun e w'=>∃ u ρ',e=.returned u∧Nx ρ h nx w ρ' (h3.set (some (.lp E4 n4 ps4 as4 body4 (LO c) c nx3)) rO t) (Nat.succ nx3) w'∧Kn (Nat.succ nx3) ρ' (.bool c.isNone) u∧Mem ρ' w0 (h3.set (some (.lp E4 n4 ps4 as4 body4 (LO c) c nx3)) rO t) (Nat.succ nx3) w'):=by
                intro c hc ρ w00 w vs hm hk hf
                obtain ⟨W0,ks0,G0,ok0,s0⟩:=w00
                replace hm:=hm.base (s':=w.heap.size)
                obtain ⟨w0,hw0⟩:∃ w0:Bas Φ,w0=⟨W0,ks0,G0,ok0,w.heap.size⟩:=⟨_,rfl⟩
                rw [←hw0] at hm
                obtain ⟨htn,_,_,o,ho,q,rfl,g1,g2,g3,g4,g5,g6,g7⟩:=hm.own t _ hlp
                obtain ⟨z1,z2,z3⟩:=NQ hn hk hps g6 g7
                refine ⟨_,_,_,_,run_yield ho (by rw [g3];simp [z1]),?_⟩
                rw [g4,g5,g3]
                have htm:(ps.toArray.zip vs.toArray).foldl (fun tmps (x:Nat×Value)=>tmps.setIfInBounds x.1 x.2) q.tmps=(ps.zip vs).foldl (fun t (p:Nat×Value)=>t.setIfInBounds p.1 p.2) q.tmps:=sI
                refine roundIn_of_wpIn (F:=Fence.wide) (n:=0) trivial ?_
                have hR:Rel ρ w0 n E1 h nx { tmps:=(ps.toArray.zip vs.toArray).foldl (fun tmps (x:Nat×Value)=>tmps.setIfInBounds x.1 x.2) q.tmps,defers:=[] } w:=by
                 rw [htm]
                 exact ⟨[],⟨z2,z3⟩,rfl,hm,fun b hb=>(by cases hb),by rw [hw0];exact aH _⟩
                refine H1 (some (ρ t).1) ρ w0 _ w hR hf hn (.inr hb2) _ fun ρ2 a2 w2 e1 e2=>?_
                have m2:=e2.mem
                have e3:ρ2 t=ρ t:=e1.ext t htn
                obtain ⟨_,_,_,o2,ho2,q2,rfl,j1,j2,j3,j4,j5,j6,j7⟩:=m2.own t _ hlp0
                rw [e3] at ho2
                have hlt:=(dG.1 ho2).1
                refine ⟨_,run_beginRound ho2 (by rw [j1];cases st0 <;> first | rfl | cases hb5),?_⟩
                obtain ⟨os,e2⟩:=e2
                obtain ⟨m3,o3⟩:=e2.mem.write (b':=.lp E0 n0 ps0 as0 body0 .busy p0 nx2) (o:=.loop { q2 with state:=.busy }) (w':=w2.putObj (ρ t).1 (.loop { q2 with state:=.busy })) rG rfl hlp0
                 (by rw [e3];exact wZ w2 _ _) (by rw [e3];exact lX hlt) ⟨_,rfl,rfl,j2,j3,j4,j5,j6,fun i x hx=>j7 i x hx⟩
                have a4:Nx ρ2 h2 nx2 w2 ρ2 (h2.set (some (.lp E0 n0 ps0 as0 body0 .busy p0 nx2)) rO t) (Nat.succ nx2) (w2.putObj (ρ t).1 (.loop { q2 with state:=.busy })):=⟨cY _,hf6,dD _ _,o3⟩
                have hR2:Rel ρ2 w0 n E2 (h2.set (some (.lp E0 n0 ps0 as0 body0 .busy p0 nx2)) rO t) (Nat.succ nx2) a2 (w2.putObj (ρ t).1 (.loop { q2 with state:=.busy })):=⟨os,e2.slots.up (cY _) (dD _ _),e2.defers,m3,e2.mks,aP e2.ss a4.old.sz⟩
                refine H2 (some (ρ t).1) ρ2 w0 _ _ hR2 hf6 hn (.inr hb3) _ fun ρ3 a3 w3 f1 f2=>?_
                have htn2:t<nx2:=bN htn e1.le
                have e5:ρ3 t=ρ t:=(f1.ext t (Nat.lt_succ_of_lt htn2)).trans e3
                obtain ⟨w4,k1,k2,k3⟩:=AN (P:=P) f2.mem hlp4 hb7 c
                rw [e5] at k1
                have hnx:=(((e1.trans hm a4).trans hm f1).trans hm k2)
                have fin:∃ v w',(Instr.endRound (ρ t).1 c).run P w3=.ok v w'∧∃ u ρ',Ending.returned v=.returned u∧Nx ρ h nx w ρ' (h3.set (some (.lp E4 n4 ps4 as4 body4 (LO c) c nx3)) rO t) (Nat.succ nx3) w'∧Kn (Nat.succ nx3) ρ' (.bool c.isNone) u∧Mem ρ' ⟨W0,ks0,G0,ok0,s0⟩ (h3.set (some (.lp E4 n4 ps4 as4 body4 (LO c) c nx3)) rO t) (Nat.succ nx3) w':=
                 ⟨_,w4,k1,_,ρ3,rfl,hnx,Hb,by rw [hw0] at k3;exact k3.base⟩
                cases x3 with
                | normal=>cases hc;exact fin
                | ret=>cases hc;exact fin
                | exit id=>cases hc;exact fin
                | goto l=>cases hc
                | panic ch=>cases hc
                | outgrown=>cases hc
               cases hx:AL x3 with
               | none=>trivial
               | some c =>
                 cases c with
                 | none=>exact go none hx
                 | some c=>exact go (some c) hx
             trivial
         · trivial
       | _=>trivial
   trivial
 trivial
end
section
variable {P:Program} {Φ:Imm→Prop} {pr:sY}
theorem Xg {ih:Cmd→Res} (H:∀ c,rL P Φ c (ih c)) {all rest:List Oper} {o:Oper} {n:Nat} {E:Tr CV} {h:Tr CB} {nx:Nat}
 (hw:∀ (ρ:Pl) (w0:Bas Φ) (a:Act) (w:World),Rel ρ w0 n E h nx a w→Region.wanted o (yielded all.toArray a.tmps)=true) :
 rL P Φ (.ops all (o :: rest) n E h nx) (match ih (.one o n E h nx) with | .ok x E h nx=>ih (.ops all rest n E h nx) | r=>r):=by
 have H1:=H (.one o n E h nx)
 generalize ih (.one o n E h nx)=q at H1
 cases q with
 | bad=>trivial
 | ret v h' nx'=>exact H1.elim
 | ok x E' h' nx' =>
   obtain ⟨rfl,H1⟩:=H1
   show rL P Φ _ (ih (.ops all rest n E' h' nx'))
   have H2:=H (.ops all rest n E' h' nx')
   generalize ih (.ops all rest n E' h' nx')=q2 at H2
   cases q2 with
   | bad=>trivial
   | ret v h2 nx2=>exact H2.elim
   | ok x2 E2 h2 nx2 =>
     obtain ⟨rfl,H2⟩:=H2
     refine ⟨rfl,fun ρ w0 a w hR hf hn K hK=>?_⟩
     unfold rZ
     rw [aR (hw ρ w0 a w hR)]
     exact H1 ρ w0 a w hR hf hn _ fun ρ' a' w' e1 e2 _=>H2 ρ' w0 a' w' e2 e1.fit hn K fun ρ2 a2 w2 f1 f2=>hK ρ2 a2 w2 (e1.trans hR.mem f1) f2
theorem Xh {ih:Cmd→Res} (H:∀ c,rL P Φ c (ih c)) {all rest:List Oper} {o:Oper} {n:Nat} {E:Tr CV} {h:Tr CB} {nx:Nat}
 (hw:∀ (ρ:Pl) (w0:Bas Φ) (a:Act) (w:World),Rel ρ w0 n E h nx a w→Region.wanted o (yielded all.toArray a.tmps)=false) :
 rL P Φ (.ops all (o :: rest) n E h nx) (match vX E n o.dst (.tup .nil) with | some E=>ih (.ops all rest n E h nx) | none=>.bad 4 []):=by
 split
 · rename_i E' hp
   have H2:=H (.ops all rest n E' h nx)
   generalize ih (.ops all rest n E' h nx)=q2 at H2
   cases q2 with
   | bad=>trivial
   | ret v h2 nx2=>exact H2.elim
   | ok x2 E2 h2 nx2 =>
     obtain ⟨rfl,H2⟩:=H2
     refine ⟨rfl,fun ρ w0 a w hR hf hn K hK=>?_⟩
     unfold rZ
     rw [aK (by rw [hw ρ w0 a w hR];simp)]
     exact H2 ρ w0 _ w (hR.put (uF hR.slots hn hp Ju)) hf hn K hK
 trivial
theorem Dk {ih:Cmd→Res} (H:∀ c,rL P Φ c (ih c)) (all l:List Oper) (n:Nat) (E:Tr CV) (h:Tr CB) (nx:Nat):rL P Φ (.ops all l n E h nx) (step P pr ih (.ops all l n E h nx)):=by
 cases l with
 | nil=>exact ⟨rfl,fun ρ w0 a w hR hf hn K hK=>hK ρ a w (Nx.refl hf) hR⟩
 | cons o rest =>
   show rL P Φ _ (match o.guard with
    | none=>(match ih (.one o n E h nx) with
      | .ok x E h nx=>ih (.ops all rest n E h nx)
      | r=>r)
    | some (j,want)=>(match xT all j with
      | some t=>(match E.get t with
        | some (.bool b)=>bif NM b want then
         (match ih (.one o n E h nx) with
         | .ok x E h nx=>ih (.ops all rest n E h nx)
         | r=>r)
          else (match vX E n o.dst (.tup .nil) with | some E=>ih (.ops all rest n E h nx) | none=>.bad 4 [])
        | some (.tup .nil)=>(match vX E n o.dst (.tup .nil) with | some E=>ih (.ops all rest n E h nx) | none=>.bad 4 [])
        | _=>.bad 5 [])
      | none=>.bad 6 []))
   split
   · rename_i hg
     exact Xg H fun ρ w0 a w hR=>by simp [Region.wanted,hg]
   rename_i j want hg
   split
   · rename_i t ht
     split
     · rename_i b hb
       cases hx:NM b want with
       | true =>
         have e:b=want:=by cases b <;> cases want <;> first | rfl | cases hx
         exact Xg H fun ρ w0 a w hR=>by simp [Region.wanted,hg,Bo hR.slots ht hb,e]
       | false =>
         have e:b≠want:=by cases b <;> cases want <;> first | (cases hx;done) | exact rW
         exact Xh H fun ρ w0 a w hR=>by simp [Region.wanted,hg,Bo hR.slots ht hb,e]
     · rename_i hb
       exact Xh H fun ρ w0 a w hR=>by simp [Region.wanted,hg,Jv hR.slots ht hb]
     trivial
   trivial
theorem KG {nx:Nat} {ρ:Pl} {l:CV} {vs:List Value} (hk:KL nx ρ l vs):∀ (i:Nat) (E:Tr CV),i+vs.length≤100000→∀ (j:Nat) (x:CV),(Rx l i E).get j=some x→(i≤j∧∃ v,vs[j - i]?=some v∧Kn nx ρ x v)∨E.get j=some x:=by
 refine kT (motive:=fun l vs=>∀ (i:Nat) (E:Tr CV),i+vs.length≤100000→∀ (j:Nat) (x:CV),(Rx l i E).get j=some x→(i≤j∧∃ v,vs[j - i]?=some v∧Kn nx ρ x v)∨E.get j=some x) ?_ ?_ hk
 · intro i E _ j x hx;exact .inr hx
 intro a b v vs hv hvs ih i E hi j x hx
 have hx':(Rx b (Nat.succ i) (E.set (some a) rO i)).get j=some x:=hx
 rw [bV] at hi
 rcases ih (i+1) _ rG j x hx' with ⟨h1,u,h2,h3⟩ | h1
 · refine .inl ⟨by omega,u,?_,h3⟩
   rw [show j - i=(j - (i+1))+1 by omega]
   simpa using h2
 rw [eN (some a) rO E i j (by rw [Jh];omega)] at h1
 by_cases e:j=i
 · rw [aR e] at h1
   cases h1
   exact .inl ⟨by omega,v,by subst e;simp,hv⟩
 rw [aK e] at h1;exact .inr h1
section
variable {nx n:Nat} {ρ:Pl} {w0:Bas Φ} {w:World} {E:Tr CV} {h:Tr CB} {a:Act}
theorem KH (hR:Rel ρ w0 n E h nx a w) {x:ResultVar} {c:CV} (hc:NK P E h x=some c):∃ v,Kn nx ρ c v∧(wX a.tmps x).run P w=.ok v w:=by
 cases x with
 | tmp t =>
   obtain ⟨v,h1,h2⟩:=hR.slots.2 t c hc
   exact ⟨v,h2,by simp [wX,h1]⟩
 | cell t T =>
   have hc':qv P E h (.load T (.tmp t))=some c:=hc
   obtain ⟨ob,hob⟩:∃ ob:Nat→Obj,∀ t b,h.get t=some b→w.heap[(ρ t).1]?=some (ob t)∧DB nx ρ (ρ t).2 b (ob t):=by
    refine ⟨fun t=>(w.heap[(ρ t).1]?).getD default,fun t b hb=>?_⟩
    obtain ⟨_,_,_,o,h1,h2⟩:=hR.mem.own t b hb
    exact ⟨by show _=some ((w.heap[(ρ t).1]?).getD default);rw [h1];rfl,by show DB _ _ _ _ ((w.heap[(ρ t).1]?).getD default);rw [h1];exact h2⟩
   obtain ⟨v,k1,k2⟩:=Xb (ob:=ob) hR.slots (fun t b _ hb=>(hob t b hb).2) hc'
   have hr:=k2 w (fun t ht=>by
    obtain ⟨b,hb⟩:=Um ht hc'
    exact (hob t b hb).1) none 0 "" #[] none
   refine ⟨v,k1,?_⟩
   have hp:∃ ad,a.eval (.tmp t)=.pointer (some ad):=by
    have hx:∃ tt o,sU E (.tmp t)=some (.ptr tt o):=by
     have hq':(match sU E (.tmp t) with
      | some (.ptr t o)=>match h.get t with
        | some (.cells l _ _ _)=>bif tZ P T then Zy l o else
          (match NX P T with
          | some k=>bif Nat.beq (sG (sO l o k)) k then some (.agg (sO l o k)) else none
          | none=>none)
        | _=>none
      | _=>none)=some c:=hc'
     split at hq'
     · rename_i tt o hx;exact ⟨tt,o,hx⟩
     cases hq'
    obtain ⟨tt,o,hx⟩:=hx
    obtain ⟨u,e1,g1⟩:=rM hR.slots hx
    have:=lK.1 g1.2
    subst this
    exact ⟨_,tH e1⟩
   obtain ⟨ad,had⟩:=hp
   have had':a.tmps.getD t undef=.pointer (some ad):=had
   simp only [wX,had',asAddr]
   simp only [execOp,had,Instr.loadAt,Instr.sureAddr] at hr
   simp only [bE,bJ,aO] at hr ⊢
   generalize (loadVar T ad).run P w=q at hr ⊢
   cases q with
   | ok u w'=>simp only [aO,bJ,Result.ok.injEq,Next.value.injEq] at hr;obtain ⟨rfl,rfl⟩:=hr;rfl
   | halt x w'=>cases hr
theorem Xi (hR:Rel ρ w0 n E h nx a w):∀ {l:List ResultVar} {c:CV},NL P E h l=some c→∃ vs,KL nx ρ c vs∧(l.mapM (wX a.tmps)).run P w=.ok vs w:=by
 intro l
 induction l with
 | nil=>intro c hc;cases hc;exact ⟨[],mV,by simp⟩
 | cons x l ih =>
   intro c hc
   have hc':(match NK P E h x with | some a=>(match NL P E h l with | some b=>some (.cons a b) | none=>none) | none=>none)=some c:=hc
   split at hc'
   · rename_i c1 h1
     split at hc'
     · rename_i c2 h2
       cases hc'
       obtain ⟨v,k1,r1⟩:=KH hR h1
       obtain ⟨vs,k2,r2⟩:=ih h2
       exact ⟨v :: vs,oE k1 k2,by simp [List.mapM_cons,r1,r2]⟩
     cases hc'
   cases hc'
theorem KI (hR:Rel ρ w0 n E h nx a w) {fn:Func} {c:CV} (hc:Ry P E h fn.results.toList=some c):∃ v,Kn nx ρ c v∧(results fn a.tmps).run P w=.ok v w:=by
 unfold Ry at hc
 have key:∀ vs,(fn.results.toList.mapM (wX a.tmps)).run P w=.ok vs w→(results fn a.tmps).run P w=.ok (if h:vs.toArray.size=1 then vs.toArray[0] else .tuple vs.toArray) w:=fun vs hvs=>by
  rw [yK]
  have e1:fn.results.mapM (wX a.tmps)=List.toArray <$> (fn.results.toList.mapM (wX a.tmps)):=by rw [Array.mapM_eq_mapM_toList]
  rw [e1,map_eq_pure_bind]
  simp only [bE,hvs,aO,bJ]
 split at hc
 · rename_i c1 h1
   cases hc
   obtain ⟨vs,k1,r1⟩:=Xi hR h1
   obtain ⟨v,vs',rfl,k2,k3⟩:=k1.inv_cons
   rw [k3.inv_nil] at r1
   exact ⟨v,k2,by rw [key _ r1];simp⟩
 · rename_i c1 hne h1
   cases hc
   obtain ⟨vs,k1,r1⟩:=Xi hR h1
   refine ⟨.tuple vs.toArray,⟨k1.1,pE.2 ⟨vs,k1.2,rfl⟩⟩,?_⟩
   rw [key _ r1]
   have:¬vs.toArray.size=1:=fun hs=>by
    have hl:vs.length=1:=by simpa using hs
    rw [←sJ k1] at hl
    revert k1 hl hne
    cases c1 <;> first | (intro hne k1 hl;cases hl;done) | skip
    rename_i x y
    intro hne k1 hl
    obtain ⟨v,vs',rfl,k2,k3⟩:=k1.inv_cons
    have hy:sG y=0:=Nat.succ.inj hl
    cases y <;> first | exact absurd rfl (hne _) | (exact absurd k3.2 id) | (cases hy)
   rw [dif_neg this]
 cases hc
end
end
section
variable {P:Program} {Φ:Imm→Prop} {pr:sY}
theorem Mq {ops:Array Oper} {K:Act→World→Prop} {C C':Array Bool→World→Prop} (hC:∀ L w,C' L w→C L w):∀ (f:Nat) (L:Array Bool) (a:Act) (w:World),gm P ops K C' f L a w→gm P ops K C f L a w
 | 0,_,_,_,h=>⟨hC _ _ h.1,h.2⟩
 | f+1,_,_,_,h=>⟨hC _ _ h.1,h.2.1,fun i hi=>Hs (fun a w h=>Mq hC f _ a w h) (h.2.2 i hi)⟩
theorem Sc {n nx:Nat} {ρ:Pl} {E:Tr CV} {a:Act} {l:List Oper} {o:Oper} {g:Bool} (hs:Slots ρ E nx n a) (h:LG l E o=some g):Region.wanted o (yielded l.toArray a.tmps)=g:=by
 unfold LG at h
 split at h
 · rename_i hg;cases h;simp [Region.wanted,hg]
 rename_i j want hg
 split at h
 · rename_i t ht
   split at h
   · rename_i b hb
     cases h
     have:=Bo hs ht hb
     simp only [Region.wanted,hg,this]
     cases b <;> cases want <;> rfl
   · rename_i hb
     cases h
     have:=Jv hs ht hb
     simp [Region.wanted,hg,this]
   cases h
 cases h
theorem yE {l:List Oper} {L:Array Bool} {i:Nat} (hd:KF l L) (hi:i∈Region.ready .any l.toArray L):KF l (L.setIfInBounds i true):=fun j o hj hl e he hb=>by
 by_cases hji:i=j
 · subst hji
   obtain ⟨_,o',ho',h2⟩:=eX.1 hi
   have ho:l.toArray[i]?=some o:=by simpa using hj
   rw [ho] at ho';cases ho'
   exact oL (h2 e he hb)
 rw [gV false hji] at hl
 exact oL (hd j o hj hl e he hb)
theorem Sd {l:List Oper} {L:Array Bool} {i j:Nat} (hd:KF l L) (hi:i∈Region.ready .any l.toArray L) (hw:AM l i j):L.getD j false=false:=by
 obtain ⟨o,ho,_,he⟩:=hw
 obtain ⟨e,he1,he2,he3⟩:=Jr.1 he
 cases hl:L.getD j false with
 | false=>rfl
 | true =>
   have h1:=hd j o ho hl e he1 he2
   rw [he3] at h1
   obtain ⟨h0,o',ho',_⟩:=eX.1 hi
   have hlt:i<l.toArray.size:=(dG.1 ho').1
   rcases aJ i L.size with hs | hs
   · simp [hs] at h0 h1;rw [h0] at h1;cases h1
   simp [jN hs] at h1
theorem Mr {o:Oper}:∀ {pend:List (Nat×Nat×Nat)} {x:Nat×Nat×Nat},x∈pend→(not (yV o.op) && Jk o x.2.1)=false→x∈rY o pend:=by
 intro pend
 induction pend with
 | nil=>intro x h _;cases h
 | cons y pend ih =>
   intro x h hx
   show x∈(bif not (yV o.op) && Jk o y.2.1 then rY o pend else y :: rY o pend)
   rcases dE.1 h with rfl | h
   · rw [hx];exact bL
   cases (not (yV o.op) && Jk o y.2.1) with
   | true=>exact ih h hx
   | false=>exact bB _ (ih h hx)
theorem tQ {A:Array Bool} {j:Nat}:A.getD j true=false↔j<A.size∧A.getD j false=false:=by
 rcases aJ j A.size with h | h
 · simp [h]
 simp [jN h];omega
theorem Jx {R:List Nat} {L:Array Bool} {k:Nat}:(Js R L).size=L.size∧((Js R L).getD k false=true↔L.getD k false=true∨(k∈R∧k<L.size)):=by
 induction R with
 | nil=>exact ⟨rfl,fun h=>.inl h,fun h=>h.elim (fun q=>q) fun q=>by cases q.1⟩
 | cons j R ih =>
   obtain ⟨h1,h2⟩:=ih
   refine ⟨by show ((Js R L).setIfInBounds j true).size=_;simp [h1],?_⟩
   show ((Js R L).setIfInBounds j true).getD k false=true↔_
   by_cases e:j=k
   · subst e
     rcases aJ j L.size with h | h
     · have:j<(Js R L).size:=by rw [h1];exact h
       simp [this,h]
     have h3:¬j<(Js R L).size:=by rw [h1];omega
     have h4:((Js R L).setIfInBounds j true).getD j false=(Js R L).getD j false:=by
      rw [fH,fH,jN (by simp;omega),jN rG]
     rw [h4,h2]
     constructor
     · rintro (h5 | h5)
       · exact .inl h5
       omega
     rintro (h5 | h5)
     · exact .inl h5
     omega
   rw [gV false e,h2]
   constructor
   · rintro (h5 | h5)
     · exact .inl h5
     exact .inr ⟨bB _ h5.1,h5.2⟩
   rintro (h5 | h5)
   · exact .inl h5
   rcases dE.1 h5.1 with h6 | h6
   · exact absurd h6.symm e
   exact .inr ⟨h6,h5.2⟩
section lists
variable {l:List Oper} {L Lm:Array Bool} {S:List Early} {i:Nat}
theorem LR.unl (h:LR L S Lm) {j:Nat} (hj:Lm.getD j true=false):L.getD j true=false∧∀ e∈S,e.j≠j:=by
 obtain ⟨h1,h2⟩:=tQ.1 hj
 refine ⟨tQ.2 ⟨by rw [←h.size];exact h1,?_⟩,fun e he hej=>?_⟩
 · cases hl:L.getD j false with
   | false=>rfl
   | true=>rw [(h.iff j).2 (.inl hl)] at h2;cases h2
 rw [(h.iff j).2 (.inr ⟨e,he,hej⟩)] at h2;cases h2
theorem LR.up (h:LR L S Lm) (hi:i∈Region.ready .any l.toArray L) (hn:∀ e∈S,e.j≠i):i∈Region.ready .any l.toArray Lm:=by
 obtain ⟨h1,o,ho,h2⟩:=eX.1 hi
 obtain ⟨h3,h4⟩:=tQ.1 h1
 refine eX.2 ⟨tQ.2 ⟨by rw [h.size];exact h3,?_⟩,o,ho,fun e he hb=>(h.iff _).2 (.inl (h2 e he hb))⟩
 cases hl:Lm.getD i false with
 | false=>rfl
 | true =>
   rcases (h.iff i).1 hl with h5 | ⟨e,h5,h6⟩
   · rw [h4] at h5;cases h5
   exact absurd h6 (hn e h5)
theorem LR.set (h:LR L S Lm) (hi:i<L.size) (hn:∀ e∈S,e.j≠i):LR (L.setIfInBounds i true) S (Lm.setIfInBounds i true):=by
 refine ⟨by simp [h.size],fun j=>?_,fun e he=>?_⟩
 · by_cases e:i=j
   · subst e
     have h1:i<Lm.size:=by rw [h.size];exact hi
     simp [hi,h1]
   rw [gV false e,gV false e];exact h.iff j
 rw [gV true (fun e2=>hn e he e2.symm)];exact h.un e he
theorem LR.nil (h:LR L [] Lm) {j:Nat} (hj:j∈Region.ready .any l.toArray Lm):j∈Region.ready .any l.toArray L:=by
 obtain ⟨h1,o,ho,h2⟩:=eX.1 hj
 refine eX.2 ⟨(h.unl h1).1,o,ho,fun e he hb=>?_⟩
 rcases (h.iff _).1 (h2 e he hb) with h3 | ⟨x,h3,_⟩
 · exact h3
 cases h3
theorem LR.early (h:LR L S Lm) {j p:Nat} {o:Obj} {V:Nat→Value} (hj:Lm.getD j true=false):LR L (⟨j,p,o,V⟩ :: S) (Lm.setIfInBounds j true):=by
 obtain ⟨h1,h2⟩:=tQ.1 hj
 refine ⟨by simp [h.size],fun k=>?_,fun e he=>?_⟩
 · by_cases e:j=k
   · subst e
     simp [h1]
   rw [gV false e,h.iff k]
   constructor
   · rintro (h5 | ⟨x,h5,h6⟩)
     · exact .inl h5
     exact .inr ⟨x,bB _ h5,h6⟩
   rintro (h5 | ⟨x,h5,h6⟩)
   · exact .inl h5
   rcases dE.1 h5 with rfl | h5
   · exact absurd h6 e
   exact .inr ⟨x,h5,h6⟩
 rcases dE.1 he with rfl | he
 · exact (h.unl hj).1
 exact h.un e he
theorem AO {e:Early} (he:e∈S):∃ A B,S=A++e :: B:=List.append_of_mem he
theorem LR.adopt {A B:List Early} {e:Early} (h:LR L (A++e :: B) Lm) (hnd:((A++e :: B).map (·.j)).Nodup):LR (L.setIfInBounds e.j true) (A++B) Lm:=by
 have hu:=(tQ.1 (h.un e sI)).1
 have hne:∀ x,x∈A++B→x.j≠e.j:=fun x hx hxe=>by
  rw [pH,bX] at hnd
  have h1:=oD.1 hnd
  have h2:=jQ.1 h1.2.1
  rcases eV.1 hx with h3 | h3
  · exact h1.2.2 x.j (dP.2 ⟨x,h3,rfl⟩) e.j (bL ..) hxe
  exact h2.1 (dP.2 ⟨x,h3,hxe⟩)
 refine ⟨by simp [h.size],fun k=>?_,fun x hx=>?_⟩
 · rw [h.iff k]
   by_cases e2:e.j=k
   · subst e2
     simp [hu]
     exact .inr ⟨e,.inr (.inl rfl),rfl⟩
   rw [gV false e2]
   constructor
   · rintro (h5 | ⟨x,h5,h6⟩)
     · exact .inl h5
     rcases eV.1 h5 with h7 | h7
     · exact .inr ⟨x,gX _ h7,h6⟩
     rcases dE.1 h7 with rfl | h7
     · exact absurd h6 e2
     exact .inr ⟨x,iN _ h7,h6⟩
   rintro (h5 | ⟨x,h5,h6⟩)
   · exact .inl h5
   rcases eV.1 h5 with h7 | h7
   · exact .inr ⟨x,gX _ h7,h6⟩
   exact .inr ⟨x,iN _ (bB _ h7),h6⟩
 rw [gV true (fun e2=>hne x hx e2.symm)]
 refine h.un x ?_
 rcases eV.1 hx with h3 | h3
 · exact gX _ h3
 exact iN _ (bB _ h3)
theorem Un {Rc R:List Nat} (h:LR L S Lm) (hr:RaceOk l L Rc i R) (hs:∀ e∈S,e.j∈Rc) (hn:∀ e∈S,e.j≠i) {j:Nat} (hj:j∈Region.ready .any l.toArray Lm):j=i∨j∈R:=by
 by_cases hR:j∈R
 · exact .inr hR
 refine .inl (hr.only j ?_)
 obtain ⟨h1,o,ho,h2⟩:=eX.1 hj
 obtain ⟨h3,h4⟩:=tQ.1 (h.unl h1).1
 refine eX.2 ⟨tQ.2 ⟨by rw [(Jx (k:=0)).1];exact h3,?_⟩,o,ho,fun e he hb=>Jx.2.2 ?_⟩
 · cases hl:(Js R L).getD j false with
   | false=>rfl
   | true =>
     rcases Jx.2.1 hl with h5 | h5
     · rw [h4] at h5;cases h5
     exact absurd h5.1 hR
 rcases (h.iff _).1 (h2 e he hb) with h5 | ⟨x,h5,h6⟩
 · exact .inl h5
 rw [←h6]
 refine .inr ⟨?_,(tQ.1 (h.un x h5)).1⟩
 rcases hr.sub x.j (hs x h5) with h7 | h7
 · exact absurd h7 (hn x h5)
 exact h7
theorem Se:∀ {xs ys:List Nat},xs.Nodup→(∀ x∈xs,x∈ys)→xs.length≤ys.length
 | [],_,_,_=>aT _
 | x :: xs,ys,hn,h=>by
   obtain ⟨h1,h2⟩:=jQ.1 hn
   have hx:=h x (bL ..)
   have:=Se (ys:=ys.erase x) h2 fun y hy=>(List.mem_erase_of_ne (fun e=>h1 (by rw [←e];exact hy))).2 (h y (bB _ hy))
   rw [List.length_erase_of_mem hx] at this
   have:0<ys.length:=List.length_pos_of_mem hx
   rw [bV];omega
theorem PlanOk.cover:∀ {p:List (Nat×Pk)} {L:Array Bool} {Rc:List Nat},PlanOk l L Rc p→∀ k∈Rc,k∈p.map (·.1)
 | [],_,_,h,k,hk=>by rw [h.2] at hk;cases hk
 | (i,.look) :: p,_,_,h,k,hk=>bB _ (PlanOk.cover h.2 k hk)
 | (i,.only) :: p,_,_,h,k,hk=>by rw [h.1] at hk;cases hk
 | (i,.race R) :: p,_,_,h,k,hk=>by
   rcases h.1.sub k hk with rfl | h2
   · exact bL ..
   · exact bB _ (PlanOk.cover h.2.2 k h2)
 | (i,.make R) :: p,_,_,h,k,hk=>by
   rcases h.1.sub k hk with rfl | h2
   · exact bL ..
   exact bB _ (PlanOk.cover h.2.2 k h2)
abbrev qQ:=@PlanOk.cover
theorem Jy {p:List (Nat×Pk)} {Rc:List Nat} (hp:PlanOk l L Rc p) (hs:∀ e∈S,e.j∈Rc) (hn:(S.map (·.j)).Nodup):S.length≤p.length:=by
 have:=Se hn (ys:=p.map (·.1)) fun x hx=>by
  obtain ⟨e,he,rfl⟩:=dP.1 hx
  exact hp.cover _ (hs e he)
 simpa using this
end lists
section
variable {l:List Oper} {ρ ρ':Pl} {h h':Tr CB} {nx nx' n:Nat} {a a':Act} {w w' ws:World} {e:Early} {E:Tr CV} {w0:Bas Φ}
theorem zV {o:Oper} (h:Jl o=true):(∀ cs b,o.op≠.select cs b)∧yV o.op=false∧o.guard=none∧(∃ xs,QZ o.op=some xs)∧FY o.op=true∧∀ d,o.dst=some d→∀ x∈o.op.operands,x≠.tmp d:=by
 unfold Jl at h
 rw [aB] at h
 obtain ⟨h1,h2⟩:=h
 have hg:o.guard=none:=by
  split at h2
  · assumption
  cases h2
 have hd:∀ d,o.dst=some d→∀ x∈o.op.operands,x≠.tmp d:=fun d hd x hx hxd=>by
  rw [hg,hd] at h2
  simp only [dV] at h2
  have h3:AH (isT d) o.op.operands.toList=true:=Jj.2 ⟨x,by simpa using hx,by rw [hxd];show Nat.beq d d=true;simp⟩
  rw [h3] at h2;cases h2
 obtain ⟨dst,op,ty,pos,after,g⟩:=o
 refine ⟨fun cs b e=>?_,?_,hg,?_,h1,hd⟩
 · have e':op=.select cs b:=e
   subst e';cases h1
 · cases op <;> first | rfl | cases h1
 cases op <;> first | exact ⟨_,rfl⟩ | skip
 case makeMap T x=>cases x <;> first | exact ⟨_,rfl⟩ | cases h1
 all_goals cases h1
theorem Ms {dst:Option Nat} (hk:Kept dst a a') {x:Operand} (hx:∀ d,dst=some d→x≠.tmp d):a'.eval x=a.eval x:=by
 cases x with
 | tmp t =>
   show a'.tmps.getD t undef=a.tmps.getD t undef
   rw [fH,fH,hk t (fun e=>hx t e rfl)]
 | _=>rfl
theorem EOk.keep (he:EOk P l ρ h a w ws e) {o:Oper} (hk:Kept o.dst a a') (hap:∀ oj,l[e.j]?=some oj→oj.apart l.toArray o=true) (hfr:Lf ρ h nx w ρ' h' w'):EOk P l ρ' h' a' w' ws e:=by
 obtain ⟨⟨oj,d,h1,h2,h3,h4,h5⟩,g1,g2,g3,g4⟩:=he
 obtain ⟨q1,q2,q3⟩:=Oper.apart_spec (hap oj h1)
 refine ⟨⟨oj,d,h1,h2,h3,?_,fun w2=>?_⟩,bN g1 hfr.sz,(hfr.fr _ g1 g4 id).trans g2,g3,fun t b ht e2=>?_⟩
 · rw [hk d (fun e2=>q2 d h3 e2)];exact h4
 · rw [←h5 w2,execOp_congr oj (zV h2).1 fun x hx=>Ms hk fun d' hd hxd=>?_]
   subst hxd
   exact q3 d' hd (gX _ (List.mem_filterMap.2 ⟨.tmp d',by simpa using hx,rfl⟩))
 rcases hfr.nw t b ht with h6 | ⟨t',b',h6,h7⟩
 · omega
 exact g4 t' b' h6 (h7.trans e2)
theorem Sf (hs:Slots ρ E nx n a) {d:Nat} (hd:E.get d=none) (v:Value):Slots ρ E nx n (a.put (some d) v):=by
 refine ⟨by show (a.tmps.setIfInBounds d v).size=n;simp [hs.1],fun i x hx=>?_⟩
 obtain ⟨u,h1,h2⟩:=hs.2 i x hx
 refine ⟨u,?_,h2⟩
 show (a.tmps.setIfInBounds d v)[i]?=some u
 rw [gK (fun e=>by subst e;rw [hd] at hx;cases hx)];exact h1
theorem Mt {R:List Nat} (hR:∀ j∈R,∀ d,xT l j=some d→d<rO):∀ i x,(sF l R E).get i=some x→E.get i=some x:=by
 induction R with
 | nil=>exact fun i x h=>h
 | cons j R ih =>
   intro i x hx
   have hx':(match xT l j with | some d=>(sF l R E).set none rO d | none=>sF l R E).get i=some x:=hx
   have ih':=ih fun k hk=>hR k (bB _ hk)
   split at hx'
   · rename_i d hd
     rw [eN _ _ _ _ _ (hR j (bL ..) d hd)] at hx'
     split at hx'
     · cases hx'
     exact ih' i x hx'
   exact ih' i x hx'
theorem Jz {R:List Nat} (hR:∀ j∈R,∀ d,xT l j=some d→d<rO) {j d:Nat} (hj:j∈R) (hd:xT l j=some d):(sF l R E).get d=none:=by
 induction R with
 | nil=>cases hj
 | cons k R ih =>
   show (match xT l k with | some d=>(sF l R E).set none rO d | none=>sF l R E).get d=none
   have hR':∀ j∈R,∀ d,xT l j=some d→d<rO:=fun k hk=>hR k (bB _ hk)
   rcases dE.1 hj with rfl | hj
   · rw [hd]
     simp only
     rw [eN _ _ _ _ _ (hR _ (bL ..) d hd),aR rfl]
   have:=ih hR' hj
   split
   · rename_i d' hd'
     rw [eN _ _ _ _ _ (hR k (bL ..) d' hd')]
     split
     · rfl
     exact this
   exact this
theorem Rel.less {E':Tr CV} (hR:Rel ρ w0 n E h nx a w) (hE:∀ i x,E'.get i=some x→E.get i=some x):Rel ρ w0 n E' h nx a w:=by
 obtain ⟨os,hR⟩:=hR
 exact ⟨os,⟨hR.slots.1,fun i x hx=>hR.slots.2 i x (hE i x hx)⟩,hR.defers,hR.mem,hR.mks,hR.ss⟩
end
theorem Er {l:List Oper} {Lm:Array Bool} {ρ ρ':Pl} {w w':World} {nx nx':Nat} {pend pend':List (Nat×Nat×Nat)} {cs:List (Nat×Nat×Obj)} {i:Nat} (hp:PendOk l Lm ρ w nx pend cs) (hn:nx≤nx') (he:Ext nx ρ ρ') (hw:∀ (b:Nat) (o:Obj),w.heap[b]?=some o→w'.heap[b]?=some o)
 (hpe:∀ t k b,(t,k,b)∈pend→(t,k,b)∈pend'∨(AM l k i∧(Lm.setIfInBounds i true).getD i false=true)):PendOk l (Lm.setIfInBounds i true) ρ' w' nx' pend' cs:=fun x hx=>by
 rcases hp x hx with ⟨k,h1,h2⟩ | ⟨t,b,h1,h2,h3,h4,h5⟩
 · exact .inl ⟨k,h1,oL h2⟩
 rcases hpe _ _ _ h1 with h6 | h6
 · exact .inr ⟨t,b,h6,bN h2 hn,by rw [he t h2];exact h3,aP h4 hn,hw _ _ h5⟩
 exact .inl ⟨i,h6.1,h6.2⟩
theorem Uo {A:Array Bool} {i:Nat} (h:A.getD i true=false):(A.setIfInBounds i true).getD i false=true:=by
 have:=(tQ.1 h).1
 simp [this]
theorem alloc_old {w:World} {o:Obj}:∀ (b:Nat) (x:Obj),w.heap[b]?=some x→(w.alloc o).heap[b]?=some x:=fun b x h=>by
 rw [(tD w o).same b (dG.1 h).1 id];exact h
theorem Xj {l:List Oper} {R Rc:List Nat} {n i nx pl:Nat} {E:Tr CV} {h:Tr CB} {pend:List (Nat×Nat×Nat)} {ρ ρs:Pl} {w0:Bas Φ} {ws:World} {hs:Tr CB} {nxs:Nat} {L:Array Bool} {cs:List (Nat×Nat×Obj)} {K:Act→World→Prop}
 (hf:nx≤rO) (hn:n≤100000) (hro:RaceOk l L Rc i R) (hkill:∀ j∈R,∀ d,xT l j=some d→E.get d=none) (hrq:wN P l R n E h nx=true) (hcov:∀ (S:List Early),(∀ e∈S,e.j∈Rc∨e.j∈R)→(∀ e∈S,e.j≠i)→(S.map (·.j)).Nodup→S.length≤pl)
 (go:∀ (a:Act) (w:World) (Lm:Array Bool) (S:List Early) (f:Nat),RI P l n E h nx pend ρ ρs w0 a w ws hs nxs L Lm (Rc++R) S cs→(∀ e∈S,e.j≠i)→pl=f+S.length→i∈Region.ready .any l.toArray Lm→stp P l.toArray i (gm P l.toArray K (CP l cs) f (Lm.setIfInBounds i true)) a w) :
 ∀ (f:Nat) (a:Act) (w:World) (Lm:Array Bool) (S:List Early),RI P l n E h nx pend ρ ρs w0 a w ws hs nxs L Lm (Rc++R) S cs→(∀ e∈S,e.j≠i)→pl+1=f+S.length→gm P l.toArray K (CP l cs) f Lm a w:=by
 intro f
 induction f with
 | zero =>
   intro a w Lm S hI hni hl
   have:=hcov S (fun e he=>eV.1 (hI.sub e he)) hni hI.ndj
   omega
 | succ f ih =>
   intro a w Lm S hI hni hl
   have hir:=hI.lr.up hro.rd hni
   have hsub:∀ e∈S,e.j=i∨e.j∈R:=fun e he=>by
    rcases eV.1 (hI.sub e he) with h1 | h1
    · exact hro.sub _ h1
    exact .inr h1
   refine ⟨hI.pend.cp,fun he=>(by rw [he] at hir;cases hir),fun j hj=>?_⟩
   have hro':RaceOk l L (Rc++R) i R:=⟨hro.rd,fun k hk=>(eV.1 hk).elim (hro.sub k) .inr,hro.ni,hro.mks,hro.only⟩
   rcases Un hI.lr hro' hI.sub hni hj with rfl | hjR
   · exact go a w Lm S f hI hni rG hj
   obtain ⟨oj,e1,e2,e3,e4,e5⟩:=hro.mks j hjR
   have e1':l.toArray[j]?=some oj:=by simpa using e1
   obtain ⟨s1,s2,s3,⟨xs,s4⟩,_,s6⟩:=zV e2
   have hq:=uA.1 hrq j hjR
   obtain ⟨oj',e6,e7⟩:=yT hq
   rw [e1] at e6;cases e6
   rw [aB] at e7
   obtain ⟨e7,e8⟩:=e7
   obtain ⟨dst,op,ty,pos,after,g⟩:=oj
   cases dst with
   | none=>cases e7
   | some d =>
     have hdn:d<n:=rU e7
     have hEd:E.get d=none:=hkill j hjR d (by rw [yM,e1];rfl)
     split at e8
     · rename_i c h' nx' hw
       obtain ⟨b,s,o,V,_,_,_,_,_,_,hex⟩:=GJ hI.rel.slots s4 hw
       obtain ⟨m1,o1⟩:=hI.rel.mem.grow (tD w o)
       have hji:j≠i:=fun e=>hro.ni (by rw [←e];exact hjR)
       have hjun:=(eX.1 hj).1
       have hjS:=(hI.lr.unl hjun).2
       have hstp:∀ Q:Act→World→Prop,Q (a.put (some d) (V w.heap.size)) (w.alloc o)→stp P l.toArray j Q a w:=fun Q hQ=>by
        unfold stp
        simp only [e1']
        have hg:g=none:=s3
        subst hg
        simp only [Region.wanted,eO]
        unfold wD
        rw [hex w (some d) ty pos after none]
        exact hQ
       refine hstp _ (ih (a.put (some d) (V w.heap.size)) (w.alloc o) (Lm.setIfInBounds j true) (⟨j,w.heap.size,o,V⟩ :: S) ?_ ?_ (by rw [bV];omega))
       · refine ⟨?_,hI.lr.early hjun,yE hI.down hj,?_,?_,?_,?_,?_,hI.ms,hI.nxb.trans hI.ms ⟨aH _,hf,dD _ _,o1⟩⟩
         · obtain ⟨os,hR⟩:=hI.rel
           obtain ⟨m2,_⟩:=hR.mem.grow (tD w o)
           exact ⟨os,Sf hR.slots hEd _,(xJ _ _ _).trans hR.defers,m2,hR.mks,aP hR.ss o1.sz⟩
         · intro e he
           rcases dE.1 he with rfl | he
           · exact iN _ hjR
           exact hI.sub e he
         · rw [bX]
           exact jQ.2 ⟨fun h=>by obtain ⟨e,he,h⟩:=dP.1 h;exact hjS e he h,hI.ndj⟩
         · rw [bX]
           refine jQ.2 ⟨fun h=>?_,hI.ndp⟩
           obtain ⟨e,he,h⟩:=dP.1 h
           have:=(hI.eok e he).lt
           simp only at h
           omega
         · intro e he
           rcases dE.1 he with rfl | he
           · refine ⟨⟨_,d,e1,e2,rfl,?_,fun w2=>?_⟩,?_,sK w o,aP hI.nxb.old.sz (aH _),fun t b ht=>?_⟩
             · have hsz:d<a.tmps.size:=by rw [hI.rel.slots.1];exact hdn
               show (a.tmps.setIfInBounds d _)[d]?=_
               simp [hsz]
             · rw [←hex w2 (some d) ty pos after g]
               rw [execOp_congr (ρ:=(a.put (some d) (V w.heap.size)).eval) (ρ':=a.eval) _ s1 fun x hx=>Ms (nS a (some d) _) fun d' hd' hxd=>s6 d' hd' x hx hxd]
             · show w.heap.size<_;rw [tI];omega
             have:=hI.rel.mem.lt ht
             show (ρ t).1≠w.heap.size
             omega
           refine (hI.eok e he).keep (o:=⟨some d,op,ty,pos,after,g⟩) (nS _ _ _) (fun ok hok=>?_) o1
           obtain ⟨ok',f1,f2,f3,f4,f5⟩:=hro.mks e.j ((hsub e he).resolve_left (hni e he))
           rw [hok] at f1;cases f1
           exact f5 j hjR (fun e2=>hjS e he e2.symm) _ e1
         exact Er hI.pend (aH _) (dD _ _) alloc_old fun t k b h=>.inl h
       intro e he
       rcases dE.1 he with rfl | he
       · exact hji
       exact hni e he
     cases e8
theorem Mu {l:List Oper} {R:List Nat} {n nx:Nat} {E:Tr CV} {h:Tr CB} (hn:n≤100000) (hrq:wN P l R n E h nx=true):∀ j∈R,∀ d,xT l j=some d→d<rO:=fun j hj d hd=>by
 obtain ⟨o,h1,h2⟩:=yT (uA.1 hrq j hj)
 rw [yM,h1] at hd
 have hd':o.dst=some d:=hd
 rw [aB,hd'] at h2
 have h3:d+1≤n:=rU h2.1
 rw [Jh];omega
theorem Sg {ih:Cmd→Res} (H:∀ c,rL P Φ c (ih c)) (l:List Oper) (i:Nat) (plan:List (Nat×Pk)) (pend:List (Nat×Nat×Nat)) (n:Nat) (E:Tr CV) (h:Tr CB) (nx:Nat):rL P Φ (.reg l ((i,.look) :: plan) pend n E h nx) (step P pr ih (.reg l ((i,.look) :: plan) pend n E h nx)):=by
 show rL P Φ _ (match Br l i with
  | some o=>(match LG l E o with
    | some g=>(bif g then (match qv P E h o.op with
     | some c=>(match vX E n o.dst c with
       | some E'=>ih (.reg l plan (match FS E o.op with | some t=>(t,i,nx) :: pend | none=>pend) n E' h nx)
       | none=>.bad 25 [o])
     | none=>.bad 26 [o])
     else (match vX E n o.dst (.tup .nil) with | some E=>ih (.reg l plan pend n E h nx) | none=>.bad 27 [o]))
    | none=>.bad 30 [o])
  | none=>.bad 31 [])
 split
 · rename_i o ho
   rw [vE] at ho
   have ho':l.toArray[i]?=some o:=by simpa using ho
   split
   · rename_i g hg
     -- what an operation that only looks comes to
     have first:∀ {E':Tr CV} {pend':List (Nat×Nat×Nat)} (cs':Pl→World→List (Nat×Nat×Obj)→List (Nat×Nat×Obj)),
      (∀ (ρ:Pl) (w0:Bas Φ) (a:Act) (w:World) (cs:List (Nat×Nat×Obj)),Rel ρ w0 n E h nx a w→n≤100000→∃ (v:Value) (Cq:World→Prop),yl P l.toArray o a Cq v∧Slots ρ E' nx n (a.put o.dst v)∧
       (∀ L w',(∀ j,AM l i j→L.getD j false=false)→CP l (cs' ρ w cs) L w'→Cq w')∧(∀ L w',CP l (cs' ρ w cs) L w'→CP l cs L w')∧(∀ L,PendOk l L ρ w nx pend cs→PendOk l L ρ w nx pend' (cs' ρ w cs)))→
      rL P Φ (.reg l ((i,.look) :: plan) pend n E h nx) (ih (.reg l plan pend' n E' h nx)):=fun {E' pend'} cs' hlook=>by
      have H2:=H (.reg l plan pend' n E' h nx)
      generalize ih (.reg l plan pend' n E' h nx)=q2 at H2
      cases q2 with
      | bad=>trivial
      | ret v h2 nx2=>exact H2.elim
      | ok x2 E2 h2 nx2 =>
        obtain ⟨rfl,H2⟩:=H2
        refine ⟨rfl,fun ρ ρs w0 a w ws hs nxs L Lm Rc S cs f hI hf hn hns hpl hlen K hK=>?_⟩
        obtain ⟨⟨o',ho2,hlk,hrd,hfree⟩,hpl2⟩:=hpl
        rw [ho] at ho2;cases ho2
        obtain ⟨v,Cq,hy,hsl,hc1,hc2,hc3⟩:=hlook ρ w0 a w cs hI.rel hn
        have hle:=Jy hpl2 hI.sub hI.ndj
        rw [bV] at hlen
        obtain ⟨f,rfl⟩:∃ f',f=f'+1:=⟨f - 1,by omega⟩
        have hSi:∀ e∈S,e.j≠i:=fun e he hei=>by
         obtain ⟨oj,d,h1,h2,_⟩:=(hI.eok e he).ex
         rw [hei,ho] at h1;cases h1
         rw [(zV h2).2.1] at hlk;cases hlk
        have hrdm:=hI.lr.up hrd hSi
        refine Mq hc2 _ _ _ _ ?_
        have hdn2:=yE hI.down hrdm
        have hset:∀ L w',CP l (cs' ρ w cs) (L.setIfInBounds i true) w'→CP l (cs' ρ w cs) L w':=fun L w' hcp x hx hw=>hcp x hx fun j hj=>by
         have hne:i≠j:=fun e=>by
          subst e
          obtain ⟨o2,h1,h2,_⟩:=hj
          rw [ho] at h1;cases h1
          rw [hlk] at h2;cases h2
         rw [gV false hne];exact hw j hj
        have hnoi:∀ e∈S,∀ oj,l[e.j]?=some oj→o.apart l.toArray oj=true:=fun e he oj hoj=>by
         refine hfree e.j oj (by simpa using hoj) (hSi e he) (hI.lr.un e he) fun x hx hb hxi=>?_
         have h1:=hI.down e.j oj hoj ((hI.lr.iff e.j).2 (.inr ⟨e,he,rfl⟩)) x hx hb
         rw [hxi] at h1
         rw [(tQ.1 (eX.1 hrdm).1).2] at h1;cases h1
        have hg2:gm P l.toArray K (CP l (cs' ρ w cs)) f (Lm.setIfInBounds i true) (a.put o.dst v) w:=by
         refine H2 ρ ρs w0 (a.put o.dst v) w ws hs nxs _ _ Rc S _ f ⟨hI.rel.put hsl,hI.lr.set (tQ.1 (eX.1 hrd).1).1 hSi,hdn2,hI.sub,hI.ndj,hI.ndp,fun e he=>?_,?_,hI.ms,hI.nxb⟩ hf hn hns hpl2 rG K hK
         · refine (hI.eok e he).keep (nx:=nx) (o:=o) (nS a o.dst v) (fun oj hoj=>?_) fR
           obtain ⟨q1,q2,q3⟩:=Oper.apart_spec (hnoi e he oj hoj)
           unfold Oper.apart
           rw [aB]
           constructor
           · cases hd:oj.dst with
             | none=>rfl
             | some d =>
               simp only [aB,dV,bne_iff_ne]
               refine ⟨?_,fun e2=>q2 d e2 hd⟩
               have:=q3 d hd
               simpa using this
           cases hd:o.dst with
           | none=>rfl
           | some d =>
             have:=q1 d hd
             simpa using this
         intro x hx
         rcases hc3 Lm hI.pend x hx with ⟨j,h1,h2⟩ | h1
         · exact .inl ⟨j,h1,oL h2⟩
         exact .inr h1
        refine Pq (Wr:=(List.range l.length).filter fun j=>match l[j]? with | some oj=>!yV oj.op && Jk oj i | none=>false) (Cq:=Cq) ho' hns ?_ hset ?_ f Lm a w (fun j oj hj hne hun hno=>hfree j oj hj hne (hI.lr.unl hun).1 hno) ?_ hrdm hy hg2
        · intro L' w' hL hcp
          refine hc1 L' w' (fun j hj=>hL j ?_) hcp
          obtain ⟨o2,h1,h2,h3⟩:=hj
          refine gJ.2 ⟨pN.2 (aV.1 h1).1,?_⟩
          simp [h1,h2,h3]
        · intro j hj oj hoj
          obtain ⟨_,h2⟩:=gJ.1 hj
          have h1:l[j]?=some oj:=by simpa using hoj
          simp only [h1,aB] at h2
          exact Jr.1 h2.2
        intro j hj
        obtain ⟨h1,h2⟩:=gJ.1 hj
        have hlt:=pN.1 h1
        rw [aC hlt] at h2
        simp only [aB,dV] at h2
        exact Sd hI.down hrdm ⟨_,aC hlt,h2.1,h2.2⟩
     cases g with
     | false =>
       simp only [lG]
       split
       · rename_i E' hp
         refine first (fun _ _ cs=>cs) fun ρ w0 a w cs hR hn=>⟨undef,fun _=>True,.inr ⟨Sc hR.slots hg,rfl⟩,uF hR.slots hn hp Ju,fun _ _ _ _=>trivial,fun _ _ h=>h,fun _ h=>h⟩
       · trivial
     | true =>
       simp only [fT]
       split
       · rename_i c hq
         split
         · rename_i E' hp
           cases hrd:FS E o.op with
           | none =>
             refine first (fun _ _ cs=>cs) fun ρ w0 a w cs hR hn=>?_
             obtain ⟨v,k1,k2⟩:=Xb (ob:=fun _=>default) hR.slots (fun t b ht _=>by rw [hrd] at ht;cases ht) hq
             exact ⟨v,fun _=>True,.inl ⟨Sc hR.slots hg,fun w' _=>k2 w' (fun t ht=>by rw [hrd] at ht;cases ht) o.dst o.type o.pos o.after o.guard⟩,uF hR.slots hn hp k1,fun _ _ _ _=>trivial,fun _ _ h=>h,fun _ h=>h⟩
           | some t =>
             refine first (fun ρ w cs=>(i,(ρ t).1,(w.heap[(ρ t).1]?).getD default) :: cs) fun ρ w0 a w cs hR hn=>?_
             obtain ⟨b,hb⟩:=Um hrd hq
             obtain ⟨htn,_,_,ob,hob,hdb⟩:=hR.mem.own t b hb
             have hget:(w.heap[(ρ t).1]?).getD default=ob:=by rw [hob];rfl
             obtain ⟨v,k1,k2⟩:=Xb (ob:=fun _=>ob) hR.slots (fun t' b' ht hb'=>by rw [hrd] at ht;cases ht;rw [hb] at hb';cases hb';exact hdb) hq
             refine ⟨v,fun w'=>w'.heap[(ρ t).1]?=some ob,.inl ⟨Sc hR.slots hg,fun w' hw'=>k2 w' (fun t' ht=>by rw [hrd] at ht;cases ht;exact hw') o.dst o.type o.pos o.after o.guard⟩,uF hR.slots hn hp k1,?_,?_,?_⟩
             · intro L w' hL hcp
               have:=hcp _ bL hL
               rw [this,hget]
             · intro L w' hcp x hx;exact hcp x (bB _ hx)
             intro L hpo x hx
             rcases dE.1 hx with rfl | hx
             · exact .inr ⟨t,nx,bL,htn,rfl,aH _,by rw [hget];exact hob⟩
             rcases hpo x hx with h1 | ⟨t',b',h1,h2⟩
             · exact .inl h1
             exact .inr ⟨t',b',bB _ h1,h2⟩
         trivial
       trivial
   trivial
 trivial
theorem Mv {l:List Oper} {Lm:Array Bool} {ρ ρ':Pl} {h h':Tr CB} {nx nx':Nat} {w w':World} {pend:List (Nat×Nat×Nat)} {cs:List (Nat×Nat×Obj)} {j:Nat} {o:Oper} (ho:l[j]?=some o) (hrd:Lm.getD j true=false) (hpo:PendOk l Lm ρ w nx pend cs)
 (e1:Nx ρ h nx w ρ' h' nx' w') (hkp:vP h' (rY o pend)=true):PendOk l (Lm.setIfInBounds j true) ρ' w' nx' (rY o pend) cs:=by
 intro x hx
 rcases hpo x hx with ⟨k,h1,h2⟩ | ⟨t',b',h1,h2,h3,h4,h5⟩
 · exact .inl ⟨k,h1,oL h2⟩
 cases hE:(not (yV o.op) && Jk o x.1) with
 | false =>
   have hmem:=Mr h1 hE
   have hk:=(uA.1 hkp) _ hmem
   simp only at hk
   split at hk
   · rename_i bb hbb
     have hst:Og bb<b':=rU hk
     obtain ⟨_,g2⟩:=e1.old.old t' bb hbb rG
     exact .inr ⟨t',b',hmem,bN h2 e1.le,by rw [e1.ext t' h2];exact h3,aP h4 e1.le,by rw [←h3,g2,h3];exact h5⟩
   · cases hk
 | true =>
   rw [aB,dV] at hE
   exact .inl ⟨j,⟨o,ho,hE.1,hE.2⟩,Uo hrd⟩
theorem Es {l:List Oper} {Lm:Array Bool} {pend:List (Nat×Nat×Nat)} {j:Nat} {o:Oper} (ho:l[j]?=some o) (hl:Lm.getD j false=true):∀ t k b,(t,k,b)∈pend→(t,k,b)∈rY o pend∨(AM l k j∧Lm.getD j false=true):=fun t k b hm=>by
 cases hE:(not (yV o.op) && Jk o k) with
 | false=>exact .inl (Mr hm hE)
 | true =>
   rw [aB,dV] at hE
   exact .inr ⟨⟨o,ho,hE.1,hE.2⟩,hl⟩
theorem Sh {ih:Cmd→Res} (H:∀ c,rL P Φ c (ih c)) (l:List Oper) (i:Nat) (plan:List (Nat×Pk)) (pend:List (Nat×Nat×Nat)) (n:Nat) (E:Tr CV) (h:Tr CB) (nx:Nat):rL P Φ (.reg l ((i,.only) :: plan) pend n E h nx) (step P pr ih (.reg l ((i,.only) :: plan) pend n E h nx)):=by
 show rL P Φ _ (match Br l i with
  | some o=>(match LG l E o with
    | some g=>(bif g then (match ih (.one o n E h nx) with
     | .ok _ E h nx=>bif vP h (rY o pend) then ih (.reg l plan (rY o pend) n E h nx) else .bad 28 [o]
     | r=>r)
     else (match vX E n o.dst (.tup .nil) with | some E=>ih (.reg l plan (rY o pend) n E h nx) | none=>.bad 29 [o]))
    | none=>.bad 30 [o])
  | none=>.bad 31 [])
 split
 · rename_i o ho
   rw [vE] at ho
   have ho':l.toArray[i]?=some o:=by simpa using ho
   split
   · rename_i g hg
     cases g with
     | false =>
       simp only [lG]
       split
       · rename_i E' hp
         have H2:=H (.reg l plan (rY o pend) n E' h nx)
         generalize ih (.reg l plan (rY o pend) n E' h nx)=q2 at H2
         cases q2 with
         | bad=>trivial
         | ret v h2 nx2=>exact H2.elim
         | ok x2 E2 h2 nx2 =>
           obtain ⟨rfl,H2⟩:=H2
           refine ⟨rfl,fun ρ ρs w0 a w ws hs nxs L Lm Rc S cs f hI hf hn hns hpl hlen K hK=>?_⟩
           obtain ⟨rfl,⟨o',ho2,hrd,honly⟩,hpl2⟩:=hpl
           have hS:S=[]:=gQ.2 fun e he=>by cases hI.sub e he
           subst hS
           have hrdm:=hI.lr.up hrd (fun e he=>by cases he)
           rw [bV] at hlen
           obtain ⟨f,rfl⟩:∃ f',f=f'+1:=⟨f - 1,by simp only [cT] at hlen;omega⟩
           refine ⟨hI.pend.cp,fun he=>(by rw [he] at hrdm;cases hrdm),fun j hj=>?_⟩
           have e:=honly j (hI.lr.nil hj)
           subst e
           unfold stp
           simp only [ho']
           rw [Sc hI.rel.slots hg]
           simp only [lL,eP]
           have hjun:=(eX.1 hj).1
           refine H2 ρ ρs w0 _ w ws hs nxs _ _ [] [] cs f ⟨hI.rel.put (uF hI.rel.slots hn hp Ju),hI.lr.set (tQ.1 (eX.1 hrd).1).1 (fun e he=>by cases he),yE hI.down hj,(fun e he=>by cases he),kK,kK,(fun e he=>by cases he),?_,hI.ms,hI.nxb⟩ hf hn hns hpl2 (by simpa using hlen) K hK
           exact Er hI.pend (aH _) (dD _ _) (fun b x h=>h) (Es (Lm:=Lm.setIfInBounds j true) ho (Uo hjun))
       · trivial
     | true =>
       simp only [fT]
       have H1:=H (.one o n E h nx)
       generalize ih (.one o n E h nx)=q1 at H1
       cases q1 with
       | bad=>trivial
       | ret v h' nx'=>exact H1.elim
       | ok x E' h' nx' =>
         obtain ⟨rfl,H1⟩:=H1
         show rL P Φ _ (bif vP h' (rY o pend) then ih (.reg l plan (rY o pend) n E' h' nx') else .bad 28 [o])
         cases hkp:vP h' (rY o pend) with
         | false=>trivial
         | true =>
           simp only [fT]
           have H2:=H (.reg l plan (rY o pend) n E' h' nx')
           generalize ih (.reg l plan (rY o pend) n E' h' nx')=q2 at H2
           cases q2 with
           | bad=>trivial
           | ret v h2 nx2=>exact H2.elim
           | ok x2 E2 h2 nx2 =>
             obtain ⟨rfl,H2⟩:=H2
             refine ⟨rfl,fun ρ ρs w0 a w ws hs nxs L Lm Rc S cs f hI hf hn hns hpl hlen K hK=>?_⟩
             obtain ⟨rfl,⟨o',ho2,hrd,honly⟩,hpl2⟩:=hpl
             have hS:S=[]:=gQ.2 fun e he=>by cases hI.sub e he
             subst hS
             have hrdm:=hI.lr.up hrd (fun e he=>by cases he)
             rw [bV] at hlen
             obtain ⟨f,rfl⟩:∃ f',f=f'+1:=⟨f - 1,by simp only [cT] at hlen;omega⟩
             refine ⟨hI.pend.cp,fun he=>(by rw [he] at hrdm;cases hrdm),fun j hj=>?_⟩
             have e:=honly j (hI.lr.nil hj)
             subst e
             unfold stp
             simp only [ho']
             rw [Sc hI.rel.slots hg]
             simp only [eO]
             refine H1 ρ w0 a w hI.rel hf hn _ fun ρ' a' w' e1 e2 _=>?_
             exact H2 ρ' ρs w0 a' w' ws hs nxs _ _ [] [] cs f ⟨e2,hI.lr.set (tQ.1 (eX.1 hrd).1).1 (fun e he=>by cases he),yE hI.down hj,(fun e he=>by cases he),kK,kK,(fun e he=>by cases he),Mv ho (eX.1 hj).1 hI.pend e1 hkp,hI.ms,hI.nxb.trans hI.ms e1⟩ e1.fit hn hns hpl2 (by simpa using hlen) K hK
   trivial
 trivial
theorem Ka {A B:List Early} {e:Early} (g:Early→Nat) (h:((A++e :: B).map g).Nodup):((A++B).map g).Nodup∧∀ x∈A++B,g x≠g e:=by
 rw [pH,bX] at h
 obtain ⟨h1,h2,h3⟩:=oD.1 h
 obtain ⟨h4,h5⟩:=jQ.1 h2
 refine ⟨by rw [pH];exact oD.2 ⟨h1,h5,fun a ha b hb=>h3 a ha b (bB _ hb)⟩,fun x hx=>?_⟩
 rcases eV.1 hx with h6 | h6
 · exact h3 _ (dP.2 ⟨x,h6,rfl⟩) _ (bL ..)
 exact fun e2=>h4 (dP.2 ⟨x,h6,e2⟩)
theorem Si {ih:Cmd→Res} (H:∀ c,rL P Φ c (ih c)) (l:List Oper) (i:Nat) (R:List Nat) (plan:List (Nat×Pk)) (pend:List (Nat×Nat×Nat)) (n:Nat) (E:Tr CV) (h:Tr CB) (nx:Nat):rL P Φ (.reg l ((i,.race R) :: plan) pend n E h nx) (step P pr ih (.reg l ((i,.race R) :: plan) pend n E h nx)):=by
 show rL P Φ _ (match Br l i with
  | some o=>bif wN P l R n (sF l R E) h nx then (match ih (.one o n (sF l R E) h nx) with
   | .ok _ E h nx=>bif vP h (rY o pend) then ih (.reg l plan (rY o pend) n E h nx) else .bad 28 [o]
   | r=>r) else .bad 32 [o]
  | none=>.bad 31 [])
 split
 · rename_i o ho
   rw [vE] at ho
   have ho':l.toArray[i]?=some o:=by simpa using ho
   refine rN (rL P Φ _) (fun hrq=>?_) fun _=>trivial
   have H1:=H (.one o n (sF l R E) h nx)
   generalize ih (.one o n (sF l R E) h nx)=q1 at H1
   cases q1 with
   | bad=>trivial
   | ret v h' nx'=>exact H1.elim
   | ok x E' h' nx' =>
     obtain ⟨rfl,H1⟩:=H1
     show rL P Φ _ (bif vP h' (rY o pend) then ih (.reg l plan (rY o pend) n E' h' nx') else .bad 28 [o])
     refine rN (rL P Φ _) (fun hkp=>?_) fun _=>trivial
     have H2:=H (.reg l plan (rY o pend) n E' h' nx')
     generalize ih (.reg l plan (rY o pend) n E' h' nx')=q2 at H2
     cases q2 with
     | bad=>trivial
     | ret v h2 nx2=>exact H2.elim
     | ok x2 E2 h2 nx2 =>
       obtain ⟨rfl,H2⟩:=H2
       refine ⟨rfl,fun ρ ρs w0 a w ws hs nxs L Lm Rc S cs f hI hf hn hns hpl hlen K hK=>?_⟩
       obtain ⟨hro,⟨o',ho2,hgd,hnm⟩,hpl2⟩:=hpl
       rw [ho] at ho2;cases ho2
       have hlt:=Mu hn hrq
       have hSi:∀ e∈S,e.j≠i:=fun e he hei=>by
        obtain ⟨oj,d,h1,h2,_⟩:=(hI.eok e he).ex
        rw [hei,ho] at h1;cases h1
        rw [(zV h2).2.2.2.2.1] at hnm;cases hnm
       refine Xj (E:=sF l R E) (pl:=plan.length) hf hn hro (fun j hj d hd=>Jz hlt hj hd) hrq ?_ ?_ f a w Lm S ⟨hI.rel.less (Mt hlt),hI.lr,hI.down,fun e he=>gX _ (hI.sub e he),hI.ndj,hI.ndp,hI.eok,hI.pend,hI.ms,hI.nxb⟩ hSi (by rw [←hlen,bV])
       · intro S hs hni hnd
         exact Jy hpl2 (fun e he=>(hs e he).elim (fun h=>(hro.sub _ h).resolve_left (hni e he)) id) hnd
       intro a w Lm S f hI hSi hlen hir
       have hsR:∀ e∈S,e.j∈R:=fun e he=>(eV.1 (hI.sub e he)).elim (fun h=>(hro.sub _ h).resolve_left (hSi e he)) id
       unfold stp
       simp only [ho',Region.wanted,hgd,eO]
       refine H1 ρ w0 a w hI.rel hf hn _ fun ρ' a' w' e1 e2 e3=>?_
       refine H2 ρ' ρs w0 a' w' ws hs nxs _ _ R S cs f ⟨e2,hI.lr.set (tQ.1 (eX.1 hro.rd).1).1 hSi,yE hI.down hir,hsR,hI.ndj,hI.ndp,fun e he=>?_,Mv ho (eX.1 hir).1 hI.pend e1 hkp,hI.ms,hI.nxb.trans hI.ms e1⟩ e1.fit hn hns hpl2 hlen K hK
       refine (hI.eok e he).keep e3 (fun oj hoj=>?_) e1.old
       obtain ⟨ok',f1,f2,f3,f4,f5⟩:=hro.mks e.j (hsR e he)
       rw [hoj] at f1;cases f1
       exact f4 o ho
 trivial
theorem Ow {nx:Nat} {ρ:Pl} {s:Nat} {b:CB} {o:Obj} (h:DB nx ρ s b o):∀ x,o≠.deferred x:=fun x e=>by
 subst e
 cases b with
 | cells l ty op st=>obtain ⟨vs,junk,_,h2,_⟩:=h;cases h2
 | ro l ty st=>obtain ⟨vs,fz,_,h2⟩:=h;cases h2
 | mapI l st=>exact absurd (show Obj.deferred x=sP l from h) (by unfold sP;intro h;cases h)
 | mapK l st=>exact absurd (show Obj.deferred x=sP l from h) (by unfold sP;intro h;cases h)
 | it l pos st=>obtain ⟨bs,_,h2⟩:=h;cases h2
 | lp E n ps asg body q p st=>obtain ⟨q,h1,_⟩:=h;cases h1
theorem Mem.adopt {ρ:Pl} {w0:Bas Φ} {h:Tr CB} {nx:Nat} {w:World} (hm:Mem ρ w0 h nx w) (hf:nx<rO) {b:CB} {o:Obj} {s p:Nat} (hst:Og b=nx) (hp:w0.w.heap.size≤p) (ho:w.heap[p]?=some o) (hun:∀ t b,h.get t=some b→(ρ t).1≠p) (hb:DB nx ρ s b o) :
 ∃ ρ',Ext nx ρ ρ'∧ρ' nx=(p,s)∧Mem ρ' w0 (h.set (some b) rO nx) (nx+1) w:=by
 have hext:Ext nx ρ (fun t=>if t=nx then (p,s) else ρ t):=fun t ht=>by simp [qR ht]
 have get:=fun j=>eN (some b) rO h nx j hf
 refine ⟨fun t=>if t=nx then (p,s) else ρ t,hext,by simp,⟨hm.upd,?_,?_,hm.imm,hm.nod,fun c hc=>?_⟩⟩
 · intro t b' ht
   rw [get] at ht
   by_cases e:t=nx
   · subst e
     rw [aR rfl] at ht
     cases ht
     simp only [eO]
     exact ⟨by omega,by omega,hp,o,ho,hb.up (cY _) hext⟩
   rw [aK e] at ht
   obtain ⟨h1,hs1,h2,o',h3,h4⟩:=hm.own t b' ht
   simp only [e,eP]
   exact ⟨by omega,by omega,h2,o',h3,h4.up (cY _) hext⟩
 · intro t t' b1 b2 h1 h2 he
   rw [get] at h1 h2
   by_cases e:t=nx <;> by_cases e':t'=nx
   · rw [e,e']
   · rw [aK e'] at h2
     simp only [e,e',eO,eP] at he
     exact absurd he.symm (hun _ _ h2)
   · rw [aK e] at h1
     simp only [e,e',eO,eP] at he
     exact absurd he (hun _ _ h1)
   rw [aK e] at h1
   rw [aK e'] at h2
   simp only [e,e',eP] at he
   exact hm.one t t' b1 b2 h1 h2 he
 obtain ⟨k1,k2,k3⟩:=hm.kept c hc
 refine ⟨k1,k2,fun t b' ht=>?_⟩
 rw [get] at ht
 by_cases e:t=nx
 · simp only [e,eO]
   intro e2
   rw [e2,k2] at ho
   cases ho
   exact Ow hb _ rfl
 rw [aK e] at ht
 simp only [e,eP]
 exact k3 t b' ht
theorem Nx.adopt {ρs ρ ρ':Pl} {hs h:Tr CB} {nxs nx p s:Nat} {ws w:World} {b:CB} (hn:Nx ρs hs nxs ws ρ h nx w) (hf:nx<rO) (hst:Og b=nx) (he:Ext nx ρ ρ') (hp:ρ' nx=(p,s)) (hge:ws.heap.size≤p) (hlt:∀ t c,h.get t=some c→t<nx):Nx ρs hs nxs ws ρ' (h.set (some b) rO nx) (nx+1) w:=by
 have get:=fun j=>eN (some b) rO h nx j hf
 refine ⟨Nat.le_succ_of_le hn.le,hf,hn.ext.trans he hn.le,⟨fun t c ht hst'=>?_,hn.old.fr,fun t c ht=>?_,hn.old.sz⟩⟩
 · rw [get] at ht
   by_cases e:t=nx
   · rw [aR e] at ht;cases ht
     have:=hn.le
     omega
   rw [aK e] at ht
   exact hn.old.old t c ht hst'
 rw [get] at ht
 by_cases e:t=nx
 · rw [e,hp];exact .inl hge
 rw [aK e] at ht
 rw [he t (hlt t c ht)]
 exact hn.old.nw t c ht
theorem Sj {ih:Cmd→Res} (H:∀ c,rL P Φ c (ih c)) (l:List Oper) (i:Nat) (R:List Nat) (plan:List (Nat×Pk)) (pend:List (Nat×Nat×Nat)) (n:Nat) (E:Tr CV) (h:Tr CB) (nx:Nat):rL P Φ (.reg l ((i,.make R) :: plan) pend n E h nx) (step P pr ih (.reg l ((i,.make R) :: plan) pend n E h nx)):=by
 show rL P Φ _ (match Br l i with
  | some o=>bif wN P l R n (sF l R E) h nx then (match wm P (sF l R E) h nx o.op with
   | .val c h nx=>(match vX (sF l R E) n o.dst c with | some E=>ih (.reg l plan (rY o pend) n E h nx) | none=>.bad 33 [o])
   | _=>.bad 34 [o]) else .bad 35 [o]
  | none=>.bad 31 [])
 split
 · rename_i o ho
   rw [vE] at ho
   have ho':l.toArray[i]?=some o:=by simpa using ho
   refine rN (rL P Φ _) (fun hrq=>?_) fun _=>trivial
   split
   · rename_i c h' nx' hw
     split
     · rename_i E' hp
       have H2:=H (.reg l plan (rY o pend) n E' h' nx')
       generalize ih (.reg l plan (rY o pend) n E' h' nx')=q2 at H2
       cases q2 with
       | bad=>trivial
       | ret v h2 nx2=>exact H2.elim
       | ok x2 E2 h2 nx2 =>
         obtain ⟨rfl,H2⟩:=H2
         refine ⟨rfl,fun ρ ρs w0 a w ws hs nxs L Lm Rc S cs f hI hf hn hns hpl hlen K hK=>?_⟩
         obtain ⟨hro,⟨o',ho2,hmk⟩,hpl2⟩:=hpl
         rw [ho] at ho2;cases ho2
         obtain ⟨s1,s2,s3,⟨xs,s4⟩,_,s6⟩:=zV hmk
         have hlt:=Mu hn hrq
         have hI':=hI.rel.less (Mt (E:=E) hlt)
         by_cases hin:∃ e∈S,e.j=i
         · -- it was run ahead
           obtain ⟨e,he,hei⟩:=hin
           obtain ⟨A,B,rfl⟩:=AO he
           obtain ⟨b,s,ob,V,rfl,rfl,hft,hstb,hdb,hkn,hex⟩:=GJ hI'.slots s4 hw
           obtain ⟨⟨oj,d,h1,h2,h3,h4,h5⟩,g1,g2,g3,g4⟩:=hI.eok e he
           rw [hei,ho] at h1;cases h1
           obtain ⟨dst,op,ty,pos,after,g⟩:=o
           have hsame:∀ w2:World,e.V w2.heap.size=V w2.heap.size∧w2.alloc e.o=w2.alloc ob:=fun w2=>by
            have q1:=h5 w2
            rw [hex w2 dst ty pos after g] at q1
            simp only [Result.ok.injEq,Next.value.injEq] at q1
            exact ⟨q1.1.symm,q1.2.symm⟩
           have hV:∀ k:Nat,e.V k=V k:=fun k=>by
            have:=(hsame { w with heap:=Array.replicate k default }).1
            simpa using this
           have hob:e.o=ob:=by
            have h9:=(hsame w).2
            have h10:(w.alloc e.o).heap[w.heap.size]?=(w.alloc ob).heap[w.heap.size]?:=by rw [h9]
            rw [sK,sK] at h10
            exact lC h10
           have hm:=hI.rel.mem
           obtain ⟨os,hR⟩:=hI'
           obtain ⟨ρ',x1,x2,m2⟩:=hR.mem.adopt (s:=s) (p:=e.p) (o:=ob) hft hstb (aP (show (w0.plus os).w.heap.size≤ws.heap.size from hI.ms.upd.size) g3) (by rw [←hob];exact g2) g4 hdb
           obtain ⟨nd1,nd2⟩:=Ka (·.j) hI.ndj
           obtain ⟨nd3,nd4⟩:=Ka (·.p) hI.ndp
           have hsub:∀ x∈A++B,x∈A++e :: B:=fun x hx=>(eV.1 hx).elim (fun h=>gX _ h) fun h=>iN _ (bB _ h)
           have hdn:∃ E1,E1=E'∧Slots ρ' E1 (nx+1) n a:=by
            have hd':dst=some d:=h3
            subst hd'
            have hp':(bif Nat.ble (Nat.succ d) n then some ((sF l R E).set (some c) rO d) else none)=some E':=hp
            rcases rK hp' with ⟨q1,q2⟩ | ⟨_,q2⟩
            · cases q2
              have hsl:=hR.slots.up (cY _) x1
              refine ⟨_,rfl,hsl.1,fun k x hx=>?_⟩
              have hdn:=rU q1
              rw [eN (some c) rO _ d k (by rw [Jh];omega)] at hx
              by_cases e2:k=d
              · subst e2
                rw [aR rfl] at hx
                cases hx
                exact ⟨_,h4,by rw [hV];exact hkn ρ' e.p x2⟩
              rw [aK e2] at hx
              exact hsl.2 k x hx
            cases q2
           obtain ⟨E1,rfl,hsl⟩:=hdn
           refine H2 ρ' ρs w0 a w ws hs nxs _ Lm R (A++B) cs f ⟨⟨os,hsl,hR.defers,m2,hR.mks,hR.ss⟩,?_,hI.down,?_,nd1,nd3,fun x hx=>?_,?_,hI.ms,hI.nxb.adopt hft hstb x1 x2 g3 fun t c ht=>(hm.own t c ht).1⟩ hft hn hns hpl2 ?_ K hK
           · have:=hI.lr.adopt hI.ndj
             rw [hei] at this;exact this
           · intro x hx
             exact (hro.sub _ (hI.sub x (hsub x hx))).resolve_left (fun e2=>nd2 x hx (e2.trans hei.symm))
           · obtain ⟨f1,f2,f3,f4,f5⟩:=hI.eok x (hsub x hx)
             refine ⟨f1,f2,f3,f4,fun t b' ht=>?_⟩
             rw [eN (some b) rO h nx t hft] at ht
             by_cases e2:t=nx
             · rw [e2,x2];exact fun e3=>nd4 x hx e3.symm
             rw [aK e2] at ht
             rw [x1 t (hm.own t b' ht).1];exact f5 t b' ht
           · intro x hx
             rcases hI.pend x hx with h6 | ⟨t,b',h6,h7,h8,h9,h10⟩
             · exact .inl h6
             rcases Es (Lm:=Lm) ho ((hI.lr.iff i).2 (.inr ⟨e,he,hei⟩)) _ _ _ h6 with h11 | h11
             · exact .inr ⟨t,b',h11,Nat.lt_succ_of_lt h7,by rw [x1 t h7];exact h8,Nat.le_succ_of_le h9,h10⟩
             exact .inl ⟨i,h11.1,h11.2⟩
           simp only [aI,bV] at hlen ⊢;omega
         -- it is run now
         have hSi:∀ e∈S,e.j≠i:=fun e he hei=>hin ⟨e,he,hei⟩
         refine Xj (E:=sF l R E) (pl:=plan.length) hf hn hro (fun j hj d hd=>Jz hlt hj hd) hrq ?_ ?_ f a w Lm S ⟨hI',hI.lr,hI.down,fun e he=>gX _ (hI.sub e he),hI.ndj,hI.ndp,hI.eok,hI.pend,hI.ms,hI.nxb⟩ hSi (by rw [←hlen,bV])
         · intro S hs hni hnd
           exact Jy hpl2 (fun e he=>(hs e he).elim (fun h=>(hro.sub _ h).resolve_left (hni e he)) id) hnd
         intro a w Lm S f hI hSi hlen hir
         have hsR:∀ e∈S,e.j∈R:=fun e he=>(eV.1 (hI.sub e he)).elim (fun h=>(hro.sub _ h).resolve_left (hSi e he)) id
         obtain ⟨b,s,ob,V,rfl,rfl,hft,hstb,hdb,hkn,hex⟩:=GJ hI.rel.slots s4 hw
         obtain ⟨dst,op,ty,pos,after,g⟩:=o
         obtain ⟨os,hR⟩:=hI.rel
         obtain ⟨ρ',x1,x2,m2,o2⟩:=hR.mem.new (s:=s) hft hstb (tD w ob) (tI w ob) (sK w ob) hdb
         have hg:g=none:=s3
         subst hg
         unfold stp
         simp only [ho',Region.wanted,eO]
         unfold wD
         rw [hex w dst ty pos after none]
         have e1:Nx ρ h nx w ρ' (h.set (some b) rO nx) (nx+1) (w.alloc ob):=⟨cY _,hft,x1,o2⟩
         refine H2 ρ' ρs w0 _ _ ws hs nxs _ _ R S cs f ⟨⟨os,uF (hR.slots.up (cY _) x1) hn hp (hkn ρ' _ x2),(xJ _ _ _).trans hR.defers,m2,hR.mks,aP hR.ss o2.sz⟩,hI.lr.set (tQ.1 (eX.1 hro.rd).1).1 hSi,yE hI.down hir,hsR,hI.ndj,hI.ndp,fun e he=>?_,?_,hI.ms,hI.nxb.trans hI.ms e1⟩ hft hn hns hpl2 hlen K hK
         · refine (hI.eok e he).keep (o:=⟨dst,op,ty,pos,after,none⟩) (nS _ _ _) (fun oj hoj=>?_) o2
           obtain ⟨ok',f1,f2,f3,f4,f5⟩:=hro.mks e.j (hsR e he)
           rw [hoj] at f1;cases f1
           exact f4 _ ho
         exact Er hI.pend (cY _) x1 alloc_old (Es (Lm:=Lm.setIfInBounds i true) ho (Uo (eX.1 hir).1))
     trivial
   trivial
 trivial
theorem yF {ih:Cmd→Res} (H:∀ c,rL P Φ c (ih c)) (l:List Oper) (plan:List (Nat×Pk)) (pend:List (Nat×Nat×Nat)) (n:Nat) (E:Tr CV) (h:Tr CB) (nx:Nat):rL P Φ (.reg l plan pend n E h nx) (step P pr ih (.reg l plan pend n E h nx)):=by
 cases plan with
 | nil =>
   refine ⟨rfl,fun ρ ρs w0 a w ws hs nxs L Lm Rc S cs f hI hf hn hns hpl hlen K hK=>?_⟩
   obtain ⟨h1,rfl⟩:=hpl
   have hS:S=[]:=gQ.2 fun e he=>by cases hI.sub e he
   subst hS
   have hf0:f=0:=by simpa using hlen.symm
   subst hf0
   have hnil:Region.ready .any l.toArray Lm=[]:=gQ.2 fun j hj=>by
    have h3:=hI.lr.nil hj
    rw [h1] at h3
    cases h3
   exact ⟨hI.pend.cp,hnil,hK ρ a w hI.nxb hI.rel⟩
 | cons q plan =>
   obtain ⟨i,k⟩:=q
   cases k with
   | look=>exact Sg H l i plan pend n E h nx
   | only=>exact Sh H l i plan pend n E h nx
   | race R=>exact Si H l i R plan pend n E h nx
   | make R=>exact Sj H l i R plan pend n E h nx
end
section
variable {P:Program} {Φ:Imm→Prop} {pr:sY}
def xK (P:Program) (Φ:Imm→Prop) (pr:sY):Prop:=∀ f g,WI pr f=some g→uH P f∧∀ args v,g args=some v→∀ G,Φ G→∀ nx ρ vs,KL nx ρ args vs→∃ u,Kn nx ρ v u∧Does P f vs G [] (fun x G' Ho=>x=u∧G'=G∧Ho=[])
theorem Mw {fn:Func} {n nx':Nat} {ρ':Pl} {w0:Bas Φ} {E':Tr CV} {h':Tr CB} {a:Act} {v:CV} {R:Ending→World→Prop} (hs:Slots ρ' E' nx' n a) (hv:Ry P E' h' fn.results.toList=some v) :
 ∀ (os:List Nat) (w:World),w0.s≤w.heap.size→Mem ρ' (w0.plus os) h' nx' w→(∀ w' u,Kn nx' ρ' v u→Mem ρ' w0 h' nx' w'→OldX (·∈os) ρ' h' nx' w ρ' h' w'→R (.returned u) w')→LeavesInM (FF none) 0 P fn a.tmps R (os.map mark) .returning w
 | [],w,hss,hm,hK=>by
   have hR:Rel ρ' w0 n E' h' nx' { a with defers:=[] } w:=⟨[],hs,rfl,hm,fun b hb=>(by cases hb),hss⟩
   obtain ⟨u,k1,k2⟩:=KI hR hv
   exact ⟨u,k2,hK w u k1 hm fR⟩
 | b :: os,w,hss,hm,hK=>by
   have hb:=(hm.kept b (bL ..)).2.1
   obtain ⟨m2,o2⟩:=hm.shut
   refine ⟨by simp,.inl ⟨b,_,rfl,run_takeDeferred hb,Mw hs hv os _ (aP hss o2.sz) m2 fun w' u q1 q2 q3=>hK w' u q1 q2 ?_⟩⟩
   exact ⟨fun t c hc hst=>⟨(q3.old t c hc hst).1,(q3.old t c hc hst).2.trans (o2.old t c (q3.old t c hc hst).1 hst).2⟩,fun p hp hu hx=>(q3.fr p (bN hp o2.sz) hu (fun e=>hx (bB _ e))).trans (o2.fr p hp hu (fun e=>hx (by rw [e];exact bL ..))),fun t b' hb'=>.inr ⟨t,b',hb',rfl⟩,aP o2.sz q3.sz⟩
theorem Mx {ih:Cmd→Res} (hpr:xK P Φ pr) (H:∀ c,rL P Φ c (ih c)) (f:Nat) (args:CV) (h:Tr CB) (nx:Nat):rL P Φ (.call f args h nx) (step P pr ih (.call f args h nx)):=by
 show rL P Φ _ (match WI pr f with
  | some g=>(match g args with | some v=>.ret v h nx | none=>.bad 60 [])
  | none=>match SL P f with
  | some fn=>(match fn.body with
    | some c=>bif Nat.ble (sG args) fn.ntmps && Nat.ble fn.ntmps 100000 then (match ih (.code c fn.ntmps (Rx args 0 .e) h nx) with
      | .ok x E h nx=>(match x with
        | .normal=>(match Ry P E h fn.results.toList with | some v=>.ret v h nx | none=>.bad 16 [])
        | .ret=>(match Ry P E h fn.results.toList with | some v=>.ret v h nx | none=>.bad 16 [])
        | _=>.bad 17 [])
      | .ret _ _ _=>.bad 18 []
      | r=>r) else .bad 19 []
    | none=>.bad 20 [])
  | none=>.bad 21 [])
 split
 · rename_i g hg
   split
   · rename_i v hv
     obtain ⟨p1,p2⟩:=hpr f g hg
     refine ⟨p1,fun ρ w0 w vs hm hk hfit=>?_⟩
     obtain ⟨u,k1,k2⟩:=p2 args v hv w0.G w0.ok nx ρ vs hk
     have hw:HoldH [] w0.G w:=⟨fun t b o ht=>Bt,fun t t' b o o' ht=>Bt,fun b o hb=>(hm.upd.same b (dG.1 (hm.imm b o hb)).1 id).trans (hm.imm b o hb),fun t b o ht=>Bt⟩
     refine (k2 w hw).mono fun x w' ⟨v',G',Ho,h1,h2,h3,h4,h5,h6,h7⟩=>?_
     obtain ⟨rfl,_,_⟩:=h7
     have hu:Upd (fun _=>False) w w':=h4.mono fun k hk hx=>by obtain ⟨t,o,ht⟩:=hx;cases ht
     obtain ⟨m1,o1⟩:=hm.grow hu
     exact ⟨v',ρ,h1,⟨aH _,hfit,dD _ _,o1⟩,k1,m1⟩
   trivial
 split
 · rename_i fn hfn
   obtain ⟨hf,hname⟩:=NJ hfn
   split
   · rename_i c hb
     cases hl:Nat.ble (sG args) fn.ntmps && Nat.ble fn.ntmps 100000 with
     | false=>trivial
     | true =>
       simp only [aB] at hl
       have hl1:=rU hl.1
       have hl2:=rU hl.2
       simp only [fT]
       have H1:=H (.code c fn.ntmps (Rx args 0 .e) h nx)
       generalize ih (.code c fn.ntmps (Rx args 0 .e) h nx)=q at H1
       cases q with
       | bad=>trivial
       | ret _ _ _=>trivial
       | ok x E' h' nx' =>
         have go:(x=.normal∨x=.ret)→rL P Φ (.call f args h nx) (match Ry P E' h' fn.results.toList with | some v=>.ret v h' nx' | none=>.bad 16 []):=fun hx=>by
          split
          · rename_i v hv
            refine ⟨⟨fn,hf,by rw [hb];rfl,hname⟩,fun ρ w00 w vs hm hk hfit=>?_⟩
            obtain ⟨W0,ks0,G0,ok0,s0⟩:=w00
            replace hm:=hm.base (s':=w.heap.size)
            obtain ⟨w0,hw0⟩:∃ w0:Bas Φ,w0=⟨W0,ks0,G0,ok0,w.heap.size⟩:=⟨_,rfl⟩
            rw [←hw0] at hm
            have hlen:=sJ hk
            have hR:Rel ρ w0 fn.ntmps (Rx args 0 .e) h nx { tmps:=vs.toArray++Array.replicate (fn.ntmps - vs.toArray.size) undef,defers:=[] } w:=by
             refine ⟨[],⟨by simp;omega,fun i y hy=>?_⟩,rfl,hm,fun b hb=>(by cases hb),by rw [hw0];exact aH _⟩
             rcases KG hk 0 .e rG i y hy with ⟨_,u,h1,h2⟩ | h1
             · refine ⟨u,?_,h2⟩
               have h1':vs[i]?=some u:=by simpa using h1
               have hlt:i<vs.length:=(aV.1 h1').1
               show (vs.toArray++Array.replicate (fn.ntmps - vs.toArray.size) undef)[i]?=some u
               rw [Array.getElem?_append_left (by simpa using hlt)]
               simpa using h1'
             cases h1
            refine yI.1 (callsIn_of_wp_marks (F:=FF none) (n:=0) hf hb trivial (H1 none ρ w0 _ w hR hfit hl2 (.inl rfl) _ fun ρ' a' w' e1 e2=>?_))
            obtain ⟨os,e2⟩:=e2
            have key:LeavesInM (FF none) 0 P fn a'.tmps (fun e w'=>∃ u ρ',e=.returned u∧Nx ρ h nx w ρ' h' nx' w'∧Kn nx' ρ' v u∧Mem ρ' ⟨W0,ks0,G0,ok0,s0⟩ h' nx' w') a'.defers .returning w':=by
             rw [e2.defers]
             exact Mw e2.slots hv os w' e2.ss e2.mem fun w2 u q1 q2 q3=>⟨u,ρ',rfl,⟨e1.le,e1.fit,e1.ext,Fq hm e1.old q3 (fun p hp=>by have:=e2.mks p hp;rw [hw0] at this;exact this) e1.le e1.ext⟩,q1,by rw [hw0] at q2;exact q2.base⟩
            rcases hx with rfl | rfl <;> exact key
          trivial
         cases x with
         | normal=>exact go (.inl rfl)
         | ret=>exact go (.inr rfl)
         | _=>trivial
   trivial
 trivial
theorem run_ok (hpr:xK P Φ pr) (fuel:Nat):∀ c,rL P Φ c (run P pr fuel c):=by
 induction fuel with
 | zero=>intro c;show rL P Φ c (.bad 0 []);cases c <;> trivial
 | succ fuel ih =>
   intro c
   show rL P Φ c (step P pr (run P pr fuel) c)
   cases c with
   | code c n E h nx=>exact vY ih c n E h nx
   | loop c n E h nx=>exact step_loop ih c n E h nx
   | ops all l n E h nx=>exact Dk ih all l n E h nx
   | one o n E h nx=>exact yD ih o n E h nx
   | call f args h nx=>exact Mx hpr ih f args h nx
   | round t args h nx=>exact Jw ih t args h nx
   | reg l plan pend n E h nx=>exact yF ih l plan pend n E h nx
def GN (r:Res):Bool:=match r with | .ret (.bool b) _ _=>b | _=>false
theorem AP {f:Nat} {q:Res} (H:rL P Φ (.call f .nil .e 0) q) (h:GN q=true) (G:Imm) (hG:Φ G):Does P f [] G [] (fun v G' Ho=>v=.bool true∧G'=G∧Ho=[]):=by
 intro w hw
 cases q with
 | bad=>cases h
 | ok _ _ _ _=>cases h
 | ret v h' nx' =>
   cases v with
   | bool b =>
     have hb:b=true:=h
     subst hb
     have hm:Mem (fun _=>(0,0)) (⟨w,[],G,hG,0⟩:Bas Φ) .e 0 w:=⟨lZ _ _,fun t b ht=>Bt,fun t t' b b' ht=>Bt,fun b o hb=>hw.imm b o hb,kK,fun b hb=>by cases hb⟩
     refine (H.2 (fun _=>(0,0)) ⟨w,[],G,hG,0⟩ w [] hm mV (aT _)).mono fun e w' ⟨u,ρ',h1,h2,h3,h4⟩=>?_
     have h5:=pX.1 h3.2
     subst h5
     refine ⟨.bool true,G,[],h1,⟨fun t b o ht=>Bt,fun t t' b o o' ht=>Bt,fun b o hb=>?_,fun t b o ht=>Bt⟩,cD _,h4.upd.mono fun k hk hx=>hx.elim,fun b h0 h1=>absurd h1 h0,fun t b o ht=>Bt,rfl,rfl,rfl⟩
     rw [h4.upd.same b (hw.ltG hb) id];exact hw.imm b o hb
   | _=>cases h
end
structure Gt where
 run:Tr CV→Option CV
structure St where
 run:CV→Tr CV→Tr CV
def gt (f:Nat):Nat→Gt:=
 Nat.rec (motive:=fun _=>Nat→Gt) (fun _=>⟨fun _=>none⟩) (fun _ ih k=>Nat.rec (motive:=fun _=>Gt) ⟨fun E=>Tr.rec (motive:=fun _=>Option CV) none (fun x _ _ _ _ _ _ _ _=>x) E⟩
  (fun m _=>s4 (⟨fun E=>Tr.rec (motive:=fun _=>Option CV) none (fun _ a _ _ _ _ _ _ _=>(ih (Nat.div m 4)).run a) E⟩:Gt) ⟨fun E=>Tr.rec (motive:=fun _=>Option CV) none (fun _ _ b _ _ _ _ _ _=>(ih (Nat.div m 4)).run b) E⟩
   ⟨fun E=>Tr.rec (motive:=fun _=>Option CV) none (fun _ _ _ c _ _ _ _ _=>(ih (Nat.div m 4)).run c) E⟩ ⟨fun E=>Tr.rec (motive:=fun _=>Option CV) none (fun _ _ _ _ d _ _ _ _=>(ih (Nat.div m 4)).run d) E⟩ (Nat.mod m 4)) k) f
def st (f:Nat):Nat→St:=
 Nat.rec (motive:=fun _=>Nat→St) (fun _=>⟨fun _ E=>E⟩) (fun _ ih k=>Nat.rec (motive:=fun _=>St) ⟨fun v E=>Tr.rec (motive:=fun _=>Tr CV) (.n (some v) .e .e .e .e) (fun _ a b c d _ _ _ _=>.n (some v) a b c d) E⟩
  (fun m _=>s4 (⟨fun v E=>Tr.rec (motive:=fun _=>Tr CV) (.n none ((ih (Nat.div m 4)).run v .e) .e .e .e) (fun x a b c d _ _ _ _=>.n x ((ih (Nat.div m 4)).run v a) b c d) E⟩:St)
   ⟨fun v E=>Tr.rec (motive:=fun _=>Tr CV) (.n none .e ((ih (Nat.div m 4)).run v .e) .e .e) (fun x a b c d _ _ _ _=>.n x a ((ih (Nat.div m 4)).run v b) c d) E⟩
   ⟨fun v E=>Tr.rec (motive:=fun _=>Tr CV) (.n none .e .e ((ih (Nat.div m 4)).run v .e) .e) (fun x a b c d _ _ _ _=>.n x a b ((ih (Nat.div m 4)).run v c) d) E⟩
   ⟨fun v E=>Tr.rec (motive:=fun _=>Tr CV) (.n none .e .e .e ((ih (Nat.div m 4)).run v .e)) (fun x a b c d _ _ _ _=>.n x a b c ((ih (Nat.div m 4)).run v d)) E⟩ (Nat.mod m 4)) k) f
theorem RE:∀ (f k:Nat) (E:Tr CV),k<f→(gt f k).run E=E.get k:=by
 intro f
 induction f with
 | zero=>intro k E h;omega
 | succ f ih =>
   intro k E h
   cases k with
   | zero=>cases E <;> rfl
   | succ m =>
     have hm:Nat.div m 4<f:=by show m / 4<f;omega
     show (s4 (⟨fun E=>Tr.rec (motive:=fun _=>Option CV) none (fun _ a _ _ _ _ _ _ _=>(gt f (Nat.div m 4)).run a) E⟩:Gt) ⟨fun E=>Tr.rec (motive:=fun _=>Option CV) none (fun _ _ b _ _ _ _ _ _=>(gt f (Nat.div m 4)).run b) E⟩
      ⟨fun E=>Tr.rec (motive:=fun _=>Option CV) none (fun _ _ _ c _ _ _ _ _=>(gt f (Nat.div m 4)).run c) E⟩ ⟨fun E=>Tr.rec (motive:=fun _=>Option CV) none (fun _ _ _ _ d _ _ _ _=>(gt f (Nat.div m 4)).run d) E⟩ (Nat.mod m 4)).run E=_
     rcases Ty m with h1 | h1 | h1 | h1 <;> rw [h1] <;> cases E with
      | e=>rfl
      | n x a b c d=>rw [Iw,h1];exact ih _ _ hm
theorem RF (v:CV):∀ (f k:Nat) (E:Tr CV),(st f k).run v E=E.set (some v) f k:=by
 intro f
 induction f with
 | zero=>intro k E;rfl
 | succ f ih =>
   intro k E
   cases k with
   | zero=>cases E <;> rfl
   | succ m =>
     show (s4 (⟨fun v E=>Tr.rec (motive:=fun _=>Tr CV) (.n none ((st f (Nat.div m 4)).run v .e) .e .e .e) (fun x a b c d _ _ _ _=>.n x ((st f (Nat.div m 4)).run v a) b c d) E⟩:St)
      ⟨fun v E=>Tr.rec (motive:=fun _=>Tr CV) (.n none .e ((st f (Nat.div m 4)).run v .e) .e .e) (fun x a b c d _ _ _ _=>.n x a ((st f (Nat.div m 4)).run v b) c d) E⟩
      ⟨fun v E=>Tr.rec (motive:=fun _=>Tr CV) (.n none .e .e ((st f (Nat.div m 4)).run v .e) .e) (fun x a b c d _ _ _ _=>.n x a b ((st f (Nat.div m 4)).run v c) d) E⟩
      ⟨fun v E=>Tr.rec (motive:=fun _=>Tr CV) (.n none .e .e .e ((st f (Nat.div m 4)).run v .e)) (fun x a b c d _ _ _ _=>.n x a b c ((st f (Nat.div m 4)).run v d)) E⟩ (Nat.mod m 4)).run v E=_
     cases E with
     | e=>rw [Rp,Ix];rcases Ty m with h1 | h1 | h1 | h1 <;> rw [h1] <;> simp only [ML,MM,MN,MO,ih]
     | n x a b c d=>rw [Ix];rcases Ty m with h1 | h1 | h1 | h1 <;> rw [h1] <;> simp only [ML,MM,MN,MO,ih]
abbrev Kt:=Tr CV→Tr CB→Nat→Res
abbrev Kx:=Exit→Tr CV→Tr CB→Nat→Res
def Et (run:Kt→Res) (S:Tr CV→Tr CB→Nat→Prop):Prop:=(∃ why o,∀ k,run k=.bad why o)∨∃ E' h' nx',(∀ k,run k=k E' h' nx')∧S E' h' nx'
def Kb (run:Kx→Res) (S:Exit→Tr CV→Tr CB→Nat→Prop):Prop:=(∃ why o,∀ k,run k=.bad why o)∨∃ x E' h' nx',(∀ k,run k=k x E' h' nx')∧S x E' h' nx'
structure Co where
 run:(Cmd→Res)→Tr CV→Tr CB→Nat→Kt→Res
structure Cd where
 run:(Cmd→Res)→Tr CV→Tr CB→Nat→Kx→Res
section
variable (P:Program) (Φ:Imm→Prop)
def Up (ih:Cmd→Res):Prop:=∀ c,rL P Φ c (ih c)
def Uq (co:Co) (o:Oper) (n:Nat):Prop:=∀ ih,Up P Φ ih→∀ E h nx,Et (co.run ih E h nx) (fun E' h' nx'=>rL P Φ (.one o n E h nx) (.ok .normal E' h' nx'))
def AQ (cd:Cd) (c:Code) (n:Nat):Prop:=∀ ih,Up P Φ ih→∀ E h nx,Kb (cd.run ih E h nx) (fun x E' h' nx'=>rL P Φ (.code c n E h nx) (.ok x E' h' nx'))
end
def My (P:Program) (pr:sY) (o:Oper) (n:Nat):Co:=⟨fun ih E h nx k=>match step P pr ih (.one o n E h nx) with
 | .ok _ E h nx=>k E h nx
 | .ret _ _ _=>.bad 70 []
 | .bad w a=>.bad w a⟩
def GO (c:Cmd):Bool:=match c with | .ops ..=>true | .one ..=>true | .reg ..=>true | .code ..=>true | .loop ..=>true | _=>false
def GP (P:Program) (pr:sY) (ih:Cmd→Res) (F:Nat):Cmd→Res:=Nat.rec (motive:=fun _=>Cmd→Res) (fun _=>.bad 71 []) (fun _ r c=>step P pr (fun c=>bif GO c then r c else ih c) c) F
def Sk (P:Program) (pr:sY) (c:Code) (n:Nat):Cd:=⟨fun ih E h nx k=>match GP P pr ih 10000 (.code c n E h nx) with
 | .ok x E h nx=>k x E h nx
 | .ret _ _ _=>.bad 72 []
 | .bad w a=>.bad w a⟩
section
variable {P:Program} {Φ:Imm→Prop} {pr:sY}
theorem Kc (hpr:xK P Φ pr) {ih:Cmd→Res} (H:Up P Φ ih):Up P Φ (step P pr ih):=fun c=>by
 cases c with
 | code c n E h nx=>exact vY H c n E h nx
 | loop c n E h nx=>exact step_loop H c n E h nx
 | ops all l n E h nx=>exact Dk H all l n E h nx
 | one o n E h nx=>exact yD H o n E h nx
 | call f args h nx=>exact Mx hpr H f args h nx
 | round t args h nx=>exact Jw H t args h nx
 | reg l plan pend n E h nx=>exact yF H l plan pend n E h nx
theorem xR:Up P Φ (fun _=>.bad 0 []):=fun c=>by cases c <;> trivial
theorem zW (c:Cmd) (w:Nat) (a:List Oper):rL P Φ c (.bad w a):=by cases c <;> trivial
theorem vZ (o:Oper) (n:Nat):Uq P Φ (My P pr o n) o n:=fun ih H E h nx=>by
 have H1:=yD (pr:=pr) H o n E h nx
 show Et (fun k=>match step P pr ih (.one o n E h nx) with | .ok _ E h nx=>k E h nx | .ret _ _ _=>.bad 70 [] | .bad w a=>.bad w a) _
 generalize step P pr ih (.one o n E h nx)=q at H1
 cases q with
 | bad w a=>exact .inl ⟨w,a,fun k=>rfl⟩
 | ret v h' nx'=>exact .inl ⟨70,[],fun k=>rfl⟩
 | ok x E' h' nx' =>
   have hx:x=.normal:=H1.1
   subst hx
   exact .inr ⟨E',h',nx',fun k=>rfl,H1⟩
theorem GQ (hpr:xK P Φ pr) {ih:Cmd→Res} (H:Up P Φ ih) (F:Nat):Up P Φ (GP P pr ih F):=by
 induction F with
 | zero=>intro c;exact zW c 71 []
 | succ F r =>
   refine Kc hpr fun c=>?_
   show rL P Φ c (bif GO c then GP P pr ih F c else ih c)
   cases GO c with
   | true=>exact r c
   | false=>exact H c
theorem Dl (hpr:xK P Φ pr) (c:Code) (n:Nat):AQ P Φ (Sk P pr c n) c n:=fun ih H E h nx=>by
 have H1:=GQ hpr H 10000 (.code c n E h nx)
 show Kb (fun k=>match GP P pr ih 10000 (.code c n E h nx) with | .ok x E h nx=>k x E h nx | .ret _ _ _=>.bad 72 [] | .bad w a=>.bad w a) _
 generalize GP P pr ih 10000 (.code c n E h nx)=q at H1
 cases q with
 | bad w a=>exact .inl ⟨w,a,fun k=>rfl⟩
 | ret v h' nx'=>exact .inl ⟨72,[],fun k=>rfl⟩
 | ok x E' h' nx'=>exact .inr ⟨x,E',h',nx',fun k=>rfl,H1⟩
end
end Go.Sl.Ev
end
