/- uJ of the proof (part 11): what the rows' text needs of the texts that lead to it. -/
import Derived.Test.YtfdcckcadfhpeaaGreatDoorMMj
set_option linter.unusedVariables false
set_option linter.unusedSimpArgs false
set_option linter.unusedSectionVars false
set_option maxHeartbeats 4000000
noncomputable section
set_option maxRecDepth 100000
namespace Go.Sl.Ev
open Go Go.Sl
def bnd (o:Oper):List Nat:=(o.after.toList.filter (Region.binds .any)).map (·.on)
def Ln {α:Type} (p:α→Bool) (l:List α):Bool:=List.rec true (fun x _ ih=>p x && ih) l
def PC {α:Type} (p:α→Bool) (l:List α):Bool:=List.rec false (fun x _ ih=>p x || ih) l
theorem xC {α:Type} {p:α→Bool}:∀ {l:List α},Ln p l=true↔∀ x∈l,p x=true:=by
 intro l;induction l with
 | nil=>exact ⟨fun _ x h=>yA,fun _=>rfl⟩
 | cons a l ih =>
   show (p a && Ln p l)=true↔_;rw [aF,ih];exact ⟨fun h x hx=>by rcases dD.1 hx with rfl | hx;exact h.1;exact h.2 x hx,fun h=>⟨h a aQ,fun x hx=>h x (aL _ hx)⟩⟩
theorem Ub {α:Type} {p:α→Bool}:∀ {l:List α},PC p l=true↔∃ x∈l,p x=true:=by
 intro l;induction l with
 | nil=>exact ⟨fun h=>yA,fun ⟨x,h,_⟩=>yA⟩
 | cons a l ih =>
   show (p a || PC p l)=true↔_;rw [kP,ih];exact ⟨fun h=>by rcases h with h | ⟨x,h1,h2⟩;exact ⟨a,aQ,h⟩;exact ⟨x,aL _ h1,h2⟩,fun ⟨x,h1,h2⟩=>by rcases dD.1 h1 with rfl | h1;exact .inl h2;exact .inr ⟨x,h1,h2⟩⟩
def PD (m i:Nat) (o:Oper):Bool:=not (Nat.testBit m i) && Ln (Nat.testBit m) (bnd o)
def Uc (o:Oper) (i:Nat):Bool:=PC (Nat.beq i) (bnd o)
def PE (p:Nat→Oper→Bool) (l:List Oper):Nat→Bool:=List.rec (fun _=>true) (fun o _ ih j=>p j o && ih (Nat.succ j)) l
def Ot (p:Nat→Oper→Bool) (l:List Oper):Nat→J0 Nat:=List.rec (fun _=>none) (fun o _ ih j=>bif p j o then some j else ih (Nat.succ j)) l
theorem BG {p:Nat→Oper→Bool}:∀ {l:List Oper} {j:Nat},PE p l j=true→∀ k o,l[k]?=some o→p (j+k) o=true:=by
 intro l;induction l with
 | nil=>intro j _ k o h;simp at h
 | cons x l ih =>
   intro j h k o hk;have h':(p j x && PE p l (j+1))=true:=h;rw [aF] at h';cases k with
   | zero=>simp at hk;subst hk;exact h'.1
   | succ k =>
     have:=ih h'.2 k o (by simpa using hk);rw [show j+(k+1)=j+1+k by omega];exact this
theorem VV {p:Nat→Oper→Bool}:∀ {l:List Oper} {j i:Nat},Ot p l j=some i→∃ k o,i=j+k∧l[k]?=some o∧p i o=true:=by
 intro l;induction l with
 | nil=>intro j i h;cases h
 | cons x l ih =>
   intro j i h;have h':(bif p j x then some j else Ot p l (j+1))=some i:=h;rcases tA h' with ⟨h1,h2⟩ | ⟨_,h2⟩
   · cases h2;exact ⟨0,x,U,U,h1⟩
   obtain ⟨k,o,e,h3,h4⟩:=ih h2;exact ⟨k+1,o,by omega,by simpa using h3,h4⟩
def Fe:Op→Bool
 | .move _ | .assign _ | .pick .. | .unOp .. | .binOp .. | .convert .. | .extract .. | .nilCheck _ | .fieldAddr .. | .field .. | .load .. | .makeFunc .. | .indexAddr .. | .index .. | .slice .. | .build .. | .lookup ..=>true
 | .call ⟨.builtin .len,_,_⟩ | .call ⟨.builtin .cap,_,_⟩ | .call ⟨.builtin .min,_,_⟩ | .call ⟨.builtin .max,_,_⟩=>true
 | _=>false
def frB (all:Array Oper) (m i:Nat) (oi:Oper) (l:List Oper):Bool:=PE (fun j oj=>Nat.beq j i || (Nat.testBit m j || (Uc oj i || oi.apart all oj))) l 0
def Nq (m i:Nat):Nat:=m ||| (1 <<< i)
inductive Pk where
 | look
 | only
 | race (R:List Nat)
 | make (R:List Nat)
def VW:Op→Bool
 | .alloc _ | .box .. | .makeSlice .. | .buildSlice .. | .makeMap _ none=>true
 | _=>false
def isT (d:Nat):I7→Bool | .tmp t=>Nat.beq t d | _=>false
def Ud (o:Oper):Bool:=VW o.op && (match o.guard with | none=>(match o.dst with | some d=>not (PC (isT d) o.op.operands.toList) | none=>false) | some _=>false)
def ZX (R:List Nat) (i:Nat):Bool:=PC (Nat.beq i) R
def Ue (l:List Oper) (i:Nat) (p:Oper→Bool):Bool:=match Ur l i with | some o=>p o | none=>false
def nq (R:List Nat) (m:Nat):Nat:=List.rec m (fun j _ ih=>Nq ih j) R
def Fh (l:List Oper) (m:Nat):List Nat:=List.rec (motive:=fun _=>Nat→List Nat) (fun _=>[]) (fun o _ ih j=>bif PD m j o then j :: ih (Nat.succ j) else ih (Nat.succ j)) l 0
def Ye (l:List Oper) (m:Nat) (Rc:List Nat) (i:Nat) (o:Oper) (R:List Nat):Bool:=
 (PD m i o && Ln (fun k=>Nat.beq k i || ZX R k) Rc) && ((not (ZX R i) && Ln (fun j=>Ue l j fun oj=>(Ud oj && not (Nat.testBit m j)) && (oj.apart l.toArray o && Ln (fun k=>Nat.beq k j || Ue l k fun ok=>oj.apart l.toArray ok) R)) R) &&
  PE (fun j oj=>Nat.beq j i || not (PD (nq R m) j oj)) l 0)
def Uf (R Rc:List Nat):Bool:=match R,Rc with | [],[]=>true | _,_=>false
theorem Ug {R Rc:List Nat} (h:Uf R Rc=true):R=[]∧Rc=[]:=by
 cases R <;> cases Rc <;> first | exact ⟨U,U⟩ | cases h
def Uh (l:List Oper) (f:Nat):Nat→List Nat→J0 (List (Nat×Pk)):=
 Nat.rec (fun m Rc=>bif PE (fun j o=>not (PD m j o)) l 0 then (bif Uf [] Rc then some [] else none) else none)
  (fun _ ih m Rc=>match Ot (fun i o=>Fe o.op && (PD m i o && frB l.toArray m i o l)) l 0 with
   | some i=>(match ih (Nq m i) Rc with | some p=>some ((i,.look) :: p) | none=>none)
   | none=>(match Ot (fun i o=>PD m i o && not (Ud o)) l 0 with
     | some i=>bif Ue l i (fun o=>Ye l m Rc i o ((Fh l m).filter fun j=>not (Nat.beq j i))) then
      (bif Uf ((Fh l m).filter fun j=>not (Nat.beq j i)) Rc then (match ih (Nq m i) [] with | some p=>some ((i,.only) :: p) | none=>none) else
      bif Ue l i (fun o=>not (VW o.op) && (match o.guard with | none=>true | some _=>false)) then (match ih (Nq m i) ((Fh l m).filter fun j=>not (Nat.beq j i)) with | some p=>some ((i,.race ((Fh l m).filter fun j=>not (Nat.beq j i))) :: p) | none=>none) else none) else none
     | none=>(match Ot (PD m) l 0 with
       | some i=>bif Ue l i (fun o=>Ud o && Ye l m Rc i o ((Fh l m).filter fun j=>not (Nat.beq j i))) then
        (bif Uf ((Fh l m).filter fun j=>not (Nat.beq j i)) Rc then (match ih (Nq m i) [] with | some p=>some ((i,.only) :: p) | none=>none) else
        (match ih (Nq m i) ((Fh l m).filter fun j=>not (Nat.beq j i)) with | some p=>some ((i,.make ((Fh l m).filter fun j=>not (Nat.beq j i))) :: p) | none=>none)) else none
       | none=>none))) f
def LN (l:List Oper):J0 (List (Nat×Pk)):=bif Region.noSelect l.toArray && l.all uW then Uh l l.length 0 [] else none
def LM (l:List Oper) (L:Array Bool) (m:Nat):Prop:=L.size=l.length∧∀ i,L.getD i false=Nat.testBit m i
theorem LM.in {l:List Oper} {L:Array Bool} {m:Nat} (h:LM l L m) {i:Nat} (hi:i<l.length):L.getD i true=Nat.testBit m i:=by
 rw [←h.2 i];have:i<L.size:=by rw [h.1];exact hi
 simp [this]
theorem LM.set {l:List Oper} {L:Array Bool} {m i:Nat} (h:LM l L m) (hi:i<l.length):LM l (L.setIfInBounds i true) (Nq m i):=by
 refine ⟨by simp [h.1],fun j=>?_⟩;unfold Nq;rw [Nat.testBit_or,←h.2 j];have hsz:i<L.size:=by rw [h.1];exact hi
 by_cases e:i=j
 · subst e;have:(1 <<< i).testBit i=true:=by rw [Nat.testBit_shiftLeft];simp
   rw [this,Bool.or_true];simp [hsz]
 have:(1 <<< i).testBit j=false:=by rw [Nat.one_shiftLeft,Nat.testBit_two_pow_of_ne e]
 rw [this,rH,gJ,gJ,iN e]
theorem LM.start (l:List Oper):LM l (Array.replicate l.length false) 0:=by
 refine ⟨by simp,fun i=>?_⟩;rw [Nat.zero_testBit,gJ,Array.getElem?_replicate];split <;> rfl
theorem Qi {l:List Oper} {L:Array Bool} {m j:Nat} {o:Oper} (h:LM l L m) (hj:l[j]?=some o):PD m j o=true↔j∈Region.ready .any l.toArray L:=by
 have hlt:j<l.length:=(aW.1 hj).1;rw [fX];unfold PD;rw [aF,eW,xC,h.in hlt];have hj':l.toArray[j]?=some o:=by simpa using hj
 refine ⟨fun ⟨h1,h2⟩=>⟨h1,o,hj',fun e he hb=>?_⟩,fun ⟨h1,o',ho',h2⟩=>⟨h1,fun x hx=>?_⟩⟩
 · rw [h.2];exact h2 e.on (cT.2 ⟨e,iM.2 ⟨lJ.2 he,hb⟩,U⟩)
 rw [hj'] at ho';cases ho';obtain ⟨e,he,rfl⟩:=cT.1 hx;obtain ⟨he1,he2⟩:=iM.1 he;rw [←h.2];exact h2 e (lJ.1 he1) he2
theorem Ui {o:Oper} {i:Nat}:Uc o i=true↔∃ e∈o.after,Region.binds .any e=true∧e.on=i:=by
 unfold Uc;rw [Ub];refine ⟨fun ⟨x,hx,hb⟩=>?_,fun ⟨e,he,hb,hi⟩=>⟨i,cT.2 ⟨e,iM.2 ⟨lJ.2 he,hb⟩,hi⟩,by simp⟩⟩;have:=aJ hb;subst this;obtain ⟨e,he,rfl⟩:=cT.1 hx;obtain ⟨he1,he2⟩:=iM.1 he;exact ⟨e,lJ.1 he1,he2,U⟩
def Uj (R:List Nat) (L:Array Bool):Array Bool:=R.foldr (fun j L=>L.setIfInBounds j true) L
structure F2 (l:List Oper) (L:Array Bool) (Rc:List Nat) (i:Nat) (R:List Nat):Prop where
 rd:i∈Region.ready .any l.toArray L
 sub:∀ k∈Rc,k=i∨k∈R
 ni:i ∉ R
 mks:∀ j∈R,∃ oj,l[j]?=some oj∧Ud oj=true∧L.getD j true=false∧(∀ o,l[i]?=some o→oj.apart l.toArray o=true)∧∀ k∈R,k≠j→∀ ok,l[k]?=some ok→oj.apart l.toArray ok=true
 only:∀ j,j∈Region.ready .any l.toArray (Uj R L)→j=i
def C8 (l:List Oper):Array Bool→List Nat→List (Nat×Pk)→Prop
 | L,Rc,[]=>Region.ready .any l.toArray L=[]∧Rc=[]
 | L,Rc,(i,.look) :: p=>(∃ o,l[i]?=some o∧Fe o.op=true∧i∈Region.ready .any l.toArray L∧∀ j oj,l.toArray[j]?=some oj→j≠i→L.getD j true=false→(∀ e∈oj.after,Region.binds .any e=true→e.on≠i)→o.apart l.toArray oj=true)∧C8 l (L.setIfInBounds i true) Rc p
 | L,Rc,(i,.only) :: p=>Rc=[]∧(∃ o,l[i]?=some o∧i∈Region.ready .any l.toArray L∧∀ j∈Region.ready .any l.toArray L,j=i)∧C8 l (L.setIfInBounds i true) [] p
 | L,Rc,(i,.race R) :: p=>F2 l L Rc i R∧(∃ o,l[i]?=some o∧o.guard=none∧VW o.op=false)∧C8 l (L.setIfInBounds i true) R p
 | L,Rc,(i,.make R) :: p=>F2 l L Rc i R∧(∃ o,l[i]?=some o∧Ud o=true)∧C8 l (L.setIfInBounds i true) R p
theorem Fb {l:List Oper} {i:Nat} {p:Oper→Bool} (h:Ue l i p=true):∃ o,l[i]?=some o∧p o=true:=by
 unfold Ue at h;split at h
 · rename_i o ho;exact ⟨o,by rw [←Ab];exact ho,h⟩
 cases h
theorem FO {R:List Nat} {i:Nat}:ZX R i=true↔i∈R:=by
 unfold ZX;rw [Ub];exact ⟨fun ⟨x,h1,h2⟩=>by rw [aJ h2];exact h1,fun h=>⟨i,h,by simp⟩⟩
theorem LO {l:List Oper}:∀ {R:List Nat} {L:Array Bool} {m:Nat},LM l L m→(∀ j∈R,j<l.length)→LM l (Uj R L) (nq R m)
 | [],_,_,h,_=>h
 | j :: R,_,_,h,hr=>(LO h fun k hk=>hr k (aL _ hk)).set (hr j (aQ ..))
theorem FP {l:List Oper} {m:Nat} {L:Array Bool} {Rc R:List Nat} {i:Nat} {o:Oper} (hL:LM l L m) (ho:l[i]?=some o) (h:Ye l m Rc i o R=true):F2 l L Rc i R:=by
 unfold Ye at h;simp only [aF] at h;obtain ⟨⟨h1,h2⟩,⟨h3,h4⟩,h5⟩:=h;have hmk:∀ j∈R,∃ oj,l[j]?=some oj∧Ud oj=true∧Nat.testBit m j=false∧oj.apart l.toArray o=true∧∀ k∈R,k≠j→∀ ok,l[k]?=some ok→oj.apart l.toArray ok=true:=fun j hj=>by
  have:=xC.1 h4 j hj;obtain ⟨oj,e1,e2⟩:=Fb this;simp only [aF,eW] at e2;obtain ⟨⟨e3,e4⟩,e5,e6⟩:=e2;refine ⟨oj,e1,e3,e4,e5,fun k hk hne ok hok=>?_⟩;have:=xC.1 e6 k hk;simp only [kP] at this;rcases this with h | h
  · exact absurd (aJ h) hne
  obtain ⟨ok',e7,e8⟩:=Fb h;rw [hok] at e7;cases e7;exact e8
 have hlt:∀ j∈R,j<l.length:=fun j hj=>by obtain ⟨oj,e1,_⟩:=hmk j hj;exact (aW.1 e1).1
 refine ⟨(Qi hL ho).1 h1,fun k hk=>?_,fun hi=>?_,fun j hj=>?_,fun j hj=>?_⟩
 · have:=xC.1 h2 k hk;simp only [kP] at this;exact this.imp aJ FO.1
 · rw [FO.2 hi] at h3;cases h3
 · obtain ⟨oj,e1,e2,e3,e4,e5⟩:=hmk j hj;exact ⟨oj,e1,e2,by rw [hL.in (hlt j hj)];exact e3,fun o' ho'=>by rw [ho] at ho';cases ho';exact e4,e5⟩
 obtain ⟨_,oj,hoj,_⟩:=fX.1 hj;have hoj':l[j]?=some oj:=by simpa using hoj
 have:=BG h5 j oj hoj';rw [cP,(Qi (LO hL hlt) hoj').2 hj] at this;simp only [Bool.not_true,rH] at this;exact aJ this
theorem VX {l:List Oper}:∀ {f m:Nat} {L:Array Bool} {Rc:List Nat} {p:List (Nat×Pk)},LM l L m→Uh l f m Rc=some p→C8 l L Rc p∧p.length=f:=by
 intro f;induction f with
 | zero =>
   intro m L Rc p hL h;have h':(bif PE (fun j o=>not (PD m j o)) l 0 then (bif Uf [] Rc then some [] else none) else none)=some p:=h;rcases tA h' with ⟨h1,h2⟩ | ⟨_,h2⟩
   · rcases tA h2 with ⟨h3,h2⟩ | ⟨_,h2⟩
     · obtain ⟨_,rfl⟩:=Ug h3;cases h2;refine ⟨⟨iS.2 fun j hj=>?_,U⟩,U⟩;obtain ⟨_,o,ho,_⟩:=fX.1 hj;have ho':l[j]?=some o:=by simpa using ho
       have:=BG h1 j o ho';rw [cP,(Qi hL ho').2 hj] at this;cases this
     cases h2
   · cases h2
 | succ f ih =>
   intro m L Rc p hL h;have h':(match Ot (fun i o=>Fe o.op && (PD m i o && frB l.toArray m i o l)) l 0 with
    | some i=>(match Uh l f (Nq m i) Rc with | some p=>some ((i,.look) :: p) | none=>none)
    | none=>(match Ot (fun i o=>PD m i o && not (Ud o)) l 0 with
      | some i=>bif Ue l i (fun o=>Ye l m Rc i o ((Fh l m).filter fun j=>not (Nat.beq j i))) then
       (bif Uf ((Fh l m).filter fun j=>not (Nat.beq j i)) Rc then (match Uh l f (Nq m i) [] with | some p=>some ((i,.only) :: p) | none=>none) else
       bif Ue l i (fun o=>not (VW o.op) && (match o.guard with | none=>true | some _=>false)) then (match Uh l f (Nq m i) ((Fh l m).filter fun j=>not (Nat.beq j i)) with | some p=>some ((i,.race ((Fh l m).filter fun j=>not (Nat.beq j i))) :: p) | none=>none) else none) else none
      | none=>(match Ot (PD m) l 0 with
        | some i=>bif Ue l i (fun o=>Ud o && Ye l m Rc i o ((Fh l m).filter fun j=>not (Nat.beq j i))) then
         (bif Uf ((Fh l m).filter fun j=>not (Nat.beq j i)) Rc then (match Uh l f (Nq m i) [] with | some p=>some ((i,.only) :: p) | none=>none) else
         (match Uh l f (Nq m i) ((Fh l m).filter fun j=>not (Nat.beq j i)) with | some p=>some ((i,.make ((Fh l m).filter fun j=>not (Nat.beq j i))) :: p) | none=>none)) else none
        | none=>none)))=some p:=h
   have lt:∀ {i:Nat} {o:Oper},l[i]?=some o→i<l.length:=fun h=>(aW.1 h).1;have one:∀ {i:Nat} {o:Oper},l[i]?=some o→F2 l L [] i []→(∃ o,l[i]?=some o∧i∈Region.ready .any l.toArray L∧∀ j∈Region.ready .any l.toArray L,j=i):=fun ho hr=>⟨_,ho,hr.rd,hr.only⟩
   split at h'
   · rename_i i hi;obtain ⟨k,o,rfl,ho,hp⟩:=VV hi;rw [cP] at *;simp only [aF] at hp;split at h'
     · rename_i q hq;cases h';obtain ⟨e1,e2⟩:=ih (hL.set (lt ho)) hq;refine ⟨⟨⟨o,ho,hp.1,(Qi hL ho).1 hp.2.1,fun j oj hj hne hun hno=>?_⟩,e1⟩,by rw [aU,e2]⟩;have hj':l[j]?=some oj:=by simpa using hj
       have:=BG hp.2.2 j oj hj';rw [cP] at this;simp only [kP] at this;rcases this with h1 | h1 | h1 | h1
       · exact absurd (aJ h1) hne
       · rw [hL.in (lt hj')] at hun;rw [hun] at h1;cases h1
       · obtain ⟨e,he,hb,hi⟩:=Ui.1 h1;exact absurd hi (hno e he hb)
       exact h1
     cases h'
   split at h'
   · rename_i i hi;rcases tA h' with ⟨h1,h2⟩ | ⟨_,h2⟩
     · obtain ⟨o,ho,hr⟩:=Fb h1;generalize ((Fh l m).filter fun j=>not (Nat.beq j i))=R at hr h2;have hro:=FP hL ho hr;rcases tA h2 with ⟨h3,h2⟩ | ⟨_,h2⟩
       · obtain ⟨rfl,rfl⟩:=Ug h3;split at h2
         · rename_i q hq;cases h2;obtain ⟨e1,e2⟩:=ih (hL.set (lt ho)) hq;exact ⟨⟨U,one ho hro,e1⟩,by rw [aU,e2]⟩
         cases h2
       rcases tA h2 with ⟨h3,h4⟩ | ⟨_,h4⟩
       · obtain ⟨o',ho',hg⟩:=Fb h3;split at h4
         · rename_i q hq;cases h4;obtain ⟨e1,e2⟩:=ih (hL.set (lt ho)) hq;rw [aF,eW] at hg;refine ⟨⟨hro,⟨o',ho',?_,hg.1⟩,e1⟩,by rw [aU,e2]⟩;cases hgd:o'.guard with
           | none=>rfl
           | some g=>rw [hgd] at hg;cases hg.2
         cases h4
       cases h4
     cases h2
   split at h'
   · rename_i i hi;rcases tA h' with ⟨h1,h2⟩ | ⟨_,h2⟩
     · obtain ⟨o,ho,hr⟩:=Fb h1;rw [aF] at hr;obtain ⟨hmk,hr⟩:=hr;generalize ((Fh l m).filter fun j=>not (Nat.beq j i))=R at hr h2;have hro:=FP hL ho hr;rcases tA h2 with ⟨h3,h2⟩ | ⟨_,h2⟩
       · obtain ⟨rfl,rfl⟩:=Ug h3;split at h2
         · rename_i q hq;cases h2;obtain ⟨e1,e2⟩:=ih (hL.set (lt ho)) hq;exact ⟨⟨U,one ho hro,e1⟩,by rw [aU,e2]⟩
         cases h2
       split at h2
       · rename_i q hq;cases h2;obtain ⟨e1,e2⟩:=ih (hL.set (lt ho)) hq;exact ⟨⟨hro,⟨o,ho,hmk⟩,e1⟩,by rw [aU,e2]⟩
       cases h2
     cases h2
   cases h'
theorem VY {l:List Oper} {p:List (Nat×Pk)} (h:LN l=some p):Region.noSelect l.toArray=true∧l.all uW=true∧C8 l (Array.replicate l.length false) [] p∧p.length=l.length:=by
 unfold LN at h;rcases tA h with ⟨h1,h2⟩ | ⟨_,h2⟩
 · rw [aF] at h1;obtain ⟨e1,e2⟩:=VX (LM.start l) h2;exact ⟨h1.1,h1.2,e1,e2⟩
 cases h2
def nr (P:I6) (op:Op) (ρ:Pl) (h:Tr CB) (nx:Nat) (a:Act) (c:CV) (h':Tr CB) (nx':Nat):Prop:=
 ∃ (b:CB) (s:Nat) (o:Obj) (V:Nat→Value),nx'=nx+1∧h'=h.set (some b) Fit nx∧nx+1≤Fit∧AS b=nx∧DB nx ρ s b o∧
  (∀ (ρ':Pl) (p:Nat),ρ' nx=(p,s)→Kn (nx+1) ρ' c (V p))∧
  ∀ (w:I8) (d:J0 Tmp) (ty:I9) (pos:String) (after:Array Edge) (g:J0 (Nat×Bool)),(execOp a.eval ⟨d,op,ty,pos,after,g⟩).run P w=.ok (.value (V w.heap.size)) (w.alloc o)
def ns:Op→J0 (List I7)
 | .alloc _=>some []
 | .box _ x=>some [x]
 | .makeSlice _ x y=>some [x,y]
 | .buildSlice _ _ parts=>some (parts.toList.map (·.2))
 | .makeMap _ none=>some []
 | _=>none
section
variable {P:I6} {nx n:Nat} {ρ:Pl} {E:Tr CV} {h:Tr CB} {a:Act}
theorem VZ (hs:B4 ρ E nx n a) {op:Op} {xs:List I7} (hx:ns op=some xs) {c:CV} {h':Tr CB} {nx':Nat} (hw:wm P E h nx op=.val c h' nx'):nr P op ρ h nx a c h' nx':=by
 have hv:wv P E h nx op=.val c h' nx'∨mv P E h nx op=.val c h' nx':=by
  unfold wm at hw;split at hw
  · exact .inr hw
  exact .inl hw
 cases op with
 | alloc T =>
   rcases hv with hv | hv
   · have hv':(match bh P T with | some z=>bif Nat.ble (Nat.succ nx) Fit then Ro.val (.ptr nx 0) (h.set (some (.cells (Vk z) T false nx)) Fit nx) (Nat.succ nx) else .bad | none=>.bad)=.val c h' nx':=hv;split at hv'
     · rename_i z hz;rcases tA hv' with ⟨hf,h1⟩ | ⟨_,h1⟩
       · cases h1;obtain ⟨i,v,hi,hv,kz⟩:=Tv hz nx ρ;refine ⟨_,v.cells.toList.length,.cells v.cells.toList.toArray T (0,0),fun p=>.pointer (some ⟨p,0,none⟩),U,U,tQ hf,U,yO kz T,fun ρ' p hρ=>⟨cR nx,?_⟩,fun w d ty pos after g=>?_⟩
         · show _=Value.pointer (some ⟨(ρ' nx).1,0,none⟩);rw [hρ]
         simp [execOp,Instr.alloc,newVar,newRow,zeroValue,typeInfo,hi,hv]
       cases h1
     cases hv'
   · cases hv
 | box T x =>
   rcases hv with hv | hv
   · have hv':(match vO E x with
      | some c=>match Do c with
        | some l=>bif Nat.ble (Nat.succ nx) Fit then Ro.val (.ptr nx 0) (h.set (some (.cells (Vk l) T false nx)) Fit nx) (Nat.succ nx) else .bad
        | none=>.bad
      | none=>.bad)=.val c h' nx':=hv
     split at hv'
     · rename_i c1 hc;split at hv'
       · rename_i l hl;rcases tA hv' with ⟨hf,h1⟩ | ⟨_,h1⟩
         · cases h1;obtain ⟨v,e1,k1⟩:=tD hs hc;have kz:=Ei k1 hl;refine ⟨_,v.cells.toList.length,.cells v.cells.toList.toArray T (0,0),fun p=>.pointer (some ⟨p,0,none⟩),U,U,tQ hf,U,yO kz T,fun ρ' p hρ=>⟨cR nx,?_⟩,fun w d ty pos after g=>?_⟩
           · show _=Value.pointer (some ⟨(ρ' nx).1,0,none⟩);rw [hρ]
           simp [execOp,Instr.box,newVar,newRow,yZ e1]
         cases h1
       cases hv'
     cases hv'
   · cases hv
 | makeSlice T x y =>
   rcases hv with hv | hv
   · have hv':(match VP P T with
      | some (e,sz,by',z)=>match vO E x with
        | some (.int _ n)=>match vO E y with
          | some (.int _ c)=>bif zY 0 n && (zY n c && (Nat.ble (Nat.mul by' c.toNat) 281474976710656 && (Nat.ble c.toNat 4611686018427387904 && Nat.ble (Nat.succ nx) Fit))) then
           Ro.val (.sl nx 0 n.toNat sz (some c.toNat)) (h.set (some (.cells (Vk (IG z c.toNat)) e false nx)) Fit nx) (Nat.succ nx) else .bad
          | _=>.bad
        | _=>.bad
      | none=>.bad)=.val c h' nx':=hv
     split at hv'
     · rename_i e sz by' z hz;split at hv'
       · rename_i k N hx;split at hv'
         · rename_i k' C hy;rcases tA hv' with ⟨hb,h1⟩ | ⟨_,h1⟩
           · cases h1;simp only [aF,wF,aO] at hb;obtain ⟨hb1,hb2,hb3,hb4,hb5⟩:=hb;have hb3:by'*C.toNat≤281474976710656:=tQ hb3;have hb4:=tQ hb4;obtain ⟨hu,i,zv,hi,hzv,hsz,hby,kz,hzl,h0⟩:=Np hz nx ρ;obtain ⟨v1,e1,k1⟩:=tD hs hx;obtain ⟨v2,e2,k2⟩:=tD hs hy;rw [iU.1 k1.2] at e1;rw [iU.1 k2.2] at e2;have hbc:(i.bytes:Int)*C≤281474976710656:=by
              have:((by'*C.toNat:Nat):Int)=(i.bytes:Int)*C:=by rw [kN,cN sU,hby]
              omega
             have hmade:madeCells zv.cells (C.toNat*i.size)=(List.replicate C.toNat zv.cells.toList).flatten.toArray:=by
              have:=Qg (zs:=zv.cells.toList) sU C.toNat;rw [hzl] at this;rw [hsz,←this]
             have hlen:(List.replicate C.toNat zv.cells.toList).flatten.length=C.toNat*sz:=by simp [←hzl]
             refine ⟨_,C.toNat*sz,.cells (List.replicate C.toNat zv.cells.toList).flatten.toArray e (0,0),fun p=>.slice (some ⟨p,0,none⟩) N.toNat C.toNat,U,U,tQ hb5,U,by rw [←hlen];exact yO (Pz kz C.toNat) e,fun ρ' p hρ=>⟨cR nx,?_⟩,fun w d ty pos after g=>?_⟩
             · refine kS.2 ⟨by rw [hρ],by rw [hρ];show 0+C.toNat*sz≤C.toNat*sz;omega,by omega,?_⟩;simp only [maxLen];omega
             have hrun:=run_make (P:=P) w T e i zv hu hi hzv k k' N C hb1 hb2 hbc sU;rw [hmade] at hrun;simp only [execOp,yZ e1,yZ e2,bK,hrun,aR,bO]
           cases h1
         cases hv'
       cases hv'
     cases hv'
   · cases hv
 | buildSlice T N parts =>
   obtain ⟨parts⟩:=parts;rcases hv with hv | hv
   · have hv':(match VP P T with
      | some (e,sz,_,z)=>bif Nat.ble 1 N && (Nat.ble (Nat.mul N sz) 16777216 && Nat.ble (Nat.succ nx) Fit) then
       (match Lj E (wJ N sz) (Nat.mul N sz) parts (IG z N) with
       | some l=>Ro.val (.sl nx 0 N sz (some N)) (h.set (some (.cells (Vk l) e false nx)) Fit nx) (Nat.succ nx)
       | none=>.bad) else .bad
      | none=>.bad)=.val c h' nx':=hv
     split at hv'
     · rename_i e sz by' z hz;rcases tA hv' with ⟨hb,h1⟩ | ⟨_,h1⟩
       · split at h1
         · rename_i l hl;cases h1;simp only [aF] at hb;obtain ⟨hu,i,zv,hi,hzv,hsz,hby,kz,hzl,h0⟩:=Np hz nx ρ;have kr:=Pz kz N;obtain ⟨vs,e1,o1,k1⟩:=Lk hs kr hl;have hN:=bD hb.1;have hNs:N*sz≤16777216:=bD hb.2.1;have hpos:0<N*sz:=Nat.mul_pos hN h0;have hlen:(List.replicate N zv.cells.toList).flatten.length=N*sz:=by simp [←hzl]
           have hf:=Jp (fun i=>some (i*sz,sz)) (wJ N sz) (fun i x h=>by
            simp only [wJ,bQ,fK] at h;obtain ⟨j,hj,rfl⟩:=h;obtain ⟨hlt,hj⟩:=aW.1 hj;simp at hj;subst hj;rfl) vs (List.replicate N zv.cells.toList).flatten (N*sz) hlen o1
           have hmade:((Array.range (N*i.size)).map (zv.cells[· % zv.cells.size]!))=(List.replicate N zv.cells.toList).flatten.toArray:=by
            have:=Qg (zs:=zv.cells.toList) sU N;rw [hzl] at this;simpa [madeCells,hsz] using this
           have hmm:(parts.toArray.map fun (i,x)=>(i,a.eval x))=vs.toArray:=by rw [←(lookN a (default:World)).parts e1];simp
           have hlenF:(Bg (wJ N sz) (List.replicate N zv.cells.toList).flatten vs).length=N*sz:=by
            rw [←uU k1,Yb hl (by rw [uU kr,hlen];exact aH _),uU kr,hlen]
           refine ⟨_,(Bg (wJ N sz) (List.replicate N zv.cells.toList).flatten vs).length,.cells (Bg (wJ N sz) (List.replicate N zv.cells.toList).flatten vs).toArray e (0,0),fun p=>.slice (some ⟨p,0,none⟩) N N,U,U,tQ hb.2.2,U,yO k1 e,fun ρ' p hρ=>⟨cR nx,?_⟩,fun w d ty pos after g=>?_⟩
           · refine kS.2 ⟨by rw [hρ],by rw [hρ,hlenF];omega,aH _,?_⟩;have:=Nat.le_mul_of_pos_right N h0;simp only [maxLen];omega
           have hrun:=run_buildSlice (P:=P) w T e N vs.toArray (Bg (wJ N sz) (List.replicate N zv.cells.toList).flatten vs).toArray i zv hu hi hzv BN BN (by rw [hmade,hsz];exact hf);simp only [execOp,hmm,bK,hrun,aR,bO]
         cases h1
       cases h1
     cases hv'
   · have hv':(bif Nat.beq N 0 && Nat.ble (Nat.succ nx) Fit then (match parts with
      | []=>(match BK P T with | some (e,sz)=>Ro.val (.sl nx 0 0 sz (some 0)) (h.set (some (.cells (Vk .nil) e false nx)) Fit nx) (Nat.succ nx) | none=>.bad)
      | _=>.bad) else .bad)=.val c h' nx':=hv
     rcases tA hv' with ⟨hb,h1⟩ | ⟨_,h1⟩
     · rw [aF] at hb;have hN:=aJ hb.1;subst hN;cases parts with
       | cons q qs=>cases h1
       | nil =>
         simp only at h1;split at h1
         · rename_i e sz hT;cases h1;have hT':=xH hT;refine ⟨_,0,.cells #[] e (0,0),fun p=>.slice (some ⟨p,0,none⟩) 0 0,U,U,tQ hb.2,U,yO (vs:=[]) nC e,fun ρ' p hρ=>⟨cR nx,?_⟩,fun w d ty pos after g=>?_⟩
           · refine kS.2 ⟨by rw [hρ],by rw [hρ];omega,aH _,by simp [maxLen]⟩
           simp [execOp,Instr.buildSlice,bB hT'.1,run_sizeOf w hT'.2,Instr.fill,newRow,show Array.range 0=#[] from nF tW]
         cases h1
     · cases h1
 | makeMap T o =>
   cases o with
   | some x=>cases hx
   | none =>
     rcases hv with hv | hv
     · cases hv
     · have hrun:∀ (w:I8) (d:J0 Tmp) (ty:I9) (pos:String) (after:Array Edge) (g:J0 (Nat×Bool)),(execOp a.eval ⟨d,.makeMap T none,ty,pos,after,g⟩).run P w=.ok (.value (.map (some w.heap.size))) (w.alloc (A4 ([]:List (Int×Int)))):=fun w d ty pos after g=>by
        simp only [execOp,kL,bK,Aa,aR,bO];rfl
       have hk:∀ (ρ':Pl) (p:Nat),ρ' nx=(p,0)→Kn (nx+1) ρ' (.mp nx) (.map (some p)):=fun ρ' p hρ=>⟨cR nx,by rw [DV.mp,hρ]⟩
       unfold mv wo at hv;rcases tA hv with ⟨hf,h1⟩ | ⟨_,h1⟩
       · rcases tA h1 with ⟨_,h2⟩ | ⟨_,h2⟩
         · cases h2;exact ⟨_,0,_,fun p=>.map (some p),U,U,tQ hf,U,U,hk,hrun⟩
         rcases tA h2 with ⟨_,h3⟩ | ⟨_,h3⟩
         · cases h3;exact ⟨_,0,_,fun p=>.map (some p),U,U,tQ hf,U,U,hk,hrun⟩
         cases h3
       · cases h1
 | _=>cases hx
end
inductive E5 where
 | code (c:Code) (n:Nat) (E:Tr CV) (h:Tr CB) (nx:Nat)
 | loop (c:Code) (n:Nat) (E:Tr CV) (h:Tr CB) (nx:Nat)
 | ops (all l:List Oper) (n:Nat) (E:Tr CV) (h:Tr CB) (nx:Nat)
 | one (o:Oper) (n:Nat) (E:Tr CV) (h:Tr CB) (nx:Nat)
 | call (f:Nat) (args:CV) (h:Tr CB) (nx:Nat)
 | round (t:Nat) (args:CV) (h:Tr CB) (nx:Nat)
 | reg (l:List Oper) (plan:List (Nat×Pk)) (pend:List (Nat×Nat×Nat)) (n:Nat) (E:Tr CV) (h:Tr CB) (nx:Nat)
inductive C6 where
 | bad (why:Nat) (at_:List Oper)
 | ok (x:Exit) (E:Tr CV) (h:Tr CB) (nx:Nat)
 | ret (v:CV) (h:Tr CB) (nx:Nat)
def qh (P:I6) (f:Nat):J0 Func:=match Ur P.funcs.toList f with
 | some fn => bif fn.name == "runtime.NumGoroutine" then none else some fn
 | none=>none
theorem fw {P : I6} {f : Nat} {fn : Func} (h : qh P f = some fn) : P.funcs[f]? = some fn ∧ (fn.name == "runtime.NumGoroutine") = false := by
 unfold qh at h;split at h
 · rename_i g hg;rcases tA h with ⟨_,h⟩ | ⟨h1,h⟩
   · cases h
   cases h;rw [Ab,qI] at hg;exact ⟨hg,h1⟩
 cases h
def FQ (l:CV):Nat→Tr CV→Tr CV:=lrec (fun _ E=>E) (fun a _ ih i E=>ih (Nat.succ i) (E.set (some a) Fit i)) l
def fx (P:I6) (E:Tr CV) (h:Tr CB):ResultVar→J0 CV
 | .tmp t=>E.get t
 | .cell t T=>qv P E h (.load T (.tmp t))
def fy (P:I6) (E:Tr CV) (h:Tr CB) (l:List ResultVar):J0 CV:=List.rec (some .nil) (fun x _ ih=>match fx P E h x with | some a=>(match ih with | some b=>some (.cons a b) | none=>none) | none=>none) l
def FR (P:I6) (E:Tr CV) (h:Tr CB) (l:List ResultVar):J0 CV:=match fy P E h l with
 | some (.cons a .nil)=>some a
 | some x=>some (.tup x)
 | none=>none
def Co (E:Tr CV) (n:Nat) (d:J0 Nat) (v:CV):J0 (Tr CV):=match d with
 | some d=>bif Nat.ble (Nat.succ d) n then some (E.set (some v) Fit d) else none
 | none=>some E
def gf (a b:Bool):Bool:=bif a then b else not b
def LP (ih:E5→C6) (E:Tr CV) (n:Nat) (h:Tr CB) (nx:Nat) (dst:J0 Nat):Op→C6
 | .call ⟨.value f,⟨args⟩,_⟩=>match vO E f with
   | some (.fn g fst cap)=>match OT E args with
     | some l=>(match ih (.call g (Eg fst (Eg l cap)) h nx) with
       | .ret v h nx=>(match Co E n dst v with | some E=>.ok .normal E h nx | none=>.bad 11 [])
       | .ok _ _ _ _=>.bad 12 []
       | r=>r)
     | none=>.bad 13 []
   | some (.yl t)=>match OT E args with
     | some l=>(match ih (.round t l h nx) with
       | .ret v h nx=>(match Co E n dst v with | some E=>.ok .normal E h nx | none=>.bad 51 [])
       | .ok _ _ _ _=>.bad 52 []
       | r=>r)
     | none=>.bad 53 []
   | _=>.bad 14 []
 | op => .bad 15 [⟨none, op, 0, "", #[], none⟩]
def il (l:List Oper) (E:Tr CV) (o:Oper):J0 Bool:=match o.guard with
 | none=>some true
 | some (j,want)=>match Dk l j with
   | some t=>match E.get t with
     | some (.bool b)=>some (gf b want)
     | some (.tup .nil)=>some false
     | _=>none
   | none=>none
def vP (o:Oper) (pend:List (Nat×Nat×Nat)):List (Nat×Nat×Nat):=List.rec [] (fun x _ ih=>bif not (Fe o.op) && Uc o x.2.1 then ih else x :: ih) pend
def Ou (h:Tr CB) (pend:List (Nat×Nat×Nat)):Bool:=Ln (fun x=>match h.get x.1 with | some b=>Nat.ble (Nat.succ (AS b)) x.2.2 | none=>false) pend
def LQ (c:Code):Bool:=
 Code.rec (motive:=fun _=>Bool) true (fun _ _ _=>true) (fun _ _ a b=>a && b) (fun _ _ _ a b=>a && b) (fun _ _ a=>a) (fun _ a=>a) (fun _ _ _ _ _ _=>false) (fun _=>true) (fun _ a=>a) (fun _=>true) (fun _=>true) true (fun _=>true) c
def qj (n:Nat) (ps:List Nat):CV→Tr CV→J0 (Tr CV):=List.rec (fun l E=>match l with | .nil=>some E | _=>none)
 (fun p _ ih l E=>match l with | .cons a b=>bif Nat.ble (Nat.succ p) n then ih b (E.set (some a) Fit p) else none | _=>none) ps
def PG:Exit→J0 (J0 Code)
 | .normal=>some none
 | .ret=>some (some .ret)
 | .exit id=>some (some (.exit id))
 | _=>none
def FS:LoopState→Bool | .ready=>true | _=>false
def BH:LoopState→Bool | .busy=>true | _=>false
abbrev zH:=List (Nat×(CV→J0 CV))
def wp (pr:zH) (f:Nat):J0 (CV→J0 CV):=List.rec none (fun x _ ih=>bif Nat.beq x.1 f then some x.2 else ih) pr
def wt (P:I6) (ih:E5→C6) (n:Nat) (E:Tr CV) (h:Tr CB) (nx:Nat) (a:Code) (b:Code):C6:=match ih (.code a n E h nx) with
 | .ok x E h nx=>(match x with
   | .normal=>ih (.code b n E h nx)
   | x=>.ok x E h nx)
 | r=>r
def wu (P:I6) (ih:E5→C6) (n:Nat) (E:Tr CV) (h:Tr CB) (nx:Nat) (c:I7) (a:Code) (b:Code):C6:=match vO E c with
 | some (.bool t)=>ih (.code (bif t then a else b) n E h nx)
 | _=>.bad 1 []
def ww (P:I6) (ih:E5→C6) (n:Nat) (E:Tr CV) (h:Tr CB) (nx:Nat) (id:Nat) (c:Code):C6:=match ih (.code c n E h nx) with
 | .ok x E h nx=>(match x with
   | .exit id'=>bif Nat.beq id' id then .ok .normal E h nx else .ok (.exit id') E h nx
   | x=>.ok x E h nx)
 | r=>r
def wx (P:I6) (ih:E5→C6) (n:Nat) (E:Tr CV) (h:Tr CB) (nx:Nat) (c:Code):C6:=match ih (.code c n E h nx) with
 | .ok x E h nx=>(match x with
   | .normal=>.ok .normal E h nx
   | .ret=>.ok .ret E h nx
   | .exit id=>.ok (.exit id) E h nx
   | _=>.bad 22 [])
 | r=>r
def wy (P:I6) (ih:E5→C6) (n:Nat) (E:Tr CV) (h:Tr CB) (nx:Nat) (g:I7) (ps:List Nat) (asg:Code) (body:Code):C6:=match vO E g with
 | some (.fn f .nil cap)=>bif Nat.ble (Nat.succ nx) Fit then
   (match ih (.call f (.cons (.yl nx) cap) (h.set (some (.lp E n ps asg body .ready none nx)) Fit nx) (Nat.succ nx)) with
   | .ret _ h' nx'=>(match h'.get nx with
     | some (.lp _ _ _ _ _ st p _)=>bif BH st || not (Nat.ble (Nat.succ nx') Fit) then .bad 41 [] else
       (match p with
       | none=>.ok .normal E (h'.set none Fit nx) (Nat.succ nx')
       | some c=>ih (.code c n E (h'.set none Fit nx) (Nat.succ nx')))
     | _=>.bad 42 [])
   | .ok _ _ _ _=>.bad 43 []
   | r=>r) else .bad 44 []
 | _=>.bad 45 []
def nt (P:I6) (ih:E5→C6) (n:Nat) (E:Tr CV) (h:Tr CB) (nx:Nat) (l:List Oper):C6:=bif P.follows .mixedOrders then (match LN l with
 | some p=>ih (.reg l p [] n E h nx)
 | none=>.bad 23 l) else .bad 24 []
def nu (P:I6) (ih:E5→C6) (n:Nat) (E:Tr CV) (h:Tr CB) (nx:Nat) (l:List Oper):C6:=bif l.all uW then ih (.ops l l n E h nx) else .bad 2 []
def stC (P:I6) (ih:E5→C6) (n:Nat) (E:Tr CV) (h:Tr CB) (nx:Nat):Code→C6
 | .skip=>.ok .normal E h nx
 | .label _=>.ok .normal E h nx
 | .exit id=>.ok (.exit id) E h nx
 | .ret=>.ok .ret E h nx
 | .seq a b=>wt P ih n E h nx a b
 | .cond c a b=>wu P ih n E h nx c a b
 | .block id c=>ww P ih n E h nx id c
 | .scope c=>wx P ih n E h nx c
 | .rangeFunc g ⟨ps⟩ asg body=>wy P ih n E h nx g ps asg body
 | .loop c=>ih (.loop c n E h nx)
 | .region _ ⟨l⟩ true=>nt P ih n E h nx l
 | .region _ ⟨l⟩ false=>nu P ih n E h nx l
 | _=>.bad 3 []
def stG (ih:E5→C6) (all:List Oper) (o:Oper) (rest:List Oper) (n:Nat) (E:Tr CV) (h:Tr CB) (nx:Nat) (j:Nat) (want:Bool):C6:=
 (match Dk all j with
  | some t=>(match E.get t with
    | some (.bool b)=>bif gf b want then
     (match ih (.one o n E h nx) with
     | .ok x E h nx=>ih (.ops all rest n E h nx)
     | r=>r)
      else (match Co E n o.dst (.tup .nil) with | some E=>ih (.ops all rest n E h nx) | none=>.bad 4 [])
    | some (.tup .nil)=>(match Co E n o.dst (.tup .nil) with | some E=>ih (.ops all rest n E h nx) | none=>.bad 4 [])
    | _=>.bad 5 [])
  | none=>.bad 6 [])
def nv (P:I6) (pr:zH) (ih:E5→C6) (c:Code) (n:Nat) (E:Tr CV) (h:Tr CB) (nx:Nat):C6:=match ih (.code c n E h nx) with
 | .ok x E h nx=>(match x with
   | .normal=>ih (.loop c n E h nx)
   | x=>.ok x E h nx)
 | r=>r
def ny (P:I6) (pr:zH) (ih:E5→C6) (all:List Oper) (l:List Oper) (n:Nat) (E:Tr CV) (h:Tr CB) (nx:Nat):C6:=match l with
 | []=>.ok .normal E h nx
 | o :: rest=>match o.guard with
   | none=>(match ih (.one o n E h nx) with
     | .ok x E h nx=>ih (.ops all rest n E h nx)
     | r=>r)
   | some (j,want)=>stG ih all o rest n E h nx j want
def nz (P:I6) (pr:zH) (ih:E5→C6) (o:Oper) (n:Nat) (E:Tr CV) (h:Tr CB) (nx:Nat):C6:=match qv P E h o.op with
 | some c=>(match Co E n o.dst c with | some E=>.ok .normal E h nx | none=>.bad 7 [])
 | none=>match wm P E h nx o.op with
   | .val c h nx=>(match Co E n o.dst c with | some E=>.ok .normal E h nx | none=>.bad 8 [])
   | .unit h nx=>(match o.dst with | none=>.ok .normal E h nx | some _=>.bad 10 [])
   | .bad=>LP ih E n h nx o.dst o.op
def yP (l:List Oper) (R:List Nat) (E:Tr CV):Tr CV:=List.rec E (fun j _ ih=>match Dk l j with | some d=>ih.set none Fit d | none=>ih) R
def Yf (P:I6) (l:List Oper) (R:List Nat) (n:Nat) (E:Tr CV) (h:Tr CB) (nx:Nat):Bool:=
 Ln (fun j=>Ue l j fun o=>(match o.dst with | some d=>Nat.ble (Nat.succ d) n | none=>false) && (match wm P E h nx o.op with | .val _ _ _=>true | _=>false)) R
def oe (P:I6) (pr:zH) (ih:E5→C6) (l:List Oper) (plan:List (Nat×Pk)) (pend:List (Nat×Nat×Nat)) (n:Nat) (E:Tr CV) (h:Tr CB) (nx:Nat):C6:=match plan with
 | []=>.ok .normal E h nx
 | (i,.look) :: plan=>match Ur l i with
   | some o=>(match il l E o with
     | some g=>(bif g then (match qv P E h o.op with
      | some c=>(match Co E n o.dst c with
        | some E'=>ih (.reg l plan (match WG E o.op with | some t=>(t,i,nx) :: pend | none=>pend) n E' h nx)
        | none=>.bad 25 [o])
      | none=>.bad 26 [o])
      else (match Co E n o.dst (.tup .nil) with | some E=>ih (.reg l plan pend n E h nx) | none=>.bad 27 [o]))
     | none=>.bad 30 [o])
   | none=>.bad 31 []
 | (i,.only) :: plan=>match Ur l i with
   | some o=>(match il l E o with
     | some g=>(bif g then (match ih (.one o n E h nx) with
      | .ok _ E h nx=>bif Ou h (vP o pend) then ih (.reg l plan (vP o pend) n E h nx) else .bad 28 [o]
      | r=>r)
      else (match Co E n o.dst (.tup .nil) with | some E=>ih (.reg l plan (vP o pend) n E h nx) | none=>.bad 29 [o]))
     | none=>.bad 30 [o])
   | none=>.bad 31 []
 | (i,.race R) :: plan=>match Ur l i with
   | some o=>bif Yf P l R n (yP l R E) h nx then (match ih (.one o n (yP l R E) h nx) with
    | .ok _ E h nx=>bif Ou h (vP o pend) then ih (.reg l plan (vP o pend) n E h nx) else .bad 28 [o]
    | r=>r) else .bad 32 [o]
   | none=>.bad 31 []
 | (i,.make R) :: plan=>match Ur l i with
   | some o=>bif Yf P l R n (yP l R E) h nx then (match wm P (yP l R E) h nx o.op with
    | .val c h nx=>(match Co (yP l R E) n o.dst c with | some E=>ih (.reg l plan (vP o pend) n E h nx) | none=>.bad 33 [o])
    | _=>.bad 34 [o]) else .bad 35 [o]
   | none=>.bad 31 []
def og (P:I6) (pr:zH) (ih:E5→C6) (t:Nat) (args:CV) (h:Tr CB) (nx:Nat):C6:=match h.get t with
 | some (.lp E n ps asg body st _ _)=>bif FS st && (LQ asg && (LQ body && Nat.ble n 100000)) then
   (match qj n ps args E with
   | some E1=>match ih (.code asg n E1 h nx) with
     | .ok .normal E2 h2 nx2=>(match h2.get t with
       | some (.lp E0 n0 ps0 as0 body0 st0 p0 _)=>bif FS st0 && Nat.ble (Nat.succ nx2) Fit then
         (match ih (.code body n E2 (h2.set (some (.lp E0 n0 ps0 as0 body0 .busy p0 nx2)) Fit t) (Nat.succ nx2)) with
         | .ok x _ h3 nx3=>(match h3.get t with
           | some (.lp E4 n4 ps4 as4 body4 _ _ _)=>bif Nat.ble (Nat.succ nx3) Fit then
             (match PG x with
             | some none=>.ret (.bool true) (h3.set (some (.lp E4 n4 ps4 as4 body4 .ready none nx3)) Fit t) (Nat.succ nx3)
             | some (some c)=>.ret (.bool false) (h3.set (some (.lp E4 n4 ps4 as4 body4 .done (some c) nx3)) Fit t) (Nat.succ nx3)
             | none=>.bad 46 []) else .bad 47 []
           | _=>.bad 48 [])
         | .ret _ _ _=>.bad 49 []
         | r=>r) else .bad 50 []
       | _=>.bad 54 [])
     | .ok _ _ _ _=>.bad 55 []
     | .ret _ _ _=>.bad 56 []
     | r=>r
   | none=>.bad 57 []) else .bad 58 []
 | _=>.bad 59 []
def oh (P:I6) (pr:zH) (ih:E5→C6) (f:Nat) (args:CV) (h:Tr CB) (nx:Nat):C6:=match wp pr f with
 | some g=>(match g args with | some v=>.ret v h nx | none=>.bad 60 [])
 | none=>match qh P f with
 | some fn=>(match fn.body with
   | some c=>bif Nat.ble (uK args) fn.ntmps && Nat.ble fn.ntmps 100000 then (match ih (.code c fn.ntmps (FQ args 0 .e) h nx) with
     | .ok x E h nx=>(match x with
       | .normal=>(match FR P E h fn.results.toList with | some v=>.ret v h nx | none=>.bad 16 [])
       | .ret=>(match FR P E h fn.results.toList with | some v=>.ret v h nx | none=>.bad 16 [])
       | _=>.bad 17 [])
     | .ret _ _ _=>.bad 18 []
     | r=>r) else .bad 19 []
   | none=>.bad 20 [])
 | none=>.bad 21 []
def step (P:I6) (pr:zH) (ih:E5→C6):E5→C6
 | .code c n E h nx=>stC P ih n E h nx c
 | .loop c n E h nx=>nv P pr ih c n E h nx
 | .ops all l n E h nx=>ny P pr ih all l n E h nx
 | .one o n E h nx=>nz P pr ih o n E h nx
 | .reg l plan pend n E h nx=>oe P pr ih l plan pend n E h nx
 | .round t args h nx=>og P pr ih t args h nx
 | .call f args h nx=>oh P pr ih f args h nx
def run (P:I6) (pr:zH) (fuel:Nat):E5→C6:=Nat.rec (fun _=>.bad 0 []) (fun _ ih=>step P pr ih) fuel
structure Nx (ρ:Pl) (h:Tr CB) (nx:Nat) (w:World) (ρ':Pl) (h':Tr CB) (nx':Nat) (w':World):Prop where
 le:nx≤nx'
 fit:nx'≤Fit
 ext:F8 nx ρ ρ'
 old:Ya ρ h nx w ρ' h' w'
theorem Nx.refl {ρ:Pl} {h:Tr CB} {nx:Nat} {w:I8} (hf:nx≤Fit):Nx ρ h nx w ρ h nx w:=⟨aH _,hf,gA _ _,mZ⟩
theorem Nx.trans {Φ:A2→Prop} {w0:E7 Φ} {ρ ρ' ρ2:Pl} {h h' h2:Tr CB} {nx nx' nx2:Nat} {w w' w2:I8} (hm:Mem ρ w0 h nx w) (a:Nx ρ h nx w ρ' h' nx' w') (b:Nx ρ' h' nx' w' ρ2 h2 nx2 w2):Nx ρ h nx w ρ2 h2 nx2 w2:=
 ⟨bP a.le b.le,b.fit,a.ext.trans b.ext a.le,a.old.trans hm b.old a.le a.ext⟩
def PI (l:List Oper) (i j:Nat):Prop:=∃ o,l[j]?=some o∧Fe o.op=false∧Uc o i=true
def CP (l:List Oper) (cs:List (Nat×Nat×Obj)) (L:Array Bool) (w:I8):Prop:=∀ x∈cs,(∀ j,PI l x.1 j→L.getD j false=false)→w.heap[x.2.1]?=some x.2.2
def ZY (l:List Oper) (L:Array Bool):Prop:=∀ j o,l[j]?=some o→L.getD j false=true→∀ e∈o.after,Region.binds .any e=true→L.getD e.on false=true
def E8 (l:List Oper) (L:Array Bool) (ρ:Pl) (w:I8) (nx:Nat) (pend:List (Nat×Nat×Nat)) (cs:List (Nat×Nat×Obj)):Prop:=
 ∀ x∈cs,(∃ j,PI l x.1 j∧L.getD j false=true)∨∃ t bound,(t,x.1,bound)∈pend∧t<nx∧(ρ t).1=x.2.1∧bound≤nx∧w.heap[x.2.1]?=some x.2.2
theorem E8.cp {l:List Oper} {L:Array Bool} {ρ:Pl} {w:I8} {nx:Nat} {pend:List (Nat×Nat×Nat)} {cs:List (Nat×Nat×Obj)} (h:E8 l L ρ w nx pend cs):CP l cs L w:=fun x hx hw=>by
 rcases h x hx with ⟨j,h1,h2⟩ | ⟨t,b,_,_,_,_,h3⟩
 · rw [hw j h1] at h2;cases h2
 exact h3
structure D8 where
 j:Nat
 p:Nat
 o:Obj
 V:Nat→Value
structure EOk (P:Program) (l:List Oper) (ρ:Pl) (h:Tr CB) (a:Act) (w ws:World) (e:D8):Prop where
 ex:∃ oj d,l[e.j]?=some oj∧Ud oj=true∧oj.dst=some d∧a.tmps[d]?=some (e.V e.p)∧∀ w2,(execOp a.eval oj).run P w2=.ok (.value (e.V w2.heap.size)) (w2.alloc e.o)
 lt:e.p<w.heap.size
 at_:w.heap[e.p]?=some e.o
 ge:ws.heap.size≤e.p
 un:∀ t b,h.get t=some b→(ρ t).1≠e.p
structure LR (L:Array Bool) (S:List D8) (Lm:Array Bool):Prop where
 size:Lm.size=L.size
 iff:∀ j,Lm.getD j false=true↔(L.getD j false=true∨∃ e∈S,e.j=j)
 un:∀ e∈S,L.getD e.j true=false
structure RI {Φ:A2→Prop} (P:Program) (l:List Oper) (n:Nat) (E:Tr CV) (h:Tr CB) (nx:Nat) (pend:List (Nat×Nat×Nat)) (ρ ρs:Pl) (w0:E7 Φ) (a:Act) (w ws:World) (hs:Tr CB) (Lp:Nat) (L Lm:Array Bool) (Rc:List Nat) (S:List D8) (cs:List (Nat×Nat×Obj)):Prop where
 rel:F0 ρ w0 n E h nx a w
 lr:LR L S Lm
 down:ZY l Lm
 sub:∀ e∈S,e.j∈Rc
 ndj:(S.map (·.j)).Nodup
 ndp:(S.map (·.p)).Nodup
 eok:∀ e∈S,EOk P l ρ h a w ws e
 pend:E8 l Lm ρ w nx pend cs
 ms:Mem ρs w0 hs Lp ws
 nxb:Nx ρs hs Lp ws ρ h nx w
def H8 (d:J0 Nat) (a a':Act):Prop:=∀ i,d≠some i→a'.tmps[i]?=a.tmps[i]?
def tG (P:I6) (Φ:A2→Prop):E5→C6→Prop
 | .code c n E h nx,.ok x E' h' nx'=>∀ (r:J0 Nat) (ρ:Pl) (w0:E7 Φ) (a:Act) (w:I8),F0 ρ w0 n E h nx a w→nx≤Fit→n≤100000→(r=none∨LQ c=true)→
  ∀ Q:Exit→Act→I8→Prop,(∀ ρ' a' w',Nx ρ h nx w ρ' h' nx' w'→F0 ρ' w0 n E' h' nx' a' w'→Q x a' w')→c.wpIn (FF r) 0 P Q a w
 | .loop c n E h nx,.ok x E' h' nx'=>∀ (r:J0 Nat) (ρ:Pl) (w0:E7 Φ) (a:Act) (w:I8),F0 ρ w0 n E h nx a w→nx≤Fit→n≤100000→(r=none∨LQ c=true)→
  ∀ Q:Exit→Act→I8→Prop,(∀ ρ' a' w',Nx ρ h nx w ρ' h' nx' w'→F0 ρ' w0 n E' h' nx' a' w'→Q x a' w')→GW r P c Q a w
 | .ops all l n E h nx,.ok x E' h' nx'=>x=.normal∧∀ (ρ:Pl) (w0:E7 Φ) (a:Act) (w:I8),F0 ρ w0 n E h nx a w→nx≤Fit→n≤100000→
  ∀ K:Act→I8→Prop,(∀ ρ' a' w',Nx ρ h nx w ρ' h' nx' w'→F0 ρ' w0 n E' h' nx' a' w'→K a' w')→uG P all.toArray l a w K
 | .one o n E h nx,.ok x E' h' nx'=>x=.normal∧∀ (ρ:Pl) (w0:E7 Φ) (a:Act) (w:I8),F0 ρ w0 n E h nx a w→nx≤Fit→n≤100000→
  ∀ K:Act→I8→Prop,(∀ ρ' a' w',Nx ρ h nx w ρ' h' nx' w'→F0 ρ' w0 n E' h' nx' a' w'→H8 o.dst a a'→K a' w')→An P o a w K
 | .call f args h nx,.ret v h' nx'=>vF P f∧∀ (ρ:Pl) (w0:E7 Φ) (w:I8) (vs:List Value),Mem ρ w0 h nx w→KL nx ρ args vs→nx≤Fit→
  Calls P f vs.toArray w (fun e w'=>∃ u ρ',e=.returned u∧Nx ρ h nx w ρ' h' nx' w'∧Kn nx' ρ' v u∧Mem ρ' w0 h' nx' w')
 | .round t args h nx,.ret v h' nx'=>∀ (ρ:Pl) (w0:E7 Φ) (w:I8) (vs:List Value),Mem ρ w0 h nx w→KL nx ρ args vs→nx≤Fit→
  ∃ f tmps assign body,(Instr.yield (ρ t).1 vs.toArray).run P w=.ok (.round (ρ t).1 f tmps assign body) w∧
   RoundIn Fence.wide 0 P (ρ t).1 f tmps assign body w (fun e w'=>∃ u ρ',e=.returned u∧Nx ρ h nx w ρ' h' nx' w'∧Kn nx' ρ' v u∧Mem ρ' w0 h' nx' w')
 | .reg l plan pend n E h nx,.ok x E' h' nx'=>x=.normal∧∀ (ρ ρs:Pl) (w0:E7 Φ) (a:Act) (w ws:I8) (hs:Tr CB) (Lp:Nat) (L Lm:Array Bool) (Rc:List Nat) (S:List D8) (cs:List (Nat×Nat×Obj)) (f:Nat),RI P l n E h nx pend ρ ρs w0 a w ws hs Lp L Lm Rc S cs→nx≤Fit→n≤100000→
  Region.noSelect l.toArray=true→C8 l L Rc plan→plan.length=f+S.length→
  ∀ K:Act→I8→Prop,(∀ ρ' a' w',Nx ρs hs Lp ws ρ' h' nx' w'→F0 ρ' w0 n E' h' nx' a' w'→K a' w')→gm P l.toArray K (CP l cs) f Lm a w
 | _,.bad _ _=>True
 | _,_=>False
section
variable {P:I6} {Φ:A2→Prop} {pr:zH} {nx nx' n:Nat} {ρ ρ':Pl} {w0:E7 Φ} {w w':I8} {E:Tr CV} {h h':Tr CB} {a:Act}
theorem B4.up (hs:B4 ρ E nx n a) (hn:nx≤nx') (he:F8 nx ρ ρ'):B4 ρ' E nx' n a:=⟨hs.1,fun i x hx=>by
 obtain ⟨v,h1,h2⟩:=hs.2 i x hx;exact ⟨v,h1,h2.up hn he⟩⟩
theorem xE (hs:B4 ρ E nx n a) {d:J0 Nat} {c:CV} {v:Value} {E':Tr CV} (hn:n≤100000) (hp:Co E n d c=some E') (hk:Kn nx ρ c v):B4 ρ E' nx n (a.put d v):=by
 cases d with
 | none=>cases hp;exact hs
 | some d =>
   have hp':(bif Nat.ble (Nat.succ d) n then some (E.set (some c) Fit d) else none)=some E':=hp;rcases tA hp' with ⟨h1,h2⟩ | ⟨_,h2⟩
   · cases h2;have hd:d<n:=bD h1;refine ⟨by show (a.tmps.setIfInBounds d v).size=n;simp [hs.1],fun i x hx=>?_⟩;rw [fP (some c) Fit E d i (by rw [Ty];omega)] at hx;show ∃ u,(a.tmps.setIfInBounds d v)[i]?=some u∧_;by_cases e:i=d
     · subst e;rw [aE rfl] at hx;cases hx;exact ⟨v,by simp [hs.1,hd],hk⟩
     rw [aC e] at hx;obtain ⟨u,h1,h2⟩:=hs.2 i x hx;exact ⟨u,by rw [iN (kA e)];exact h1,h2⟩
   cases h2
theorem Uk:Kn nx ρ (.tup .nil) undef:=⟨I3,rN.2 ⟨[],U,U⟩⟩
theorem Cp (a:Act) (d:J0 Nat) (v:Value):(a.put d v).defers=a.defers:=by cases d <;> rfl
theorem Ji (hs:B4 ρ E nx n a) {all:List Oper} {j t:Nat} {b:Bool} (hd:Dk all j=some t) (he:E.get t=some (.bool b)):yielded all.toArray a.tmps j=some b:=by
 obtain ⟨v,h1,h2⟩:=hs.2 t _ he;rw [qZ.1 h2.2] at h1;rw [En] at hd;unfold yielded;have:(all.toArray[j]?).bind (·.dst)=some t:=by simpa using hd
 rw [this];simp [h1]
theorem Ul (hs:B4 ρ E nx n a) {all:List Oper} {j t:Nat} (hd:Dk all j=some t) (he:E.get t=some (.tup .nil)):yielded all.toArray a.tmps j=none:=by
 obtain ⟨v,h1,h2⟩:=hs.2 t _ he;obtain ⟨vs,h3,h4⟩:=rN.1 h2.2;have:vs=[]:=h3;subst this;rw [h4] at h1;rw [En] at hd;unfold yielded;have:(all.toArray[j]?).bind (·.dst)=some t:=by simpa using hd
 rw [this];simp [h1]
theorem Mem.cong {h2:Tr CB} (hm:Mem ρ w0 h nx w) (e:∀ t,h2.get t=h.get t):Mem ρ w0 h2 nx w:=
 ⟨hm.upd,fun t b ht=>hm.own t b (by rw [←e];exact ht),fun t t' b b' h1 h2=>hm.one t t' b b' (by rw [←e];exact h1) (by rw [←e];exact h2),hm.imm,hm.nod,fun b hb=>⟨(hm.kept b hb).1,(hm.kept b hb).2.1,fun t c ht=>(hm.kept b hb).2.2 t c (by rw [←e];exact ht)⟩⟩
theorem H7.cong {h2:Tr CB} (ho:Ya ρ h nx w ρ' h' w') (e:∀ t,h2.get t=h'.get t):Ya ρ h nx w ρ' h2 w':=⟨fun t b ht=>ho.old t b (by rw [←e];exact ht),ho.fr,fun t b ht=>ho.nw t b (by rw [←e];exact ht),ho.sz⟩
theorem H8.put (a:Act) (d:J0 Nat) (v:Value):H8 d a (a.put d v):=fun i hi=>by
 cases d with
 | none=>rfl
 | some d =>
   show (a.tmps.setIfInBounds d v)[i]?=_;rw [iN (fun e=>hi (by rw [e]))]
abbrev oJ:=@H8.put
theorem H8.refl (d:J0 Nat) (a:Act):H8 d a a:=fun _ _=>rfl
def om (P:I6) (Q:Exit→Act→I8→Prop) (p:J0 Code) (a:Act) (w:I8):Prop:=match p with
 | none=>Q .normal a w
 | some c=>c.wpIn (FF none) 0 P Q a w
theorem WA {g:I7} {f:Nat} {cap:CV} {ps:List Nat} {asg body:Code} {v:CV} {h':Tr CB} {nx':Nat} {E4:Tr CV} {n4:Nat} {ps4:List Nat} {as4 body4:Code} {st:LoopState} {p0:J0 Code} {stm:Nat}
 (hg:vO E g=some (.fn f .nil cap)) (hfit:Nat.ble (Nat.succ nx) Fit=true) (H1:tG P Φ (.call f (.cons (.yl nx) cap) (h.set (some (.lp E n ps asg body .ready none nx)) Fit nx) (Nat.succ nx)) (.ret v h' nx'))
 (hlp:h'.get nx=some (.lp E4 n4 ps4 as4 body4 st p0 stm)) (hst:BH st=false) (hfit':Nat.ble (Nat.succ nx') Fit=true)
 (ρ:Pl) (w0:E7 Φ) (a:Act) (w:I8) (hR:F0 ρ w0 n E h nx a w) (hf:nx≤Fit) (hn:n≤100000) (Q:Exit→Act→I8→Prop)
 (hQ:∀ ρ' a' w',Nx ρ h nx w ρ' (h'.set none Fit nx) (Nat.succ nx') w'→F0 ρ' w0 n E (h'.set none Fit nx) (Nat.succ nx') a' w'→om P Q p0 a' w') :
 (Code.rangeFunc g ⟨ps⟩ asg body).wpIn (FF none) 0 P Q a w:=by
 obtain ⟨os,hR⟩:=hR;obtain ⟨isf,H1⟩:=H1;have hf1:=tQ hfit;refine wpIn_rangeFunc fun fn _=>?_;obtain ⟨q,hq⟩:∃ q:Loop,q={ state:=.ready,pending:=none,fn,tmps:=a.tmps,params:=ps.toArray,assign:=asg,body,defers:=w.heap.size }:=⟨_,U⟩
 obtain ⟨gv,e1,k1⟩:=tD hR.slots hg;obtain ⟨xs,ys,kx,ky,rfl⟩:=No k1;have hx0:xs=[]:=kx.2;subst hx0;obtain ⟨m1,o1⟩:=hR.mem.keep;have hsz:(w.alloc (.deferred (some []))).heap.size=w.heap.size+1:=sF ..;obtain ⟨ρ1,x1,p1,m2,o2⟩:=m1.new (b:=.lp E n ps asg body .ready none nx) (o:=.loop q) (s:=0) (w':=(w.alloc (.deferred (some []))).alloc (.loop q)) hf1 U (vX _ _) (wG _ _) (uS _ _)
  ⟨q,U,by rw [hq],by rw [hq],by rw [hq],by rw [hq],by rw [hq],by rw [hq];exact hR.slots.1,fun i x hx=>by rw [hq];exact hR.slots.2 i x hx⟩
 rw [hsz] at p1;obtain ⟨fnn,hf1',hf2,hf3⟩:=isf;refine ⟨w.heap.size+1,[mark w.heap.size],(w.alloc (.deferred (some []))).alloc (.loop q),{ target:=.fn (.func f) ys.toArray,args:=#[.func (.yield (w.heap.size+1)) #[] #[]] },(w.alloc (.deferred (some []))).alloc (.loop q),f,
  (.func (.yield (w.heap.size+1)) #[] #[] :: ys).toArray,(w.alloc (.deferred (some []))).alloc (.loop q),?_,?_,?_,?_,fun h=>by simp [FF] at h,?_⟩
 · have:=rA (P:=P) (w:=w) fn a.tmps ps.toArray asg body;rw [hq];exact this
 · have hev:Act.eval a g=.func (.func f) #[] ys.toArray:=yZ e1;simp only [resolve,hev];simp [go_sem]
 · intro f' hf';trivial
 · simp [invoke,xV _ _ hf1' hf2 hf3]
 have hky:KL (nx+1) ρ1 cap ys:=ky.up (dO _) x1;have hyl:Kn (nx+1) ρ1 (.yl nx) (.func (.yield (w.heap.size+1)) #[] #[]):=⟨cR _,by show _=_;rw [p1]⟩
 have hC:=H1 ρ1 ⟨w0.w,w.heap.size :: (os++w0.ks),w0.G,w0.ok,w0.s⟩ _ (.func (.yield (w.heap.size+1)) #[] #[] :: ys) m2 (oX hyl hky) hf1;refine yS.2 (hC.mono fun ex w' ⟨u,ρ2,h1,h2,h3,h4⟩=>?_);subst h1;have hb:=h4.own nx _ hlp;have e3:ρ2 nx=ρ1 nx:=h2.ext nx (cR _);rw [e3,p1] at hb;obtain ⟨_,_,_,o,ho,hdb⟩:=hb;obtain ⟨q4,rfl,g1,g2,g3,g4,g5,g6,g7⟩:=hdb;have hend:(Instr.endLoop (w.heap.size+1)).run P w'=.ok q4.pending (w'.putObj (w.heap.size+1) (.loop { q4 with state:=.exhausted })):=run_endLoop ho (by rw [g1];intro hh;subst hh;cases hst);have hlt:=(bX.1 ho).1;have e4:(ρ2 nx).1=w.heap.size+1:=by rw [e3,p1]
 have hfit2:=tQ hfit';obtain ⟨m3,o3⟩:=h4.write (b':=.lp E4 n4 ps4 as4 body4 .exhausted p0 nx') (o:=.loop { q4 with state:=.exhausted }) (w':=w'.putObj (w.heap.size+1) (.loop { q4 with state:=.exhausted })) sU U hlp
  (by rw [e4];exact wU w' _ _) (by rw [e4];exact gQ hlt) ⟨_,U,U,g2,g3,g4,g5,g6,fun i x hx=>g7 i x hx⟩
 have hnx:nx<nx':=h2.le;obtain ⟨m4,o4⟩:=m3.kill hfit2 (t:=nx) sU;have hset:∀ t,(h'.set none Fit nx).get t=((h'.set (some (CB.lp E4 n4 ps4 as4 body4 .exhausted p0 nx')) Fit nx).set none Fit nx).get t:=fun t=>by
  rw [fP _ _ _ _ _ sU,fP _ _ _ _ _ sU,fP _ _ _ _ _ sU];split <;> rfl
 have m4:=m4.cong hset;have o4:=o4.cong hset;have hnxx:Nx ρ h nx w ρ2 (h'.set none Fit nx) (Nat.succ nx') (w'.putObj (w.heap.size+1) (.loop { q4 with state:=.exhausted })):=by
  have a1:Nx ρ h nx w ρ h nx (w.alloc (.deferred (some []))):=⟨aH _,hf,gA _ _,o1⟩
  have a2:Nx ρ h nx (w.alloc (.deferred (some []))) ρ1 _ (nx+1) _:=⟨dO _,hf1,x1,o2⟩
  have a3:=(a1.trans hR.mem a2).trans hR.mem h2;have a4:Nx ρ2 h' nx' w' ρ2 _ (nx'+1) _:=⟨dO _,hfit2,gA _ _,o3⟩
  have a5:=a3.trans hR.mem a4;exact a5.trans hR.mem ⟨aH _,hfit2,gA _ _,o4⟩
 have hRel:F0 ρ2 w0 n E (h'.set none Fit nx) (Nat.succ nx') { a with defers:=[mark w.heap.size]++a.defers } (w'.putObj (w.heap.size+1) (.loop { q4 with state:=.exhausted })):=
  ⟨w.heap.size :: os,hR.slots.up hnxx.le hnxx.ext,by show [mark w.heap.size]++a.defers=_;rw [hR.defers];rfl,m4,fun b hb=>by
   rcases dD.1 hb with rfl | hb
   · exact hR.ss
   exact hR.mks b hb,bP hR.ss hnxx.old.sz⟩
 have H:=hQ _ _ _ hnxx hRel;rw [←g2] at H;exact ⟨q4.pending,_,hend,H⟩
theorem Yg {ih:E5→C6} (H:∀ c,tG P Φ c (ih c)) (c:Code) (n:Nat) (E:Tr CV) (h:Tr CB) (nx:Nat):tG P Φ (.code c n E h nx) (step P pr ih (.code c n E h nx)):=by
 have quiet:∀ (x:Exit) (c:Code),(∀ (r:J0 Nat) (a:Act) (w:I8) (Q:Exit→Act→I8→Prop),Q x a w→c.wpIn (FF r) 0 P Q a w)→tG P Φ (.code c n E h nx) (.ok x E h nx):=fun x c hc r ρ w0 a w hR hf hn hrr =>
  fun Q hQ=>hc r a w Q (hQ ρ a w (Nx.refl hf) hR)
 cases c with
 | skip=>exact quiet .normal _ fun r a w Q hq=>wpIn_skip hq
 | label l=>exact quiet .normal _ fun r a w Q hq=>wpIn_label hq
 | exit id=>exact quiet (.exit id) _ fun r a w Q hq=>wpIn_exit hq
 | ret=>exact quiet .ret _ fun r a w Q hq=>wpIn_ret hq
 | goto l=>trivial
 | refuse s=>trivial
 | rangeFunc g ps asg body =>
   obtain ⟨ps⟩:=ps;show tG P Φ _ (match vO E g with
    | some (.fn f .nil cap)=>bif Nat.ble (Nat.succ nx) Fit then
      (match ih (.call f (.cons (.yl nx) cap) (h.set (some (.lp E n ps asg body .ready none nx)) Fit nx) (Nat.succ nx)) with
      | .ret _ h' nx'=>(match h'.get nx with
        | some (.lp _ _ _ _ _ st p _)=>bif BH st || not (Nat.ble (Nat.succ nx') Fit) then .bad 41 [] else
          (match p with
          | none=>.ok .normal E (h'.set none Fit nx) (Nat.succ nx')
          | some c=>ih (.code c n E (h'.set none Fit nx) (Nat.succ nx')))
        | _=>.bad 42 [])
      | .ok _ _ _ _=>.bad 43 []
      | r=>r) else .bad 44 []
    | _=>.bad 45 [])
   split
   · rename_i f cap hg;refine tO (tG P Φ _) (fun hfit=>?_) fun _=>trivial;have H1:=H (.call f (.cons (.yl nx) cap) (h.set (some (.lp E n ps asg body .ready none nx)) Fit nx) (Nat.succ nx));generalize ih (.call f (.cons (.yl nx) cap) (h.set (some (.lp E n ps asg body .ready none nx)) Fit nx) (Nat.succ nx))=q at H1;cases q with
     | bad=>trivial
     | ok _ _ _ _=>trivial
     | ret v h' nx' =>
       show tG P Φ _ (match h'.get nx with
        | some (.lp _ _ _ _ _ st p _)=>bif BH st || not (Nat.ble (Nat.succ nx') Fit) then .bad 41 [] else
          (match p with
          | none=>.ok .normal E (h'.set none Fit nx) (Nat.succ nx')
          | some c=>ih (.code c n E (h'.set none Fit nx) (Nat.succ nx')))
        | _=>.bad 42 [])
       split
       · rename_i E4 n4 ps4 as4 body4 st p stm hlp;refine tO (tG P Φ _) (fun _=>trivial) fun hbz=>?_;rw [qU,Bool.not_eq_false'] at hbz;have hgo:=WA (P:=P) (Φ:=Φ) (ps:=ps) (asg:=asg) (body:=body) hg hfit H1 hlp hbz.1 hbz.2;cases p with
         | none =>
           intro r ρ w0 a w hR hf hn hrr Q hQ;have hr0:r=none:=hrr.elim id (fun q=>by cases (show (false:Bool)=true from q));subst hr0;exact hgo ρ w0 a w hR hf hn Q fun ρ' a' w' e1 e2=>hQ ρ' a' w' e1 e2
         | some c =>
           show tG P Φ _ (ih (.code c n E (h'.set none Fit nx) (Nat.succ nx')));have H2:=H (.code c n E (h'.set none Fit nx) (Nat.succ nx'));generalize ih (.code c n E (h'.set none Fit nx) (Nat.succ nx'))=q2 at H2;cases q2 with
           | bad=>trivial
           | ret _ _ _=>exact H2.elim
           | ok x2 E2 h2 nx2 =>
             intro r ρ w0 a w hR hf hn hrr Q hQ;have hr0:r=none:=hrr.elim id (fun q=>by cases (show (false:Bool)=true from q));subst hr0;exact hgo ρ w0 a w hR hf hn Q fun ρ' a' w' e1 e2=>H2 none ρ' w0 a' w' e2 e1.fit hn (.inl U) Q fun ρ2 a2 w2 f1 f2=>hQ ρ2 a2 w2 (e1.trans hR.mem f1) f2
       trivial
   · trivial
 | region id ops draw =>
   obtain ⟨l⟩:=ops;cases draw with
   | true =>
     show tG P Φ _ (bif P.follows .mixedOrders then (match LN l with
      | some p=>ih (.reg l p [] n E h nx)
      | none=>.bad 23 l) else .bad 24 [])
     cases hmx:P.follows .mixedOrders with
     | false=>trivial
     | true =>
       simp only [mK];split
       · rename_i p hp;have H1:=H (.reg l p [] n E h nx);generalize ih (.reg l p [] n E h nx)=q at H1;cases q with
         | bad=>trivial
         | ret v h' nx'=>exact H1.elim
         | ok x E' h' nx' =>
           obtain ⟨rfl,H1⟩:=H1;obtain ⟨hns,hnd,hpl,hlen⟩:=VY hp;intro r ρ w0 a w hR hf hn hrr Q hQ;have hR':F0 ρ w0 n E h nx a w.drew:=by
            obtain ⟨os,hR⟩:=hR;exact ⟨os,hR.slots,hR.defers,⟨hR.mem.upd.drew,hR.mem.own,hR.mem.one,hR.mem.imm,hR.mem.nod,hR.mem.kept⟩,hR.mks,hR.ss⟩
           have hg:=H1 ρ ρ w0 a w.drew w.drew h nx (Array.replicate l.length false) (Array.replicate l.length false) [] [] [] p.length ⟨hR',⟨U,fun j=>⟨.inl,fun h=>h.elim (fun q=>q) fun ⟨_,h,_⟩=>by cases h⟩,fun e he=>by cases he⟩,(fun j o hj hl=>by
            rw [(LM.start l).2,Nat.zero_testBit] at hl;cases hl),(fun e he=>by cases he),lG,lG,(fun e he=>by cases he),(fun x hx=>by cases hx),hR'.mem,Nx.refl hf⟩ hf hn hns hpl U (Q .normal) fun ρ' a' w' e1 e2=>hQ ρ' a' w' ⟨e1.le,e1.fit,e1.ext,⟨e1.old.old,e1.old.fr,e1.old.nw,e1.old.sz⟩⟩ e2
           rw [hlen] at hg;have:=Qt (r:=r) (n:=0) (by simpa using hnd) _ _ _ _ hg;exact wpIn_region_any hmx (by simpa using this)
       · trivial
   | false =>
     show tG P Φ _ (bif l.all uW then ih (.ops l l n E h nx) else .bad 2 []);cases hd:l.all uW with
     | false=>trivial
     | true =>
       show tG P Φ _ (ih (.ops l l n E h nx));have H1:=H (.ops l l n E h nx);generalize ih (.ops l l n E h nx)=q at H1;cases q with
       | bad=>trivial
       | ret v h' nx'=>exact H1.elim
       | ok x E' h' nx' =>
         obtain ⟨rfl,H1⟩:=H1;intro r ρ w0 a w hR hf hn hrr Q hQ;exact wpIn_region_lit (Cw l a w hd (H1 ρ w0 a w hR hf hn _ hQ))
 | scope c =>
   show tG P Φ _ (match ih (.code c n E h nx) with
    | .ok x E h nx=>(match x with
      | .normal=>.ok .normal E h nx
      | .ret=>.ok .ret E h nx
      | .exit id=>.ok (.exit id) E h nx
      | _=>.bad 22 [])
    | r=>r)
   have H1:=H (.code c n E h nx);generalize ih (.code c n E h nx)=q at H1;cases q with
   | bad=>trivial
   | ret v h' nx'=>exact H1.elim
   | ok x E' h' nx' =>
     have go:(∀ Q:Exit→Act→I8→Prop,∀ a w,Q x a w→Lv Q x a w)→tG P Φ (.code (.scope c) n E h nx) (.ok x E' h' nx'):=fun hx r ρ w0 a w hR hf hn hrr Q hQ =>
      Qz (H1 r ρ w0 a w hR hf hn hrr _ fun ρ' a' w' e1 e2=>hx Q _ _ (hQ ρ' a' w' e1 e2))
     cases x with
     | normal=>exact go fun Q a w hq=>hq
     | ret=>exact go fun Q a w hq=>hq
     | exit id=>exact go fun Q a w hq=>hq
     | _=>trivial
 | loop c =>
   show tG P Φ _ (ih (.loop c n E h nx));have H1:=H (.loop c n E h nx);generalize ih (.loop c n E h nx)=q at H1;cases q with
   | bad=>trivial
   | ret v h' nx'=>exact H1.elim
   | ok x E' h' nx' =>
     intro r ρ w0 a w hR hf hn hrr Q hQ b k cs hro hb' hr;obtain ⟨e,a',w',hq,harr⟩:=H1 r ρ w0 a w hR hf hn hrr Q hQ b k cs hro hb' hr;exact ⟨e,a',w',hq,.of_steps (.one (oU hb' hr U) stepR_loop) harr⟩
 | cond c x y =>
   show tG P Φ _ (match vO E c with
    | some (.bool t)=>ih (.code (bif t then x else y) n E h nx)
    | _=>.bad 1 [])
   split
   · rename_i t ht;have H1:=H (.code (bif t then x else y) n E h nx);generalize ih (.code (bif t then x else y) n E h nx)=q at H1;cases q with
     | bad=>trivial
     | ret v h' nx'=>exact H1.elim
     | ok x' E' h' nx' =>
       intro r ρ w0 a w hR hf hn hrr Q hQ;obtain ⟨v,e1,g1⟩:=tD hR.slots ht;have e2:a.eval c=.bool t:=by rw [←qZ.1 g1.2];exact yZ e1
       refine wpIn_cond e2 ?_;have:=H1 r ρ w0 a w hR hf hn (hrr.imp id fun q=>by have q':(LQ x && LQ y)=true:=q;rw [aF] at q';cases t <;> first | exact q'.1 | exact q'.2) Q hQ;cases t <;> exact this
   · trivial
 | seq x y =>
   show tG P Φ _ (match ih (.code x n E h nx) with
    | .ok x E h nx=>(match x with
      | .normal=>ih (.code y n E h nx)
      | x=>.ok x E h nx)
    | r=>r)
   have H1:=H (.code x n E h nx);generalize ih (.code x n E h nx)=q at H1;cases q with
   | bad=>trivial
   | ret v h' nx'=>exact H1.elim
   | ok x' E' h' nx' =>
     have pass:x'≠.normal→tG P Φ (.code (.seq x y) n E h nx) (.ok x' E' h' nx'):=fun hx=>by
      intro r ρ w0 a w hR hf hn hrr Q hQ;refine wpIn_seq (H1 r ρ w0 a w hR hf hn (hrr.imp id fun q=>(aF _ _▸(show (LQ x && LQ y)=true from q)).1) _ fun ρ' a' w' e1 e2=>?_);have:=hQ ρ' a' w' e1 e2;cases x' <;> first | exact absurd U hx | exact this
     cases x' with
     | normal =>
       show tG P Φ _ (ih (.code y n E' h' nx'));have H2:=H (.code y n E' h' nx');generalize ih (.code y n E' h' nx')=q2 at H2;cases q2 with
       | bad=>trivial
       | ret v h2 nx2=>exact H2.elim
       | ok x2 E2 h2 nx2 =>
         intro r ρ w0 a w hR hf hn hrr Q hQ;refine wpIn_seq (H1 r ρ w0 a w hR hf hn (hrr.imp id fun q=>(aF _ _▸(show (LQ x && LQ y)=true from q)).1) _ fun ρ' a' w' e1 e2=>?_);exact H2 r ρ' w0 a' w' e2 e1.fit hn (hrr.imp id fun q=>(aF _ _▸(show (LQ x && LQ y)=true from q)).2) Q fun ρ2 a2 w2 f1 f2=>hQ ρ2 a2 w2 (e1.trans hR.mem f1) f2
     | _=>exact pass (by intro h;cases h)
 | block id c =>
   show tG P Φ _ (match ih (.code c n E h nx) with
    | .ok x E h nx=>(match x with
      | .exit id'=>bif Nat.beq id' id then .ok .normal E h nx else .ok (.exit id') E h nx
      | x=>.ok x E h nx)
    | r=>r)
   have H1:=H (.code c n E h nx);generalize ih (.code c n E h nx)=q at H1;cases q with
   | bad=>trivial
   | ret v h' nx'=>exact H1.elim
   | ok x' E' h' nx' =>
     have go:∀ x2,(∀ (Q:Exit→Act→I8→Prop) a w,Q x2 a w→Exit.inBlock id Q x' a w)→tG P Φ (.code (.block id c) n E h nx) (.ok x2 E' h' nx'):=fun x2 hx r ρ w0 a w hR hf hn hrr Q hQ =>
      wpIn_block (H1 r ρ w0 a w hR hf hn hrr _ fun ρ' a' w' e1 e2=>hx Q _ _ (hQ ρ' a' w' e1 e2))
     cases x' with
     | exit id' =>
       show tG P Φ _ (bif Nat.beq id' id then .ok .normal E' h' nx' else .ok (.exit id') E' h' nx');cases hb:Nat.beq id' id with
       | true =>
         have e:=aJ hb;exact go .normal fun Q a w hq=>by simp only [Exit.inBlock,e,gL];exact hq
       | false =>
         have e:=IN hb;exact go (.exit id') fun Q a w hq=>by simp only [Exit.inBlock,e,eQ];exact hq
     | normal=>exact go _ fun Q a w hq=>hq
     | ret=>exact go _ fun Q a w hq=>hq
     | goto l=>exact go _ fun Q a w hq=>hq
     | panic ch=>exact go _ fun Q a w hq=>hq
     | outgrown=>exact go _ fun Q a w hq=>hq
theorem Lo {r:J0 Nat} {c:Code} {Q:Exit→Act→I8→Prop} {a:Act} {w:I8} (h:c.wpIn (FF r) 0 P (Exit.then (GW r P c Q) Q) a w):GW r P c Q a w:=by
 intro b k cs hro hb' hr;obtain ⟨x,a₁,w₁,hq,harr⟩:=h b (.inLoop c :: k) cs hro hb' hr;cases x with
 | normal =>
   obtain ⟨e₂,a₂,w₂,hq₂,harr₂⟩:=hq b k cs hro hb' hr;exact ⟨e₂,a₂,w₂,hq₂,.of_steps (StepsIn.trans harr (.one (oU hb' hr U) stepR_inLoop)) harr₂⟩
 | exit id=>exact ⟨_,a₁,w₁,hq,.pass (x:=.inLoop c) U (fun _ _=>.inl tW) harr⟩
 | goto l=>exact ⟨_,a₁,w₁,hq,.pass (x:=.inLoop c) U (fun _ _=>.inl tW) harr⟩
 | ret=>exact ⟨_,a₁,w₁,hq,.pass (x:=.inLoop c) U (fun _ _=>.inl tW) harr⟩
 | panic ch=>exact ⟨_,a₁,w₁,hq,.pass (x:=.inLoop c) U (fun _ _=>.inl tW) harr⟩
 | outgrown=>exact ⟨_,a₁,w₁,hq,.pass (x:=.inLoop c) U (fun _ _=>.inl tW) harr⟩
theorem IQ {op:Op} {t:Nat} {c:CV} (hr:WG E op=some t) (hq:qv P E h op=some c):∃ b,h.get t=some b:=by
 unfold WG at hr;split at hr
 · rename_i T x;split at hr
   · rename_i t' o hx;cases hr;have hq':(match vO E x with
      | some (.ptr t o)=>match h.get t with
        | some (.cells l _ _ _)=>bif wZ P T then VE l o else
          (match ig P T with
          | some k=>bif Nat.beq (uK (vC l o k)) k then some (.agg (vC l o k)) else none
          | none=>none)
        | _=>none
      | _=>none)=some c:=hq
     rw [hx] at hq';simp only at hq';split at hq'
     · rename_i hb;exact ⟨_,hb⟩
     cases hq'
   cases hr
 · rename_i T x i cc;split at hr
   · rename_i t' hx;cases hr;have hq':qg P E h T x i cc=some c:=hq;unfold qg at hq';rw [hx] at hq';simp only at hq';split at hq'
     · split at hq'
       · rename_i l st hb;exact ⟨_,hb⟩
       · rename_i l st hb;exact ⟨_,hb⟩
       cases hq'
     cases hq'
   cases hr
 cases hr
theorem step_loop {ih:E5→C6} (H:∀ c,tG P Φ c (ih c)) (c:Code) (n:Nat) (E:Tr CV) (h:Tr CB) (nx:Nat):tG P Φ (.loop c n E h nx) (step P pr ih (.loop c n E h nx)):=by
 show tG P Φ _ (match ih (.code c n E h nx) with
  | .ok x E h nx=>(match x with
    | .normal=>ih (.loop c n E h nx)
    | x=>.ok x E h nx)
  | r=>r)
 have H1:=H (.code c n E h nx);generalize ih (.code c n E h nx)=q at H1;cases q with
 | bad=>trivial
 | ret v h' nx'=>exact H1.elim
 | ok x' E' h' nx' =>
   have pass:x'≠.normal→tG P Φ (.loop c n E h nx) (.ok x' E' h' nx'):=fun hx r ρ w0 a w hR hf hn hrr Q hQ=>by
    refine Lo (H1 r ρ w0 a w hR hf hn hrr _ fun ρ' a' w' e1 e2=>?_);have:=hQ ρ' a' w' e1 e2;cases x' <;> first | exact absurd U hx | exact this
   cases x' with
   | normal =>
     show tG P Φ _ (ih (.loop c n E' h' nx'));have H2:=H (.loop c n E' h' nx');generalize ih (.loop c n E' h' nx')=q2 at H2;cases q2 with
     | bad=>trivial
     | ret v h2 nx2=>exact H2.elim
     | ok x2 E2 h2 nx2 =>
       intro r ρ w0 a w hR hf hn hrr Q hQ;refine Lo (H1 r ρ w0 a w hR hf hn hrr _ fun ρ' a' w' e1 e2=>?_);exact H2 r ρ' w0 a' w' e2 e1.fit hn hrr Q fun ρ2 a2 w2 f1 f2=>hQ ρ2 a2 w2 (e1.trans hR.mem f1) f2
   | _=>exact pass (by intro h;cases h)
theorem FT {ih:E5→C6} (H:∀ c,tG P Φ c (ih c)) (o:Oper) (n:Nat) (E:Tr CV) (h:Tr CB) (nx:Nat):tG P Φ (.one o n E h nx) (step P pr ih (.one o n E h nx)):=by
 obtain ⟨dst,op,ty,pos,after,g⟩:=o;show tG P Φ _ (match qv P E h op with
  | some c=>(match Co E n dst c with | some E=>.ok .normal E h nx | none=>.bad 7 [])
  | none=>match wm P E h nx op with
    | .val c h nx=>(match Co E n dst c with | some E=>.ok .normal E h nx | none=>.bad 8 [])
    | .unit h nx=>(match dst with | none=>.ok .normal E h nx | some _=>.bad 10 [])
    | .bad=>LP ih E n h nx dst op)
 split
 · rename_i c hq;split
   · rename_i E' hp;refine ⟨U,fun ρ w0 a w hR hf hn K hK=>?_⟩;obtain ⟨ob,hob⟩:∃ ob:Nat→Obj,∀ t b,h.get t=some b→w.heap[(ρ t).1]?=some (ob t)∧DB nx ρ (ρ t).2 b (ob t):=by
      refine ⟨fun t=>(w.heap[(ρ t).1]?).getD default,fun t b hb=>?_⟩;obtain ⟨_,_,_,o,h1,h2⟩:=hR.mem.own t b hb;exact ⟨by show _=some ((w.heap[(ρ t).1]?).getD default);rw [h1];rfl,by show DB _ _ _ _ ((w.heap[(ρ t).1]?).getD default);rw [h1];exact h2⟩
     obtain ⟨v,k1,k2⟩:=LJ (ob:=ob) hR.slots (fun t b _ hb=>(hob t b hb).2) hq;have hr:(execOp a.eval ⟨dst,op,ty,pos,after,g⟩).run P w=.ok (.value v) w:=by
      refine k2 w (fun t ht=>?_) dst ty pos after g;obtain ⟨b,hb⟩:=IQ ht hq;exact (hob t b hb).1
     unfold An;rw [hr];exact hK ρ _ w (Nx.refl hf) (hR.put (xE hR.slots hn hp k1)) (oJ _ _ _)
   trivial
 have hw:∀ (ρ:Pl) (w0:E7 Φ) (a:Act) (w:I8),B4 ρ E nx n a→Mem ρ w0 h nx w→nx≤Fit→Wd P op ρ w0 h nx a w (wm P E h nx op):=fun ρ w0 a w hR hm hf=>np hR hm hf;revert hw;generalize wm P E h nx op=q;intro hw;cases q with
 | val c h' nx' =>
   show tG P Φ _ (match Co E n dst c with | some E=>.ok .normal E h' nx' | none=>.bad 8 []);split
   · rename_i E' hp;refine ⟨U,fun ρ w0 a w hR hf hn K hK=>?_⟩;obtain ⟨os,hR⟩:=hR;obtain ⟨k1,v,w',ρ',e1,e2,e3,e4,e5,e6⟩:=hw ρ (w0.plus os) a w hR.slots hR.mem hf;unfold An;rw [e6 dst ty pos after g];exact hK ρ' _ w' ⟨k1,e4,e1,e5⟩ ⟨os,xE (hR.slots.up k1 e1) hn hp e2,(Cp _ _ _).trans hR.defers,e3,hR.mks,bP hR.ss e5.sz⟩ (oJ _ _ _)
   · trivial
 | unit h' nx' =>
   show tG P Φ _ (match dst with | none=>.ok .normal E h' nx' | some _=>.bad 10 []);cases dst with
   | some d=>trivial
   | none =>
     refine ⟨U,fun ρ w0 a w hR hf hn K hK=>?_⟩;obtain ⟨os,hR⟩:=hR;obtain ⟨k1,w',ρ',e1,e3,e4,e5,e6⟩:=hw ρ (w0.plus os) a w hR.slots hR.mem hf;unfold An;rw [e6 ty pos after g];exact hK ρ' _ w' ⟨k1,e4,e1,e5⟩ ⟨os,hR.slots.up k1 e1,hR.defers,e3,hR.mks,bP hR.ss e5.sz⟩ (H8.refl _ _)
 | bad =>
   show tG P Φ _ (LP ih E n h nx dst op);unfold LP;split
   · rename_i f args ats _;split
     · rename_i g' fst cap hfv;split
       · rename_i l hl;have H1:=H (.call g' (Eg fst (Eg l cap)) h nx);generalize ih (.call g' (Eg fst (Eg l cap)) h nx)=q at H1;cases q with
         | bad=>trivial
         | ok _ _ _ _=>trivial
         | ret v h' nx' =>
           show tG P Φ _ (match Co E n dst v with | some E=>.ok .normal E h' nx' | none=>.bad 11 []);split
           · rename_i E' hp;obtain ⟨⟨fn,f1,f2,f3⟩,H1⟩:=H1;refine ⟨U,fun ρ w0 a w hR hf hn K hK=>?_⟩;obtain ⟨os,hR⟩:=hR;obtain ⟨fv,e1,k1⟩:=tD hR.slots hfv;obtain ⟨xs,ys,k2,k3,rfl⟩:=No k1;obtain ⟨vs,e2,k4⟩:=Qa hR.slots hl;have hC:=H1 ρ (w0.plus os) w (xs++vs++ys) hR.mem (by rw [bA];exact Hg k2 (Hg k4 k3)) hf;have hrun:(execOp a.eval ⟨dst,.call ⟨.value f,⟨args⟩,ats⟩,ty,pos,after,g⟩).run P w=.ok (.enter g' (xs++vs++ys).toArray) w:=by
              have hargs:(args.map a.eval)=vs:=(lookN a w).evals e2;simp [execOp,resolve,Deferred.ofValue,invoke,yZ e1,hargs,xV w _ f1 f2 f3]
             unfold An;rw [hrun];refine hC.mono fun e w' ⟨u,ρ',q1,q2,q3,q4⟩=>⟨u,q1,?_⟩
             exact hK ρ' _ w' q2 ⟨os,xE (hR.slots.up q2.le q2.ext) hn hp q3,(Cp _ _ _).trans hR.defers,q4,hR.mks,bP hR.ss q2.old.sz⟩ (oJ _ _ _)
           trivial
       trivial
     · rename_i t hfv;split
       · rename_i l hl;have H1:=H (.round t l h nx);generalize ih (.round t l h nx)=q at H1;cases q with
         | bad=>trivial
         | ok _ _ _ _=>trivial
         | ret v h' nx' =>
           show tG P Φ _ (match Co E n dst v with | some E=>.ok .normal E h' nx' | none=>.bad 51 []);split
           · rename_i E' hp;refine ⟨U,fun ρ w0 a w hR hf hn K hK=>?_⟩;obtain ⟨os,hR⟩:=hR;obtain ⟨fv,e1,k1⟩:=tD hR.slots hfv;have e3:fv=.func (.yield (ρ t).1) #[] #[]:=k1.2;subst e3;obtain ⟨vs,e2,k4⟩:=Qa hR.slots hl;obtain ⟨f',tmps,assign,body,hy,hC⟩:=H1 ρ (w0.plus os) w vs hR.mem k4 hf;have hrun:(execOp a.eval ⟨dst,.call ⟨.value f,⟨args⟩,ats⟩,ty,pos,after,g⟩).run P w=.ok (.round (ρ t).1 f' tmps assign body) w:=by
              have hargs:(args.map a.eval)=vs:=(lookN a w).evals e2;simp [execOp,resolve,Deferred.ofValue,invoke,yZ e1,hargs,hy]
             unfold An;rw [hrun];refine hC.mono fun e w' ⟨u,ρ',q1,q2,q3,q4⟩=>⟨u,q1,?_⟩
             exact hK ρ' _ w' q2 ⟨os,xE (hR.slots.up q2.le q2.ext) hn hp q3,(Cp _ _ _).trans hR.defers,q4,hR.mks,bP hR.ss q2.old.sz⟩ (oJ _ _ _)
           trivial
       trivial
     trivial
   trivial
end
section
variable {P:I6} {Φ:A2→Prop} {pr:zH}
theorem gg {nx n:Nat} {ρ:Pl} (hn:n≤100000):∀ {ps:List Nat} {args:CV} {vs:List Value} {E E1:Tr CV} {tmps:Array Value},KL nx ρ args vs→qj n ps args E=some E1→tmps.size=n→(∀ i x,E.get i=some x→∃ v,tmps[i]?=some v∧Kn nx ρ x v)→
 ps.length=vs.length∧((ps.zip vs).foldl (fun t (p:Nat×Value)=>t.setIfInBounds p.1 p.2) tmps).size=n∧∀ i x,E1.get i=some x→∃ v,((ps.zip vs).foldl (fun t (p:Nat×Value)=>t.setIfInBounds p.1 p.2) tmps)[i]?=some v∧Kn nx ρ x v:=by
 intro ps;induction ps with
 | nil =>
   intro args vs E E1 tmps hk hp hs he;cases args with
   | nil =>
     have hp':some E=some E1:=hp;cases hp';have:vs=[]:=hk.2;subst this;exact ⟨U,by simpa using hs,by simpa using he⟩
   | _=>exact absurd (show none=some E1 from hp) tW
 | cons p ps ih =>
   intro args vs E E1 tmps hk hp hs he;cases args with
   | cons a b =>
     have hp':(bif Nat.ble (Nat.succ p) n then qj n ps b (E.set (some a) Fit p) else none)=some E1:=hp;rcases tA hp' with ⟨h1,h2⟩ | ⟨_,h2⟩
     · have hpn:p<n:=bD h1;obtain ⟨⟨b1,b2⟩,v,r,rfl,k1,k2⟩:=hk;obtain ⟨q1,q2,q3⟩:=ih (E:=E.set (some a) Fit p) (tmps:=tmps.setIfInBounds p v) ⟨b2,k2⟩ h2 (by simpa using hs) (fun i x hx=>by
        rw [fP (some a) Fit E p i (by rw [Ty];omega)] at hx;by_cases e:i=p
        · subst e;rw [aE rfl] at hx;cases hx;exact ⟨v,by simp [hs,hpn],b1,k1⟩
        rw [aC e] at hx;obtain ⟨u,g1,g2⟩:=he i x hx;exact ⟨u,by rw [iN (kA e)];exact g1,g2⟩)
       exact ⟨by simp [q1],by simpa using q2,by simpa using q3⟩
     · cases h2
   | _=>exact absurd (show none=some E1 from hp) tW
theorem PJ {ρ:Pl} {w0:E7 Φ} {h:Tr CB} {nx t n4 stm:Nat} {w:I8} {E4:Tr CV} {ps4:List Nat} {as4 body4:Code} {st:LoopState} {p:J0 Code} (hm:Mem ρ w0 h nx w) (hlp:h.get t=some (.lp E4 n4 ps4 as4 body4 st p stm)) (hfit:Nat.ble (Nat.succ nx) Fit=true) (c:J0 Code) :
 ∃ w',(Instr.endRound (ρ t).1 c).run P w=.ok (.bool c.isNone) w'∧Nx ρ h nx w ρ (h.set (some (.lp E4 n4 ps4 as4 body4 (PN c) c nx)) Fit t) (Nat.succ nx) w'∧Mem ρ w0 (h.set (some (.lp E4 n4 ps4 as4 body4 (PN c) c nx)) Fit t) (Nat.succ nx) w':=by
 obtain ⟨_,_,_,o,ho,q,rfl,g1,g2,g3,g4,g5,g6,g7⟩:=hm.own t _ hlp;have hf:=tQ hfit;have hlt:=(bX.1 ho).1;obtain ⟨m3,o3⟩:=hm.write (b':=.lp E4 n4 ps4 as4 body4 (PN c) c nx) (o:=.loop { q with state:=if c.isNone then .ready else .done,pending:=c }) (w':=w.putObj (ρ t).1 (.loop { q with state:=if c.isNone then .ready else .done,pending:=c })) sU U hlp
  (wU w _ _) (gQ hlt) ⟨_,U,by cases c <;> rfl,U,g3,g4,g5,g6,fun i x hx=>g7 i x hx⟩
 exact ⟨_,run_endRound c ho,⟨dO _,hf,gA _ _,o3⟩,m3⟩
theorem Um {ih:E5→C6} (H:∀ c,tG P Φ c (ih c)) (t:Nat) (args:CV) (h:Tr CB) (nx:Nat):tG P Φ (.round t args h nx) (step P pr ih (.round t args h nx)):=by
 show tG P Φ _ (match h.get t with
  | some (.lp E n ps asg body st _ _)=>bif FS st && (LQ asg && (LQ body && Nat.ble n 100000)) then
    (match qj n ps args E with
    | some E1=>match ih (.code asg n E1 h nx) with
      | .ok .normal E2 h2 nx2=>(match h2.get t with
        | some (.lp E0 n0 ps0 as0 body0 st0 p0 _)=>bif FS st0 && Nat.ble (Nat.succ nx2) Fit then
          (match ih (.code body n E2 (h2.set (some (.lp E0 n0 ps0 as0 body0 .busy p0 nx2)) Fit t) (Nat.succ nx2)) with
          | .ok x _ h3 nx3=>(match h3.get t with
            | some (.lp E4 n4 ps4 as4 body4 _ _ _)=>bif Nat.ble (Nat.succ nx3) Fit then
              (match PG x with
              | some none=>.ret (.bool true) (h3.set (some (.lp E4 n4 ps4 as4 body4 .ready none nx3)) Fit t) (Nat.succ nx3)
              | some (some c)=>.ret (.bool false) (h3.set (some (.lp E4 n4 ps4 as4 body4 .done (some c) nx3)) Fit t) (Nat.succ nx3)
              | none=>.bad 46 []) else .bad 47 []
            | _=>.bad 48 [])
          | .ret _ _ _=>.bad 49 []
          | r=>r) else .bad 50 []
        | _=>.bad 54 [])
      | .ok _ _ _ _=>.bad 55 []
      | .ret _ _ _=>.bad 56 []
      | r=>r
    | none=>.bad 57 []) else .bad 58 []
  | _=>.bad 59 [])
 split
 · rename_i E n ps asg body st p stm hlp;refine tO (tG P Φ _) (fun hb=>?_) fun _=>trivial;simp only [aF] at hb;obtain ⟨hb1,hb2,hb3,hb4⟩:=hb;have hn:=tQ hb4;split
   · rename_i E1 hps;have H1:=H (.code asg n E1 h nx);generalize ih (.code asg n E1 h nx)=q at H1;cases q with
     | bad=>trivial
     | ret _ _ _=>trivial
     | ok x E2 h2 nx2 =>
       cases x with
       | normal =>
         show tG P Φ _ (match h2.get t with
          | some (.lp E0 n0 ps0 as0 body0 st0 p0 _)=>bif FS st0 && Nat.ble (Nat.succ nx2) Fit then
            (match ih (.code body n E2 (h2.set (some (.lp E0 n0 ps0 as0 body0 .busy p0 nx2)) Fit t) (Nat.succ nx2)) with
            | .ok x _ h3 nx3=>(match h3.get t with
              | some (.lp E4 n4 ps4 as4 body4 _ _ _)=>bif Nat.ble (Nat.succ nx3) Fit then
                (match PG x with
                | some none=>.ret (.bool true) (h3.set (some (.lp E4 n4 ps4 as4 body4 .ready none nx3)) Fit t) (Nat.succ nx3)
                | some (some c)=>.ret (.bool false) (h3.set (some (.lp E4 n4 ps4 as4 body4 .done (some c) nx3)) Fit t) (Nat.succ nx3)
                | none=>.bad 46 []) else .bad 47 []
              | _=>.bad 48 [])
            | .ret _ _ _=>.bad 49 []
            | r=>r) else .bad 50 []
          | _=>.bad 54 [])
         split
         · rename_i E0 n0 ps0 as0 body0 st0 p0 stm0 hlp0;refine tO (tG P Φ _) (fun hb=>?_) fun _=>trivial;rw [aF] at hb;obtain ⟨hb5,hb6⟩:=hb;have hf6:=tQ hb6;have H2:=H (.code body n E2 (h2.set (some (.lp E0 n0 ps0 as0 body0 .busy p0 nx2)) Fit t) (Nat.succ nx2));generalize ih (.code body n E2 (h2.set (some (.lp E0 n0 ps0 as0 body0 .busy p0 nx2)) Fit t) (Nat.succ nx2))=q2 at H2;cases q2 with
           | bad=>trivial
           | ret _ _ _=>trivial
           | ok x3 E3 h3 nx3 =>
             show tG P Φ _ (match h3.get t with
              | some (.lp E4 n4 ps4 as4 body4 _ _ _)=>bif Nat.ble (Nat.succ nx3) Fit then
                (match PG x3 with
                | some none=>.ret (.bool true) (h3.set (some (.lp E4 n4 ps4 as4 body4 .ready none nx3)) Fit t) (Nat.succ nx3)
                | some (some c)=>.ret (.bool false) (h3.set (some (.lp E4 n4 ps4 as4 body4 .done (some c) nx3)) Fit t) (Nat.succ nx3)
                | none=>.bad 46 []) else .bad 47 []
              | _=>.bad 48 [])
             split
             · rename_i E4 n4 ps4 as4 body4 st4 p4 stm4 hlp4;refine tO (tG P Φ _) (fun hb7=>?_) fun _=>trivial;have go:∀ (c:J0 Code),PG x3=some c→∀ (ρ:Pl) (w0:E7 Φ) (w:I8) (vs:List Value),Mem ρ w0 h nx w→KL nx ρ args vs→nx≤Fit→
                ∃ f tmps assign body,(Instr.yield (ρ t).1 vs.toArray).run P w=.ok (.round (ρ t).1 f tmps assign body) w∧
                 RoundIn Fence.wide 0 P (ρ t).1 f tmps assign body w (fun e w'=>∃ u ρ',e=.returned u∧Nx ρ h nx w ρ' (h3.set (some (.lp E4 n4 ps4 as4 body4 (PN c) c nx3)) Fit t) (Nat.succ nx3) w'∧Kn (Nat.succ nx3) ρ' (.bool c.isNone) u∧Mem ρ' w0 (h3.set (some (.lp E4 n4 ps4 as4 body4 (PN c) c nx3)) Fit t) (Nat.succ nx3) w'):=by
                intro c hc ρ w00 w vs hm hk hf;obtain ⟨W0,ks0,G0,ok0,s0⟩:=w00;replace hm:=hm.base (s':=w.heap.size);obtain ⟨w0,hw0⟩:∃ w0:E7 Φ,w0=⟨W0,ks0,G0,ok0,w.heap.size⟩:=⟨_,U⟩
                rw [←hw0] at hm;obtain ⟨htn,_,_,o,ho,q,rfl,g1,g2,g3,g4,g5,g6,g7⟩:=hm.own t _ hlp;obtain ⟨z1,z2,z3⟩:=gg hn hk hps g6 g7;refine ⟨_,_,_,_,run_yield ho (by rw [g3];simp [z1]),?_⟩;rw [g4,g5,g3];have htm:(ps.toArray.zip vs.toArray).foldl (fun tmps (x:Nat×Value)=>tmps.setIfInBounds x.1 x.2) q.tmps=(ps.zip vs).foldl (fun t (p:Nat×Value)=>t.setIfInBounds p.1 p.2) q.tmps:=tW;refine roundIn_of_wpIn (F:=Fence.wide) (n:=0) I3 ?_;have hR:F0 ρ w0 n E1 h nx { tmps:=(ps.toArray.zip vs.toArray).foldl (fun tmps (x:Nat×Value)=>tmps.setIfInBounds x.1 x.2) q.tmps,defers:=[] } w:=by
                 rw [htm];exact ⟨[],⟨z2,z3⟩,U,hm,fun b hb=>(by cases hb),by rw [hw0];exact aH _⟩
                refine H1 (some (ρ t).1) ρ w0 _ w hR hf hn (.inr hb2) _ fun ρ2 a2 w2 e1 e2=>?_;have m2:=e2.mem;have e3:ρ2 t=ρ t:=e1.ext t htn;obtain ⟨_,_,_,o2,ho2,q2,rfl,j1,j2,j3,j4,j5,j6,j7⟩:=m2.own t _ hlp0;rw [e3] at ho2;have hlt:=(bX.1 ho2).1;refine ⟨_,run_beginRound ho2 (by rw [j1];cases st0 <;> first | rfl | cases hb5),?_⟩;obtain ⟨os,e2⟩:=e2;obtain ⟨m3,o3⟩:=e2.mem.write (b':=.lp E0 n0 ps0 as0 body0 .busy p0 nx2) (o:=.loop { q2 with state:=.busy }) (w':=w2.putObj (ρ t).1 (.loop { q2 with state:=.busy })) sU U hlp0
                 (by rw [e3];exact wU w2 _ _) (by rw [e3];exact gQ hlt) ⟨_,U,U,j2,j3,j4,j5,j6,fun i x hx=>j7 i x hx⟩
                have a4:Nx ρ2 h2 nx2 w2 ρ2 (h2.set (some (.lp E0 n0 ps0 as0 body0 .busy p0 nx2)) Fit t) (Nat.succ nx2) (w2.putObj (ρ t).1 (.loop { q2 with state:=.busy })):=⟨dO _,hf6,gA _ _,o3⟩
                have hR2:F0 ρ2 w0 n E2 (h2.set (some (.lp E0 n0 ps0 as0 body0 .busy p0 nx2)) Fit t) (Nat.succ nx2) a2 (w2.putObj (ρ t).1 (.loop { q2 with state:=.busy })):=⟨os,e2.slots.up (dO _) (gA _ _),e2.defers,m3,e2.mks,bP e2.ss a4.old.sz⟩
                refine H2 (some (ρ t).1) ρ2 w0 _ _ hR2 hf6 hn (.inr hb3) _ fun ρ3 a3 w3 f1 f2=>?_;have htn2:t<nx2:=bZ htn e1.le;have e5:ρ3 t=ρ t:=(f1.ext t (Nat.lt_succ_of_lt htn2)).trans e3;obtain ⟨w4,k1,k2,k3⟩:=PJ (P:=P) f2.mem hlp4 hb7 c;rw [e5] at k1;have hnx:=(((e1.trans hm a4).trans hm f1).trans hm k2)
                have fin:∃ v w',(Instr.endRound (ρ t).1 c).run P w3=.ok v w'∧∃ u ρ',Ending.returned v=.returned u∧Nx ρ h nx w ρ' (h3.set (some (.lp E4 n4 ps4 as4 body4 (PN c) c nx3)) Fit t) (Nat.succ nx3) w'∧Kn (Nat.succ nx3) ρ' (.bool c.isNone) u∧Mem ρ' ⟨W0,ks0,G0,ok0,s0⟩ (h3.set (some (.lp E4 n4 ps4 as4 body4 (PN c) c nx3)) Fit t) (Nat.succ nx3) w':=
                 ⟨_,w4,k1,_,ρ3,U,hnx,Qf,by rw [hw0] at k3;exact k3.base⟩
                cases x3 with
                | normal=>cases hc;exact fin
                | ret=>cases hc;exact fin
                | exit id=>cases hc;exact fin
                | goto l=>cases hc
                | panic ch=>cases hc
                | outgrown=>cases hc
               cases hx:PG x3 with
               | none=>trivial
               | some c =>
                 cases c with
                 | none=>exact go none hx
                 | some c=>exact go (some c) hx
             trivial
         · trivial
       | _=>trivial
   trivial
 trivial
end
section
variable {P:I6} {Φ:A2→Prop} {pr:zH}
theorem LS {ih:E5→C6} (H:∀ c,tG P Φ c (ih c)) {all rest:List Oper} {o:Oper} {n:Nat} {E:Tr CV} {h:Tr CB} {nx:Nat}
 (hw:∀ (ρ:Pl) (w0:E7 Φ) (a:Act) (w:I8),F0 ρ w0 n E h nx a w→Region.wanted o (yielded all.toArray a.tmps)=true) :
 tG P Φ (.ops all (o :: rest) n E h nx) (match ih (.one o n E h nx) with | .ok x E h nx=>ih (.ops all rest n E h nx) | r=>r):=by
 have H1:=H (.one o n E h nx);generalize ih (.one o n E h nx)=q at H1;cases q with
 | bad=>trivial
 | ret v h' nx'=>exact H1.elim
 | ok x E' h' nx' =>
   obtain ⟨rfl,H1⟩:=H1;show tG P Φ _ (ih (.ops all rest n E' h' nx'));have H2:=H (.ops all rest n E' h' nx');generalize ih (.ops all rest n E' h' nx')=q2 at H2;cases q2 with
   | bad=>trivial
   | ret v h2 nx2=>exact H2.elim
   | ok x2 E2 h2 nx2 =>
     obtain ⟨rfl,H2⟩:=H2;refine ⟨U,fun ρ w0 a w hR hf hn K hK=>?_⟩;unfold uG;rw [aE (hw ρ w0 a w hR)];exact H1 ρ w0 a w hR hf hn _ fun ρ' a' w' e1 e2 _=>H2 ρ' w0 a' w' e2 e1.fit hn K fun ρ2 a2 w2 f1 f2=>hK ρ2 a2 w2 (e1.trans hR.mem f1) f2
theorem LU {ih:E5→C6} (H:∀ c,tG P Φ c (ih c)) {all rest:List Oper} {o:Oper} {n:Nat} {E:Tr CV} {h:Tr CB} {nx:Nat}
 (hw:∀ (ρ:Pl) (w0:E7 Φ) (a:Act) (w:I8),F0 ρ w0 n E h nx a w→Region.wanted o (yielded all.toArray a.tmps)=false) :
 tG P Φ (.ops all (o :: rest) n E h nx) (match Co E n o.dst (.tup .nil) with | some E=>ih (.ops all rest n E h nx) | none=>.bad 4 []):=by
 split
 · rename_i E' hp;have H2:=H (.ops all rest n E' h nx);generalize ih (.ops all rest n E' h nx)=q2 at H2;cases q2 with
   | bad=>trivial
   | ret v h2 nx2=>exact H2.elim
   | ok x2 E2 h2 nx2 =>
     obtain ⟨rfl,H2⟩:=H2;refine ⟨U,fun ρ w0 a w hR hf hn K hK=>?_⟩;unfold uG;rw [aC (by rw [hw ρ w0 a w hR];simp)];exact H2 ρ w0 _ w (hR.put (xE hR.slots hn hp Uk)) hf hn K hK
 trivial
theorem FU {ih:E5→C6} (H:∀ c,tG P Φ c (ih c)) (all l:List Oper) (n:Nat) (E:Tr CV) (h:Tr CB) (nx:Nat):tG P Φ (.ops all l n E h nx) (step P pr ih (.ops all l n E h nx)):=by
 cases l with
 | nil=>exact ⟨U,fun ρ w0 a w hR hf hn K hK=>hK ρ a w (Nx.refl hf) hR⟩
 | cons o rest =>
   show tG P Φ _ (match o.guard with
    | none=>(match ih (.one o n E h nx) with
      | .ok x E h nx=>ih (.ops all rest n E h nx)
      | r=>r)
    | some (j,want)=>(match Dk all j with
      | some t=>(match E.get t with
        | some (.bool b)=>bif gf b want then
         (match ih (.one o n E h nx) with
         | .ok x E h nx=>ih (.ops all rest n E h nx)
         | r=>r)
          else (match Co E n o.dst (.tup .nil) with | some E=>ih (.ops all rest n E h nx) | none=>.bad 4 [])
        | some (.tup .nil)=>(match Co E n o.dst (.tup .nil) with | some E=>ih (.ops all rest n E h nx) | none=>.bad 4 [])
        | _=>.bad 5 [])
      | none=>.bad 6 []))
   split
   · rename_i hg;exact LS H fun ρ w0 a w hR=>by simp [Region.wanted,hg]
   rename_i j want hg;split
   · rename_i t ht;split
     · rename_i b hb;cases hx:gf b want with
       | true =>
         have e:b=want:=by cases b <;> cases want <;> first | rfl | cases hx
         exact LS H fun ρ w0 a w hR=>by simp [Region.wanted,hg,Ji hR.slots ht hb,e]
       | false =>
         have e:b≠want:=by cases b <;> cases want <;> first | (cases hx;done) | exact tI
         exact LU H fun ρ w0 a w hR=>by simp [Region.wanted,hg,Ji hR.slots ht hb,e]
     · rename_i hb;exact LU H fun ρ w0 a w hR=>by simp [Region.wanted,hg,Ul hR.slots ht hb]
     trivial
   trivial
theorem ZZ {nx:Nat} {ρ:Pl} {l:CV} {vs:List Value} (hk:KL nx ρ l vs):∀ (i:Nat) (E:Tr CV),i+vs.length≤100000→∀ (j:Nat) (x:CV),(FQ l i E).get j=some x→(i≤j∧∃ v,vs[j - i]?=some v∧Kn nx ρ x v)∨E.get j=some x:=by
 refine nD (motive:=fun l vs=>∀ (i:Nat) (E:Tr CV),i+vs.length≤100000→∀ (j:Nat) (x:CV),(FQ l i E).get j=some x→(i≤j∧∃ v,vs[j - i]?=some v∧Kn nx ρ x v)∨E.get j=some x) ?_ ?_ hk
 · intro i E _ j x hx;exact .inr hx
 intro a b v vs hv hvs ih i E hi j x hx;have hx':(FQ b (Nat.succ i) (E.set (some a) Fit i)).get j=some x:=hx;rw [aU] at hi;rcases ih (i+1) _ sU j x hx' with ⟨h1,u,h2,h3⟩ | h1
 · refine .inl ⟨by omega,u,?_,h3⟩;rw [show j - i=(j - (i+1))+1 by omega];simpa using h2
 rw [fP (some a) Fit E i j (by rw [Ty];omega)] at h1;by_cases e:j=i
 · rw [aE e] at h1;cases h1;exact .inl ⟨by omega,v,by subst e;simp,hv⟩
 rw [aC e] at h1;exact .inr h1
section
variable {nx n:Nat} {ρ:Pl} {w0:E7 Φ} {w:I8} {E:Tr CV} {h:Tr CB} {a:Act}
theorem aa (hR:F0 ρ w0 n E h nx a w) {x:ResultVar} {c:CV} (hc:fx P E h x=some c):∃ v,Kn nx ρ c v∧(Bw a.tmps x).run P w=.ok v w:=by
 cases x with
 | tmp t =>
   obtain ⟨v,h1,h2⟩:=hR.slots.2 t c hc;exact ⟨v,h2,by simp [Bw,h1]⟩
 | cell t T =>
   have hc':qv P E h (.load T (.tmp t))=some c:=hc;obtain ⟨ob,hob⟩:∃ ob:Nat→Obj,∀ t b,h.get t=some b→w.heap[(ρ t).1]?=some (ob t)∧DB nx ρ (ρ t).2 b (ob t):=by
    refine ⟨fun t=>(w.heap[(ρ t).1]?).getD default,fun t b hb=>?_⟩;obtain ⟨_,_,_,o,h1,h2⟩:=hR.mem.own t b hb;exact ⟨by show _=some ((w.heap[(ρ t).1]?).getD default);rw [h1];rfl,by show DB _ _ _ _ ((w.heap[(ρ t).1]?).getD default);rw [h1];exact h2⟩
   obtain ⟨v,k1,k2⟩:=LJ (ob:=ob) hR.slots (fun t b _ hb=>(hob t b hb).2) hc';have hr:=k2 w (fun t ht=>by
    obtain ⟨b,hb⟩:=IQ ht hc';exact (hob t b hb).1) none 0 "" #[] none
   refine ⟨v,k1,?_⟩;have hp:∃ ad,a.eval (.tmp t)=.pointer (some ad):=by
    have hx:∃ tt o,vO E (.tmp t)=some (.ptr tt o):=by
     have hq':(match vO E (.tmp t) with
      | some (.ptr t o)=>match h.get t with
        | some (.cells l _ _ _)=>bif wZ P T then VE l o else
          (match ig P T with
          | some k=>bif Nat.beq (uK (vC l o k)) k then some (.agg (vC l o k)) else none
          | none=>none)
        | _=>none
      | _=>none)=some c:=hc'
     split at hq'
     · rename_i tt o hx;exact ⟨tt,o,hx⟩
     cases hq'
    obtain ⟨tt,o,hx⟩:=hx;obtain ⟨u,e1,g1⟩:=tD hR.slots hx;have:=rO.1 g1.2;subst this;exact ⟨_,yZ e1⟩
   obtain ⟨ad,had⟩:=hp;have had':a.tmps.getD t undef=.pointer (some ad):=had;simp only [Bw,had',asAddr];simp only [execOp,had,Instr.loadAt,Instr.sureAddr] at hr;simp only [bK,bO,aR] at hr ⊢;generalize (loadVar T ad).run P w=q at hr ⊢;cases q with
   | ok u w'=>simp only [aR,bO,Result.ok.injEq,Next.value.injEq] at hr;obtain ⟨rfl,rfl⟩:=hr;rfl
   | halt x w'=>cases hr
theorem LV (hR:F0 ρ w0 n E h nx a w):∀ {l:List ResultVar} {c:CV},fy P E h l=some c→∃ vs,KL nx ρ c vs∧(l.mapM (Bw a.tmps)).run P w=.ok vs w:=by
 intro l;induction l with
 | nil=>intro c hc;cases hc;exact ⟨[],nC,by simp⟩
 | cons x l ih =>
   intro c hc;have hc':(match fx P E h x with | some a=>(match fy P E h l with | some b=>some (.cons a b) | none=>none) | none=>none)=some c:=hc;split at hc'
   · rename_i c1 h1;split at hc'
     · rename_i c2 h2;cases hc';obtain ⟨v,k1,r1⟩:=aa hR h1;obtain ⟨vs,k2,r2⟩:=ih h2;exact ⟨v :: vs,oX k1 k2,by simp [List.mapM_cons,r1,r2]⟩
     cases hc'
   cases hc'
theorem ae (hR:F0 ρ w0 n E h nx a w) {fn:Func} {c:CV} (hc:FR P E h fn.results.toList=some c):∃ v,Kn nx ρ c v∧(results fn a.tmps).run P w=.ok v w:=by
 unfold FR at hc;have key:∀ vs,(fn.results.toList.mapM (Bw a.tmps)).run P w=.ok vs w→(results fn a.tmps).run P w=.ok (if h:vs.toArray.size=1 then vs.toArray[0] else .tuple vs.toArray) w:=fun vs hvs=>by
  rw [yT];have e1:fn.results.mapM (Bw a.tmps)=List.toArray <$> (fn.results.toList.mapM (Bw a.tmps)):=by rw [Array.mapM_eq_mapM_toList]
  rw [e1,map_eq_pure_bind];simp only [bK,hvs,aR,bO]
 split at hc
 · rename_i c1 h1;cases hc;obtain ⟨vs,k1,r1⟩:=LV hR h1;obtain ⟨v,vs',rfl,k2,k3⟩:=k1.inv_cons;rw [k3.inv_nil] at r1;exact ⟨v,k2,by rw [key _ r1];simp⟩
 · rename_i c1 hne h1;cases hc;obtain ⟨vs,k1,r1⟩:=LV hR h1;refine ⟨.tuple vs.toArray,⟨k1.1,rN.2 ⟨vs,k1.2,U⟩⟩,?_⟩;rw [key _ r1];have:¬vs.toArray.size=1:=fun hs=>by
    have hl:vs.length=1:=by simpa using hs
    rw [←uU k1] at hl;revert k1 hl hne;cases c1 <;> first | (intro hne k1 hl;cases hl;done) | skip
    rename_i x y;intro hne k1 hl;obtain ⟨v,vs',rfl,k2,k3⟩:=k1.inv_cons;have hy:uK y=0:=Nat.succ.inj hl;cases y <;> first | exact absurd U (hne _) | (exact absurd k3.2 id) | (cases hy)
   rw [dif_neg this]
 cases hc
end
end
section
variable {P:I6} {Φ:A2→Prop} {pr:zH}
theorem Yh {ops:Array Oper} {K:Act→I8→Prop} {C C':Array Bool→I8→Prop} (hC:∀ L w,C' L w→C L w):∀ (f:Nat) (L:Array Bool) (a:Act) (w:I8),gm P ops K C' f L a w→gm P ops K C f L a w
 | 0,_,_,_,h=>⟨hC _ _ h.1,h.2⟩
 | f+1,_,_,_,h=>⟨hC _ _ h.1,h.2.1,fun i hi=>Qs (fun a w h=>Yh hC f _ a w h) (h.2.2 i hi)⟩
theorem FV {n nx:Nat} {ρ:Pl} {E:Tr CV} {a:Act} {l:List Oper} {o:Oper} {g:Bool} (hs:B4 ρ E nx n a) (h:il l E o=some g):Region.wanted o (yielded l.toArray a.tmps)=g:=by
 unfold il at h;split at h
 · rename_i hg;cases h;simp [Region.wanted,hg]
 rename_i j want hg;split at h
 · rename_i t ht;split at h
   · rename_i b hb;cases h;have:=Ji hs ht hb;simp only [Region.wanted,hg,this];cases b <;> cases want <;> rfl
   · rename_i hb;cases h;have:=Ul hs ht hb;simp [Region.wanted,hg,this]
   cases h
 cases h
theorem Ek {l:List Oper} {L:Array Bool} {i:Nat} (hd:ZY l L) (hi:i∈Region.ready .any l.toArray L):ZY l (L.setIfInBounds i true):=fun j o hj hl e he hb=>by
 by_cases hji:i=j
 · subst hji;obtain ⟨_,o',ho',h2⟩:=fX.1 hi;have ho:l.toArray[i]?=some o:=by simpa using hj
   rw [ho] at ho';cases ho';exact pD (h2 e he hb)
 rw [jB false hji] at hl;exact pD (hd j o hj hl e he hb)
theorem FW {l:List Oper} {L:Array Bool} {i j:Nat} (hd:ZY l L) (hi:i∈Region.ready .any l.toArray L) (hw:PI l i j):L.getD j false=false:=by
 obtain ⟨o,ho,_,he⟩:=hw;obtain ⟨e,he1,he2,he3⟩:=Ui.1 he;cases hl:L.getD j false with
 | false=>rfl
 | true =>
   have h1:=hd j o ho hl e he1 he2;rw [he3] at h1;obtain ⟨h0,o',ho',_⟩:=fX.1 hi;have hlt:i<l.toArray.size:=(bX.1 ho').1;rcases aN i L.size with hs | hs
   · simp [hs] at h0 h1;rw [h0] at h1;cases h1
   simp [gU hs] at h1
theorem Yi {o:Oper}:∀ {pend:List (Nat×Nat×Nat)} {x:Nat×Nat×Nat},x∈pend→(not (Fe o.op) && Uc o x.2.1)=false→x∈vP o pend:=by
 intro pend;induction pend with
 | nil=>intro x h _;cases h
 | cons y pend ih =>
   intro x h hx;show x∈(bif not (Fe o.op) && Uc o y.2.1 then vP o pend else y :: vP o pend);rcases dD.1 h with rfl | h
   · rw [hx];exact aQ
   cases (not (Fe o.op) && Uc o y.2.1) with
   | true=>exact ih h hx
   | false=>exact aL _ (ih h hx)
theorem wI {A:Array Bool} {j:Nat}:A.getD j true=false↔j<A.size∧A.getD j false=false:=by
 rcases aN j A.size with h | h
 · simp [h]
 simp [gU h];omega
theorem Un {R:List Nat} {L:Array Bool} {k:Nat}:(Uj R L).size=L.size∧((Uj R L).getD k false=true↔L.getD k false=true∨(k∈R∧k<L.size)):=by
 induction R with
 | nil=>exact ⟨U,fun h=>.inl h,fun h=>h.elim (fun q=>q) fun q=>by cases q.1⟩
 | cons j R ih =>
   obtain ⟨h1,h2⟩:=ih;refine ⟨by show ((Uj R L).setIfInBounds j true).size=_;simp [h1],?_⟩;show ((Uj R L).setIfInBounds j true).getD k false=true↔_;by_cases e:j=k
   · subst e;rcases aN j L.size with h | h
     · have:j<(Uj R L).size:=by rw [h1];exact h
       simp [this,h]
     have h3:¬j<(Uj R L).size:=by rw [h1];omega
     have h4:((Uj R L).setIfInBounds j true).getD j false=(Uj R L).getD j false:=by
      rw [gJ,gJ,gU (by simp;omega),gU sU]
     rw [h4,h2];constructor
     · rintro (h5 | h5)
       · exact .inl h5
       omega
     rintro (h5 | h5)
     · exact .inl h5
     omega
   rw [jB false e,h2];constructor
   · rintro (h5 | h5)
     · exact .inl h5
     exact .inr ⟨aL _ h5.1,h5.2⟩
   rintro (h5 | h5)
   · exact .inl h5
   rcases dD.1 h5.1 with h6 | h6
   · exact absurd h6.symm e
   exact .inr ⟨h6,h5.2⟩
section lists
variable {l:List Oper} {L Lm:Array Bool} {S:List D8} {i:Nat}
theorem LR.unl (h:LR L S Lm) {j:Nat} (hj:Lm.getD j true=false):L.getD j true=false∧∀ e∈S,e.j≠j:=by
 obtain ⟨h1,h2⟩:=wI.1 hj;refine ⟨wI.2 ⟨by rw [←h.size];exact h1,?_⟩,fun e he hej=>?_⟩
 · cases hl:L.getD j false with
   | false=>rfl
   | true=>rw [(h.iff j).2 (.inl hl)] at h2;cases h2
 rw [(h.iff j).2 (.inr ⟨e,he,hej⟩)] at h2;cases h2
theorem LR.up (h:LR L S Lm) (hi:i∈Region.ready .any l.toArray L) (hn:∀ e∈S,e.j≠i):i∈Region.ready .any l.toArray Lm:=by
 obtain ⟨h1,o,ho,h2⟩:=fX.1 hi;obtain ⟨h3,h4⟩:=wI.1 h1;refine fX.2 ⟨wI.2 ⟨by rw [h.size];exact h3,?_⟩,o,ho,fun e he hb=>(h.iff _).2 (.inl (h2 e he hb))⟩;cases hl:Lm.getD i false with
 | false=>rfl
 | true =>
   rcases (h.iff i).1 hl with h5 | ⟨e,h5,h6⟩
   · rw [h4] at h5;cases h5
   exact absurd h6 (hn e h5)
theorem LR.set (h:LR L S Lm) (hi:i<L.size) (hn:∀ e∈S,e.j≠i):LR (L.setIfInBounds i true) S (Lm.setIfInBounds i true):=by
 refine ⟨by simp [h.size],fun j=>?_,fun e he=>?_⟩
 · by_cases e:i=j
   · subst e;have h1:i<Lm.size:=by rw [h.size];exact hi
     simp [hi,h1]
   rw [jB false e,jB false e];exact h.iff j
 rw [jB true (fun e2=>hn e he e2.symm)];exact h.un e he
theorem LR.nil (h:LR L [] Lm) {j:Nat} (hj:j∈Region.ready .any l.toArray Lm):j∈Region.ready .any l.toArray L:=by
 obtain ⟨h1,o,ho,h2⟩:=fX.1 hj;refine fX.2 ⟨(h.unl h1).1,o,ho,fun e he hb=>?_⟩;rcases (h.iff _).1 (h2 e he hb) with h3 | ⟨x,h3,_⟩
 · exact h3
 cases h3
theorem LR.early (h:LR L S Lm) {j p:Nat} {o:Obj} {V:Nat→Value} (hj:Lm.getD j true=false):LR L (⟨j,p,o,V⟩ :: S) (Lm.setIfInBounds j true):=by
 obtain ⟨h1,h2⟩:=wI.1 hj;refine ⟨by simp [h.size],fun k=>?_,fun e he=>?_⟩
 · by_cases e:j=k
   · subst e;simp [h1]
   rw [jB false e,h.iff k];constructor
   · rintro (h5 | ⟨x,h5,h6⟩)
     · exact .inl h5
     exact .inr ⟨x,aL _ h5,h6⟩
   rintro (h5 | ⟨x,h5,h6⟩)
   · exact .inl h5
   rcases dD.1 h5 with rfl | h5
   · exact absurd h6 e
   exact .inr ⟨x,h5,h6⟩
 rcases dD.1 he with rfl | he
 · exact (h.unl hj).1
 exact h.un e he
theorem PK {e:D8} (he:e∈S):∃ A B,S=A++e :: B:=List.append_of_mem he
theorem LR.adopt {A B:List D8} {e:D8} (h:LR L (A++e :: B) Lm) (hnd:((A++e :: B).map (·.j)).Nodup):LR (L.setIfInBounds e.j true) (A++B) Lm:=by
 have hu:=(wI.1 (h.un e tW)).1;have hne:∀ x,x∈A++B→x.j≠e.j:=fun x hx hxe=>by
  rw [jV,dY] at hnd;have h1:=oW.1 hnd;have h2:=iC.1 h1.2.1;rcases dR.1 hx with h3 | h3
  · exact h1.2.2 x.j (cT.2 ⟨x,h3,U⟩) e.j (aQ ..) hxe
  exact h2.1 (cT.2 ⟨x,h3,hxe⟩)
 refine ⟨by simp [h.size],fun k=>?_,fun x hx=>?_⟩
 · rw [h.iff k];by_cases e2:e.j=k
   · subst e2;simp [hu];exact .inr ⟨e,.inr (.inl U),U⟩
   rw [jB false e2];constructor
   · rintro (h5 | ⟨x,h5,h6⟩)
     · exact .inl h5
     rcases dR.1 h5 with h7 | h7
     · exact .inr ⟨x,jE _ h7,h6⟩
     rcases dD.1 h7 with rfl | h7
     · exact absurd h6 e2
     exact .inr ⟨x,jQ _ h7,h6⟩
   rintro (h5 | ⟨x,h5,h6⟩)
   · exact .inl h5
   rcases dR.1 h5 with h7 | h7
   · exact .inr ⟨x,jE _ h7,h6⟩
   exact .inr ⟨x,jQ _ (aL _ h7),h6⟩
 rw [jB true (fun e2=>hne x hx e2.symm)];refine h.un x ?_;rcases dR.1 hx with h3 | h3
 · exact jE _ h3
 exact jQ _ (aL _ h3)
theorem IR {Rc R:List Nat} (h:LR L S Lm) (hr:F2 l L Rc i R) (hs:∀ e∈S,e.j∈Rc) (hn:∀ e∈S,e.j≠i) {j:Nat} (hj:j∈Region.ready .any l.toArray Lm):j=i∨j∈R:=by
 by_cases hR:j∈R
 · exact .inr hR
 refine .inl (hr.only j ?_);obtain ⟨h1,o,ho,h2⟩:=fX.1 hj;obtain ⟨h3,h4⟩:=wI.1 (h.unl h1).1;refine fX.2 ⟨wI.2 ⟨by rw [(Un (k:=0)).1];exact h3,?_⟩,o,ho,fun e he hb=>Un.2.2 ?_⟩
 · cases hl:(Uj R L).getD j false with
   | false=>rfl
   | true =>
     rcases Un.2.1 hl with h5 | h5
     · rw [h4] at h5;cases h5
     exact absurd h5.1 hR
 rcases (h.iff _).1 (h2 e he hb) with h5 | ⟨x,h5,h6⟩
 · exact .inl h5
 rw [←h6];refine .inr ⟨?_,(wI.1 (h.un x h5)).1⟩;rcases hr.sub x.j (hs x h5) with h7 | h7
 · exact absurd h7 (hn x h5)
 exact h7
theorem FX:∀ {xs ys:List Nat},xs.Nodup→(∀ x∈xs,x∈ys)→xs.length≤ys.length
 | [],_,_,_=>aP _
 | x :: xs,ys,hn,h=>by
   obtain ⟨h1,h2⟩:=iC.1 hn;have hx:=h x (aQ ..);have:=FX (ys:=ys.erase x) h2 fun y hy=>(List.mem_erase_of_ne (fun e=>h1 (by rw [←e];exact hy))).2 (h y (aL _ hy));rw [List.length_erase_of_mem hx] at this;have:0<ys.length:=List.length_pos_of_mem hx;rw [aU];omega
theorem C8.cover:∀ {p:List (Nat×Pk)} {L:Array Bool} {Rc:List Nat},C8 l L Rc p→∀ k∈Rc,k∈p.map (·.1)
 | [],_,_,h,k,hk=>by rw [h.2] at hk;cases hk
 | (i,.look) :: p,_,_,h,k,hk=>aL _ (C8.cover h.2 k hk)
 | (i,.only) :: p,_,_,h,k,hk=>by rw [h.1] at hk;cases hk
 | (i,.race R) :: p,_,_,h,k,hk=>by
   rcases h.1.sub k hk with rfl | h2
   · exact aQ ..
   · exact aL _ (C8.cover h.2.2 k h2)
 | (i,.make R) :: p,_,_,h,k,hk=>by
   rcases h.1.sub k hk with rfl | h2
   · exact aQ ..
   exact aL _ (C8.cover h.2.2 k h2)
abbrev rV:=@C8.cover
theorem Uo {p:List (Nat×Pk)} {Rc:List Nat} (hp:C8 l L Rc p) (hs:∀ e∈S,e.j∈Rc) (hn:(S.map (·.j)).Nodup):S.length≤p.length:=by
 have:=FX hn (ys:=p.map (·.1)) fun x hx=>by
  obtain ⟨e,he,rfl⟩:=cT.1 hx;exact hp.cover _ (hs e he)
 simpa using this
end lists
section
variable {l:List Oper} {ρ ρ':Pl} {h h':Tr CB} {nx nx' n:Nat} {a a':Act} {w w' ws:I8} {e:D8} {E:Tr CV} {w0:E7 Φ}
theorem Gl {o:Oper} (h:Ud o=true):(∀ cs b,o.op≠.select cs b)∧Fe o.op=false∧o.guard=none∧(∃ xs,ns o.op=some xs)∧VW o.op=true∧∀ d,o.dst=some d→∀ x∈o.op.operands,x≠.tmp d:=by
 unfold Ud at h;rw [aF] at h;obtain ⟨h1,h2⟩:=h;have hg:o.guard=none:=by
  split at h2
  · assumption
  cases h2
 have hd:∀ d,o.dst=some d→∀ x∈o.op.operands,x≠.tmp d:=fun d hd x hx hxd=>by
  rw [hg,hd] at h2;simp only [eW] at h2;have h3:PC (isT d) o.op.operands.toList=true:=Ub.2 ⟨x,by simpa using hx,by rw [hxd];show Nat.beq d d=true;simp⟩;rw [h3] at h2;cases h2
 obtain ⟨dst,op,ty,pos,after,g⟩:=o;refine ⟨fun cs b e=>?_,?_,hg,?_,h1,hd⟩
 · have e':op=.select cs b:=e;subst e';cases h1
 · cases op <;> first | rfl | cases h1
 cases op <;> first | exact ⟨_,U⟩ | skip
 case makeMap T x=>cases x <;> first | exact ⟨_,U⟩ | cases h1
 all_goals cases h1
theorem Yj {dst:J0 Nat} (hk:H8 dst a a') {x:I7} (hx:∀ d,dst=some d→x≠.tmp d):a'.eval x=a.eval x:=by
 cases x with
 | tmp t =>
   show a'.tmps.getD t undef=a.tmps.getD t undef;rw [gJ,gJ,hk t (fun e=>hx t e rfl)]
 | _=>rfl
theorem EOk.keep (he:EOk P l ρ h a w ws e) {o:Oper} (hk:H8 o.dst a a') (hap:∀ oj,l[e.j]?=some oj→oj.apart l.toArray o=true) (hfr:Ya ρ h nx w ρ' h' w'):EOk P l ρ' h' a' w' ws e:=by
 obtain ⟨⟨oj,d,h1,h2,h3,h4,h5⟩,g1,g2,g3,g4⟩:=he;obtain ⟨q1,q2,q3⟩:=Oper.apart_spec (hap oj h1);refine ⟨⟨oj,d,h1,h2,h3,?_,fun w2=>?_⟩,bZ g1 hfr.sz,(hfr.fr _ g1 g4 id).trans g2,g3,fun t b ht e2=>?_⟩
 · rw [hk d (fun e2=>q2 d h3 e2)];exact h4
 · rw [←h5 w2,execOp_congr oj (Gl h2).1 fun x hx=>Yj hk fun d' hd hxd=>?_];subst hxd;exact q3 d' hd (jE _ (List.mem_filterMap.2 ⟨.tmp d',by simpa using hx,rfl⟩))
 rcases hfr.nw t b ht with h6 | ⟨t',b',h6,h7⟩
 · omega
 exact g4 t' b' h6 (h7.trans e2)
theorem FY (hs:B4 ρ E nx n a) {d:Nat} (hd:E.get d=none) (v:Value):B4 ρ E nx n (a.put (some d) v):=by
 refine ⟨by show (a.tmps.setIfInBounds d v).size=n;simp [hs.1],fun i x hx=>?_⟩;obtain ⟨u,h1,h2⟩:=hs.2 i x hx;refine ⟨u,?_,h2⟩;show (a.tmps.setIfInBounds d v)[i]?=some u;rw [iN (fun e=>by subst e;rw [hd] at hx;cases hx)];exact h1
theorem Yk {R:List Nat} (hR:∀ j∈R,∀ d,Dk l j=some d→d<Fit):∀ i x,(yP l R E).get i=some x→E.get i=some x:=by
 induction R with
 | nil=>exact fun i x h=>h
 | cons j R ih =>
   intro i x hx;have hx':(match Dk l j with | some d=>(yP l R E).set none Fit d | none=>yP l R E).get i=some x:=hx;have ih':=ih fun k hk=>hR k (aL _ hk);split at hx'
   · rename_i d hd;rw [fP _ _ _ _ _ (hR j (aQ ..) d hd)] at hx';split at hx'
     · cases hx'
     exact ih' i x hx'
   exact ih' i x hx'
theorem Up {R:List Nat} (hR:∀ j∈R,∀ d,Dk l j=some d→d<Fit) {j d:Nat} (hj:j∈R) (hd:Dk l j=some d):(yP l R E).get d=none:=by
 induction R with
 | nil=>cases hj
 | cons k R ih =>
   show (match Dk l k with | some d=>(yP l R E).set none Fit d | none=>yP l R E).get d=none;have hR':∀ j∈R,∀ d,Dk l j=some d→d<Fit:=fun k hk=>hR k (aL _ hk);rcases dD.1 hj with rfl | hj
   · rw [hd];simp only;rw [fP _ _ _ _ _ (hR _ (aQ ..) d hd),aE rfl]
   have:=ih hR' hj;split
   · rename_i d' hd';rw [fP _ _ _ _ _ (hR k (aQ ..) d' hd')];split
     · rfl
     exact this
   exact this
theorem F0.less {E':Tr CV} (hR:F0 ρ w0 n E h nx a w) (hE:∀ i x,E'.get i=some x→E.get i=some x):F0 ρ w0 n E' h nx a w:=by
 obtain ⟨os,hR⟩:=hR;exact ⟨os,⟨hR.slots.1,fun i x hx=>hR.slots.2 i x (hE i x hx)⟩,hR.defers,hR.mem,hR.mks,hR.ss⟩
end
theorem Nr {l:List Oper} {Lm:Array Bool} {ρ ρ':Pl} {w w':I8} {nx nx':Nat} {pend pend':List (Nat×Nat×Nat)} {cs:List (Nat×Nat×Obj)} {i:Nat} (hp:E8 l Lm ρ w nx pend cs) (hn:nx≤nx') (he:F8 nx ρ ρ') (hw:∀ (b:Nat) (o:Obj),w.heap[b]?=some o→w'.heap[b]?=some o)
 (hpe:∀ t k b,(t,k,b)∈pend→(t,k,b)∈pend'∨(PI l k i∧(Lm.setIfInBounds i true).getD i false=true)):E8 l (Lm.setIfInBounds i true) ρ' w' nx' pend' cs:=fun x hx=>by
 rcases hp x hx with ⟨k,h1,h2⟩ | ⟨t,b,h1,h2,h3,h4,h5⟩
 · exact .inl ⟨k,h1,pD h2⟩
 rcases hpe _ _ _ h1 with h6 | h6
 · exact .inr ⟨t,b,h6,bZ h2 hn,by rw [he t h2];exact h3,bP h4 hn,hw _ _ h5⟩
 exact .inl ⟨i,h6.1,h6.2⟩
theorem IS {A:Array Bool} {i:Nat} (h:A.getD i true=false):(A.setIfInBounds i true).getD i false=true:=by
 have:=(wI.1 h).1;simp [this]
theorem alloc_old {w:I8} {o:Obj}:∀ (b:Nat) (x:Obj),w.heap[b]?=some x→(w.alloc o).heap[b]?=some x:=fun b x h=>by
 rw [(vX w o).same b (bX.1 h).1 id];exact h
theorem LW {l:List Oper} {R Rc:List Nat} {n i nx pl:Nat} {E:Tr CV} {h:Tr CB} {pend:List (Nat×Nat×Nat)} {ρ ρs:Pl} {w0:E7 Φ} {ws:I8} {hs:Tr CB} {Lp:Nat} {L:Array Bool} {cs:List (Nat×Nat×Obj)} {K:Act→I8→Prop}
 (hf:nx≤Fit) (hn:n≤100000) (hro:F2 l L Rc i R) (hkill:∀ j∈R,∀ d,Dk l j=some d→E.get d=none) (hrq:Yf P l R n E h nx=true) (hcov:∀ (S:List D8),(∀ e∈S,e.j∈Rc∨e.j∈R)→(∀ e∈S,e.j≠i)→(S.map (·.j)).Nodup→S.length≤pl)
 (go:∀ (a:Act) (w:I8) (Lm:Array Bool) (S:List D8) (f:Nat),RI P l n E h nx pend ρ ρs w0 a w ws hs Lp L Lm (Rc++R) S cs→(∀ e∈S,e.j≠i)→pl=f+S.length→i∈Region.ready .any l.toArray Lm→stp P l.toArray i (gm P l.toArray K (CP l cs) f (Lm.setIfInBounds i true)) a w) :
 ∀ (f:Nat) (a:Act) (w:I8) (Lm:Array Bool) (S:List D8),RI P l n E h nx pend ρ ρs w0 a w ws hs Lp L Lm (Rc++R) S cs→(∀ e∈S,e.j≠i)→pl+1=f+S.length→gm P l.toArray K (CP l cs) f Lm a w:=by
 intro f;induction f with
 | zero =>
   intro a w Lm S hI hni hl;have:=hcov S (fun e he=>dR.1 (hI.sub e he)) hni hI.ndj;omega
 | succ f ih =>
   intro a w Lm S hI hni hl;have hir:=hI.lr.up hro.rd hni;have hsub:∀ e∈S,e.j=i∨e.j∈R:=fun e he=>by
    rcases dR.1 (hI.sub e he) with h1 | h1
    · exact hro.sub _ h1
    exact .inr h1
   refine ⟨hI.pend.cp,fun he=>(by rw [he] at hir;cases hir),fun j hj=>?_⟩;have hro':F2 l L (Rc++R) i R:=⟨hro.rd,fun k hk=>(dR.1 hk).elim (hro.sub k) .inr,hro.ni,hro.mks,hro.only⟩
   rcases IR hI.lr hro' hI.sub hni hj with rfl | hjR
   · exact go a w Lm S f hI hni sU hj
   obtain ⟨oj,e1,e2,e3,e4,e5⟩:=hro.mks j hjR;have e1':l.toArray[j]?=some oj:=by simpa using e1
   obtain ⟨s1,s2,s3,⟨xs,s4⟩,_,s6⟩:=Gl e2;have hq:=xC.1 hrq j hjR;obtain ⟨oj',e6,e7⟩:=Fb hq;rw [e1] at e6;cases e6;rw [aF] at e7;obtain ⟨e7,e8⟩:=e7;obtain ⟨dst,op,ty,pos,after,g⟩:=oj;cases dst with
   | none=>cases e7
   | some d =>
     have hdn:d<n:=tQ e7;have hEd:E.get d=none:=hkill j hjR d (by rw [En,e1];rfl);split at e8
     · rename_i c h' nx' hw;obtain ⟨b,s,o,V,_,_,_,_,_,_,hex⟩:=VZ hI.rel.slots s4 hw;obtain ⟨m1,o1⟩:=hI.rel.mem.grow (vX w o);have hji:j≠i:=fun e=>hro.ni (by rw [←e];exact hjR);have hjun:=(fX.1 hj).1;have hjS:=(hI.lr.unl hjun).2;have hstp:∀ Q:Act→I8→Prop,Q (a.put (some d) (V w.heap.size)) (w.alloc o)→stp P l.toArray j Q a w:=fun Q hQ=>by
        unfold stp;simp only [e1'];have hg:g=none:=s3;subst hg;simp only [Region.wanted,gL];unfold An;rw [hex w (some d) ty pos after none];exact hQ
       refine hstp _ (ih (a.put (some d) (V w.heap.size)) (w.alloc o) (Lm.setIfInBounds j true) (⟨j,w.heap.size,o,V⟩ :: S) ?_ ?_ Vr)
       · refine ⟨?_,hI.lr.early hjun,Ek hI.down hj,?_,?_,?_,?_,?_,hI.ms,hI.nxb.trans hI.ms ⟨aH _,hf,gA _ _,o1⟩⟩
         · obtain ⟨os,hR⟩:=hI.rel;obtain ⟨m2,_⟩:=hR.mem.grow (vX w o);exact ⟨os,FY hR.slots hEd _,(Cp _ _ _).trans hR.defers,m2,hR.mks,bP hR.ss o1.sz⟩
         · intro e he;rcases dD.1 he with rfl | he
           · exact jQ _ hjR
           exact hI.sub e he
         · rw [dY];exact iC.2 ⟨fun h=>by obtain ⟨e,he,h⟩:=cT.1 h;exact hjS e he h,hI.ndj⟩
         · rw [dY];refine iC.2 ⟨fun h=>?_,hI.ndp⟩;obtain ⟨e,he,h⟩:=cT.1 h;have:=(hI.eok e he).lt;simp only at h;omega
         · intro e he;rcases dD.1 he with rfl | he
           · refine ⟨⟨_,d,e1,e2,U,?_,fun w2=>?_⟩,?_,uS w o,bP hI.nxb.old.sz (aH _),fun t b ht=>?_⟩
             · have hsz:d<a.tmps.size:=by rw [hI.rel.slots.1];exact hdn
               show (a.tmps.setIfInBounds d _)[d]?=_;simp [hsz]
             · rw [←hex w2 (some d) ty pos after g,execOp_congr (ρ:=(a.put (some d) (V w.heap.size)).eval) (ρ':=a.eval) _ s1 fun x hx=>Yj (oJ a (some d) _) fun d' hd' hxd=>s6 d' hd' x hx hxd]
             · show w.heap.size<_;rw [wG];omega
             have:=hI.rel.mem.lt ht;show (ρ t).1≠w.heap.size;omega
           refine (hI.eok e he).keep (o:=⟨some d,op,ty,pos,after,g⟩) (oJ _ _ _) (fun ok hok=>?_) o1;obtain ⟨ok',f1,f2,f3,f4,f5⟩:=hro.mks e.j ((hsub e he).resolve_left (hni e he));rw [hok] at f1;cases f1;exact f5 j hjR (fun e2=>hjS e he e2.symm) _ e1
         exact Nr hI.pend (aH _) (gA _ _) alloc_old fun t k b h=>.inl h
       intro e he;rcases dD.1 he with rfl | he
       · exact hji
       exact hni e he
     cases e8
theorem Yl {l:List Oper} {R:List Nat} {n nx:Nat} {E:Tr CV} {h:Tr CB} (hn:n≤100000) (hrq:Yf P l R n E h nx=true):∀ j∈R,∀ d,Dk l j=some d→d<Fit:=fun j hj d hd=>by
 obtain ⟨o,h1,h2⟩:=Fb (xC.1 hrq j hj);rw [En,h1] at hd;have hd':o.dst=some d:=hd;rw [aF,hd'] at h2;have h3:d+1≤n:=tQ h2.1;rw [Ty];omega
theorem FZ {ih:E5→C6} (H:∀ c,tG P Φ c (ih c)) (l:List Oper) (i:Nat) (plan:List (Nat×Pk)) (pend:List (Nat×Nat×Nat)) (n:Nat) (E:Tr CV) (h:Tr CB) (nx:Nat):tG P Φ (.reg l ((i,.look) :: plan) pend n E h nx) (step P pr ih (.reg l ((i,.look) :: plan) pend n E h nx)):=by
 show tG P Φ _ (match Ur l i with
  | some o=>(match il l E o with
    | some g=>(bif g then (match qv P E h o.op with
     | some c=>(match Co E n o.dst c with
       | some E'=>ih (.reg l plan (match WG E o.op with | some t=>(t,i,nx) :: pend | none=>pend) n E' h nx)
       | none=>.bad 25 [o])
     | none=>.bad 26 [o])
     else (match Co E n o.dst (.tup .nil) with | some E=>ih (.reg l plan pend n E h nx) | none=>.bad 27 [o]))
    | none=>.bad 30 [o])
  | none=>.bad 31 [])
 split
 · rename_i o ho;rw [Ab] at ho;have ho':l.toArray[i]?=some o:=by simpa using ho
   split
   · rename_i g hg
     -- what an operation that only looks comes to
     have first:∀ {E':Tr CV} {pend':List (Nat×Nat×Nat)} (cs':Pl→I8→List (Nat×Nat×Obj)→List (Nat×Nat×Obj)),
      (∀ (ρ:Pl) (w0:E7 Φ) (a:Act) (w:I8) (cs:List (Nat×Nat×Obj)),F0 ρ w0 n E h nx a w→n≤100000→∃ (v:Value) (Cq:I8→Prop),yl P l.toArray o a Cq v∧B4 ρ E' nx n (a.put o.dst v)∧
       (∀ L w',(∀ j,PI l i j→L.getD j false=false)→CP l (cs' ρ w cs) L w'→Cq w')∧(∀ L w',CP l (cs' ρ w cs) L w'→CP l cs L w')∧(∀ L,E8 l L ρ w nx pend cs→E8 l L ρ w nx pend' (cs' ρ w cs)))→
      tG P Φ (.reg l ((i,.look) :: plan) pend n E h nx) (ih (.reg l plan pend' n E' h nx)):=fun {E' pend'} cs' hlook=>by
      have H2:=H (.reg l plan pend' n E' h nx);generalize ih (.reg l plan pend' n E' h nx)=q2 at H2;cases q2 with
      | bad=>trivial
      | ret v h2 nx2=>exact H2.elim
      | ok x2 E2 h2 nx2 =>
        obtain ⟨rfl,H2⟩:=H2;refine ⟨U,fun ρ ρs w0 a w ws hs Lp L Lm Rc S cs f hI hf hn hns hpl hlen K hK=>?_⟩;obtain ⟨⟨o',ho2,hlk,hrd,hfree⟩,hpl2⟩:=hpl;rw [ho] at ho2;cases ho2;obtain ⟨v,Cq,hy,hsl,hc1,hc2,hc3⟩:=hlook ρ w0 a w cs hI.rel hn;have hle:=Uo hpl2 hI.sub hI.ndj;rw [aU] at hlen;obtain ⟨f,rfl⟩:∃ f',f=f'+1:=⟨f - 1,by omega⟩
        have hSi:∀ e∈S,e.j≠i:=fun e he hei=>by
         obtain ⟨oj,d,h1,h2,_⟩:=(hI.eok e he).ex;rw [hei,ho] at h1;cases h1;rw [(Gl h2).2.1] at hlk;cases hlk
        have hrdm:=hI.lr.up hrd hSi;refine Yh hc2 _ _ _ _ ?_;have hdn2:=Ek hI.down hrdm;have hset:∀ L w',CP l (cs' ρ w cs) (L.setIfInBounds i true) w'→CP l (cs' ρ w cs) L w':=fun L w' hcp x hx hw=>hcp x hx fun j hj=>by
         have hne:i≠j:=fun e=>by
          subst e;obtain ⟨o2,h1,h2,_⟩:=hj;rw [ho] at h1;cases h1;rw [hlk] at h2;cases h2
         rw [jB false hne];exact hw j hj
        have hnoi:∀ e∈S,∀ oj,l[e.j]?=some oj→o.apart l.toArray oj=true:=fun e he oj hoj=>by
         refine hfree e.j oj (by simpa using hoj) (hSi e he) (hI.lr.un e he) fun x hx hb hxi=>?_;have h1:=hI.down e.j oj hoj ((hI.lr.iff e.j).2 (.inr ⟨e,he,U⟩)) x hx hb;rw [hxi,(wI.1 (fX.1 hrdm).1).2] at h1;cases h1
        have hg2:gm P l.toArray K (CP l (cs' ρ w cs)) f (Lm.setIfInBounds i true) (a.put o.dst v) w:=by
         refine H2 ρ ρs w0 (a.put o.dst v) w ws hs Lp _ _ Rc S _ f ⟨hI.rel.put hsl,hI.lr.set (wI.1 (fX.1 hrd).1).1 hSi,hdn2,hI.sub,hI.ndj,hI.ndp,fun e he=>?_,?_,hI.ms,hI.nxb⟩ hf hn hns hpl2 sU K hK
         · refine (hI.eok e he).keep (nx:=nx) (o:=o) (oJ a o.dst v) (fun oj hoj=>?_) mZ;obtain ⟨q1,q2,q3⟩:=Oper.apart_spec (hnoi e he oj hoj);unfold Oper.apart;rw [aF];constructor
           · cases hd:oj.dst with
             | none=>rfl
             | some d =>
               simp only [aF,eW,bne_iff_ne];refine ⟨?_,fun e2=>q2 d e2 hd⟩;have:=q3 d hd;simpa using this
           cases hd:o.dst with
           | none=>rfl
           | some d =>
             have:=q1 d hd;simpa using this
         intro x hx;rcases hc3 Lm hI.pend x hx with ⟨j,h1,h2⟩ | h1
         · exact .inl ⟨j,h1,pD h2⟩
         exact .inr h1
        refine BU (Wr:=(List.range l.length).filter fun j=>match l[j]? with | some oj=>!Fe oj.op && Uc oj i | none=>false) (Cq:=Cq) ho' hns ?_ hset ?_ f Lm a w (fun j oj hj hne hun hno=>hfree j oj hj hne (hI.lr.unl hun).1 hno) ?_ hrdm hy hg2
        · intro L' w' hL hcp;refine hc1 L' w' (fun j hj=>hL j ?_) hcp;obtain ⟨o2,h1,h2,h3⟩:=hj;refine iM.2 ⟨jD.2 (aW.1 h1).1,?_⟩;simp [h1,h2,h3]
        · intro j hj oj hoj;obtain ⟨_,h2⟩:=iM.1 hj;have h1:l[j]?=some oj:=by simpa using hoj
          simp only [h1,aF] at h2;exact Ui.1 h2.2
        intro j hj;obtain ⟨h1,h2⟩:=iM.1 hj;have hlt:=jD.1 h1;rw [aA hlt] at h2;simp only [aF,eW] at h2;exact FW hI.down hrdm ⟨_,aA hlt,h2.1,h2.2⟩
     cases g with
     | false =>
       simp only [pO];split
       · rename_i E' hp;refine first (fun _ _ cs=>cs) fun ρ w0 a w cs hR hn=>⟨undef,fun _=>True,.inr ⟨FV hR.slots hg,U⟩,xE hR.slots hn hp Uk,fun _ _ _ _=>trivial,fun _ _ h=>h,fun _ h=>h⟩
       · trivial
     | true =>
       simp only [mK];split
       · rename_i c hq;split
         · rename_i E' hp;cases hrd:WG E o.op with
           | none =>
             refine first (fun _ _ cs=>cs) fun ρ w0 a w cs hR hn=>?_
             obtain ⟨v,k1,k2⟩:=LJ (ob:=fun _=>default) hR.slots (fun t b ht _=>by rw [hrd] at ht;cases ht) hq;exact ⟨v,fun _=>True,.inl ⟨FV hR.slots hg,fun w' _=>k2 w' (fun t ht=>by rw [hrd] at ht;cases ht) o.dst o.type o.pos o.after o.guard⟩,xE hR.slots hn hp k1,fun _ _ _ _=>trivial,fun _ _ h=>h,fun _ h=>h⟩
           | some t =>
             refine first (fun ρ w cs=>(i,(ρ t).1,(w.heap[(ρ t).1]?).getD default) :: cs) fun ρ w0 a w cs hR hn=>?_
             obtain ⟨b,hb⟩:=IQ hrd hq;obtain ⟨htn,_,_,ob,hob,hdb⟩:=hR.mem.own t b hb;have hget:(w.heap[(ρ t).1]?).getD default=ob:=by rw [hob];rfl
             obtain ⟨v,k1,k2⟩:=LJ (ob:=fun _=>ob) hR.slots (fun t' b' ht hb'=>by rw [hrd] at ht;cases ht;rw [hb] at hb';cases hb';exact hdb) hq;refine ⟨v,fun w'=>w'.heap[(ρ t).1]?=some ob,.inl ⟨FV hR.slots hg,fun w' hw'=>k2 w' (fun t' ht=>by rw [hrd] at ht;cases ht;exact hw') o.dst o.type o.pos o.after o.guard⟩,xE hR.slots hn hp k1,?_,?_,?_⟩
             · intro L w' hL hcp;have:=hcp _ aQ hL;rw [this,hget]
             · intro L w' hcp x hx;exact hcp x (aL _ hx)
             intro L hpo x hx;rcases dD.1 hx with rfl | hx
             · exact .inr ⟨t,nx,aQ,htn,U,aH _,by rw [hget];exact hob⟩
             rcases hpo x hx with h1 | ⟨t',b',h1,h2⟩
             · exact .inl h1
             exact .inr ⟨t',b',aL _ h1,h2⟩
         trivial
       trivial
   trivial
 trivial
theorem Ym {l:List Oper} {Lm:Array Bool} {ρ ρ':Pl} {h h':Tr CB} {nx nx':Nat} {w w':I8} {pend:List (Nat×Nat×Nat)} {cs:List (Nat×Nat×Obj)} {j:Nat} {o:Oper} (ho:l[j]?=some o) (hrd:Lm.getD j true=false) (hpo:E8 l Lm ρ w nx pend cs)
 (e1:Nx ρ h nx w ρ' h' nx' w') (hkp:Ou h' (vP o pend)=true):E8 l (Lm.setIfInBounds j true) ρ' w' nx' (vP o pend) cs:=by
 intro x hx;rcases hpo x hx with ⟨k,h1,h2⟩ | ⟨t',b',h1,h2,h3,h4,h5⟩
 · exact .inl ⟨k,h1,pD h2⟩
 cases hE:(not (Fe o.op) && Uc o x.1) with
 | false =>
   have hmem:=Yi h1 hE;have hk:=(xC.1 hkp) _ hmem;simp only at hk;split at hk
   · rename_i bb hbb;have hst:AS bb<b':=tQ hk;obtain ⟨_,g2⟩:=e1.old.old t' bb hbb sU;exact .inr ⟨t',b',hmem,bZ h2 e1.le,by rw [e1.ext t' h2];exact h3,bP h4 e1.le,by rw [←h3,g2,h3];exact h5⟩
   · cases hk
 | true =>
   rw [aF,eW] at hE;exact .inl ⟨j,⟨o,ho,hE.1,hE.2⟩,IS hrd⟩
theorem Ns {l:List Oper} {Lm:Array Bool} {pend:List (Nat×Nat×Nat)} {j:Nat} {o:Oper} (ho:l[j]?=some o) (hl:Lm.getD j false=true):∀ t k b,(t,k,b)∈pend→(t,k,b)∈vP o pend∨(PI l k j∧Lm.getD j false=true):=fun t k b hm=>by
 cases hE:(not (Fe o.op) && Uc o k) with
 | false=>exact .inl (Yi hm hE)
 | true =>
   rw [aF,eW] at hE;exact .inr ⟨⟨o,ho,hE.1,hE.2⟩,hl⟩
theorem GA {ih:E5→C6} (H:∀ c,tG P Φ c (ih c)) (l:List Oper) (i:Nat) (plan:List (Nat×Pk)) (pend:List (Nat×Nat×Nat)) (n:Nat) (E:Tr CV) (h:Tr CB) (nx:Nat):tG P Φ (.reg l ((i,.only) :: plan) pend n E h nx) (step P pr ih (.reg l ((i,.only) :: plan) pend n E h nx)):=by
 show tG P Φ _ (match Ur l i with
  | some o=>(match il l E o with
    | some g=>(bif g then (match ih (.one o n E h nx) with
     | .ok _ E h nx=>bif Ou h (vP o pend) then ih (.reg l plan (vP o pend) n E h nx) else .bad 28 [o]
     | r=>r)
     else (match Co E n o.dst (.tup .nil) with | some E=>ih (.reg l plan (vP o pend) n E h nx) | none=>.bad 29 [o]))
    | none=>.bad 30 [o])
  | none=>.bad 31 [])
 split
 · rename_i o ho;rw [Ab] at ho;have ho':l.toArray[i]?=some o:=by simpa using ho
   split
   · rename_i g hg;cases g with
     | false =>
       simp only [pO];split
       · rename_i E' hp;have H2:=H (.reg l plan (vP o pend) n E' h nx);generalize ih (.reg l plan (vP o pend) n E' h nx)=q2 at H2;cases q2 with
         | bad=>trivial
         | ret v h2 nx2=>exact H2.elim
         | ok x2 E2 h2 nx2 =>
           obtain ⟨rfl,H2⟩:=H2;refine ⟨U,fun ρ ρs w0 a w ws hs Lp L Lm Rc S cs f hI hf hn hns hpl hlen K hK=>?_⟩;obtain ⟨rfl,⟨o',ho2,hrd,honly⟩,hpl2⟩:=hpl;have hS:S=[]:=iS.2 fun e he=>by cases hI.sub e he
           subst hS;have hrdm:=hI.lr.up hrd (fun e he=>by cases he);rw [aU] at hlen;obtain ⟨f,rfl⟩:∃ f',f=f'+1:=⟨f - 1,by simp only [cD] at hlen;omega⟩
           refine ⟨hI.pend.cp,fun he=>(by rw [he] at hrdm;cases hrdm),fun j hj=>?_⟩;have e:=honly j (hI.lr.nil hj);subst e;unfold stp;simp only [ho'];rw [FV hI.rel.slots hg];simp only [mJ,eQ];have hjun:=(fX.1 hj).1;refine H2 ρ ρs w0 _ w ws hs Lp _ _ [] [] cs f ⟨hI.rel.put (xE hI.rel.slots hn hp Uk),hI.lr.set (wI.1 (fX.1 hrd).1).1 (fun e he=>by cases he),Ek hI.down hj,(fun e he=>by cases he),lG,lG,(fun e he=>by cases he),?_,hI.ms,hI.nxb⟩ hf hn hns hpl2 (by simpa using hlen) K hK;exact Nr hI.pend (aH _) (gA _ _) (fun b x h=>h) (Ns (Lm:=Lm.setIfInBounds j true) ho (IS hjun))
       · trivial
     | true =>
       simp only [mK];have H1:=H (.one o n E h nx);generalize ih (.one o n E h nx)=q1 at H1;cases q1 with
       | bad=>trivial
       | ret v h' nx'=>exact H1.elim
       | ok x E' h' nx' =>
         obtain ⟨rfl,H1⟩:=H1;show tG P Φ _ (bif Ou h' (vP o pend) then ih (.reg l plan (vP o pend) n E' h' nx') else .bad 28 [o]);cases hkp:Ou h' (vP o pend) with
         | false=>trivial
         | true =>
           simp only [mK];have H2:=H (.reg l plan (vP o pend) n E' h' nx');generalize ih (.reg l plan (vP o pend) n E' h' nx')=q2 at H2;cases q2 with
           | bad=>trivial
           | ret v h2 nx2=>exact H2.elim
           | ok x2 E2 h2 nx2 =>
             obtain ⟨rfl,H2⟩:=H2;refine ⟨U,fun ρ ρs w0 a w ws hs Lp L Lm Rc S cs f hI hf hn hns hpl hlen K hK=>?_⟩;obtain ⟨rfl,⟨o',ho2,hrd,honly⟩,hpl2⟩:=hpl;have hS:S=[]:=iS.2 fun e he=>by cases hI.sub e he
             subst hS;have hrdm:=hI.lr.up hrd (fun e he=>by cases he);rw [aU] at hlen;obtain ⟨f,rfl⟩:∃ f',f=f'+1:=⟨f - 1,by simp only [cD] at hlen;omega⟩
             refine ⟨hI.pend.cp,fun he=>(by rw [he] at hrdm;cases hrdm),fun j hj=>?_⟩;have e:=honly j (hI.lr.nil hj);subst e;unfold stp;simp only [ho'];rw [FV hI.rel.slots hg];simp only [gL];refine H1 ρ w0 a w hI.rel hf hn _ fun ρ' a' w' e1 e2 _=>?_;exact H2 ρ' ρs w0 a' w' ws hs Lp _ _ [] [] cs f ⟨e2,hI.lr.set (wI.1 (fX.1 hrd).1).1 (fun e he=>by cases he),Ek hI.down hj,(fun e he=>by cases he),lG,lG,(fun e he=>by cases he),Ym ho (fX.1 hj).1 hI.pend e1 hkp,hI.ms,hI.nxb.trans hI.ms e1⟩ e1.fit hn hns hpl2 (by simpa using hlen) K hK
   trivial
 trivial
theorem Uq {A B:List D8} {e:D8} (g:D8→Nat) (h:((A++e :: B).map g).Nodup):((A++B).map g).Nodup∧∀ x∈A++B,g x≠g e:=by
 rw [jV,dY] at h;obtain ⟨h1,h2,h3⟩:=oW.1 h;obtain ⟨h4,h5⟩:=iC.1 h2;refine ⟨by rw [jV];exact oW.2 ⟨h1,h5,fun a ha b hb=>h3 a ha b (aL _ hb)⟩,fun x hx=>?_⟩;rcases dR.1 hx with h6 | h6
 · exact h3 _ (cT.2 ⟨x,h6,U⟩) _ (aQ ..)
 exact fun e2=>h4 (cT.2 ⟨x,h6,e2⟩)
theorem GB {ih:E5→C6} (H:∀ c,tG P Φ c (ih c)) (l:List Oper) (i:Nat) (R:List Nat) (plan:List (Nat×Pk)) (pend:List (Nat×Nat×Nat)) (n:Nat) (E:Tr CV) (h:Tr CB) (nx:Nat):tG P Φ (.reg l ((i,.race R) :: plan) pend n E h nx) (step P pr ih (.reg l ((i,.race R) :: plan) pend n E h nx)):=by
 show tG P Φ _ (match Ur l i with
  | some o=>bif Yf P l R n (yP l R E) h nx then (match ih (.one o n (yP l R E) h nx) with
   | .ok _ E h nx=>bif Ou h (vP o pend) then ih (.reg l plan (vP o pend) n E h nx) else .bad 28 [o]
   | r=>r) else .bad 32 [o]
  | none=>.bad 31 [])
 split
 · rename_i o ho;rw [Ab] at ho;have ho':l.toArray[i]?=some o:=by simpa using ho
   refine tO (tG P Φ _) (fun hrq=>?_) fun _=>trivial;have H1:=H (.one o n (yP l R E) h nx);generalize ih (.one o n (yP l R E) h nx)=q1 at H1;cases q1 with
   | bad=>trivial
   | ret v h' nx'=>exact H1.elim
   | ok x E' h' nx' =>
     obtain ⟨rfl,H1⟩:=H1;show tG P Φ _ (bif Ou h' (vP o pend) then ih (.reg l plan (vP o pend) n E' h' nx') else .bad 28 [o]);refine tO (tG P Φ _) (fun hkp=>?_) fun _=>trivial;have H2:=H (.reg l plan (vP o pend) n E' h' nx');generalize ih (.reg l plan (vP o pend) n E' h' nx')=q2 at H2;cases q2 with
     | bad=>trivial
     | ret v h2 nx2=>exact H2.elim
     | ok x2 E2 h2 nx2 =>
       obtain ⟨rfl,H2⟩:=H2;refine ⟨U,fun ρ ρs w0 a w ws hs Lp L Lm Rc S cs f hI hf hn hns hpl hlen K hK=>?_⟩;obtain ⟨hro,⟨o',ho2,hgd,hnm⟩,hpl2⟩:=hpl;rw [ho] at ho2;cases ho2;have hlt:=Yl hn hrq;have hSi:∀ e∈S,e.j≠i:=fun e he hei=>by
        obtain ⟨oj,d,h1,h2,_⟩:=(hI.eok e he).ex;rw [hei,ho] at h1;cases h1;rw [(Gl h2).2.2.2.2.1] at hnm;cases hnm
       refine LW (E:=yP l R E) (pl:=plan.length) hf hn hro (fun j hj d hd=>Up hlt hj hd) hrq ?_ ?_ f a w Lm S ⟨hI.rel.less (Yk hlt),hI.lr,hI.down,fun e he=>jE _ (hI.sub e he),hI.ndj,hI.ndp,hI.eok,hI.pend,hI.ms,hI.nxb⟩ hSi (by rw [←hlen,aU])
       · intro S hs hni hnd;exact Uo hpl2 (fun e he=>(hs e he).elim (fun h=>(hro.sub _ h).resolve_left (hni e he)) id) hnd
       intro a w Lm S f hI hSi hlen hir;have hsR:∀ e∈S,e.j∈R:=fun e he=>(dR.1 (hI.sub e he)).elim (fun h=>(hro.sub _ h).resolve_left (hSi e he)) id;unfold stp;simp only [ho',Region.wanted,hgd,gL];refine H1 ρ w0 a w hI.rel hf hn _ fun ρ' a' w' e1 e2 e3=>?_;refine H2 ρ' ρs w0 a' w' ws hs Lp _ _ R S cs f ⟨e2,hI.lr.set (wI.1 (fX.1 hro.rd).1).1 hSi,Ek hI.down hir,hsR,hI.ndj,hI.ndp,fun e he=>?_,Ym ho (fX.1 hir).1 hI.pend e1 hkp,hI.ms,hI.nxb.trans hI.ms e1⟩ e1.fit hn hns hpl2 hlen K hK;refine (hI.eok e he).keep e3 (fun oj hoj=>?_) e1.old;obtain ⟨ok',f1,f2,f3,f4,f5⟩:=hro.mks e.j (hsR e he);rw [hoj] at f1;cases f1;exact f4 o ho
 trivial
theorem BI {nx:Nat} {ρ:Pl} {s:Nat} {b:CB} {o:Obj} (h:DB nx ρ s b o):∀ x,o≠.deferred x:=fun x e=>by
 subst e;cases b with
 | cells l ty op st=>obtain ⟨vs,junk,_,h2,_⟩:=h;cases h2
 | ro l ty st=>obtain ⟨vs,fz,_,h2⟩:=h;cases h2
 | mapI l st=>exact absurd (show Obj.deferred x=A4 l from h) (by unfold A4;intro h;cases h)
 | mapK l st=>exact absurd (show Obj.deferred x=A4 l from h) (by unfold A4;intro h;cases h)
 | lp E n ps asg body q p st=>obtain ⟨q,h1,_⟩:=h;cases h1
theorem Mem.adopt {ρ:Pl} {w0:E7 Φ} {h:Tr CB} {nx:Nat} {w:I8} (hm:Mem ρ w0 h nx w) (hf:nx<Fit) {b:CB} {o:Obj} {s p:Nat} (hst:AS b=nx) (hp:w0.w.heap.size≤p) (ho:w.heap[p]?=some o) (hun:∀ t b,h.get t=some b→(ρ t).1≠p) (hb:DB nx ρ s b o) :
 ∃ ρ',F8 nx ρ ρ'∧ρ' nx=(p,s)∧Mem ρ' w0 (h.set (some b) Fit nx) (nx+1) w:=by
 have hext:F8 nx ρ (fun t=>if t=nx then (p,s) else ρ t):=fun t ht=>by simp [rW ht]
 have get:=fun j=>fP (some b) Fit h nx j hf;refine ⟨fun t=>if t=nx then (p,s) else ρ t,hext,by simp,⟨hm.upd,?_,?_,hm.imm,hm.nod,fun c hc=>?_⟩⟩
 · intro t b' ht;rw [get] at ht;by_cases e:t=nx
   · subst e;rw [aE rfl] at ht;cases ht;simp only [gL];exact ⟨by omega,by omega,hp,o,ho,hb.up (dO _) hext⟩
   rw [aC e] at ht;obtain ⟨h1,hs1,h2,o',h3,h4⟩:=hm.own t b' ht;simp only [e,eQ];exact ⟨by omega,by omega,h2,o',h3,h4.up (dO _) hext⟩
 · intro t t' b1 b2 h1 h2 he;rw [get] at h1 h2;by_cases e:t=nx <;> by_cases e':t'=nx
   · rw [e,e']
   · rw [aC e'] at h2;simp only [e,e',gL,eQ] at he;exact absurd he.symm (hun _ _ h2)
   · rw [aC e] at h1;simp only [e,e',gL,eQ] at he;exact absurd he (hun _ _ h1)
   rw [aC e] at h1;rw [aC e'] at h2;simp only [e,e',eQ] at he;exact hm.one t t' b1 b2 h1 h2 he
 obtain ⟨k1,k2,k3⟩:=hm.kept c hc;refine ⟨k1,k2,fun t b' ht=>?_⟩;rw [get] at ht;by_cases e:t=nx
 · simp only [e,gL];intro e2;rw [e2,k2] at ho;cases ho;exact BI hb _ U
 rw [aC e] at ht;simp only [e,eQ];exact k3 t b' ht
theorem Nx.adopt {ρs ρ ρ':Pl} {hs h:Tr CB} {Lp nx p s:Nat} {ws w:I8} {b:CB} (hn:Nx ρs hs Lp ws ρ h nx w) (hf:nx<Fit) (hst:AS b=nx) (he:F8 nx ρ ρ') (hp:ρ' nx=(p,s)) (hge:ws.heap.size≤p) (hlt:∀ t c,h.get t=some c→t<nx):Nx ρs hs Lp ws ρ' (h.set (some b) Fit nx) (nx+1) w:=by
 have get:=fun j=>fP (some b) Fit h nx j hf;refine ⟨Nat.le_succ_of_le hn.le,hf,hn.ext.trans he hn.le,⟨fun t c ht hst'=>?_,hn.old.fr,fun t c ht=>?_,hn.old.sz⟩⟩
 · rw [get] at ht;by_cases e:t=nx
   · rw [aE e] at ht;cases ht;have:=hn.le;omega
   rw [aC e] at ht;exact hn.old.old t c ht hst'
 rw [get] at ht;by_cases e:t=nx
 · rw [e,hp];exact .inl hge
 rw [aC e] at ht;rw [he t (hlt t c ht)];exact hn.old.nw t c ht
theorem GC {ih:E5→C6} (H:∀ c,tG P Φ c (ih c)) (l:List Oper) (i:Nat) (R:List Nat) (plan:List (Nat×Pk)) (pend:List (Nat×Nat×Nat)) (n:Nat) (E:Tr CV) (h:Tr CB) (nx:Nat):tG P Φ (.reg l ((i,.make R) :: plan) pend n E h nx) (step P pr ih (.reg l ((i,.make R) :: plan) pend n E h nx)):=by
 show tG P Φ _ (match Ur l i with
  | some o=>bif Yf P l R n (yP l R E) h nx then (match wm P (yP l R E) h nx o.op with
   | .val c h nx=>(match Co (yP l R E) n o.dst c with | some E=>ih (.reg l plan (vP o pend) n E h nx) | none=>.bad 33 [o])
   | _=>.bad 34 [o]) else .bad 35 [o]
  | none=>.bad 31 [])
 split
 · rename_i o ho;rw [Ab] at ho;have ho':l.toArray[i]?=some o:=by simpa using ho
   refine tO (tG P Φ _) (fun hrq=>?_) fun _=>trivial;split
   · rename_i c h' nx' hw;split
     · rename_i E' hp;have H2:=H (.reg l plan (vP o pend) n E' h' nx');generalize ih (.reg l plan (vP o pend) n E' h' nx')=q2 at H2;cases q2 with
       | bad=>trivial
       | ret v h2 nx2=>exact H2.elim
       | ok x2 E2 h2 nx2 =>
         obtain ⟨rfl,H2⟩:=H2;refine ⟨U,fun ρ ρs w0 a w ws hs Lp L Lm Rc S cs f hI hf hn hns hpl hlen K hK=>?_⟩;obtain ⟨hro,⟨o',ho2,hmk⟩,hpl2⟩:=hpl;rw [ho] at ho2;cases ho2;obtain ⟨s1,s2,s3,⟨xs,s4⟩,_,s6⟩:=Gl hmk;have hlt:=Yl hn hrq;have hI':=hI.rel.less (Yk (E:=E) hlt);by_cases hin:∃ e∈S,e.j=i
         · -- it was run ahead
           obtain ⟨e,he,hei⟩:=hin;obtain ⟨A,B,rfl⟩:=PK he;obtain ⟨b,s,ob,V,rfl,rfl,hft,hstb,hdb,hkn,hex⟩:=VZ hI'.slots s4 hw;obtain ⟨⟨oj,d,h1,h2,h3,h4,h5⟩,g1,g2,g3,g4⟩:=hI.eok e he;rw [hei,ho] at h1;cases h1;obtain ⟨dst,op,ty,pos,after,g⟩:=o;have hsame:∀ w2:I8,e.V w2.heap.size=V w2.heap.size∧w2.alloc e.o=w2.alloc ob:=fun w2=>by
            have q1:=h5 w2;rw [hex w2 dst ty pos after g] at q1;simp only [Result.ok.injEq,Next.value.injEq] at q1;exact ⟨q1.1.symm,q1.2.symm⟩
           have hV:∀ k:Nat,e.V k=V k:=fun k=>by
            have:=(hsame { w with heap:=Array.replicate k default }).1;simpa using this
           have hob:e.o=ob:=by
            have h9:=(hsame w).2;have h10:(w.alloc e.o).heap[w.heap.size]?=(w.alloc ob).heap[w.heap.size]?:=by rw [h9]
            rw [uS,uS] at h10;exact jU h10
           have hm:=hI.rel.mem;obtain ⟨os,hR⟩:=hI';obtain ⟨ρ',x1,x2,m2⟩:=hR.mem.adopt (s:=s) (p:=e.p) (o:=ob) hft hstb (bP (show (w0.plus os).w.heap.size≤ws.heap.size from hI.ms.upd.size) g3) (by rw [←hob];exact g2) g4 hdb;obtain ⟨nd1,nd2⟩:=Uq (·.j) hI.ndj;obtain ⟨nd3,nd4⟩:=Uq (·.p) hI.ndp;have hsub:∀ x∈A++B,x∈A++e :: B:=fun x hx=>(dR.1 hx).elim (fun h=>jE _ h) fun h=>jQ _ (aL _ h);have hdn:∃ E1,E1=E'∧B4 ρ' E1 (nx+1) n a:=by
            have hd':dst=some d:=h3;subst hd';have hp':(bif Nat.ble (Nat.succ d) n then some ((yP l R E).set (some c) Fit d) else none)=some E':=hp;rcases tA hp' with ⟨q1,q2⟩ | ⟨_,q2⟩
            · cases q2;have hsl:=hR.slots.up (dO _) x1;refine ⟨_,U,hsl.1,fun k x hx=>?_⟩;have hdn:=tQ q1;rw [fP (some c) Fit _ d k (by rw [Ty];omega)] at hx;by_cases e2:k=d
              · subst e2;rw [aE rfl] at hx;cases hx;exact ⟨_,h4,by rw [hV];exact hkn ρ' e.p x2⟩
              rw [aC e2] at hx;exact hsl.2 k x hx
            cases q2
           obtain ⟨E1,rfl,hsl⟩:=hdn;refine H2 ρ' ρs w0 a w ws hs Lp _ Lm R (A++B) cs f ⟨⟨os,hsl,hR.defers,m2,hR.mks,hR.ss⟩,?_,hI.down,?_,nd1,nd3,fun x hx=>?_,?_,hI.ms,hI.nxb.adopt hft hstb x1 x2 g3 fun t c ht=>(hm.own t c ht).1⟩ hft hn hns hpl2 ?_ K hK
           · have:=hI.lr.adopt hI.ndj;rw [hei] at this;exact this
           · intro x hx;exact (hro.sub _ (hI.sub x (hsub x hx))).resolve_left (fun e2=>nd2 x hx (e2.trans hei.symm))
           · obtain ⟨f1,f2,f3,f4,f5⟩:=hI.eok x (hsub x hx);refine ⟨f1,f2,f3,f4,fun t b' ht=>?_⟩;rw [fP (some b) Fit h nx t hft] at ht;by_cases e2:t=nx
             · rw [e2,x2];exact fun e3=>nd4 x hx e3.symm
             rw [aC e2] at ht;rw [x1 t (hm.own t b' ht).1];exact f5 t b' ht
           · intro x hx;rcases hI.pend x hx with h6 | ⟨t,b',h6,h7,h8,h9,h10⟩
             · exact .inl h6
             rcases Ns (Lm:=Lm) ho ((hI.lr.iff i).2 (.inr ⟨e,he,hei⟩)) _ _ _ h6 with h11 | h11
             · exact .inr ⟨t,b',h11,Nat.lt_succ_of_lt h7,by rw [x1 t h7];exact h8,Nat.le_succ_of_le h9,h10⟩
             exact .inl ⟨i,h11.1,h11.2⟩
           simp only [aD,aU] at hlen ⊢;omega
         -- it is run now
         have hSi:∀ e∈S,e.j≠i:=fun e he hei=>hin ⟨e,he,hei⟩;refine LW (E:=yP l R E) (pl:=plan.length) hf hn hro (fun j hj d hd=>Up hlt hj hd) hrq ?_ ?_ f a w Lm S ⟨hI',hI.lr,hI.down,fun e he=>jE _ (hI.sub e he),hI.ndj,hI.ndp,hI.eok,hI.pend,hI.ms,hI.nxb⟩ hSi (by rw [←hlen,aU])
         · intro S hs hni hnd;exact Uo hpl2 (fun e he=>(hs e he).elim (fun h=>(hro.sub _ h).resolve_left (hni e he)) id) hnd
         intro a w Lm S f hI hSi hlen hir;have hsR:∀ e∈S,e.j∈R:=fun e he=>(dR.1 (hI.sub e he)).elim (fun h=>(hro.sub _ h).resolve_left (hSi e he)) id;obtain ⟨b,s,ob,V,rfl,rfl,hft,hstb,hdb,hkn,hex⟩:=VZ hI.rel.slots s4 hw;obtain ⟨dst,op,ty,pos,after,g⟩:=o;obtain ⟨os,hR⟩:=hI.rel;obtain ⟨ρ',x1,x2,m2,o2⟩:=hR.mem.new (s:=s) hft hstb (vX w ob) (wG w ob) (uS w ob) hdb;have hg:g=none:=s3;subst hg;unfold stp;simp only [ho',Region.wanted,gL];unfold An;rw [hex w dst ty pos after none];have e1:Nx ρ h nx w ρ' (h.set (some b) Fit nx) (nx+1) (w.alloc ob):=⟨dO _,hft,x1,o2⟩
         refine H2 ρ' ρs w0 _ _ ws hs Lp _ _ R S cs f ⟨⟨os,xE (hR.slots.up (dO _) x1) hn hp (hkn ρ' _ x2),(Cp _ _ _).trans hR.defers,m2,hR.mks,bP hR.ss o2.sz⟩,hI.lr.set (wI.1 (fX.1 hro.rd).1).1 hSi,Ek hI.down hir,hsR,hI.ndj,hI.ndp,fun e he=>?_,?_,hI.ms,hI.nxb.trans hI.ms e1⟩ hft hn hns hpl2 hlen K hK
         · refine (hI.eok e he).keep (o:=⟨dst,op,ty,pos,after,none⟩) (oJ _ _ _) (fun oj hoj=>?_) o2;obtain ⟨ok',f1,f2,f3,f4,f5⟩:=hro.mks e.j (hsR e he);rw [hoj] at f1;cases f1;exact f4 _ ho
         exact Nr hI.pend (dO _) x1 alloc_old (Ns (Lm:=Lm.setIfInBounds i true) ho (IS (fX.1 hir).1))
     trivial
   trivial
 trivial
theorem GD {ih:E5→C6} (H:∀ c,tG P Φ c (ih c)) (l:List Oper) (plan:List (Nat×Pk)) (pend:List (Nat×Nat×Nat)) (n:Nat) (E:Tr CV) (h:Tr CB) (nx:Nat):tG P Φ (.reg l plan pend n E h nx) (step P pr ih (.reg l plan pend n E h nx)):=by
 cases plan with
 | nil =>
   refine ⟨U,fun ρ ρs w0 a w ws hs Lp L Lm Rc S cs f hI hf hn hns hpl hlen K hK=>?_⟩;obtain ⟨h1,rfl⟩:=hpl;have hS:S=[]:=iS.2 fun e he=>by cases hI.sub e he
   subst hS;have hf0:f=0:=by simpa using hlen.symm
   subst hf0;have hnil:Region.ready .any l.toArray Lm=[]:=iS.2 fun j hj=>by
    have h3:=hI.lr.nil hj;rw [h1] at h3;cases h3
   exact ⟨hI.pend.cp,hnil,hK ρ a w hI.nxb hI.rel⟩
 | cons q plan =>
   obtain ⟨i,k⟩:=q;cases k with
   | look=>exact FZ H l i plan pend n E h nx
   | only=>exact GA H l i plan pend n E h nx
   | race R=>exact GB H l i R plan pend n E h nx
   | make R=>exact GC H l i R plan pend n E h nx
end
section
variable {P:I6} {Φ:A2→Prop} {pr:zH}
def Jj (P:I6) (Φ:A2→Prop) (pr:zH):Prop:=∀ f g,wp pr f=some g→vF P f∧∀ args v,g args=some v→∀ G,Φ G→∀ nx ρ vs,KL nx ρ args vs→∃ u,Kn nx ρ v u∧Does P f vs G [] (fun x G' Ho=>x=u∧G'=G∧Ho=[])
theorem Yn {fn:Func} {n nx':Nat} {ρ':Pl} {w0:E7 Φ} {E':Tr CV} {h':Tr CB} {a:Act} {v:CV} {R:Ending→I8→Prop} (hs:B4 ρ' E' nx' n a) (hv:FR P E' h' fn.results.toList=some v) :
 ∀ (os:List Nat) (w:I8),w0.s≤w.heap.size→Mem ρ' (w0.plus os) h' nx' w→(∀ w' u,Kn nx' ρ' v u→Mem ρ' w0 h' nx' w'→H7 (·∈os) ρ' h' nx' w ρ' h' w'→R (.returned u) w')→LeavesInM (FF none) 0 P fn a.tmps R (os.map mark) .returning w
 | [],w,hss,hm,hK=>by
   have hR:F0 ρ' w0 n E' h' nx' { a with defers:=[] } w:=⟨[],hs,U,hm,fun b hb=>(by cases hb),hss⟩
   obtain ⟨u,k1,k2⟩:=ae hR hv;exact ⟨u,k2,hK w u k1 hm mZ⟩
 | b :: os,w,hss,hm,hK=>by
   have hb:=(hm.kept b (aQ ..)).2.1;obtain ⟨m2,o2⟩:=hm.shut;refine ⟨by simp,.inl ⟨b,_,rfl,run_takeDeferred hb,Yn hs hv os _ (bP hss o2.sz) m2 fun w' u q1 q2 q3=>hK w' u q1 q2 ?_⟩⟩;exact ⟨fun t c hc hst=>⟨(q3.old t c hc hst).1,(q3.old t c hc hst).2.trans (o2.old t c (q3.old t c hc hst).1 hst).2⟩,fun p hp hu hx=>(q3.fr p (bZ hp o2.sz) hu (fun e=>hx (aL _ e))).trans (o2.fr p hp hu (fun e=>hx (by rw [e];exact aQ ..))),fun t b' hb'=>.inr ⟨t,b',hb',U⟩,bP o2.sz q3.sz⟩
theorem Yo {ih:E5→C6} (hpr:Jj P Φ pr) (H:∀ c,tG P Φ c (ih c)) (f:Nat) (args:CV) (h:Tr CB) (nx:Nat):tG P Φ (.call f args h nx) (step P pr ih (.call f args h nx)):=by
 show tG P Φ _ (match wp pr f with
  | some g=>(match g args with | some v=>.ret v h nx | none=>.bad 60 [])
  | none=>match qh P f with
  | some fn=>(match fn.body with
    | some c=>bif Nat.ble (uK args) fn.ntmps && Nat.ble fn.ntmps 100000 then (match ih (.code c fn.ntmps (FQ args 0 .e) h nx) with
      | .ok x E h nx=>(match x with
        | .normal=>(match FR P E h fn.results.toList with | some v=>.ret v h nx | none=>.bad 16 [])
        | .ret=>(match FR P E h fn.results.toList with | some v=>.ret v h nx | none=>.bad 16 [])
        | _=>.bad 17 [])
      | .ret _ _ _=>.bad 18 []
      | r=>r) else .bad 19 []
    | none=>.bad 20 [])
  | none=>.bad 21 [])
 split
 · rename_i g hg;split
   · rename_i v hv;obtain ⟨p1,p2⟩:=hpr f g hg;refine ⟨p1,fun ρ w0 w vs hm hk hfit=>?_⟩;obtain ⟨u,k1,k2⟩:=p2 args v hv w0.G w0.ok nx ρ vs hk;have hw:B3 [] w0.G w:=⟨fun t b o ht=>Jl,fun t t' b o o' ht=>Jl,fun b o hb=>(hm.upd.same b (bX.1 (hm.imm b o hb)).1 id).trans (hm.imm b o hb),fun t b o ht=>Jl⟩
     refine (k2 w hw).mono fun x w' ⟨v',G',Ho,h1,h2,h3,h4,h5,h6,h7⟩=>?_;obtain ⟨rfl,_,_⟩:=h7;have hu:D9 (fun _=>False) w w':=h4.mono fun k hk hx=>by obtain ⟨t,o,ht⟩:=hx;cases ht
     obtain ⟨m1,o1⟩:=hm.grow hu;exact ⟨v',ρ,h1,⟨aH _,hfit,gA _ _,o1⟩,k1,m1⟩
   trivial
 split
 · rename_i fn hfn;obtain ⟨hf,hname⟩:=fw hfn;split
   · rename_i c hb;cases hl:Nat.ble (uK args) fn.ntmps && Nat.ble fn.ntmps 100000 with
     | false=>trivial
     | true =>
       simp only [aF] at hl;have hl1:=tQ hl.1;have hl2:=tQ hl.2;simp only [mK];have H1:=H (.code c fn.ntmps (FQ args 0 .e) h nx);generalize ih (.code c fn.ntmps (FQ args 0 .e) h nx)=q at H1;cases q with
       | bad=>trivial
       | ret _ _ _=>trivial
       | ok x E' h' nx' =>
         have go:(x=.normal∨x=.ret)→tG P Φ (.call f args h nx) (match FR P E' h' fn.results.toList with | some v=>.ret v h' nx' | none=>.bad 16 []):=fun hx=>by
          split
          · rename_i v hv;refine ⟨⟨fn,hf,by rw [hb];rfl,hname⟩,fun ρ w00 w vs hm hk hfit=>?_⟩;obtain ⟨W0,ks0,G0,ok0,s0⟩:=w00;replace hm:=hm.base (s':=w.heap.size);obtain ⟨w0,hw0⟩:∃ w0:E7 Φ,w0=⟨W0,ks0,G0,ok0,w.heap.size⟩:=⟨_,U⟩
            rw [←hw0] at hm;have hlen:=uU hk;have hR:F0 ρ w0 fn.ntmps (FQ args 0 .e) h nx { tmps:=vs.toArray++Array.replicate (fn.ntmps - vs.toArray.size) undef,defers:=[] } w:=by
             refine ⟨[],⟨by simp;omega,fun i y hy=>?_⟩,U,hm,fun b hb=>(by cases hb),by rw [hw0];exact aH _⟩;rcases ZZ hk 0 .e sU i y hy with ⟨_,u,h1,h2⟩ | h1
             · refine ⟨u,?_,h2⟩;have h1':vs[i]?=some u:=by simpa using h1
               have hlt:i<vs.length:=(aW.1 h1').1;show (vs.toArray++Array.replicate (fn.ntmps - vs.toArray.size) undef)[i]?=some u;rw [lK (by simpa using hlt)];simpa using h1'
             cases h1
            refine yS.1 (callsIn_of_wp_marks (F:=FF none) (n:=0) hf hb I3 (H1 none ρ w0 _ w hR hfit hl2 (.inl U) _ fun ρ' a' w' e1 e2=>?_));obtain ⟨os,e2⟩:=e2;have key:LeavesInM (FF none) 0 P fn a'.tmps (fun e w'=>∃ u ρ',e=.returned u∧Nx ρ h nx w ρ' h' nx' w'∧Kn nx' ρ' v u∧Mem ρ' ⟨W0,ks0,G0,ok0,s0⟩ h' nx' w') a'.defers .returning w':=by
             rw [e2.defers];exact Yn e2.slots hv os w' e2.ss e2.mem fun w2 u q1 q2 q3=>⟨u,ρ',U,⟨e1.le,e1.fit,e1.ext,Oq hm e1.old q3 (fun p hp=>by have:=e2.mks p hp;rw [hw0] at this;exact this) e1.le e1.ext⟩,q1,by rw [hw0] at q2;exact q2.base⟩
            rcases hx with rfl | rfl <;> exact key
          trivial
         cases x with
         | normal=>exact go (.inl U)
         | ret=>exact go (.inr U)
         | _=>trivial
   trivial
 trivial
theorem run_ok (hpr:Jj P Φ pr) (fuel:Nat):∀ c,tG P Φ c (run P pr fuel c):=by
 induction fuel with
 | zero=>intro c;show tG P Φ c (.bad 0 []);cases c <;> trivial
 | succ fuel ih =>
   intro c;show tG P Φ c (step P pr (run P pr fuel) c);cases c with
   | code c n E h nx=>exact Yg ih c n E h nx
   | loop c n E h nx=>exact step_loop ih c n E h nx
   | ops all l n E h nx=>exact FU ih all l n E h nx
   | one o n E h nx=>exact FT ih o n E h nx
   | call f args h nx=>exact Yo hpr ih f args h nx
   | round t args h nx=>exact Um ih t args h nx
   | reg l plan pend n E h nx=>exact GD ih l plan pend n E h nx
def isTrue (r:C6):Bool:=match r with | .ret (.bool b) _ _=>b | _=>false
theorem PL {f:Nat} {q:C6} (H:tG P Φ (.call f .nil .e 0) q) (h:isTrue q=true) (G:A2) (hG:Φ G):Does P f [] G [] (fun v G' Ho=>v=.bool true∧G'=G∧Ho=[]):=by
 intro w hw;cases q with
 | bad=>cases h
 | ok _ _ _ _=>cases h
 | ret v h' nx' =>
   cases v with
   | bool b =>
     have hb:b=true:=h;subst hb;have hm:Mem (fun _=>(0,0)) (⟨w,[],G,hG,0⟩:E7 Φ) .e 0 w:=⟨kZ _ _,fun t b ht=>Jl,fun t t' b b' ht=>Jl,fun b o hb=>hw.imm b o hb,lG,fun b hb=>by cases hb⟩
     refine (H.2 (fun _=>(0,0)) ⟨w,[],G,hG,0⟩ w [] hm nC (aP _)).mono fun e w' ⟨u,ρ',h1,h2,h3,h4⟩=>?_;have h5:=qZ.1 h3.2;subst h5;refine ⟨.bool true,G,[],h1,⟨fun t b o ht=>Jl,fun t t' b o o' ht=>Jl,fun b o hb=>?_,fun t b o ht=>Jl⟩,cX _,h4.upd.mono fun k hk hx=>hx.elim,fun b h0 h1=>absurd h1 h0,fun t b o ht=>Jl,U,U,U⟩;rw [h4.upd.same b (hw.ltG hb) id];exact hw.imm b o hb
   | _=>cases h
end
end Go.Sl.Ev
end
