/- uK of the proof (part 8): what the rows' text needs of the texts that lead to it. -/
import Derived.Test.YtngphgeghfdjbaaGreatDoorMBg
set_option linter.unusedVariables false
set_option linter.unusedSimpArgs false
set_option linter.unusedSectionVars false
set_option maxHeartbeats 4000000
noncomputable section
set_option maxRecDepth 100000
namespace Go.Sl.Ev
open Go Go.Sl
inductive CV where
 | int (k:IntKind) (n:Int)
 | bool (b:Bool)
 | str (s:CV)
 | ptr (t o:Nat)
 | nilp
 | sl (t o n sz:Nat) (c:Option Nat)
 | nils
 | sle
 | mp (t:Nat)
 | nilm
 | fn (f:Nat) (fst cap:CV)
 | nilf
 | yl (t:Nat)
 | agg (l:CV)
 | tup (l:CV)
 | nil
 | cons (a b:CV)
abbrev Pl:=Nat→Nat×Nat
def D (ρ:Pl) (x:CV):(Value→Prop)×(List Value→Prop):=
 CV.rec (motive:=fun _=>(Value→Prop)×(List Value→Prop))
  (fun k n=>(fun v=>v=.int k n,fun _=>False))
  (fun b=>(fun v=>v=.bool b,fun _=>False))
  (fun _ ih=>(fun v=>∃ (vs:List Value) (bs:List UInt8),ih.2 vs∧vs=bs.map (fun b=>Value.int .u8 b.toNat)∧v=.string ⟨bs.toArray⟩,fun _=>False))
  (fun t o=>(fun v=>v=.pointer (some ⟨(ρ t).1,o,none⟩),fun _=>False))
  (fun v=>v=.pointer none,fun _=>False)
  (fun t o n sz c=>(fun v=>match c with
   | some c=>v=.slice (some ⟨(ρ t).1,o,none⟩) n c∧o+c*sz≤(ρ t).2∧n≤c∧c≤maxLen
   | none=>∃ c,v=.slice (some ⟨(ρ t).1,o,none⟩) n c∧o+c*sz=(ρ t).2∧n≤c∧c≤maxLen,fun _=>False))
  (fun v=>v=.slice none 0 0,fun _=>False)
  (fun v=>∃ a c,v=.slice a 0 c,fun _=>False)
  (fun t=>(fun v=>v=.map (some (ρ t).1),fun _=>False))
  (fun v=>v=.map none,fun _=>False)
  (fun f _ _ i1 i2=>(fun v=>∃ xs ys,i1.2 xs∧i2.2 ys∧v=.func (.func f) xs.toArray ys.toArray,fun _=>False))
  (fun v=>v=.nilFunc,fun _=>False)
  (fun t=>(fun v=>v=.func (.yield (ρ t).1) #[] #[],fun _=>False))
  (fun _ ih=>(fun v=>∃ vs,ih.2 vs∧v=.agg vs.toArray,fun _=>False))
  (fun _ ih=>(fun v=>∃ vs,ih.2 vs∧v=.tuple vs.toArray,fun _=>False))
  (fun v=>v=.nilIface,fun l=>l=[])
  (fun _ _ i1 i2=>(fun _=>False,fun l=>∃ v vs,l=v :: vs∧i1.1 v∧i2.2 vs)) x
def DV (ρ:Pl) (x:CV) (v:Value):Prop:=(D ρ x).1 v
def DL (ρ:Pl) (x:CV) (l:List Value):Prop:=(D ρ x).2 l
section
variable {ρ:Pl} {v:Value} {l:List Value}
theorem DV.int {k:IntKind} {n:Int}:DV ρ (.int k n) v↔v=.int k n:=nE
abbrev gJ:=@DV.int
theorem DV.bool {b:Bool}:DV ρ (.bool b) v↔v=.bool b:=nE
abbrev rD:=@DV.bool
theorem DV.ptr {t o:Nat}:DV ρ (.ptr t o) v↔v=.pointer (some ⟨(ρ t).1,o,none⟩):=nE
abbrev mI:=@DV.ptr
theorem DV.nilp:DV ρ .nilp v↔v=.pointer none:=nE
theorem DV.nils:DV ρ .nils v↔v=.slice none 0 0:=nE
abbrev nG:=@DV.nils
theorem DV.mp {t:Nat}:DV ρ (.mp t) v↔v=.map (some (ρ t).1):=nE
theorem RB {t o n sz c:Nat}:DV ρ (.sl t o n sz (some c)) v↔v=.slice (some ⟨(ρ t).1,o,none⟩) n c∧o+c*sz≤(ρ t).2∧n≤c∧c≤maxLen:=nE
abbrev jU:=@RB
theorem RC {t o n sz:Nat}:DV ρ (.sl t o n sz none) v↔∃ c,v=.slice (some ⟨(ρ t).1,o,none⟩) n c∧o+c*sz=(ρ t).2∧n≤c∧c≤maxLen:=nE
abbrev nF:=@RC
theorem DV.fn {f:Nat} {x y:CV}:DV ρ (.fn f x y) v↔∃ xs ys,DL ρ x xs∧DL ρ y ys∧v=.func (.func f) xs.toArray ys.toArray:=nE
theorem DV.agg {x:CV}:DV ρ (.agg x) v↔∃ vs,DL ρ x vs∧v=.agg vs.toArray:=nE
abbrev sU:=@DV.agg
theorem DV.tup {x:CV}:DV ρ (.tup x) v↔∃ vs,DL ρ x vs∧v=.tuple vs.toArray:=nE
abbrev qE:=@DV.tup
theorem DL.nil:DL ρ .nil l↔l=[]:=nE
theorem DL.cons {a b:CV}:DL ρ (.cons a b) l↔∃ v vs,l=v :: vs∧DV ρ a v∧DL ρ b vs:=nE
abbrev kT:=@DL.cons
end
def Bd (nx:Nat) (x:CV):Prop:=
 CV.rec (motive:=fun _=>Prop) (fun _ _=>True) (fun _=>True) (fun _ ih=>ih) (fun t _=>t<nx) True (fun t _ _ _ _=>t<nx) True True (fun t=>t<nx) True (fun _ _ _ i1 i2=>i1∧i2) True (fun t=>t<nx)
  (fun _ ih=>ih) (fun _ ih=>ih) True (fun _ _ i1 i2=>i1∧i2) x
def Ext (nx:Nat) (ρ ρ':Pl):Prop:=∀ t,t<nx→ρ' t=ρ t
theorem Ext.refl (nx:Nat) (ρ:Pl):Ext nx ρ ρ:=fun _ _=>rfl
abbrev dH:=@Ext.refl
theorem Ext.trans {nx nx':Nat} {a b c:Pl} (h:Ext nx a b) (k:Ext nx' b c) (hn:nx≤nx'):Ext nx a c:=fun t ht=>(k t (bS ht hn)).trans (h t ht)
theorem PL {nx:Nat} {ρ ρ':Pl} (h:Ext nx ρ ρ') (x:CV) (hb:Bd nx x):D ρ' x=D ρ x:=by
 induction x with
 | int k n=>rfl
 | bool b=>rfl
 | str s ih=>have:=ih hb;show (_,_)=(_,_);simp only [D] at this ⊢;rw [this]
 | ptr t o=>have e:=h t hb;show (_,_)=(_,_);simp only [e]
 | nilp=>rfl
 | sl t o n sz c=>have e:=h t hb;show (_,_)=(_,_);simp only [e]
 | nils=>rfl
 | sle=>rfl
 | mp t=>have e:=h t hb;show (_,_)=(_,_);simp only [e]
 | nilm=>rfl
 | fn f x y i1 i2=>have e1:=i1 hb.1;have e2:=i2 hb.2;show (_,_)=(_,_);simp only [D] at e1 e2 ⊢;rw [e1,e2]
 | nilf=>rfl
 | yl t=>have e:=h t hb;show (_,_)=(_,_);simp only [e]
 | agg l ih=>have:=ih hb;show (_,_)=(_,_);simp only [D] at this ⊢;rw [this]
 | tup l ih=>have:=ih hb;show (_,_)=(_,_);simp only [D] at this ⊢;rw [this]
 | nil=>rfl
 | cons a b i1 i2=>have e1:=i1 hb.1;have e2:=i2 hb.2;show (_,_)=(_,_);simp only [D] at e1 e2 ⊢;rw [e1,e2]
theorem Bd.mono {nx nx':Nat} (h:nx≤nx') (x:CV) (hb:Bd nx x):Bd nx' x:=by
 induction x with
 | str s ih=>exact ih hb
 | ptr t o=>exact bS (show t<nx from hb) h
 | sl t o n sz c=>exact bS (show t<nx from hb) h
 | mp t=>exact bS (show t<nx from hb) h
 | fn f x y i1 i2=>exact ⟨i1 hb.1,i2 hb.2⟩
 | yl t=>exact bS (show t<nx from hb) h
 | agg l ih=>exact ih hb
 | tup l ih=>exact ih hb
 | cons a b i1 i2=>exact ⟨i1 hb.1,i2 hb.2⟩
 | _=>trivial
def Kn (nx:Nat) (ρ:Pl) (x:CV) (v:Value):Prop:=Bd nx x∧DV ρ x v
def KL (nx:Nat) (ρ:Pl) (x:CV) (l:List Value):Prop:=Bd nx x∧DL ρ x l
theorem Kn.up {nx nx':Nat} {ρ ρ':Pl} {x:CV} {v:Value} (h:Kn nx ρ x v) (hn:nx≤nx') (he:Ext nx ρ ρ'):Kn nx' ρ' x v:=
 ⟨h.1.mono hn,by unfold DV;rw [PL he x h.1];exact h.2⟩
theorem KL.up {nx nx':Nat} {ρ ρ':Pl} {x:CV} {v:List Value} (h:KL nx ρ x v) (hn:nx≤nx') (he:Ext nx ρ ρ'):KL nx' ρ' x v:=
 ⟨h.1.mono hn,by unfold DL;rw [PL he x h.1];exact h.2⟩
theorem KL.nil {nx:Nat} {ρ:Pl}:KL nx ρ .nil []:=⟨trivial,rfl⟩
abbrev nS:=@KL.nil
theorem KL.cons {nx:Nat} {ρ:Pl} {a b:CV} {v:Value} {vs:List Value} (h1:Kn nx ρ a v) (h2:KL nx ρ b vs):KL nx ρ (.cons a b) (v :: vs):=⟨⟨h1.1,h2.1⟩,⟨v,vs,rfl,h1.2,h2.2⟩⟩
abbrev pJ:=@KL.cons
structure Rw where
 n:Nat
 t:Tr CV
def RT (nx:Nat) (ρ:Pl) (t:Tr CV) (vs:List Value):Prop:=∀ i x,t.get i=some x→∃ v,vs[i]?=some v∧Kn nx ρ x v
def RL (nx:Nat) (ρ:Pl) (r:Rw) (vs:List Value):Prop:=r.n=vs.length∧RT nx ρ r.t vs
theorem RL.up {nx nx':Nat} {ρ ρ':Pl} {r:Rw} {vs:List Value} (h:RL nx ρ r vs) (hn:nx≤nx') (he:Ext nx ρ ρ'):RL nx' ρ' r vs:=
 ⟨h.1,fun i x hx=>by obtain ⟨v,h1,h2⟩:=h.2 i x hx;exact ⟨v,h1,h2.up hn he⟩⟩
inductive CB where
 | cells (l:Rw) (ty:Nat) (op:Bool) (st:Nat)
 | ro (l:Rw) (ty:Nat) (st:Nat)
 | mapI (l:List (Int×Int)) (st:Nat)
 | mapK (l:List (K4×Int)) (st:Nat)
 | it (l:CV) (pos:Nat) (st:Nat)
 | lp (E:Tr CV) (n:Nat) (ps:List Nat) (asg body:Code) (q:LoopState) (p:Option Code) (st:Nat)
def Rr:CB→Nat
 | .cells _ _ _ s=>s
 | .ro _ _ s=>s
 | .mapI _ s=>s
 | .mapK _ s=>s
 | .it _ _ s=>s
 | .lp _ _ _ _ _ _ _ s=>s
def DB (nx:Nat) (ρ:Pl) (size:Nat):CB→Obj→Prop
 | .cells l ty op _,o=>∃ vs junk,RL nx ρ l vs∧o=.cells (vs++junk).toArray ty (0,0)∧vs.length+junk.length=size∧(op=false→junk=[])
 | .ro l ty _,o=>∃ vs fz,RL nx ρ l vs∧o=.cells vs.toArray ty fz
 | .mapI l _,o=>o=uF l
 | .mapK l _,o=>o=uF l
 | .it l pos _,o=>∃ bs:List UInt8,KL nx ρ l (bs.map fun b=>Value.int .u8 b.toNat)∧o=.stringIter ⟨bs.toArray⟩ pos
 | .lp E n ps asg body st p _,o=>∃ q:Loop,o=.loop q∧q.state=st∧q.pending=p∧q.params=ps.toArray∧q.assign=asg∧q.body=body∧q.tmps.size=n∧∀ i x,E.get i=some x→∃ v,q.tmps[i]?=some v∧Kn nx ρ x v
theorem DB.up {nx nx':Nat} {ρ ρ':Pl} {s:Nat} {b:CB} {o:Obj} (h:DB nx ρ s b o) (hn:nx≤nx') (he:Ext nx ρ ρ'):DB nx' ρ' s b o:=by
 cases b with
 | cells l ty op st=>obtain ⟨vs,junk,h1,h2⟩:=h;exact ⟨vs,junk,h1.up hn he,h2⟩
 | ro l ty st=>obtain ⟨vs,fz,h1,h2⟩:=h;exact ⟨vs,fz,h1.up hn he,h2⟩
 | mapI l st=>exact h
 | mapK l st=>exact h
 | it l pos st=>obtain ⟨bs,h1,h2⟩:=h;exact ⟨bs,h1.up hn he,h2⟩
 | lp E n ps asg body q p st =>
   obtain ⟨q,h1,h2,h3,h4,h5,h6,h7,h8⟩:=h
   exact ⟨q,h1,h2,h3,h4,h5,h6,h7,fun i x hx=>by obtain ⟨v,g1,g2⟩:=h8 i x hx;exact ⟨v,g1,g2.up hn he⟩⟩
structure Bas (Φ:Imm→Prop) where
 w:World
 ks:List Nat
 G:Imm
 ok:Φ G
 s:Nat
structure Mem {Φ:Imm→Prop} (ρ:Pl) (w0:Bas Φ) (h:Tr CB) (nx:Nat) (w:World):Prop where
 upd:Upd (fun _=>False) w0.w w
 own:∀ t b,h.get t=some b→t<nx∧Rr b<nx∧w0.w.heap.size≤(ρ t).1∧∃ o,w.heap[(ρ t).1]?=some o∧DB nx ρ (ρ t).2 b o
 one:∀ t t' b b',h.get t=some b→h.get t'=some b'→(ρ t).1=(ρ t').1→t=t'
 imm:∀ b o,w0.G b=some o→w0.w.heap[b]?=some o
 nod:w0.ks.Nodup
 kept:∀ b,b∈w0.ks→w0.w.heap.size≤b∧w.heap[b]?=some (.deferred (some []))∧∀ t c,h.get t=some c→(ρ t).1≠b
def Slots (ρ:Pl) (E:Tr CV) (nx:Nat) (n:Nat) (a:Act):Prop:=a.tmps.size=n∧∀ i x,E.get i=some x→∃ v,a.tmps[i]?=some v∧Kn nx ρ x v
def Bas.plus {Φ:Imm→Prop} (w0:Bas Φ) (os:List Nat):Bas Φ:=⟨w0.w,os++w0.ks,w0.G,w0.ok,w0.s⟩
structure Rel0 {Φ:Imm→Prop} (ρ:Pl) (w0:Bas Φ) (os:List Nat) (n:Nat) (E:Tr CV) (h:Tr CB) (nx:Nat) (a:Act) (w:World):Prop where
 slots:Slots ρ E nx n a
 defers:a.defers=os.map mark
 mem:Mem ρ (w0.plus os) h nx w
 mks:∀ b,b∈os→w0.s≤b
 ss:w0.s≤w.heap.size
def Rel {Φ:Imm→Prop} (ρ:Pl) (w0:Bas Φ) (n:Nat) (E:Tr CV) (h:Tr CB) (nx:Nat) (a:Act) (w:World):Prop:=∃ os,Rel0 ρ w0 os n E h nx a w
def lrec {β:Sort _} (n:β) (c:CV→CV→β→β) (x:CV):β:=
 CV.rec (motive:=fun _=>β) (fun _ _=>n) (fun _=>n) (fun _ _=>n) (fun _ _=>n) n (fun _ _ _ _ _=>n) n n (fun _=>n) n (fun _ _ _ _ _=>n) n (fun _=>n) (fun _ _=>n) (fun _ _=>n) n (fun a b _ ih=>c a b ih) x
section
variable {β:Type} {n:β} {c:CV→CV→β→β}
end
def Hw (l:CV):Nat→Option CV:=lrec (fun _=>none) (fun a _ ih k=>bif Nat.beq k 0 then some a else ih (Nat.pred k)) l
def tW (l:CV):Nat:=lrec 0 (fun _ _ ih=>Nat.succ ih) l
def zZ (l m:CV):CV:=lrec m (fun a _ ih=>.cons a ih) l
def Bz (k:Nat):CV→CV:=Nat.rec (fun l=>l) (fun _ ih l=>lrec .nil (fun _ b _=>ih b) l) k
def Ca (k:Nat):CV→CV:=Nat.rec (fun _=>.nil) (fun _ ih l=>lrec .nil (fun a b _=>.cons a (ih b)) l) k
def Rs (x:CV):Bool:=
 CV.rec (motive:=fun _=>Bool) (fun _ _=>true) (fun _=>true) (fun _ _=>true) (fun _ _=>true) true (fun _ _ _ _ _=>true) true true (fun _=>true) true (fun _ _ _ _ _=>true) true (fun _=>true) (fun _ _=>false) (fun _ _=>false) false (fun _ _ _ _=>false) x
def Fk (l:CV):Bool:=lrec true (fun a _ ih=>Rs a && ih) l
def Xt (l:CV) (k:Nat):CV:=Nat.rec .nil (fun _ ih=>zZ l ih) k
section
variable {nx:Nat} {ρ:Pl}
theorem KL.inv_nil {l:List Value} (h:KL nx ρ .nil l):l=[]:=h.2
theorem KL.inv_cons {a b:CV} {l:List Value} (h:KL nx ρ (.cons a b) l):∃ v vs,l=v :: vs∧Kn nx ρ a v∧KL nx ρ b vs:=by
 obtain ⟨h1,v,vs,h2,h3,h4⟩:=h
 exact ⟨v,vs,h2,⟨h1.1,h3⟩,⟨h1.2,h4⟩⟩
theorem DX {motive:CV→List Value→Prop} (h0:motive .nil []) (h1:∀ a b v vs,Kn nx ρ a v→KL nx ρ b vs→motive b vs→motive (.cons a b) (v :: vs)):∀ {x:CV} {l:List Value},KL nx ρ x l→motive x l:=by
 intro x
 induction x with
 | nil=>intro l h;rw [h.inv_nil];exact h0
 | cons a b _ ih =>
   intro l h
   obtain ⟨v,vs,rfl,h2,h3⟩:=h.inv_cons
   exact h1 a b v vs h2 h3 (ih h3)
 | _=>intro l h;exact absurd h.2 id
abbrev lP:=@DX
theorem Cp {x:CV} {l:List Value} (h:KL nx ρ x l):∀ {k:Nat} {c:CV},Hw x k=some c→∃ v,l[k]?=some v∧Kn nx ρ c v:=by
 refine lP (motive:=fun x l=>∀ {k:Nat} {c:CV},Hw x k=some c→∃ v,l[k]?=some v∧Kn nx ρ c v) ?_ ?_ h
 · intro k c hc;cases hc
 intro a b v vs hv hvs ih k c hc
 have hc':(bif Nat.beq k 0 then some a else Hw b (Nat.pred k))=some c:=hc
 cases hb:Nat.beq k 0 with
 | true =>
   rw [hb] at hc'
   have:=aD hb
   subst this
   cases hc'
   exact ⟨v,rfl,hv⟩
 | false =>
   rw [hb] at hc'
   obtain ⟨u,h1,h2⟩:=ih hc'
   refine ⟨u,?_,h2⟩
   cases k with
   | zero=>cases hb
   | succ k=>exact h1
theorem tZ {x:CV} {l:List Value} (h:KL nx ρ x l):tW x=l.length:=by
 refine lP (motive:=fun x l=>tW x=l.length) rfl ?_ h
 intro a b v vs _ _ ih
 show Nat.succ (tW b)=_
 rw [ih];rfl
theorem Cs {x y:CV} {l m:List Value} (h:KL nx ρ x l) (k:KL nx ρ y m):KL nx ρ (zZ x y) (l++m):=by
 refine lP (motive:=fun x l=>KL nx ρ (zZ x y) (l++m)) k ?_ h
 intro a b v vs h1 _ ih
 exact pJ h1 ih
theorem Fl:∀ (k:Nat) {x:CV} {l:List Value},KL nx ρ x l→KL nx ρ (Bz k x) (l.drop k):=by
 intro k
 induction k with
 | zero=>intro x l h;exact h
 | succ k ih =>
   intro x l h
   refine lP (motive:=fun x l=>KL nx ρ (Bz (k+1) x) (l.drop (k+1))) nS ?_ h
   intro a b v vs _ h2 _
   exact ih h2
theorem Fm:∀ (k:Nat) {x:CV} {l:List Value},KL nx ρ x l→KL nx ρ (Ca k x) (l.take k):=by
 intro k
 induction k with
 | zero=>intro x l h;exact nS
 | succ k ih =>
   intro x l h
   refine lP (motive:=fun x l=>KL nx ρ (Ca (k+1) x) (l.take (k+1))) nS ?_ h
   intro a b v vs h1 h2 _
   exact pJ h1 (ih h2)
theorem Jn {x:CV} {l:List Value} (h:KL nx ρ x l):∀ k:Nat,KL nx ρ (Xt x k) (List.replicate k l).flatten:=by
 intro k
 induction k with
 | zero=>exact nS
 | succ k ih =>
   rw [oG,List.flatten_cons]
   exact Cs h ih
theorem Pp {x:CV} {v:Value} (h:Kn nx ρ x v) (hs:Rs x=true):v.oneCell'=true:=by
 cases x with
 | int k n=>rw [show v=_ from h.2];rfl
 | bool b=>rw [show v=_ from h.2];rfl
 | str s=>obtain ⟨_,_,_,_,h3⟩:=h.2;rw [h3];rfl
 | ptr t o=>rw [show v=_ from h.2];rfl
 | nilp=>rw [show v=_ from h.2];rfl
 | sl t o n sz c =>
   cases c with
   | some c=>rw [(jU.1 h.2).1];rfl
   | none=>obtain ⟨c,h1,_⟩:=nF.1 h.2;rw [h1];rfl
 | nils=>rw [show v=_ from h.2];rfl
 | sle=>obtain ⟨_,_,h1⟩:=h.2;rw [h1];rfl
 | mp t=>rw [show v=_ from h.2];rfl
 | nilm=>rw [show v=_ from h.2];rfl
 | fn f x y=>obtain ⟨_,_,_,_,h1⟩:=DV.fn.1 h.2;rw [h1];rfl
 | nilf=>rw [show v=_ from h.2];rfl
 | yl t=>rw [show v=_ from h.2];rfl
 | agg l=>cases hs
 | tup l=>cases hs
 | nil=>cases hs
 | cons a b=>cases hs
theorem Ly {x:CV} {l:List Value} (h:KL nx ρ x l):Fk x=true→l.all (·.oneCell')=true:=by
 refine lP (motive:=fun x l=>Fk x=true→l.all (·.oneCell')=true) (fun _=>rfl) ?_ h
 intro a b v vs h1 _ ih hs
 have hs':(Rs a && Fk b)=true:=hs
 simp only [aC] at hs'
 rw [iT,aC]
 exact ⟨Pp h1 hs'.1,ih hs'.2⟩
end
def DY (r:Rw) (o:Nat):Option CV:=r.t.get o
def uE (r:Rw) (o k:Nat):CV:=Nat.rec (motive:=fun _=>Nat→CV) (fun _=>.nil) (fun _ ih o=>match r.t.get o with | some a=>.cons a (ih (Nat.succ o)) | none=>.nil) k o
def DZ (m:CV) (t:Tr CV) (p:Nat):Tr CV:=lrec (β:=Tr CV→Nat→Tr CV) (fun t _=>t) (fun a _ ih t p=>ih (t.set (some a) (Nat.succ p) p) (Nat.succ p)) m t p
def Nv (p:Nat) (m:CV) (r:Rw):Rw:=⟨r.n,DZ m r.t p⟩
def RD (r:Rw) (m:CV):Rw:=⟨Nat.add r.n (tW m),DZ m r.t r.n⟩
def Nw (m:CV):Rw:=⟨tW m,DZ m .e 0⟩
theorem JH:∀ (m:CV) (t:Tr CV) (p i:Nat),(DZ m t p).get i=if p≤i∧i<p+tW m then Hw m (i - p) else t.get i:=by
 intro m
 induction m with
 | cons a b _ ih =>
   intro t p i
   show (DZ b (t.set (some a) (Nat.succ p) p) (Nat.succ p)).get i=if p≤i∧i<p+Nat.succ (tW b) then (bif Nat.beq (i - p) 0 then some a else Hw b (Nat.pred (i - p))) else t.get i
   rw [ih,eP _ _ _ _ _ (cO p)]
   by_cases h1:i=p
   · subst h1
     rw [aL (by omega),aR rfl,aR (by omega),jX]
     rfl
   · by_cases h2:p+1≤i∧i<p+1+tW b
     · rw [aR (show Nat.succ p≤i∧i<Nat.succ p+tW b from h2),aR (by omega)]
       have h3:Nat.beq (i - p) 0=false:=by
        cases hb:Nat.beq (i - p) 0 with
        | false=>rfl
        | true=>have:=aD hb;omega
       rw [h3]
       show Hw b (i - (p+1))=Hw b (i - p - 1)
       rw [Nat.sub_add_eq]
     · rw [aL (show ¬(Nat.succ p≤i∧i<Nat.succ p+tW b) from h2),aL h1,aL (by omega)]
 | _=>intro t p i;exact (aL (show ¬(p≤i∧i<p+0) by omega)).symm
section
variable {nx:Nat} {ρ:Pl}
theorem AL {α:Type} {l n:List α} {p:Nat} (h:p+n.length≤l.length) (i:Nat):(l.take p++n++l.drop (p+n.length))[i]?=if p≤i∧i<p+n.length then n[i - p]? else l[i]?:=by
 have hl:(l.take p).length=p:=by rw [bC];omega
 by_cases h1:i<p
 · rw [aL (by omega),dQ,bH sV,List.getElem?_take_of_lt h1]
 by_cases h2:i<p+n.length
 · rw [aR ⟨by omega,h2⟩,dQ,cM sV,hl,bH sV]
 rw [aL (by omega),cM (by rw [aI,hl];omega),aI,hl,eV]
 congr 1;omega
theorem Rt {m:CV} {t:Tr CV} {p:Nat} {vs us news:List Value} (hm:KL nx ρ m news) (ht:RT nx ρ t vs) (h1:∀ i,p≤i→i<p+news.length→us[i]?=news[i - p]?) (h2:∀ i v,¬(p≤i∧i<p+news.length)→vs[i]?=some v→us[i]?=some v):RT nx ρ (DZ m t p) us:=fun i x hx=>by
 rw [JH,tZ hm] at hx
 by_cases h:p≤i∧i<p+news.length
 · rw [aR h] at hx
   obtain ⟨v,e1,e2⟩:=Cp hm hx
   exact ⟨v,by rw [h1 i h.1 h.2];exact e1,e2⟩
 rw [aL h] at hx
 obtain ⟨v,e1,e2⟩:=ht i x hx
 exact ⟨v,h2 i v h e1,e2⟩
theorem OA {m:CV} {r:Rw} {p:Nat} {vs news:List Value} (hr:RL nx ρ r vs) (hm:KL nx ρ m news) (hp:p+news.length≤vs.length):RL nx ρ (Nv p m r) (vs.take p++news++vs.drop (p+news.length)):=
 ⟨by show r.n=_;rw [hr.1];simp only [aI,bC,eC];omega,
  Rt hm hr.2 (fun i h1 h2=>by rw [AL hp,aR ⟨h1,h2⟩]) (fun i v h e=>by rw [AL hp,aL h];exact e)⟩
theorem AM {m:CV} {r:Rw} {vs news:List Value} (hr:RL nx ρ r vs) (hm:KL nx ρ m news):RL nx ρ (RD r m) (vs++news):=
 ⟨by show r.n+tW m=_;rw [hr.1,tZ hm,aI],
  Rt hm hr.2 (fun i h1 h2=>by rw [hr.1] at h1 ⊢;exact cM h1) (fun i v _ e=>by
   have:=(aS.1 e).1
   rw [bH this];exact e)⟩
theorem Ru {m:CV} {vs:List Value} (hm:KL nx ρ m vs):RL nx ρ (Nw m) vs:=
 ⟨tZ hm,Rt (vs:=[]) hm (fun i x hx=>by cases hx) (fun i _ h2=>by rw [oP]) (fun i v _ e=>by cases e)⟩
theorem Fp {r:Rw} {vs:List Value} (hr:RL nx ρ r vs):r.n=vs.length:=hr.1
theorem AN {r:Rw} {vs:List Value} (hr:RL nx ρ r vs) {k:Nat} {c:CV} (h:DY r k=some c):∃ v,vs[k]?=some v∧Kn nx ρ c v:=hr.2 k c h
theorem xS {r:Rw} {vs:List Value} (hr:RL nx ρ r vs):∀ {k o:Nat},tW (uE r o k)=k→KL nx ρ (uE r o k) ((vs.drop o).take k):=by
 intro k
 induction k with
 | zero=>intro o h;exact nS
 | succ k ih =>
   intro o h
   have hs:uE r o (k+1)=(match r.t.get o with | some a=>.cons a (uE r (o+1) k) | none=>.nil):=rfl
   rw [hs] at h ⊢
   split at h
   · rename_i a ha
     obtain ⟨v,e1,e2⟩:=hr.2 o a ha
     have h':tW (uE r (o+1) k)=k:=Nat.succ.inj h
     obtain ⟨hl,hg⟩:=aS.1 e1
     rw [gY hl,hg,List.take_succ_cons]
     exact pJ e2 (ih h')
   cases h
end
def ofB (l:List UInt8):CV:=List.rec .nil (fun b _ ih=>.cons (.int .u8 b.toNat) ih) l
def JI:Value→Option CV
 | .int k n=>some (.int k n)
 | .bool b=>some (.bool b)
 | .pointer none=>some .nilp
 | .slice none n c=>bif Nat.beq n 0 && Nat.beq c 0 then some .nils else none
 | .map none=>some .nilm
 | .nilFunc=>some .nilf
 | .nilIface=>some .nil
 | .string ⟨⟨l⟩⟩=>some (.str (ofB l))
 | _=>none
def XG (l:List Value):Option CV:=List.rec (some .nil) (fun v _ ih=>match JI v with | some a=>(match ih with | some b=>some (.cons a b) | none=>none) | none=>none) l
def PM:Value→Option CV
 | .agg ⟨l⟩=>match XG l with | some x=>some (.agg x) | none=>none
 | .tuple ⟨l⟩=>match XG l with | some x=>some (.tup x) | none=>none
 | v=>JI v
section
variable {nx:Nat} {ρ:Pl}
theorem RE:∀ l:List UInt8,KL nx ρ (ofB l) (l.map fun b=>Value.int .u8 b.toNat):=by
 intro l
 induction l with
 | nil=>exact nS
 | cons b l ih=>exact pJ ⟨trivial,rfl⟩ ih
theorem AO {v:Value} {x:CV} (h:JI v=some x):Kn nx ρ x v:=by
 unfold JI at h
 split at h
 · cases h;exact ⟨trivial,rfl⟩
 · cases h;exact ⟨trivial,rfl⟩
 · cases h;exact ⟨trivial,rfl⟩
 · rename_i n c
   cases hb:Nat.beq n 0 && Nat.beq c 0 with
   | true =>
     rw [hb] at h
     cases h
     simp only [aC] at hb
     have e1:=aD hb.1
     have e2:=aD hb.2
     subst e1 e2
     exact ⟨trivial,rfl⟩
   | false=>rw [hb] at h;cases h
 · cases h;exact ⟨trivial,rfl⟩
 · cases h;exact ⟨trivial,rfl⟩
 · cases h;exact ⟨trivial,rfl⟩
 · rename_i l
   cases h
   have:=RE (nx:=nx) (ρ:=ρ) l
   exact ⟨this.1,⟨_,l,this.2,rfl,rfl⟩⟩
 cases h
theorem JJ:∀ {l:List Value} {x:CV},XG l=some x→KL nx ρ x l:=by
 intro l
 induction l with
 | nil=>intro x h;cases h;exact nS
 | cons v l ih =>
   intro x h
   have h':(match JI v with | some a=>(match XG l with | some b=>some (.cons a b) | none=>none) | none=>none)=some x:=h
   split at h'
   · rename_i a ha
     split at h'
     · rename_i b hb
       cases h'
       exact pJ (AO ha) (ih hb)
     cases h'
   cases h'
theorem JK {v:Value} {x:CV} (h:PM v=some x):Kn nx ρ x v:=by
 unfold PM at h
 split at h
 · split at h
   · rename_i l y hy
     cases h
     have:=JJ (nx:=nx) (ρ:=ρ) hy
     exact ⟨this.1,sU.2 ⟨_,this.2,rfl⟩⟩
   cases h
 · split at h
   · rename_i l y hy
     cases h
     have:=JJ (nx:=nx) (ρ:=ρ) hy
     exact ⟨this.1,qE.2 ⟨_,this.2,rfl⟩⟩
   cases h
 exact AO h
end
def uM (E:Tr CV):Operand→Option CV
 | .tmp t=>E.get t
 | .const v=>PM v
 | .func f=>some (.fn f .nil .nil)
 | .global _=>none
def EA (E:Tr CV) (l:List Operand):Option CV:=List.rec (some .nil) (fun x _ ih=>match uM E x with | some a=>(match ih with | some b=>some (.cons a b) | none=>none) | none=>none) l
theorem Cb:∀ (vs:List Value) (i j:Nat),(vF i vs).get (i+j)=vs[j]?
 | [],i,j=>rfl
 | v :: vs,i,j=>by
   show Env.get ((i,v) :: vF (i+1) vs) (i+j)=_
   rw [iE]
   cases j with
   | zero=>simp
   | succ j =>
     rw [aL (by omega),show i+(j+1)=(i+1)+j by omega,Cb vs (i+1) j]
     rfl
def eA (a:Act):Env:=vF 0 a.tmps.toList
theorem Xu (a:Act) (i:Nat):(eA a).get i=a.tmps[i]?:=by
 have:=Cb a.tmps.toList 0 i
 rw [cH] at this
 unfold eA
 rw [this,nL]
section
variable {nx n:Nat} {ρ:Pl} {E:Tr CV} {a:Act}
theorem tB (h:Slots ρ E nx n a) {x:Operand} {c:CV} (hc:uM E x=some c):∃ v,(eA a).ev x=some v∧Kn nx ρ c v:=by
 cases x with
 | tmp t =>
   obtain ⟨v,h1,h2⟩:=h.2 t c hc
   exact ⟨v,by show (eA a).get t=_;rw [Xu];exact h1,h2⟩
 | const v=>exact ⟨v,rfl,JK hc⟩
 | func f =>
   cases hc
   exact ⟨_,rfl,⟨⟨trivial,trivial⟩,DV.fn.2 ⟨[],[],rfl,rfl,rfl⟩⟩⟩
 | global g=>cases hc
theorem Jo (h:Slots ρ E nx n a):∀ {l:List Operand} {c:CV},EA E l=some c→∃ vs,(eA a).evs l=some vs∧KL nx ρ c vs:=by
 intro l
 induction l with
 | nil=>intro c hc;cases hc;exact ⟨[],rfl,nS⟩
 | cons x l ih =>
   intro c hc
   have hc':(match uM E x with | some a=>(match EA E l with | some b=>some (.cons a b) | none=>none) | none=>none)=some c:=hc
   split at hc'
   · rename_i c1 h1
     split at hc'
     · rename_i c2 h2
       cases hc'
       obtain ⟨v,e1,k1⟩:=tB h h1
       obtain ⟨vs,e2,k2⟩:=ih h2
       exact ⟨v :: vs,by unfold Env.evs;rw [e1,e2],pJ k1 k2⟩
     cases hc'
   cases hc'
theorem lookN (a:Act) (w:World):Look (eA a) [] (fun _=>none) a w:=
 ⟨fun i v h=>by rw [Xu] at h;exact h,⟨fun t b o h=>yS,fun t t' b o o' h=>yS,fun b o h=>yS,fun t b o h=>yS⟩⟩
theorem VE (a:Act) {w:World} {b:Nat} {o:Obj} (hb:w.heap[b]?=some o):Look (eA a) [(0,some b,o)] (fun _=>none) a w:=
 ⟨fun i v h=>by rw [Xu] at h;exact h,⟨fun t b' o' h=>(by
  rw [bU] at h
  split at h
  · cases h;exact hb
  · cases h),fun t t' b1 o1 o2 h h'=>(by
  rw [bU] at h h'
  split at h <;> split at h'
  · omega
  · cases h'
  · cases h
  cases h),fun b o h=>yS,fun t b o h=>rfl⟩⟩
end
def EZ (P:Program) (T:Nat):Option Nat:=match P.info? T with | some i=>some i.size | none=>none
def SO (P:Program) (T:Nat):Option Nat:=match EZ P T with | some k=>bif wK P T k then some k else none | none=>none
def XH (P:Program) (s f:Nat):Option Nat:=match P.underlying s with
 | some (.struct ⟨fs⟩)=>match Ed fs f with
   | some fd=>match EZ P fd.type with
     | some k=>bif Nat.beq k 0 then none else some fd.offset
     | none=>none
   | none=>none
 | _=>none
def Pq (P:Program) (T:Nat):Option (Nat×Nat):=match P.underlying T with
 | some (.slice E)=>match EZ P E with | some k=>some (E,k) | none=>none
 | _=>none
theorem Dx {P:Program} {T k:Nat} (h:EZ P T=some k):(P.info? T).map (·.size)=some k:=by
 unfold EZ at h
 split at h
 · rename_i i hi;rw [hi];exact h
 cases h
theorem JL {P:Program} {T k:Nat} (h:SO P T=some k):wK P T k=true:=by
 unfold SO at h
 split at h
 · rename_i m hm
   cases hb:wK P T m with
   | true=>rw [hb] at h;cases h;exact hb
   | false=>rw [hb] at h;cases h
 cases h
theorem vZ {P:Program} {T E k:Nat} (h:Pq P T=some (E,k)):tJ P T E k:=by
 unfold Pq at h
 split at h
 · rename_i E' hu
   split at h
   · rename_i m hm
     cases h
     exact ⟨hu,Dx hm⟩
   cases h
 cases h
theorem RF {P:Program} {s f k:Nat} (h:XH P s f=some k):Jh P s f k:=by
 unfold XH at h
 split at h
 · rename_i fs hu
   split at h
   · rename_i fd hf
     split at h
     · rename_i m hm
       cases hb:Nat.beq m 0 with
       | true=>rw [hb] at h;cases h
       | false =>
         rw [hb] at h
         cases h
         intro b o w
         rw [xA] at hf
         have h1:fs.toArray[f]?=some fd:=by simpa using hf
         have h2:=run_sizeOf (P:=P) w (Dx hm)
         have h3:m≠0:=fun e=>by subst e;simp at hb
         simp only [Instr.fieldAt,bG,aV hu,aP,h1,Instr.sureAddr,bL,fieldPlace,h2,h3,eS,add_lit]
     cases h
   cases h
 cases h
def Hx (m n:Int):Bool:=Int.rec (fun a=>Int.rec (fun b=>Nat.beq a b) (fun _=>false) n) (fun a=>Int.rec (fun _=>false) (fun b=>Nat.beq a b) n) m
def wI (m n:Int):Bool:=Int.rec (fun a=>Int.rec (fun b=>Nat.ble a b) (fun _=>false) n) (fun a=>Int.rec (fun _=>true) (fun b=>Nat.ble b a) n) m
theorem Lz (a b:Nat):Nat.beq a b=decide (a=b):=by
 cases h:Nat.beq a b with
 | true=>rw [aD h];simp
 | false => have:a≠b:=fun e=>by subst e;simp at h
            simp [this]
theorem Ma (a b:Nat):Nat.ble a b=decide (a≤b):=by
 cases h:Nat.ble a b with
 | true=>simp [bA h]
 | false => have:¬a≤b:=fun e=>by rw [Nat.ble_eq_true_of_le e] at h;cases h
            simp [this]
theorem wM (m n:Int):Hx m n=decide (m=n):=by
 cases m <;> cases n
 · rename_i a b;show Nat.beq a b=_;rw [Lz];exact fX.2 ⟨fun h=>by rw [h],fun h=>Int.ofNat.inj h⟩
 · rename_i a b;show false=_;symm;rw [dM];intro h;cases h
 · rename_i a b;show false=_;symm;rw [dM];intro h;cases h
 rename_i a b;show Nat.beq a b=_;rw [Lz];exact fX.2 ⟨fun h=>by rw [h],fun h=>Int.negSucc.inj h⟩
theorem uR (m n:Int):wI m n=decide (m≤n):=by
 cases m <;> cases n
 · rename_i a b;show Nat.ble a b=_;rw [Ma];exact fX.2 ⟨fun h=>oS.2 h,fun h=>oS.1 h⟩
 · rename_i a b;show false=_;symm;rw [dM];intro h;have:=Int.negSucc_lt_zero b;have:=kB a;simp only [jJ] at h;omega
 · rename_i a b;show true=_;symm;rw [aT];have:=Int.negSucc_lt_zero a;have:=kB b;simp only [jJ];omega
 rename_i a b;show Nat.ble b a=_;rw [Ma];exact fX.2 ⟨fun h=>by omega,fun h=>by omega⟩
def VF (lim a:Nat) (z w:Int):Int:=bif Nat.ble a lim then z else w
theorem Xv {lim a:Nat} {z w:Int} (h:a≤lim→w=z):VF lim a z w=w:=by
 unfold VF
 cases hb:Nat.ble a lim with
 | true=>exact (h (bA hb)).symm
 | false=>rfl
def VG (z:Int):Int:=Int.rec (fun a=>VF 9223372036854775807 a (.ofNat a) (IntKind.wrap .i64 (.ofNat a))) (fun a=>VF 9223372036854775807 a (.negSucc a) (IntKind.wrap .i64 (.negSucc a))) z
def XI (lim:Nat) (k:IntKind) (z:Int):Int:=Int.rec (fun a=>VF lim a (.ofNat a) (k.wrap (.ofNat a))) (fun a=>k.wrap (.negSucc a)) z
def wr (k:IntKind) (z:Int):Int:=match k with
 | .i64=>VG z
 | .u64=>XI 18446744073709551615 .u64 z
 | .u32=>XI 4294967295 .u32 z
 | .u8=>XI 255 .u8 z
 | k=>k.wrap z
theorem OB (z:Int):VG z=IntKind.wrap .i64 z:=by
 cases z with
 | ofNat a=>exact Xv fun h=>lF _ (by simp only [jJ];omega)
 | negSucc a=>exact Xv fun h=>lF _ sV
theorem Xw {lim:Nat} {k:IntKind} (h:∀ a:Nat,a≤lim→k.wrap (.ofNat a)=.ofNat a) (z:Int):XI lim k z=k.wrap z:=by
 cases z with
 | ofNat a=>exact Xv (h a)
 | negSucc a=>exact Eq.refl (k.wrap (.negSucc a))
theorem Mb (k:IntKind) (z:Int):wr k z=k.wrap z:=by
 cases k
 case i64=>exact OB z
 case u64=>exact Xw (fun a h=>jA _ (by simp only [jJ];omega)) z
 case u32=>exact Xw (fun a h=>by rw [pV];simp only [jJ];omega) z
 case u8=>exact Xw (fun a h=>by rw [IntKind.wrap_u8];simp only [jJ];omega) z
 all_goals exact Eq.refl _
def bo (o:BinOp) (k:IntKind) (m n:Int):Option CV:=match o with
 | .eql=>some (.bool (Hx m n))
 | .neq=>some (.bool (not (Hx m n)))
 | .lss=>some (.bool (not (wI n m)))
 | .leq=>some (.bool (wI m n))
 | .gtr=>some (.bool (not (wI m n)))
 | .geq=>some (.bool (wI n m))
 | .add=>some (.int k (wr k (Int.add m n)))
 | .sub=>some (.int k (wr k (Int.sub m n)))
 | .mul=>some (.int k (wr k (Int.mul m n)))
 | .quo=>bif Hx n 0 then none else some (.int k (wr k (Int.tdiv m n)))
 | .rem=>bif Hx n 0 then none else some (.int k (Int.tmod m n))
 | .and=>some (.int k (bits .and k m n))
 | .or=>some (.int k (bits .or k m n))
 | _=>none
def sh (o:BinOp) (k:IntKind) (m n:Int):Option CV:=match o with
 | .shl=>bif wI 0 n then some (.int k (wr k (Int.mul m (2 ^ (min n.toNat k.bits))))) else none
 | .shr=>bif wI 0 n then some (.int k (Int.fdiv m (2 ^ (min n.toNat k.bits)))) else none
 | _=>none
section
variable {P:Program} {e:Env} {H:Hp} {G:Imm} {ty t t':TypeId} {x y:Operand} {k k':IntKind} {m n:Int} {nx:Nat} {ρ:Pl} {c:CV}
theorem Fq (p:Prop) [Decidable p]:(not (decide p))=decide (¬p):=by by_cases h:p <;> simp [h]
theorem VH {o:BinOp} (hx:e.ev x=some (.int k m)) (hy:e.ev y=some (.int k n)) (h:bo o k m n=some c):∃ v,Kn nx ρ c v∧∀ ty,Qy P (.binOp o t x y t') ty e H G v:=by
 cases o <;> first | (cases h;done) | skip
 case eql=>cases h;exact ⟨_,⟨trivial,rfl⟩,fun ty=>by rw [wM];exact Qy.eql hx hy⟩
 case neq=>cases h;exact ⟨_,⟨trivial,rfl⟩,fun ty=>by rw [wM,Fq];exact Qy.neq hx hy⟩
 case lss=>cases h;exact ⟨_,⟨trivial,rfl⟩,fun ty=>by rw [uR,Fq,show decide (¬n≤m)=decide (m<n) from fX.2 Int.not_le];exact Qy.lss hx hy⟩
 case leq=>cases h;exact ⟨_,⟨trivial,rfl⟩,fun ty=>by rw [uR];exact Qy.leq hx hy⟩
 case gtr=>cases h;exact ⟨_,⟨trivial,rfl⟩,fun ty=>by rw [uR,Fq,show decide (¬m≤n)=decide (n<m) from fX.2 Int.not_le];exact Qy.gtr hx hy⟩
 case geq=>cases h;exact ⟨_,⟨trivial,rfl⟩,fun ty=>by rw [uR];exact Qy.geq hx hy⟩
 case add=>cases h;exact ⟨_,⟨trivial,rfl⟩,fun ty=>by rw [Mb];exact Jf hx hy⟩
 case sub=>cases h;exact ⟨_,⟨trivial,rfl⟩,fun ty=>by rw [Mb];exact Eg hx hy⟩
 case mul=>cases h;exact ⟨_,⟨trivial,rfl⟩,fun ty=>by rw [Mb];exact lM hx hy⟩
 case quo =>
  have h':(bif Hx n 0 then none else some (CV.int k (wr k (Int.tdiv m n))))=some c:=h
  have e:=wM n 0
  by_cases h0:n=0
  · rw [e,cL h0] at h';cases h'
  rw [e,bF h0] at h'
  cases h'
  exact ⟨_,⟨trivial,rfl⟩,fun ty=>by rw [Mb];exact Jg hx hy h0⟩
 case rem =>
  have h':(bif Hx n 0 then none else some (CV.int k (Int.tmod m n)))=some c:=h
  have e:=wM n 0
  by_cases h0:n=0
  · rw [e,cL h0] at h';cases h'
  rw [e,bF h0] at h'
  cases h'
  exact ⟨_,⟨trivial,rfl⟩,fun ty=>Qy.rem hx hy h0⟩
 case and=>cases h;exact ⟨_,⟨trivial,rfl⟩,fun ty=>lY hx hy⟩
 case or=>cases h;exact ⟨_,⟨trivial,rfl⟩,fun ty=>Gq hx hy⟩
theorem VI {o:BinOp} (hx:e.ev x=some (.int k m)) (hy:e.ev y=some (.int k' n)) (h:sh o k m n=some c):∃ v,Kn nx ρ c v∧∀ ty,Qy P (.binOp o t x y t') ty e H G v:=by
 cases o <;> first | (cases h;done) | skip
 case shl =>
  have h':(bif wI 0 n then some (CV.int k (wr k (Int.mul m (2 ^ (min n.toNat k.bits))))) else none)=some c:=h
  have e:=uR 0 n
  by_cases h0:0≤n
  · rw [e,cL h0] at h'
    cases h'
    exact ⟨_,⟨trivial,rfl⟩,fun ty=>by rw [Mb];exact Qy.shl hx hy h0⟩
  rw [e,bF h0] at h';cases h'
 case shr =>
  have h':(bif wI 0 n then some (CV.int k (Int.fdiv m (2 ^ (min n.toNat k.bits)))) else none)=some c:=h
  have e:=uR 0 n
  by_cases h0:0≤n
  · rw [e,cL h0] at h'
    cases h'
    exact ⟨_,⟨trivial,rfl⟩,fun ty=>oF hx hy h0⟩
  rw [e,bF h0] at h';cases h'
end
def RG (e:Env) (d:Nat):Option Operand→Nat→Prop
 | none,l=>l=d
 | some y,l=>∃ k,e.ev y=some (.int k (l:Int))
section
variable {P:Program} {e:Env} {H:Hp} {G:Imm} {ty T:TypeId}
theorem EC {x:Operand} {fs:Array Field} {fd:Field} {i:Nat} {vs:List Value} {v:Value} (hu:P.underlying T=some (.struct fs)) (hf:fs[i]?=some fd) (h1:vK P fd.type=true)
 (hx:e.ev x=some (.agg vs.toArray)) (hv:vs[fd.offset]?=some v):Qy P (.field T x i) ty e H G v:=fun a w _ _ _ _ hh=>by
 simp [execOp,hh.eval hx,Instr.field,aV hu,hf,asAgg,part,vW w h1,hv]
theorem ED {x:Operand} {fs:Array Field} {fd:Field} {i k:Nat} {vs:List Value} (hu:P.underlying T=some (.struct fs)) (hf:fs[i]?=some fd) (h1:wK P fd.type k=true)
 (hx:e.ev x=some (.agg vs.toArray)):Qy P (.field T x i) ty e H G (.agg ((vs.drop fd.offset).take k).toArray):=fun a w _ _ _ _ hh=>by
 have h2:=run_sizeOf (P:=P) w (Kd h1)
 simp [execOp,hh.eval hx,Instr.field,aV hu,hf,asAgg,part,zQ w h1,h2]
theorem Iw {x:Operand} {lo hi:Option Operand} {a:Option Addr} {n c l h E sz:Nat} (hT:tJ P T E sz) (hx:e.ev x=some (.slice a n c))
 (hl:RG e 0 lo l) (hh:RG e n hi h) (hlh:l≤h) (hhc:h≤c) :
 Qy P (.slice T x lo hi none) ty e H G (.slice (if c=l then a else a.map (·.add (l*sz))) (h - l) (c - l)):=fun ac w _ _ _ _ hk=>by
 have hr:=run_sizeOf (P:=P) w hT.2
 have e1:(h:Int)≤c:=sV
 have e2:(l:Int)≤h:=sV
 cases lo with
 | none =>
   have hl:l=0:=hl
   subst hl
   cases hi with
   | none=>have hh:h=n:=hh;subst hh;simp [execOp,Instr.sliceAt,Instr.slice,hk.eval hx,aV hT.1,Instr.sliceBounds,Instr.sliceBound,asIntOf,hr]
   | some y =>
     obtain ⟨k,hy⟩:=hh
     simp [execOp,Instr.sliceAt,Instr.slice,hk.eval hx,hk.eval hy,aV hT.1,Instr.sliceBounds,Instr.sliceBound,asIntOf,hr,e1,hhc]
 | some z =>
   obtain ⟨kz,hz⟩:=hl
   cases hi with
   | none =>
     have hh:h=n:=hh
     subst hh
     simp [execOp,Instr.sliceAt,Instr.slice,hk.eval hx,hk.eval hz,aV hT.1,Instr.sliceBounds,Instr.sliceBound,asIntOf,hr,e2,hlh]
   | some y =>
     obtain ⟨k,hy⟩:=hh
     simp [execOp,Instr.sliceAt,Instr.slice,hk.eval hx,hk.eval hz,hk.eval hy,aV hT.1,Instr.sliceBounds,Instr.sliceBound,asIntOf,hr,e1,e2,hlh,hhc]
theorem Ny {x i:Operand} {b o n sz E:Nat} {k:IntKind} {m:Int} (hu:P.underlying T=some (.array n E)) (hs:(P.info? E).map (·.size)=some sz) (hx:e.ev x=some (.pointer (some ⟨b,o,none⟩))) (hi:e.ev i=some (.int k m))
 (hb:0≤m∧m<n):Qy P (.indexAddr T x i) ty e H G (.pointer (some ⟨b,o+m.toNat*sz,none⟩)):=fun a w _ _ _ _ hh=>by
 simp [execOp,Instr.indexAt,hh.eval hx,hh.eval hi,asIntOf,aV hu,Instr.sureAddr,hb,run_sizeOf w hs,add_lit]
theorem Qy.indexV {x i:Operand} {n E:Nat} {k:IntKind} {m:Int} {vs:List Value} {v:Value} (hu:P.underlying T=some (.array n E)) (h1:vK P E=true) (hs:(P.info? E).map (·.size)=some 1) (hx:e.ev x=some (.agg vs.toArray)) (hi:e.ev i=some (.int k m))
 (hb:0≤m∧m<n) (hv:vs[m.toNat]?=some v):Qy P (.index T x i) ty e H G v:=fun a w _ _ _ _ hh=>by
 simp [execOp,Instr.index,hh.eval hx,hh.eval hi,asIntOf,aV hu,hb,run_sizeOf w hs,part,vW w h1,hv]
theorem Xx {x i:Operand} {n E sz:Nat} {k:IntKind} {m:Int} {vs:List Value} (hu:P.underlying T=some (.array n E)) (h1:wK P E sz=true) (hx:e.ev x=some (.agg vs.toArray)) (hi:e.ev i=some (.int k m))
 (hb:0≤m∧m<n):Qy P (.index T x i) ty e H G (.agg ((vs.drop (m.toNat*sz)).take sz).toArray):=fun a w _ _ _ _ hh=>by
 have h2:=run_sizeOf (P:=P) w (Kd h1)
 simp [execOp,Instr.index,hh.eval hx,hh.eval hi,asIntOf,aV hu,hb,h2,part,zQ w h1]
theorem OC {x:Operand} {s:ByteArray} (ht:P.underlying T=some .string) (hx:e.ev x=some (.string s)):Qy P (.call { callee:=.builtin .len,args:=#[x],argTypes:=#[T] }) ty e H G (.int .i64 s.size):=fun a w _ _ _ _ hh=>by
 simp [execOp,resolve,invoke,builtin,Builtin.len_,hh.eval hx,aV ht,goInt]
end
section
variable {P:Program} {e:Env} {H:Hp} {G:Imm} {ty T:TypeId}
theorem Qy.eqlPtrNil {t t':TypeId} {x y:Operand} {a:Option Addr} (ht:P.underlying t=some (.pointer (P.pointee t))) (hx:e.ev x=some (.pointer a)) (hy:e.ev y=some (.pointer none)):Qy P (.binOp .eql t x y t') ty e H G (.bool a.isNone):=fun w0 w _ _ _ _ hh=>by
 have:=run_equalIn_pointer_nil (P:=P) w 9999 t a ht
 simp [execOp,hh.eval hx,hh.eval hy,binOp,eqGuard,Op.equal,Op.maxDepth,this]
theorem Fs {t t':TypeId} {x y:Operand} {a:Option Addr} (ht:P.underlying t=some (.pointer (P.pointee t))) (hx:e.ev x=some (.pointer a)) (hy:e.ev y=some (.pointer none)):Qy P (.binOp .neq t x y t') ty e H G (.bool (!a.isNone)):=fun w0 w _ _ _ _ hh=>by
 have:=run_equalIn_pointer_nil (P:=P) w 9999 t a ht
 simp [execOp,hh.eval hx,hh.eval hy,binOp,eqGuard,Op.equal,Op.maxDepth,this]
theorem Pr {x z:Operand} {lo hi:Option Operand} {a:Option Addr} {n c l h m E sz:Nat} {kz:IntKind} (hT:tJ P T E sz) (hx:e.ev x=some (.slice a n c))
 (hl:RG e 0 lo l) (hh:∃ y,hi=some y∧∃ k,e.ev y=some (.int k (h:Int))) (hz:e.ev z=some (.int kz (m:Int))) (hlh:l≤h) (hhm:h≤m) (hmc:m≤c) :
 Qy P (.slice T x lo hi (some z)) ty e H G (.slice (if m=l then a else a.map (·.add (l*sz))) (h - l) (m - l)):=fun ac w _ _ _ _ hk=>by
 have hr:=run_sizeOf (P:=P) w hT.2
 have e1:(h:Int)≤m:=sV
 have e2:(l:Int)≤h:=sV
 have e3:(m:Int)≤c:=sV
 obtain ⟨y,rfl,k,hy⟩:=hh
 cases lo with
 | none =>
   have hl:l=0:=hl
   subst hl
   simp [execOp,Instr.sliceAt,Instr.slice,hk.eval hx,hk.eval hy,hk.eval hz,aV hT.1,Instr.sliceBounds,Instr.sliceBound,asIntOf,hr,e1,e3,hhm,hmc]
 | some u =>
   obtain ⟨ku,hu⟩:=hl
   simp [execOp,Instr.sliceAt,Instr.slice,hk.eval hx,hk.eval hy,hk.eval hz,hk.eval hu,aV hT.1,Instr.sliceBounds,Instr.sliceBound,asIntOf,hr,e1,e2,e3,hhm,hmc,hlh]
end
def VJ (P:Program) (T:Nat):Option (Nat×Nat×Nat):=match P.underlying T with
 | some (.array n E)=>match EZ P E with | some k=>some (n,E,k) | none=>none
 | _=>none
theorem Hz {P:Program} {T n E k:Nat} (h:VJ P T=some (n,E,k)):P.underlying T=some (.array n E)∧(P.info? E).map (·.size)=some k:=by
 unfold VJ at h
 split at h
 · rename_i n' E' hu
   split at h
   · rename_i m hm;cases h;exact ⟨hu,Dx hm⟩
   cases h
 cases h
def zS:CV→Option CV
 | .agg l=>some l
 | .tup _=>none
 | .nil=>none
 | .cons _ _=>none
 | x=>some (.cons x .nil)
section
variable {nx n:Nat} {ρ:Pl}
theorem Aa {x:CV} {v:Value} (h:Kn nx ρ x v) {l:CV} (hl:zS x=some l):KL nx ρ l v.cells.toList:=by
 have scal:∀ y:CV,Rs y=true→∀ u,Kn nx ρ y u→KL nx ρ (.cons y .nil) u.cells.toList:=fun y hy u hu=>by
  rw [Ok (Pp hu hy)];exact pJ hu nS
 cases x with
 | agg m=>cases hl;obtain ⟨vs,h1,h2⟩:=sU.1 h.2;rw [h2];exact ⟨h.1,h1⟩
 | tup m=>cases hl
 | nil=>cases hl
 | cons a b=>cases hl
 | _=>cases hl;exact scal _ rfl _ h
end
def dh (P:Program) (fs:List Field):Option (List (Nat×Nat)):=List.rec (some []) (fun f _ ih=>match EZ P f.type with | some k=>(match ih with | some l=>some ((f.offset,k) :: l) | none=>none) | none=>none) fs
theorem RH {P:Program}:∀ {fs:List Field} {pl:List (Nat×Nat)},dh P fs=some pl→fs.map (fun f=>(f.offset,(P.info? f.type).map (·.size)))=pl.map fun x=>(x.1,some x.2):=by
 intro fs
 induction fs with
 | nil=>intro pl h;cases h;rfl
 | cons f fs ih =>
   intro pl h
   have h':(match EZ P f.type with | some k=>(match dh P fs with | some l=>some ((f.offset,k) :: l) | none=>none) | none=>none)=some pl:=h
   split at h'
   · rename_i k hk
     split at h'
     · rename_i l hl
       cases h'
       rw [bY,bY,ih hl,Dx hk]
     cases h'
   cases h'
def PN (P:Program) (T:Nat):Option CV:=match P.info? T with
 | some i=>match i.zero with
   | some v=>match PM v with
     | some x=>zS x
     | none=>none
   | none=>none
 | none=>none
theorem Mc {P:Program} {T:Nat} {x:CV} (h:PN P T=some x) (nx:Nat) (ρ:Pl):∃ i z,P.info? T=some i∧i.zero=some z∧KL nx ρ x z.cells.toList:=by
 unfold PN at h
 split at h
 · rename_i i hi
   split at h
   · rename_i v hv
     split at h
     · rename_i y hy
       exact ⟨i,v,hi,hv,Aa (JK hy) h⟩
     cases h
   cases h
 cases h
def Ft (E:Tr CV) (pl:List (Nat×Nat)) (n:Nat) (parts:List (Nat×Operand)):CV→Option CV:=
 List.rec (fun l=>some l) (fun p _ ih l=>match Ed pl p.1 with
  | some (off,size)=>(match uM E p.2 with
    | some c=>(match zS c with
      | some m=>bif Nat.beq (tW m) size && Nat.ble (off+size) n then ih (zZ (Ca off l) (zZ m (Bz (off+size) l))) else none
      | none=>none)
    | none=>none)
  | none=>none) parts
section
variable {nx n:Nat} {ρ:Pl} {E:Tr CV} {a:Act}
theorem Fu (hs:Slots ρ E nx n a) {pl:List (Nat×Nat)} {N:Nat}:∀ {parts:List (Nat×Operand)} {l r:CV} {zs:List Value},KL nx ρ l zs→Ft E pl N parts l=some r→
 ∃ vs,yK (eA a) parts=some vs∧Dj pl N vs=true∧KL nx ρ r (yH pl zs vs):=by
 intro parts
 induction parts with
 | nil=>intro l r zs hl h;cases h;exact ⟨[],rfl,rfl,hl⟩
 | cons p parts ih =>
   intro l r zs hl h
   obtain ⟨i,x⟩:=p
   have h':(match Ed pl i with
    | some (off,size)=>(match uM E x with
      | some c=>(match zS c with
        | some m=>bif Nat.beq (tW m) size && Nat.ble (off+size) N then Ft E pl N parts (zZ (Ca off l) (zZ m (Bz (off+size) l))) else none
        | none=>none)
      | none=>none)
    | none=>none)=some r:=h
   split at h'
   · rename_i off size hp
     split at h'
     · rename_i c hc
       split at h'
       · rename_i m hm
         cases hb:Nat.beq (tW m) size && Nat.ble (off+size) N with
         | true =>
           rw [hb] at h'
           simp only [aC] at hb
           obtain ⟨v,e1,k1⟩:=tB hs hc
           have kc:=Aa k1 hm
           have hlen:v.cells.toList.length=size:=by rw [←tZ kc];exact aD hb.1
           obtain ⟨vs,e2,o2,k2⟩:=ih (Cs (Fm off hl) (Cs kc (Fl (off+size) hl))) h'
           rw [xA] at hp
           refine ⟨(i,v) :: vs,by unfold yK;rw [e1,e2],?_,?_⟩
           · unfold Dj
             rw [hp,o2,lT,hlen]
             simp only [aC]
             exact ⟨by simp,hb.2⟩
           · unfold yH
             rw [hp]
             simp only [hlen]
             exact k2
         | false=>rw [hb] at h';cases h'
       cases h'
     cases h'
   cases h'
end
def RK (P:Program) (fs:List Field):Nat→Bool:=List.rec (fun _=>true) (fun f _ ih j=>match yA P f with | (true,k)=>Nat.beq k j && ih (Nat.succ j) | _=>false) fs
theorem OD {P:Program}:∀ {fs:List Field} {j:Nat},RK P fs j=true→fs.map (yA P)=(List.range' j fs.length).map fun i=>(true,i):=by
 intro fs
 induction fs with
 | nil=>intro j _;rfl
 | cons f fs ih =>
   intro j h
   have h':(match yA P f with | (true,k)=>Nat.beq k j && RK P fs (Nat.succ j) | _=>false)=true:=h
   split at h'
   · rename_i k hk
     rw [aC] at h'
     have e:=aD h'.1
     subst e
     rw [bY,hk,bQ,sS,bY,ih h'.2]
   cases h'
def XJ (P:Program) (t:Nat):Option Nat:=match P.underlying t with
 | some (.struct ⟨fs⟩)=>bif not (P.stoodInHeld t) && (not (P.eqGuardType P.depth t) && RK P fs 0) then some fs.length else none
 | _=>none
theorem JM {P:Program} {t n:Nat} (h:XJ P t=some n):Ai P t n:=by
 unfold XJ at h
 split at h
 · rename_i fs hu
   rcases sY h with ⟨h1,h2⟩ | ⟨_,h2⟩
   · cases h2
     simp only [aC,eD] at h1
     have hf:P.fieldsOf t=⟨fs⟩:=by unfold Program.fieldsOf;rw [hu]
     refine ⟨by rw [hf];exact hu,h1.1,h1.2.1,?_⟩
     rw [hf,OD h1.2.2,qP]
   cases h2
 cases h
def OE:CV→Option Int
 | .int .i64 n=>some n
 | _=>none
theorem OF {nx:Nat} {ρ:Pl} {a:CV} {v:Value} {n:Int} (h:OE a=some n) (hk:Kn nx ρ a v):v=.int .i64 n:=by
 unfold OE at h
 split at h
 · cases h;exact hk.2
 cases h
def Ve (l:CV):Option (List Int):=lrec (some []) (fun a _ ih=>match OE a with | some n=>(match ih with | some l=>some (n :: l) | none=>none) | none=>none) l
theorem Vf {nx:Nat} {ρ:Pl} {x:CV} {vs:List Value} (h:KL nx ρ x vs):∀ {xs:List Int},Ve x=some xs→vs=xs.map (Value.int .i64):=by
 refine lP (motive:=fun x vs=>∀ {xs:List Int},Ve x=some xs→vs=xs.map (Value.int .i64)) ?_ ?_ h
 · intro xs hx
   have hx':some []=some xs:=hx
   cases hx';rfl
 intro a b v vs hv _ ih xs hx
 have hx':(match OE a with | some n=>(match Ve b with | some l=>some (n :: l) | none=>none) | none=>none)=some xs:=hx
 split at hx'
 · rename_i n hn
   split at hx'
   · rename_i l hl
     cases hx'
     rw [bY,←ih hl,OF hn hv]
   cases hx'
 cases hx'
def VK (xs ys:List Int):Bool:=List.rec (fun ys=>List.rec true (fun _ _ _=>false) ys) (fun x _ ih ys=>List.rec false (fun y l _=>Hx x y && ih l) ys) xs ys
theorem JN:∀ xs ys:List Int,VK xs ys=decide (xs=ys):=by
 intro xs
 induction xs with
 | nil=>intro ys;cases ys with
   | nil=>rfl
   | cons y ys=>show false=_;simp
 | cons x xs ih=>intro ys;cases ys with
   | nil=>show false=_;simp
   | cons y ys =>
     show (Hx x y && VK xs ys)=_
     rw [wM,ih]
     by_cases h1:x=y <;> by_cases h2:xs=ys <;> simp [h1,h2]
theorem OG (b:ByteArray):∀ (k i:Nat) (r:List UInt8),b.size=i+k→ByteArray.toList.loop b i r=r.reverse++b.data.toList.drop i:=by
 intro k
 induction k with
 | zero =>
   intro i r h
   rw [ByteArray.toList.loop]
   rw [aL (by omega),eI (by have:b.data.toList.length=b.size:=rfl;omega),fU]
 | succ k ih =>
   intro i r h
   rw [ByteArray.toList.loop,aR (by omega),ih (i+1) _ sV]
   have hl:i<b.data.toList.length:=by show i<b.size;omega
   rw [gY hl,List.reverse_cons,dQ]
   have hs:i<b.size:=sV
   have:b.get! i=b.data.toList[i]:=by
    show b.data[i]! = _
    rw [rW b.data i hs]
    rfl
   rw [this];rfl
theorem Ps (l:List UInt8):(ByteArray.mk l.toArray).toList=l:=by
 show ByteArray.toList.loop _ 0 []=l
 rw [OG _ _ 0 [] (cH _).symm]
 simp
def di:CV→Option Int
 | .int .u8 n=>some n
 | _=>none
def JO (l:CV):Option (List Int):=lrec (some []) (fun a _ ih=>match di a with | some n=>(match ih with | some l=>some (n :: l) | none=>none) | none=>none) l
theorem AP {nx:Nat} {ρ:Pl} {x:CV} {vs:List Value} (h:KL nx ρ x vs):∀ {xs:List Int},JO x=some xs→vs=xs.map (Value.int .u8):=by
 refine lP (motive:=fun x vs=>∀ {xs:List Int},JO x=some xs→vs=xs.map (Value.int .u8)) ?_ ?_ h
 · intro xs hx
   have hx':some []=some xs:=hx
   cases hx';rfl
 intro a b v vs hv _ ih xs hx
 have hx':(match di a with | some n=>(match JO b with | some l=>some (n :: l) | none=>none) | none=>none)=some xs:=hx
 split at hx'
 · rename_i n hn
   split at hx'
   · rename_i l hl
     cases hx'
     rw [bY,←ih hl]
     unfold di at hn
     split at hn
     · cases hn;rw [gJ.1 hv.2]
     cases hn
   cases hx'
 cases hx'
theorem JP {bs:List UInt8} {xs:List Int} (h:(bs.map fun b=>Value.int .u8 (b.toNat:Int))=xs.map (Value.int .u8)):xs=bs.map fun b=>(b.toNat:Int):=by
 induction bs generalizing xs with
 | nil=>cases xs with
   | nil=>rfl
   | cons x xs=>cases h
 | cons b bs ih=>cases xs with
   | nil=>cases h
   | cons x xs =>
     rw [bY,bY] at h
     injection h with h1 h2
     injection h1 with _ h3
     rw [bY,ih h2,h3]
theorem RM {a b:List UInt8} (h:(a.map fun b=>(b.toNat:Int))=b.map fun b=>(b.toNat:Int)):a=b:=by
 induction a generalizing b with
 | nil=>cases b with
   | nil=>rfl
   | cons y b=>cases h
 | cons x a ih=>cases b with
   | nil=>cases h
   | cons y b =>
     rw [bY,bY] at h
     injection h with h1 h2
     rw [ih h2,UInt8.toNat_inj.1 (Int.ofNat.inj h1)]
section
variable {P:Program} {e:Env} {H:Hp} {G:Imm} {ty:TypeId}
theorem Xy {t t':TypeId} {x y:Operand} {m n:ByteArray} (hx:e.ev x=some (.string m)) (hy:e.ev y=some (.string n)):Qy P (.binOp .eql t x y t') ty e H G (.bool (m.toList == n.toList)):=fun a w _ _ _ _ hh=>by
 simp [execOp,hh.eval hx,hh.eval hy,binOp,eqGuard,Op.stringOp]
theorem Xz {t t':TypeId} {x y:Operand} {m n:ByteArray} (hx:e.ev x=some (.string m)) (hy:e.ev y=some (.string n)):Qy P (.binOp .neq t x y t') ty e H G (.bool (!(m.toList == n.toList))):=fun a w _ _ _ _ hh=>by
 simp [execOp,hh.eval hx,hh.eval hy,binOp,eqGuard,Op.stringOp]
end
def dj (P:Program) (t:Nat) (x y:CV):Option Bool:=match x,y with
 | .bool a,.bool b=>(match P.underlying t with | some .bool=>some (bif a then b else not b) | _=>none)
 | .agg a,.agg b=>(match XJ P t with
   | some n=>(match Ve a with
     | some xs=>(match Ve b with
       | some ys=>bif Nat.beq xs.length n && Nat.beq ys.length n then some (VK xs ys) else none
       | none=>none)
     | none=>none)
   | none=>none)
 | .sl _ _ _ _ _,.nils=>(match Pq P t with | some _=>some false | none=>none)
 | .nils,.nils=>(match Pq P t with | some _=>some true | none=>none)
 | .ptr _ _,.nilp=>(match P.underlying t with | some (.pointer _)=>some false | _=>none)
 | .nilp,.nilp=>(match P.underlying t with | some (.pointer _)=>some true | _=>none)
 | .ptr p o,.ptr p' o'=>bif Nat.beq p p' && Nat.beq o o' then (match P.underlying t with | some (.pointer te)=>(match P.info? te with | some _=>some true | none=>none) | _=>none) else none
 | .fn _ _ _,.nilf=>bif En P t then some false else none
 | .str a,.str b=>(match JO a with
   | some xs=>(match JO b with | some ys=>some (VK xs ys) | none=>none)
   | none=>none)
 | _,_=>none
theorem Jp {P:Program} {t u:Nat} (h:P.underlying t=some (.pointer u)):P.underlying t=some (.pointer (P.pointee t)):=by
 have:P.pointee t=u:=by unfold Program.pointee;rw [h]
 rw [this];exact h
section
variable {P:Program} {nx n:Nat} {ρ:Pl} {E:Tr CV} {a:Act} {e:Env} {H:Hp} {G:Imm}
theorem Nz {P:Program} {e:Env} {H:Hp} {G:Imm} {ty t t' te:TypeId} {x y:Operand} {ad:Addr} {j:TypeInfo} (ht:P.underlying t=some (.pointer te)) (hj:P.info? te=some j) (hx:e.ev x=some (.pointer (some ad))) (hy:e.ev y=some (.pointer (some ad))):Qy P (.binOp .eql t x y t') ty e H G (.bool true):=fun w0 w _ _ _ _ hh=>by
 have h:∀ d:Nat,(Op.equalIn (d+1) t (.pointer (some ad)) (.pointer (some ad))).run P w=.ok true w:=fun d=>by
  simp [Op.equalIn,aV ht,sizeOf,typeInfo,hj,run_sameAddr_same]
 have h2:=h 9999
 simp [execOp,hh.eval hx,hh.eval hy,binOp,eqGuard,Op.equal,Op.maxDepth,h2]
theorem Oa {P:Program} {e:Env} {H:Hp} {G:Imm} {ty t t' te:TypeId} {x y:Operand} {ad:Addr} {j:TypeInfo} (ht:P.underlying t=some (.pointer te)) (hj:P.info? te=some j) (hx:e.ev x=some (.pointer (some ad))) (hy:e.ev y=some (.pointer (some ad))):Qy P (.binOp .neq t x y t') ty e H G (.bool false):=fun w0 w _ _ _ _ hh=>by
 have h:∀ d:Nat,(Op.equalIn (d+1) t (.pointer (some ad)) (.pointer (some ad))).run P w=.ok true w:=fun d=>by
  simp [Op.equalIn,aV ht,sizeOf,typeInfo,hj,run_sameAddr_same]
 have h2:=h 9999
 simp [execOp,hh.eval hx,hh.eval hy,binOp,eqGuard,Op.equal,Op.maxDepth,h2]
theorem RN {t t':Nat} {x y:Operand} {cx cy:CV} {vx vy:Value} {b:Bool} (h:dj P t cx cy=some b) (kx:Kn nx ρ cx vx) (ky:Kn nx ρ cy vy) (hx:e.ev x=some vx) (hy:e.ev y=some vy) :
 (∀ ty,Qy P (.binOp .eql t x y t') ty e H G (.bool b))∧(∀ ty,Qy P (.binOp .neq t x y t') ty e H G (.bool (not b))):=by
 unfold dj at h
 split at h
 · rename_i p q
   split at h
   · rename_i hu
     cases h
     rw [rD.1 kx.2] at hx
     rw [rD.1 ky.2] at hy
     have e1:(bif p then q else not q)=decide (p=q):=by cases p <;> cases q <;> rfl
     refine ⟨fun ty=>by rw [e1];exact rC hu hx hy,fun ty=>?_⟩
     rw [e1,Fq]
     exact Eh hu hx hy
   cases h
 · rename_i l m
   split at h
   · rename_i N hN
     split at h
     · rename_i xs hxs
       split at h
       · rename_i ys hys
         rcases sY h with ⟨h1,h2⟩ | ⟨_,h2⟩
         · cases h2
           rw [aC] at h1
           obtain ⟨vs,k1,e1⟩:=sU.1 kx.2
           obtain ⟨us,k2,e2⟩:=sU.1 ky.2
           have kl1:KL nx ρ l vs:=⟨kx.1,k1⟩
           have kl2:KL nx ρ m us:=⟨ky.1,k2⟩
           have g1:=Vf kl1 hxs
           have g2:=Vf kl2 hys
           rw [e1,g1] at hx
           rw [e2,g2] at hy
           rw [JN]
           have hT:=JM hN
           refine ⟨fun ty=>Ek xs ys hT hx hy (aD h1.1) (aD h1.2),fun ty=>?_⟩
           rw [Fq]
           exact Qq xs ys hT hx hy (aD h1.1) (aD h1.2)
         cases h2
       cases h
     cases h
   cases h
 · rename_i t1 o1 n1 s1 c1
   split at h
   · rename_i q hT
     obtain ⟨E',sz⟩:=q
     cases h
     have e2:=nG.1 ky.2
     subst e2
     have hs:∃ c',vx=.slice (some ⟨(ρ t1).1,o1,none⟩) n1 c':=by
      cases c1 with
      | some c=>exact ⟨c,(jU.1 kx.2).1⟩
      | none=>obtain ⟨c,h1,_⟩:=nF.1 kx.2;exact ⟨c,h1⟩
     obtain ⟨c',rfl⟩:=hs
     refine ⟨fun ty=>?_,fun ty=>?_⟩
     · have:=gH (t':=t') (ty:=ty) (H:=H) (G:=G) (vZ hT) hx hy;simpa using this
     have:=Bk (t':=t') (ty:=ty) (H:=H) (G:=G) (vZ hT) hx hy;simpa using this
   cases h
 · split at h
   · rename_i q hT
     obtain ⟨E',sz⟩:=q
     cases h
     have e1:=nG.1 kx.2
     have e2:=nG.1 ky.2
     subst e1 e2
     refine ⟨fun ty=>?_,fun ty=>?_⟩
     · have:=gH (t':=t') (ty:=ty) (H:=H) (G:=G) (vZ hT) hx hy;simpa using this
     have:=Bk (t':=t') (ty:=ty) (H:=H) (G:=G) (vZ hT) hx hy;simpa using this
   cases h
 · split at h
   · rename_i u hu
     cases h
     have e1:=mI.1 kx.2
     have e2:=DV.nilp.1 ky.2
     subst e1 e2
     exact ⟨fun ty=>Qy.eqlPtrNil (Jp hu) hx hy,fun ty=>Fs (Jp hu) hx hy⟩
   cases h
 · split at h
   · rename_i u hu
     cases h
     have e1:=DV.nilp.1 kx.2
     have e2:=DV.nilp.1 ky.2
     subst e1 e2
     exact ⟨fun ty=>Qy.eqlPtrNil (Jp hu) hx hy,fun ty=>Fs (Jp hu) hx hy⟩
   cases h
 · rcases sY h with ⟨h1,h2⟩ | ⟨_,h2⟩
   · rw [aC] at h1
     have q1:=aD h1.1
     have q2:=aD h1.2
     subst q1 q2
     split at h2
     · rename_i te hu
       split at h2
       · rename_i j hj
         cases h2
         have e1:=mI.1 kx.2
         have e2:=mI.1 ky.2
         subst e1 e2
         exact ⟨fun ty=>Nz hu hj hx hy,fun ty=>Oa hu hj hx hy⟩
       cases h2
     cases h2
   cases h2
 · rcases sY h with ⟨h1,h2⟩ | ⟨_,h2⟩
   · cases h2
     obtain ⟨xs,ys,_,_,e1⟩:=DV.fn.1 kx.2
     have e2:vy=.nilFunc:=ky.2
     subst e1 e2
     exact ⟨fun ty=>Nq h1 hx hy,fun ty=>Nr h1 hx hy⟩
   cases h2
 · rename_i p q
   split at h
   · rename_i xs hxs
     split at h
     · rename_i ys hys
       cases h
       obtain ⟨vs,bs,k1,e1,e2⟩:=kx.2
       obtain ⟨us,cs,k2,e3,e4⟩:=ky.2
       subst e2 e4
       have g1:=AP (nx:=nx) (ρ:=ρ) (x:=p) (vs:=vs) ⟨kx.1,k1⟩ hxs
       have g2:=AP (nx:=nx) (ρ:=ρ) (x:=q) (vs:=us) ⟨ky.1,k2⟩ hys
       rw [e1] at g1
       rw [e3] at g2
       have q1:=JP g1
       have q2:=JP g2
       have e5:((ByteArray.mk bs.toArray).toList == (ByteArray.mk cs.toArray).toList)=VK xs ys:=by
        rw [Ps,Ps,JN,q1,q2]
        by_cases hbc:bs=cs
        · subst hbc;simp
        have:¬((bs.map fun b=>(b.toNat:Int))=cs.map fun b=>(b.toNat:Int)):=fun h=>hbc (RM h)
        rw [bF this]
        simp [hbc]
       refine ⟨fun ty=>?_,fun ty=>?_⟩
       · rw [←e5];exact Xy hx hy
       rw [←e5];exact Xz hx hy
     cases h
   cases h
 cases h
end
section Qf
variable {κ:Type} [DecidableEq κ] [OneVal κ]
def Ob (eq:κ→κ→Bool) (k:κ) (l:List (κ×Int)):Option Int:=List.rec none (fun x _ ih=>bif eq x.1 k then some x.2 else ih) l
def JQ (eq:κ→κ→Bool) (k:κ) (v:Int) (l:List (κ×Int)):List (κ×Int):=List.rec [(k,v)] (fun x xs ih=>bif eq x.1 k then (x.1,v) :: xs else x :: ih) l
theorem Jq {eq:κ→κ→Bool} (he:∀ a b,eq a b=decide (a=b)) (k:κ) (l:List (κ×Int)):Ob eq k l=wV l k:=by
 induction l with
 | nil=>rfl
 | cons x l ih =>
   show (bif eq x.1 k then some x.2 else Ob eq k l)=_
   rw [he,ih]
   by_cases h:x.1=k
   · simp [wV,h]
   simp [wV,h]
theorem OH {eq:κ→κ→Bool} (he:∀ a b,eq a b=decide (a=b)) (k:κ) (v:Int) (l:List (κ×Int)):JQ eq k v l=Nk l k v:=by
 induction l with
 | nil=>rfl
 | cons x l ih =>
   obtain ⟨k',u⟩:=x
   show (bif eq k' k then (k',v) :: l else (k',u) :: JQ eq k v l)=_
   rw [he,ih]
   by_cases h:k'=k
   · simp [Nk,h]
   simp [Nk,h]
end Qf
def SP (a b:K4):Bool:=Hx a.c b.c && (Hx a.b b.b && (Hx a.a b.a && Hx a.op b.op))
theorem Rv (a b:K4):SP a b=decide (a=b):=by
 cases a;cases b
 simp only [SP,wM]
 rw [Bool.eq_iff_iff]
 simp only [aC,aT,K4.mk.injEq]
 constructor
 · rintro ⟨h1,h2,h3,h4⟩;exact ⟨h4,h3,h2,h1⟩
 rintro ⟨h1,h2,h3,h4⟩;exact ⟨h4,h3,h2,h1⟩
def EE (x:CV):Option Int:=match x with
 | .int .i64 n=>some n
 | _=>none
def EF (x:CV):Option K4:=match x with
 | .agg (.cons (.int .i64 a) (.cons (.int .i64 b) (.cons (.int .i64 c) (.cons (.int .i64 d) .nil))))=>some ⟨a,b,c,d⟩
 | _=>none
def z0 (P:Program) (et:Nat):Bool:=match P.info? et with
 | some i=>match i.zero with | some (.int .i64 n)=>Hx n 0 | _=>false
 | none=>false
theorem PO {P:Program} {et:Nat} (h:z0 P et=true) (w:World):(zeroValue et).run P w=.ok (.int .i64 0) w:=by
 unfold z0 at h
 split at h
 · rename_i i hi
   split at h
   · rename_i n hz
     rw [wM,aT] at h
     subst h
     simp [zeroValue,typeInfo,hi,hz]
   cases h
 cases h
def RO (P:Program) (T:Nat):Bool:=match P.underlying T with
 | some (.map kt et)=>match P.underlying kt with | some (.int .i64)=>z0 P et | _=>false
 | _=>false
def RP (P:Program) (T:Nat):Bool:=match P.underlying T with
 | some (.map kt et)=>match XJ P kt with | some n=>Nat.beq n 4 && z0 P et | none=>false
 | _=>false
theorem Rx {P:Program} {T:Nat} (h:RO P T=true):∃ kt,MapT P T kt Int:=by
 unfold RO at h
 split at h
 · rename_i kt et hT
   split at h
   · rename_i hk
     exact ⟨kt,⟨et,hT,PO h⟩,KeyT.int hk⟩
   cases h
 cases h
theorem Ry {P:Program} {T:Nat} (h:RP P T=true):∃ kt,MapT P T kt K4:=by
 unfold RP at h
 split at h
 · rename_i kt et hT
   split at h
   · rename_i n hk
     rw [aC] at h
     have:=aD h.1
     subst this
     exact ⟨kt,⟨et,hT,PO h.2⟩,KeyT.k4 (JM hk)⟩
   cases h
 cases h
def SQ (c:Bool) (r:Option Int):CV:=bif c then .tup (.cons (.int .i64 (match r with | some v=>v | none=>0)) (.cons (.bool (match r with | some _=>true | none=>false)) .nil)) else .int .i64 (match r with | some v=>v | none=>0)
section
variable {P:Program} {nx n:Nat} {ρ:Pl} {w:World}
theorem Jr {x:CV} {n:Int} {v:Value} (h:EE x=some n) (hk:Kn nx ρ x v):v=OneVal.val n:=by
 unfold EE at h
 split at h
 · cases h;exact gJ.1 hk.2
 cases h
theorem Js {x:CV} {n:K4} {v:Value} (h:EF x=some n) (hk:Kn nx ρ x v):v=OneVal.val n:=by
 unfold EF at h
 split at h
 · cases h
   obtain ⟨vs,h1,rfl⟩:=sU.1 hk.2
   obtain ⟨v1,r1,rfl,g1,h1⟩:=kT.1 h1
   obtain ⟨v2,r2,rfl,g2,h1⟩:=kT.1 h1
   obtain ⟨v3,r3,rfl,g3,h1⟩:=kT.1 h1
   obtain ⟨v4,r4,rfl,g4,h1⟩:=kT.1 h1
   rw [DL.nil.1 h1,gJ.1 g1,gJ.1 g2,gJ.1 g3,gJ.1 g4]
   rfl
 cases h
theorem Md {t:Nat} {v:Value} (hk:Kn nx ρ (.mp t) v):v=.map (some (ρ t).1):=DV.mp.1 hk.2
theorem JR {c:Bool} {r:Option Int}:Kn nx ρ (SQ c r) (if c then .tuple #[.int .i64 (r.getD 0),.bool r.isSome] else .int .i64 (r.getD 0)):=by
 cases c with
 | false=>cases r <;> exact ⟨trivial,rfl⟩
 | true =>
   cases r with
   | none=>exact ⟨⟨trivial,trivial,trivial⟩,qE.2 ⟨_,kT.2 ⟨_,_,rfl,rfl,kT.2 ⟨_,_,rfl,rfl,rfl⟩⟩,rfl⟩⟩
   | some v=>exact ⟨⟨trivial,trivial,trivial⟩,qE.2 ⟨_,kT.2 ⟨_,_,rfl,rfl,kT.2 ⟨_,_,rfl,rfl,rfl⟩⟩,rfl⟩⟩
variable {κ:Type} [DecidableEq κ] [OneVal κ] {T kt:TypeId}
theorem Dy {r:Nat} {xs:List (κ×Int)} {k:κ} (hT:MapT P T kt κ) (hb:w.heap[r]?=some (uF xs)) (c:Bool):(Instr.lookup T (.map (some r)) (OneVal.val k) c).run P w =
 .ok (if c then .tuple #[.int .i64 ((wV xs k).getD 0),.bool (wV xs k).isSome] else .int .i64 ((wV xs k).getD 0)) w:=by
 obtain ⟨⟨et,hu,hz⟩,hk⟩:=hT
 simp only [Instr.lookup,bG,aV hu,aP,mX (P:=P) hb,bL,hk.check,hk.look]
 cases hm:wV xs k with
 | none=>rw [(Gu xs k).1 hm];cases c <;> simp [hz]
 | some v=>obtain ⟨i,h1,_⟩:=Ot xs k hm;rw [h1];cases c <;> simp
end
def RQ (E:Tr CV):Option Operand→Option Int
 | none=>some 0
 | some y=>match uM E y with | some (.int _ m)=>some m | _=>none
def hiC (E:Tr CV) (n:Nat):Option Operand→Option Int
 | none=>some n
 | some y=>match uM E y with | some (.int _ m)=>some m | _=>none
def RR (t o n sz:Nat) (c:Option Nat) (l h:Int):Option CV:=
 bif wI 0 l && wI l h then
  (match c with
  | some c=>bif wI h c then
   (bif Nat.beq c l.toNat then some (.sl t o (Nat.sub h.toNat l.toNat) sz (some 0)) else some (.sl t (Nat.add o (Nat.mul l.toNat sz)) (Nat.sub h.toNat l.toNat) sz (some (Nat.sub c l.toNat)))) else none
  | none=>bif wI h n then
   (bif Nat.beq l.toNat 0 then some (.sl t o h.toNat sz none) else
    bif wI n l then some .sle else some (.sl t (Nat.add o (Nat.mul l.toNat sz)) (Nat.sub h.toNat l.toNat) sz none)) else none)
 else none
def PP (m:Int) (n:Nat):Option Nat→Bool
 | some c=>wI m c
 | none=>wI m n
def JS (E:Tr CV):Op→Option Nat
 | .load _ x=>match uM E x with | some (.ptr t _)=>some t | _=>none
 | .lookup _ x _ _=>match uM E x with | some (.mp t)=>some t | _=>none
 | _=>none
def XK (P:Program) (E:Tr CV) (h:Tr CB) (c:Operand) (x:Operand) (y:Operand):Option CV:=match uM E c with | some (.bool b)=>uM E (bif b then x else y) | _=>none
def qv3 (P:Program) (E:Tr CV) (h:Tr CB) (x:Operand):Option CV:=match uM E x with | some (.bool b)=>some (.bool (not b)) | _=>none
def qv4 (P:Program) (E:Tr CV) (h:Tr CB) (x:Operand):Option CV:=match uM E x with | some (.int k m)=>some (.int k (wr k (0 - m))) | _=>none
def XL (P:Program) (E:Tr CV) (h:Tr CB) (o:BinOp) (t:TypeId) (x:Operand) (y:Operand):Option CV:=match uM E x with
 | some (.int k m)=>match uM E y with
   | some (.int k' n)=>match sh o k m n with
     | some c=>some c
     | none=>bif EY k k' then bo o k m n else none
   | _=>none
 | some a=>match uM E y with
   | some b=>match dj P t a b with
     | some r=>(match o with | .eql=>some (.bool r) | .neq=>some (.bool (not r)) | _=>none)
     | none=>none
   | none=>none
 | none=>none
def XM (P:Program) (E:Tr CV) (h:Tr CB) (s:TypeId) (t:TypeId) (x:Operand):Option CV:=match P.underlying t with
 | some (.int k')=>match P.underlying s with
   | some _=>match uM E x with | some (.int _ m)=>some (.int k' (wr k' m)) | _=>none
   | none=>none
 | _=>none
def qv7 (P:Program) (E:Tr CV) (h:Tr CB) (x:Operand) (i:Nat):Option CV:=match uM E x with | some (.tup l)=>Hw l i | _=>none
def XN (P:Program) (E:Tr CV) (h:Tr CB) (x:Operand):Option CV:=match uM E x with
 | some (.ptr t o)=>some (.ptr t o)
 | some (.mp t)=>some (.mp t)
 | some (.fn f a b)=>some (.fn f a b)
 | some (.yl t)=>some (.yl t)
 | _=>none
def XO (P:Program) (E:Tr CV) (h:Tr CB) (s:TypeId) (x:Operand) (f:Nat):Option CV:=match uM E x with
 | some (.ptr t o)=>match XH P s f with | some k=>some (.ptr t (Nat.add o k)) | none=>none
 | _=>none
def VL (P:Program) (E:Tr CV) (h:Tr CB) (T:TypeId) (x:Operand) (i:Nat):Option CV:=match uM E x with
 | some (.agg l)=>match P.underlying T with
   | some (.struct ⟨fs⟩)=>match Ed fs i with
     | some fd=>bif vK P fd.type then Hw l fd.offset else (match SO P fd.type with | some k=>some (.agg (Ca k (Bz fd.offset l))) | none=>none)
     | none=>none
   | _=>none
 | _=>none
def OI (P:Program) (E:Tr CV) (h:Tr CB) (T:TypeId) (x:Operand):Option CV:=match uM E x with
 | some (.ptr t o)=>match h.get t with
   | some (.cells l _ _ _)=>bif vK P T then DY l o else
     (match SO P T with
     | some k=>bif Nat.beq (tW (uE l o k)) k then some (.agg (uE l o k)) else none
     | none=>none)
   | _=>none
 | _=>none
def VM (P:Program) (E:Tr CV) (h:Tr CB) (f:Nat) (xs:List Operand) (ys:List Operand):Option CV:=match EA E xs with
 | some a=>match EA E ys with | some b=>some (.fn f a b) | none=>none
 | none=>none
def OJ (P:Program) (E:Tr CV) (h:Tr CB) (T:TypeId) (x:Operand) (i:Operand):Option CV:=match uM E i with
 | some (.int _ m)=>match uM E x with
   | some (.sl t o n sz _)=>match Pq P T with
     | some (_,sz')=>bif Nat.beq sz sz' && (wI 0 m && not (wI n m)) then some (.ptr t (Nat.add o (Nat.mul m.toNat sz'))) else none
     | none=>none
   | some (.ptr t o)=>match VJ P T with
     | some (n,_,sz)=>bif wI 0 m && not (wI n m) then some (.ptr t (Nat.add o (Nat.mul m.toNat sz))) else none
     | none=>none
   | _=>none
 | _=>none
def VN (P:Program) (E:Tr CV) (h:Tr CB) (T:TypeId) (x:Operand) (i:Operand):Option CV:=match uM E i with
 | some (.int _ m)=>match uM E x with
   | some (.agg l)=>match VJ P T with
     | some (n,E',sz)=>bif Nat.beq sz 1 && (vK P E' && (wI 0 m && not (wI n m))) then Hw l m.toNat else
      bif wK P E' sz && (Nat.ble 1 sz && (wI 0 m && not (wI n m))) then some (.agg (Ca sz (Bz (Nat.mul m.toNat sz) l))) else none
     | none=>none
   | _=>none
 | _=>none
def VO (P:Program) (E:Tr CV) (h:Tr CB) (T:TypeId) (x:Operand) (lo:Option Operand) (hi:Option Operand):Option CV:=match uM E x with
 | some (.sl t o n sz c)=>match Pq P T with
   | some (_,sz')=>bif Nat.beq sz sz' then (match RQ E lo with
     | some l=>(match hiC E n hi with | some h=>RR t o n sz c l h | none=>none)
     | none=>none) else none
   | none=>none
 | some .nils=>match Pq P T with
   | some _=>(match RQ E lo with
     | some l=>(match hiC E 0 hi with | some h=>bif Hx l 0 && Hx h 0 then some .nils else none | none=>none)
     | none=>none)
   | none=>none
 | _=>none
def VP (P:Program) (E:Tr CV) (h:Tr CB) (T:TypeId) (x:Operand) (lo:Option Operand) (y:Operand) (z:Operand):Option CV:=match uM E x with
 | some (.sl t o n sz c)=>match Pq P T with
   | some (_,sz')=>bif Nat.beq sz sz' then (match RQ E lo with
     | some l=>(match hiC E n (some y) with
       | some h=>(match uM E z with
         | some (.int _ m)=>bif wI 0 l && (wI l h && (wI h m && PP m n c)) then
          (bif Nat.beq m.toNat l.toNat then some (.sl t o (Nat.sub h.toNat l.toNat) sz (some 0)) else some (.sl t (Nat.add o (Nat.mul l.toNat sz)) (Nat.sub h.toNat l.toNat) sz (some (Nat.sub m.toNat l.toNat)))) else none
         | _=>none)
       | none=>none)
     | none=>none) else none
   | none=>none
 | some .nils=>match Pq P T with
   | some _=>(match RQ E lo with
     | some l=>(match hiC E 0 (some y) with
       | some h=>(match uM E z with
         | some (.int _ m)=>bif Hx l 0 && (Hx h 0 && Hx m 0) then some .nils else none
         | _=>none)
       | none=>none)
     | none=>none)
   | none=>none
 | _=>none
def VQ (P:Program) (E:Tr CV) (h:Tr CB) (t:TypeId) (parts:List (Nat×Operand)):Option CV:=match P.underlying t with
 | some (.struct ⟨fs⟩)=>match dh P fs with
   | some pl=>match PN P t with
     | some z=>match Ft E pl (tW z) parts z with | some l=>some (.agg l) | none=>none
     | none=>none
   | none=>none
 | some (.array n E')=>match EZ P E' with
   | some sz=>match PN P t with
     | some z=>match Ft E (vL n sz) (tW z) parts z with | some l=>some (.agg l) | none=>none
     | none=>none
   | none=>none
 | _=>none
def EG (P:Program) (E:Tr CV) (h:Tr CB) (x:Operand) (T:TypeId):Option CV:=match uM E x with
 | some (.sl _ _ n _ _)=>match Pq P T with | some _=>some (.int .i64 n) | none=>none
 | some .nils=>match Pq P T with | some _=>some (.int .i64 0) | none=>none
 | some .sle=>match Pq P T with | some _=>some (.int .i64 0) | none=>none
 | some (.str s)=>match P.underlying T with | some .string=>some (.int .i64 (tW s)) | _=>none
 | _=>none
def VR (P:Program) (E:Tr CV) (h:Tr CB) (x:Operand) (T:TypeId):Option CV:=match uM E x with
 | some (.sl _ _ _ _ (some c))=>match Pq P T with | some _=>some (.int .i64 c) | none=>none
 | some .nils=>match Pq P T with | some _=>some (.int .i64 0) | none=>none
 | _=>none
def VS (P:Program) (E:Tr CV) (h:Tr CB) (x:Operand) (y:Operand):Option CV:=match uM E x with
 | some (.int k m)=>match uM E y with | some (.int k' n)=>bif EY k k' then some (.int k (bif wI m n then m else n)) else none | _=>none
 | _=>none
def VT (P:Program) (E:Tr CV) (h:Tr CB) (x:Operand) (y:Operand):Option CV:=match uM E x with
 | some (.int k m)=>match uM E y with | some (.int k' n)=>bif EY k k' then some (.int k (bif wI n m then m else n)) else none | _=>none
 | _=>none
def XP (P:Program) (E:Tr CV) (h:Tr CB) (T:TypeId) (x i:Operand) (c:Bool):Option CV:=match uM E x with
 | some (.mp t)=>match uM E i with
   | some k=>match h.get t with
     | some (.mapI l _)=>(match EE k with | some n=>bif RO P T then some (SQ c (Ob Hx n l)) else none | none=>none)
     | some (.mapK l _)=>(match EF k with | some n=>bif RP P T then some (SQ c (Ob SP n l)) else none | none=>none)
     | _=>none
   | none=>none
 | _=>none
def qv (P:Program) (E:Tr CV) (h:Tr CB):Op→Option CV
 | .move x=>uM E x
 | .assign x=>uM E x
 | .pick c x y=>XK P E h c x y
 | .unOp .not _ x=>qv3 P E h x
 | .unOp .neg _ x=>qv4 P E h x
 | .binOp o t x y _=>XL P E h o t x y
 | .convert s t x=>XM P E h s t x
 | .extract x i=>qv7 P E h x i
 | .nilCheck x=>XN P E h x
 | .fieldAddr s x f=>XO P E h s x f
 | .field T x i=>VL P E h T x i
 | .load T x=>OI P E h T x
 | .makeFunc (.func f) ⟨xs⟩ ⟨ys⟩=>VM P E h f xs ys
 | .indexAddr T x i=>OJ P E h T x i
 | .index T x i=>VN P E h T x i
 | .slice T x lo hi none=>VO P E h T x lo hi
 | .slice T x lo (some y) (some z)=>VP P E h T x lo y z
 | .build t ⟨parts⟩=>VQ P E h t parts
 | .call ⟨.builtin .len,⟨[x]⟩,⟨[T]⟩⟩=>EG P E h x T
 | .call ⟨.builtin .cap,⟨[x]⟩,⟨[T]⟩⟩=>VR P E h x T
 | .call ⟨.builtin .min,⟨[x,y]⟩,_⟩=>VS P E h x y
 | .call ⟨.builtin .max,⟨[x,y]⟩,_⟩=>VT P E h x y
 | .lookup T x i c=>XP P E h T x i c
 | _=>none
def Yd (P:Program) (op:Op) (nx:Nat) (ρ:Pl) (E:Tr CV) (ob:Nat→Obj) (a:Act) (c:CV):Prop:=
 ∃ v,Kn nx ρ c v∧∀ (w:World),(∀ t,JS E op=some t→w.heap[(ρ t).1]?=some (ob t))→∀ (dst:Option Tmp) (ty:TypeId) (pos:String) (after:Array Edge) (g:Option (Nat×Bool)),(execOp a.eval ⟨dst,op,ty,pos,after,g⟩).run P w=.ok (.value v) w
section
variable {P:Program} {op:Op} {nx n:Nat} {ρ:Pl} {E:Tr CV} {h:Tr CB} {ob:Nat→Obj} {a:Act} {c:CV}
theorem Yd.pure {v:Value} (hk:Kn nx ρ c v) (hq:∀ ty,Qy P op ty (eA a) [] (fun _=>none) v):Yd P op nx ρ E ob a c:=
 ⟨v,hk,fun w _ dst ty pos after g=>hq ty a w dst pos after g (lookN a w)⟩
abbrev eM:=@Yd.pure
theorem Yd.read {v:Value} {t:Nat} (ht:JS E op=some t) (hk:Kn nx ρ c v) (hq:∀ ty,Qy P op ty (eA a) [(0,some (ρ t).1,ob t)] (fun _=>none) v):Yd P op nx ρ E ob a c:=
 ⟨v,hk,fun w hw dst ty pos after g=>hq ty a w dst pos after g (VE a (hw t ht))⟩
theorem xT {k:IntKind} {m:Int}:Kn nx ρ (.int k m) (.int k m):=⟨trivial,rfl⟩
theorem Jt {b:Bool}:Kn nx ρ (.bool b) (.bool b):=⟨trivial,rfl⟩
theorem OK {t o m sz:Nat} {c:Option Nat} {l hi:Int} {r:CV} {v:Value} (hv:Kn nx ρ (.sl t o m sz c) v) (hr:RR t o m sz c l hi=some r) :
 0≤l∧l≤hi∧∃ c',v=.slice (some ⟨(ρ t).1,o,none⟩) m c'∧hi.toNat≤c'∧Kn nx ρ r (.slice (if c'=l.toNat then some ⟨(ρ t).1,o,none⟩ else (some (⟨(ρ t).1,o,none⟩:Addr)).map (·.add (l.toNat*sz))) (hi.toNat - l.toNat) (c' - l.toNat)):=by
 unfold RR at hr
 cases hb:wI 0 l && wI l hi with
 | false=>rw [hb] at hr;cases hr
 | true =>
   rw [hb] at hr
   simp only [gE] at hr
   simp only [aC,uR,aT] at hb
   obtain ⟨h1,h2⟩:=hb
   refine ⟨h1,h2,?_⟩
   have hlh:l.toNat≤hi.toNat:=sV
   cases c with
   | some c =>
     obtain ⟨e1,e2,e3,e4⟩:=jU.1 hv.2
     simp only at hr
     cases hb2:wI hi c with
     | false=>rw [hb2] at hr;cases hr
     | true =>
       rw [hb2] at hr
       simp only [gE] at hr
       simp only [uR,aT] at hb2
       have hhc:hi.toNat≤c:=sV
       refine ⟨c,e1,hhc,?_⟩
       cases hb3:Nat.beq c l.toNat with
       | true =>
         rw [hb3] at hr
         cases hr
         have:=aD hb3
         rw [aR this]
         refine ⟨hv.1,jU.2 ⟨?_,by omega,?_,by simp [maxLen]⟩⟩
         · rw [show c - l.toNat=0 by omega];rfl
         · show hi.toNat - l.toNat≤0;omega
       | false =>
         rw [hb3] at hr
         cases hr
         have hne:c≠l.toNat:=fun e=>by rw [e] at hb3;simp at hb3
         rw [aL hne]
         refine ⟨hv.1,jU.2 ⟨?_,?_,?_,?_⟩⟩
         · show Value.slice (some (Addr.add ⟨(ρ t).1,o,none⟩ (l.toNat*sz))) _ _=_;rw [add_lit];rfl
         · show o+l.toNat*sz+(c - l.toNat)*sz≤_
           have:l.toNat*sz+(c - l.toNat)*sz=c*sz:=by rw [←eN];congr 1;omega
           omega
         · show hi.toNat - l.toNat≤c - l.toNat;omega
         · show c - l.toNat≤_;omega
   | none =>
     obtain ⟨c,e1,e2,e3,e4⟩:=nF.1 hv.2
     simp only at hr
     cases hb2:wI hi m with
     | false=>rw [hb2] at hr;cases hr
     | true =>
       rw [hb2] at hr
       simp only [gE] at hr
       simp only [uR,aT] at hb2
       refine ⟨c,e1,by omega,?_⟩
       cases hb3:Nat.beq l.toNat 0 with
       | true =>
         rw [hb3] at hr
         cases hr
         have h0:=aD hb3
         rw [h0]
         refine ⟨hv.1,nF.2 ⟨c,?_,e2,by omega,e4⟩⟩
         show Value.slice (if c=0 then _ else some (Addr.add ⟨(ρ t).1,o,none⟩ (0*sz))) _ _=_
         rw [oO,add_lit]
         simp
       | false =>
         rw [hb3] at hr
         simp only [mD] at hr
         cases hb4:wI m l with
         | true =>
           rw [hb4] at hr
           cases hr
           simp only [uR,aT] at hb4
           exact ⟨trivial,_,_,by rw [show hi.toNat - l.toNat=0 by omega]⟩
         | false =>
           rw [hb4] at hr
           cases hr
           simp only [uR,dM] at hb4
           rw [aL (by omega)]
           refine ⟨hv.1,nF.2 ⟨c - l.toNat,?_,?_,?_,?_⟩⟩
           · show Value.slice (some (Addr.add ⟨(ρ t).1,o,none⟩ (l.toNat*sz))) _ _=_;rw [add_lit];rfl
           · show o+l.toNat*sz+(c - l.toNat)*sz=_
             have:l.toNat*sz+(c - l.toNat)*sz=c*sz:=by rw [←eN];congr 1;omega
             omega
           · show hi.toNat - l.toNat≤_;omega
           omega
theorem Me (hs:Slots ρ E nx n a) {lo:Option Operand} {l:Int} (h:RQ E lo=some l) (h0:0≤l):RG (eA a) 0 lo l.toNat:=by
 cases lo with
 | none=>cases h;rfl
 | some y =>
   unfold RQ at h
   simp only at h
   split at h
   · rename_i k m hy
     cases h
     obtain ⟨v,e1,k1⟩:=tB hs hy
     rw [gJ.1 k1.2] at e1
     exact ⟨k,by rw [cP h0];exact e1⟩
   cases h
theorem Mf (hs:Slots ρ E nx n a) {N:Nat} {lo:Option Operand} {l:Int} (h:hiC E N lo=some l) (h0:0≤l):RG (eA a) N lo l.toNat:=by
 cases lo with
 | none=>cases h;rfl
 | some y =>
   unfold hiC at h
   simp only at h
   split at h
   · rename_i k m hy
     cases h
     obtain ⟨v,e1,k1⟩:=tB hs hy
     rw [gJ.1 k1.2] at e1
     exact ⟨k,by rw [cP h0];exact e1⟩
   cases h
end
section
variable {P:Program} {op:Op} {nx n:Nat} {ρ:Pl} {E:Tr CV} {h:Tr CB} {ob:Nat→Obj} {a:Act} {c:CV}
theorem Mg {l:CV} {vs:List Value} (h:KL nx ρ l vs):Kn nx ρ (.agg l) (.agg vs.toArray):=⟨h.1,sU.2 ⟨vs,h.2,rfl⟩⟩
theorem Dz {l:CV} {v:Value} (h:Kn nx ρ (.agg l) v):∃ vs,KL nx ρ l vs∧v=.agg vs.toArray:=by
 obtain ⟨vs,h1,h2⟩:=sU.1 h.2
 exact ⟨vs,⟨h.1,h1⟩,h2⟩
theorem Ya {l:CV} {v:Value} (h:Kn nx ρ (.tup l) v):∃ vs,KL nx ρ l vs∧v=.tuple vs.toArray:=by
 obtain ⟨vs,h1,h2⟩:=qE.1 h.2
 exact ⟨vs,⟨h.1,h1⟩,h2⟩
theorem Ia {f:Nat} {x y:CV} {v:Value} (h:Kn nx ρ (.fn f x y) v):∃ xs ys,KL nx ρ x xs∧KL nx ρ y ys∧v=.func (.func f) xs.toArray ys.toArray:=by
 obtain ⟨xs,ys,h1,h2,h3⟩:=DV.fn.1 h.2
 exact ⟨xs,ys,⟨h.1.1,h1⟩,⟨h.1.2,h2⟩,h3⟩
theorem Cc {t o m sz:Nat} {cc:Option Nat} {v:Value} (h:Kn nx ρ (.sl t o m sz cc) v):∃ c',v=.slice (some ⟨(ρ t).1,o,none⟩) m c':=by
 cases cc with
 | some c=>exact ⟨c,(jU.1 h.2).1⟩
 | none=>obtain ⟨c,h1,_⟩:=nF.1 h.2;exact ⟨c,h1⟩
theorem Ct {m:Int} {N:Nat} (hb:(wI 0 m && not (wI N m))=true):0≤m∧m<N:=by
 simp only [aC,eD,uR,aT,dM] at hb
 omega
theorem Fv {s:CV} {v:Value} (h:Kn nx ρ (.str s) v):∃ bs:List UInt8,v=.string ⟨bs.toArray⟩∧KL nx ρ s (bs.map fun b=>Value.int .u8 b.toNat):=by
 obtain ⟨vs,bs,h1,h2,h3⟩:=h.2
 subst h2
 exact ⟨bs,h3,h.1,h1⟩
theorem AQ (hs:Slots ρ E nx n a) (hm:∀ t b,JS E op=some t→h.get t=some b→DB nx ρ (ρ t).2 b (ob t)) (hq:qv P E h op=some c):Yd P op nx ρ E ob a c:=by
 unfold qv at hq
 unfold XK qv3 qv4 XL XM qv7 XN XO VL OI VM OJ VN VO VP VQ EG VR VS VT at hq
 split at hq
 · -- move
   obtain ⟨v,e1,k1⟩:=tB hs hq
   exact eM k1 fun ty=>oM e1
 · obtain ⟨v,e1,k1⟩:=tB hs hq
   exact eM k1 fun ty=>Qy.assign e1
 · -- pick
   split at hq
   · rename_i b hb
     obtain ⟨v,e1,k1⟩:=tB hs hb
     obtain ⟨u,e2,k2⟩:=tB hs hq
     rw [rD.1 k1.2] at e1
     exact eM k2 fun ty=>Qy.pick e1 e2
   cases hq
 · -- not
   split at hq
   · rename_i b hb
     cases hq
     obtain ⟨v,e1,k1⟩:=tB hs hb
     rw [rD.1 k1.2] at e1
     exact eM Jt fun ty=>Qy.not e1
   cases hq
 · -- neg
   split at hq
   · rename_i k m hb
     cases hq
     obtain ⟨v,e1,k1⟩:=tB hs hb
     rw [gJ.1 k1.2] at e1
     refine eM xT fun ty=>?_
     rw [Mb]
     exact mV e1
   cases hq
 · -- binOp
   split at hq
   · rename_i k m hx
     split at hq
     · rename_i k' n' hy
       obtain ⟨v,e1,k1⟩:=tB hs hx
       obtain ⟨u,e2,k2⟩:=tB hs hy
       rw [gJ.1 k1.2] at e1
       rw [gJ.1 k2.2] at e2
       split at hq
       · rename_i c' hc
         cases hq
         obtain ⟨v',hk,hq⟩:=VI (P:=P) (H:=[]) (G:=fun _=>none) (nx:=nx) (ρ:=ρ) e1 e2 hc
         exact eM hk hq
       rcases sY hq with ⟨hk,hr1⟩ | ⟨_,hr1⟩
       · have:=Hb hk
         subst this
         obtain ⟨v',hk,hr1⟩:=VH (P:=P) (H:=[]) (G:=fun _=>none) (nx:=nx) (ρ:=ρ) e1 e2 hr1
         exact eM hk hr1
       cases hr1
     cases hq
   · rename_i ca hne hx
     split at hq
     · rename_i cb hy
       split at hq
       · rename_i r hr
         obtain ⟨v,e1,k1⟩:=tB hs hx
         obtain ⟨u,e2,k2⟩:=tB hs hy
         have he:=fun t'=>RN (t':=t') (H:=[]) (G:=fun _=>none) hr k1 k2 e1 e2
         split at hq
         · cases hq;exact eM Jt (he _).1
         · cases hq;exact eM Jt (he _).2
         cases hq
       cases hq
     cases hq
   cases hq
 · -- convert
   split at hq
   · rename_i k' ht
     split at hq
     · rename_i d hd
       split at hq
       · rename_i k m hx
         cases hq
         obtain ⟨v,e1,k1⟩:=tB hs hx
         rw [gJ.1 k1.2] at e1
         refine eM xT fun ty=>?_
         rw [Mb]
         exact kP (by rw [hd];rfl) ht e1
       cases hq
     cases hq
   cases hq
 · -- extract
   split at hq
   · rename_i l hx
     obtain ⟨v,e1,k1⟩:=tB hs hx
     obtain ⟨vs,k2,rfl⟩:=Ya k1
     obtain ⟨u,e2,k3⟩:=Cp k2 hq
     exact eM k3 fun ty=>Qy.extract e1 e2
   cases hq
 · -- nilCheck
   split at hq
   · rename_i t o hx
     cases hq
     obtain ⟨v,e1,k1⟩:=tB hs hx
     have e2:=mI.1 k1.2
     subst e2
     exact eM k1 fun ty=>Qy.nilCheck e1
   · rename_i t hx
     cases hq
     obtain ⟨v,e1,k1⟩:=tB hs hx
     have e2:=DV.mp.1 k1.2
     subst e2
     exact eM k1 fun ty=>Qj e1
   · rename_i f x y hx
     cases hq
     obtain ⟨v,e1,k1⟩:=tB hs hx
     obtain ⟨xs,ys,_,_,rfl⟩:=Ia k1
     exact eM k1 fun ty=>Qk e1
   · rename_i t hx
     cases hq
     obtain ⟨v,e1,k1⟩:=tB hs hx
     have e2:v=.func (.yield (ρ t).1) #[] #[]:=k1.2
     subst e2
     exact eM k1 fun ty=>Ql e1
   cases hq
 · -- fieldAddr
   split at hq
   · rename_i t o hx
     split at hq
     · rename_i k hk
       cases hq
       obtain ⟨v,e1,k1⟩:=tB hs hx
       have e2:=mI.1 k1.2
       subst e2
       exact eM (c:=.ptr t (Nat.add o k)) ⟨k1.1,rfl⟩ fun ty=>Qy.fieldAddr (RF hk) e1
     cases hq
   cases hq
 · -- field
   split at hq
   · rename_i l hx
     obtain ⟨v,e1,k1⟩:=tB hs hx
     obtain ⟨vs,k2,rfl⟩:=Dz k1
     split at hq
     · rename_i fs hu
       split at hq
       · rename_i fd hf
         rw [xA] at hf
         rcases sY hq with ⟨h1,hr1⟩ | ⟨_,hr1⟩
         · obtain ⟨u,e2,k3⟩:=Cp k2 hr1
           exact eM k3 fun ty=>EC hu (by simpa using hf) h1 e1 e2
         split at hr1
         · rename_i k hk
           cases hr1
           exact eM (Mg (Fm k (Fl fd.offset k2))) fun ty=>ED hu (by simpa using hf) (JL hk) e1
         cases hr1
       cases hq
     cases hq
   cases hq
 · -- load
   rename_i T x
   split at hq
   · rename_i t o hx
     split at hq
     · rename_i l bt op' st hb
       obtain ⟨v,e1,k1⟩:=tB hs hx
       have e2:=mI.1 k1.2
       subst e2
       have hrd:JS E (.load T x)=some t:=by show (match uM E x with | some (.ptr t _)=>some t | _=>none)=some t;rw [hx]
       obtain ⟨vs,junk,kl,eo,_,_⟩:=hm t _ hrd hb
       rcases sY hq with ⟨h1,hr1⟩ | ⟨_,hr1⟩
       · obtain ⟨u,e2,k3⟩:=AN kl hr1
         refine Yd.read hrd k3 fun ty=>Qy.load 0 h1 e1 (by rw [eo];rfl) ?_
         rw [bH (aS.1 e2).1];exact e2
       split at hr1
       · rename_i k hk
         rcases sY hr1 with ⟨h2,hr2⟩ | ⟨_,hr2⟩
         · cases hr2
           have kk:=xS kl (aD (by first | exact hb2 | exact h2 | exact hb | assumption))
           have hlen:=tZ kk
           rw [aD h2] at hlen
           refine Yd.read hrd (Mg kk) fun ty=>eL 0 (JL hk) e1 (by rw [eo];rfl) ?_ hlen.symm
           have h3:o+k≤vs.length∨k=0:=by
            rw [bC,eC] at hlen
            omega
           rcases h3 with h3 | h3
           · rw [eO sV,fG Yq]
           subst h3;simp
         cases hr2
       cases hr1
     cases hq
   cases hq
 · -- makeFunc
   split at hq
   · rename_i x hx
     split at hq
     · rename_i y hy
       cases hq
       obtain ⟨us,e1,k1⟩:=Jo hs hx
       obtain ⟨vs,e2,k2⟩:=Jo hs hy
       exact eM ⟨⟨k1.1,k2.1⟩,DV.fn.2 ⟨us,vs,k1.2,k2.2,rfl⟩⟩ fun ty=>mQ e1 e2
     cases hq
   cases hq
 · -- indexAddr
   split at hq
   · rename_i k m hi
     obtain ⟨vi,ei,ki⟩:=tB hs hi
     rw [gJ.1 ki.2] at ei
     split at hq
     · rename_i t o N sz cc hx
       split at hq
       · rename_i E' sz' hT
         rcases sY hq with ⟨h1,hr1⟩ | ⟨_,hr1⟩
         · cases hr1
           have h1':Nat.beq sz sz'=true∧(wI 0 m && not (wI N m))=true:=by simpa only [aC] using h1
           have:=aD h1'.1
           subst this
           obtain ⟨v,e1,k1⟩:=tB hs hx
           obtain ⟨c',rfl⟩:=Cc k1
           exact eM (c:=.ptr t (Nat.add o (Nat.mul m.toNat sz))) ⟨k1.1,rfl⟩ fun ty=>dI (vZ hT) e1 ei (Ct h1'.2)
         cases hr1
       cases hq
     · rename_i t o hx
       split at hq
       · rename_i N E' sz hT
         rcases sY hq with ⟨h1,hr1⟩ | ⟨_,hr1⟩
         · cases hr1
           obtain ⟨v,e1,k1⟩:=tB hs hx
           have e2:=mI.1 k1.2
           subst e2
           exact eM (c:=.ptr t (Nat.add o (Nat.mul m.toNat sz))) ⟨k1.1,rfl⟩ fun ty=>Ny (Hz hT).1 (Hz hT).2 e1 ei (Ct h1)
         cases hr1
       cases hq
     cases hq
   cases hq
 · -- index
   split at hq
   · rename_i k m hi
     obtain ⟨vi,ei,ki⟩:=tB hs hi
     rw [gJ.1 ki.2] at ei
     split at hq
     · rename_i l hx
       split at hq
       · rename_i N E' sz hT
         rcases sY hq with ⟨h1,hr1⟩ | ⟨_,hr1⟩
         · have h1':Nat.beq sz 1=true∧vK P E'=true∧(wI 0 m && not (wI N m))=true:=by simpa only [aC] using h1
           have:=aD h1'.1
           subst this
           obtain ⟨v,e1,k1⟩:=tB hs hx
           obtain ⟨vs,k2,rfl⟩:=Dz k1
           obtain ⟨u,e2,k3⟩:=Cp k2 hr1
           exact eM k3 fun ty=>Qy.indexV (Hz hT).1 h1'.2.1 (Hz hT).2 e1 ei (Ct h1'.2.2) e2
         rcases sY hr1 with ⟨h2,hr2⟩ | ⟨_,hr2⟩
         · have h2':wK P E' sz=true∧Nat.ble 1 sz=true∧(wI 0 m && not (wI N m))=true:=by simpa only [aC] using h2
           cases hr2
           obtain ⟨v,e1,k1⟩:=tB hs hx
           obtain ⟨vs,k2,rfl⟩:=Dz k1
           exact eM (Mg (Fm sz (Fl (Nat.mul m.toNat sz) k2))) fun ty=>Xx (Hz hT).1 h2'.1 e1 ei (Ct h2'.2.2)
         cases hr2
       cases hq
     cases hq
   cases hq
 · -- slice
   split at hq
   · rename_i t o N sz cc hx
     split at hq
     · rename_i E' sz' hT
       rcases sY hq with ⟨h1,hr1⟩ | ⟨_,hr1⟩
       · have:=aD h1
         subst this
         split at hr1
         · rename_i l hl
           split at hr1
           · rename_i hi hh
             obtain ⟨v,e1,k1⟩:=tB hs hx
             obtain ⟨h2,h3,c',rfl,h4,k2⟩:=OK k1 hr1
             exact eM k2 fun ty=>Iw (vZ hT) e1 (Me hs hl h2) (Mf hs hh sV) sV h4
           cases hr1
         cases hr1
       cases hr1
     cases hq
   · rename_i hx
     split at hq
     · rename_i x' hT
       obtain ⟨E',sz⟩:=x'
       split at hq
       · rename_i l hl
         split at hq
         · rename_i hi hh
           rcases sY hq with ⟨h1,hr1⟩ | ⟨_,hr1⟩
           · cases hr1
             simp only [aC,wM,aT] at h1
             obtain ⟨rfl,rfl⟩:=h1
             obtain ⟨v,e1,k1⟩:=tB hs hx
             have e2:=nG.1 k1.2
             subst e2
             exact eM k1 fun ty=>Iw (vZ hT) e1 (Me hs hl sV) (Mf hs hh sV) (aG _) (aG _)
           cases hr1
         cases hq
       cases hq
     cases hq
   cases hq
 · -- slice,its room too
   split at hq
   · rename_i t o N sz cc hx
     split at hq
     · rename_i E' sz' hT
       rcases sY hq with ⟨h1,hr1⟩ | ⟨_,hr1⟩
       · have:=aD h1
         subst this
         split at hr1
         · rename_i l hl
           split at hr1
           · rename_i hi hh
             split at hr1
             · rename_i kz m hz
               rcases sY hr1 with ⟨h2,hr2⟩ | ⟨_,hr2⟩
               · obtain ⟨v,e1,k1⟩:=tB hs hx
                 obtain ⟨vz,ez,kkz⟩:=tB hs hz
                 rw [gJ.1 kkz.2] at ez
                 have h2':0≤l∧l≤hi∧hi≤m∧PP m N cc=true:=by
                  simpa only [aC,uR,aT] using h2
                 obtain ⟨q1,q2,q3,q4⟩:=h2'
                 have hC:∃ C,v=.slice (some ⟨(ρ t).1,o,none⟩) N C∧m.toNat≤C∧o+C*sz≤(ρ t).2∧C≤maxLen:=by
                  cases cc with
                  | some c =>
                    obtain ⟨g1,g2,g3,g4⟩:=jU.1 k1.2
                    have q4':m≤(c:Int):=by
                     have q5:wI m c=true:=q4
                     simpa only [uR,aT] using q5
                    exact ⟨c,g1,by omega,g2,g4⟩
                  | none =>
                    obtain ⟨c,g1,g2,g3,g4⟩:=nF.1 k1.2
                    have q4':m≤(N:Int):=by
                     have q5:wI m N=true:=q4
                     simpa only [uR,aT] using q5
                    exact ⟨c,g1,by omega,by omega,g4⟩
                 obtain ⟨C,rfl,hmC,hsz,hCm⟩:=hC
                 have hLh:=Mf hs hh (show 0≤hi by omega)
                 have hQ:=fun ty=>Pr (P:=P) (H:=[]) (G:=fun _=>none) (ty:=ty) (vZ hT) e1 (Me hs hl q1) (h:=hi.toNat) (m:=m.toNat) (kz:=kz) ⟨_,rfl,hLh⟩ (by rw [cP sV];exact ez) sV sV hmC
                 rcases sY hr2 with ⟨h3,hr3⟩ | ⟨h3,hr3⟩
                 · cases hr3
                   have h3':=aD h3
                   refine eM ⟨k1.1,jU.2 ⟨rfl,by omega,?_,by simp [maxLen]⟩⟩ fun ty=>?_
                   · show hi.toNat - l.toNat≤0;omega
                   have:=hQ ty
                   rw [aR h3',show m.toNat - l.toNat=0 by omega] at this
                   exact this
                 cases hr3
                 have h3':m.toNat≠l.toNat:=fun e=>by rw [e] at h3;simp at h3
                 refine eM ⟨k1.1,jU.2 ⟨rfl,?_,?_,?_⟩⟩ fun ty=>?_
                 · show o+l.toNat*sz+(m.toNat - l.toNat)*sz≤_
                   have e1:l.toNat*sz+(m.toNat - l.toNat)*sz=m.toNat*sz:=by rw [←eN];congr 1;omega
                   have e2:m.toNat*sz≤C*sz:=gM _ hmC
                   omega
                 · show hi.toNat - l.toNat≤m.toNat - l.toNat;omega
                 · show m.toNat - l.toNat≤_;omega
                 have:=hQ ty
                 rw [aL h3'] at this
                 show Qy P _ ty _ _ _ (.slice (some ⟨(ρ t).1,o+l.toNat*sz,none⟩) (hi.toNat - l.toNat) (m.toNat - l.toNat))
                 rw [←add_lit]
                 exact this
               cases hr2
             cases hr1
           cases hr1
         cases hr1
       cases hr1
     cases hq
   · rename_i hx
     split at hq
     · rename_i x' hT
       obtain ⟨E',sz⟩:=x'
       split at hq
       · rename_i l hl
         split at hq
         · rename_i hi hh
           split at hq
           · rename_i kz m hz
             rcases sY hq with ⟨h1,hr1⟩ | ⟨_,hr1⟩
             · cases hr1
               simp only [aC,wM,aT] at h1
               obtain ⟨rfl,rfl,rfl⟩:=h1
               obtain ⟨v,e1,k1⟩:=tB hs hx
               have e2:=nG.1 k1.2
               subst e2
               obtain ⟨vz,ez,kkz⟩:=tB hs hz
               rw [gJ.1 kkz.2] at ez
               refine eM k1 fun ty=>?_
               have:=Pr (P:=P) (H:=[]) (G:=fun _=>none) (ty:=ty) (vZ hT) e1 (Me hs hl sV) (h:=0) (m:=0) (kz:=kz) ⟨_,rfl,Mf hs hh sV⟩ ez (aG _) (aG _) (aG _)
               exact this
             cases hr1
           cases hq
         cases hq
       cases hq
     cases hq
   cases hq
 · -- build
   rename_i t parts
   split at hq
   · rename_i fs hu
     split at hq
     · rename_i pl hpl
       split at hq
       · rename_i z hz
         split at hq
         · rename_i l hf
           cases hq
           obtain ⟨i,zv,hi,hzv,kz⟩:=Mc hz nx ρ
           obtain ⟨vs,e1,o1,k1⟩:=Fu hs kz hf
           rw [tZ kz] at o1
           refine eM (Mg k1) fun ty=>fB (pl:=pl) (zs:=zv.cells.toList) ⟨zv,fs.toArray,hu,fun w=>?_,by simp,RH hpl⟩ e1 o1 rfl
           simp [zeroValue,typeInfo,hi,hzv]
         cases hq
       cases hq
     cases hq
   · rename_i N E' hu
     split at hq
     · rename_i sz hsz
       split at hq
       · rename_i z hz
         split at hq
         · rename_i l hf
           cases hq
           obtain ⟨i,zv,hi,hzv,kz⟩:=Mc hz nx ρ
           obtain ⟨vs,e1,o1,k1⟩:=Fu hs kz hf
           rw [tZ kz] at o1
           refine eM (Mg k1) fun ty=>sQ (n:=N) (sz:=sz) (zs:=zv.cells.toList) ⟨zv,E',hu,fun w=>?_,by simp,Dx hsz⟩ e1 o1 rfl
           simp [zeroValue,typeInfo,hi,hzv]
         cases hq
       cases hq
     cases hq
   cases hq
 · -- len
   split at hq
   · rename_i t o N sz cc hx
     split at hq
     · rename_i x' hT
       obtain ⟨E',sz'⟩:=x'
       cases hq
       obtain ⟨v,e1,k1⟩:=tB hs hx
       obtain ⟨c',rfl⟩:=Cc k1
       exact eM xT fun ty=>Qy.len (vZ hT) e1
     cases hq
   · rename_i hx
     split at hq
     · rename_i x' hT
       obtain ⟨E',sz'⟩:=x'
       cases hq
       obtain ⟨v,e1,k1⟩:=tB hs hx
       have e2:=nG.1 k1.2
       subst e2
       exact eM xT fun ty=>Qy.len (vZ hT) e1
     cases hq
   · rename_i hx
     split at hq
     · rename_i x' hT
       obtain ⟨E',sz'⟩:=x'
       cases hq
       obtain ⟨v,e1,k1⟩:=tB hs hx
       obtain ⟨a',c',rfl⟩:=k1.2
       exact eM xT fun ty=>Qy.len (vZ hT) e1
     cases hq
   · rename_i s hx
     split at hq
     · rename_i hT
       cases hq
       obtain ⟨v,e1,k1⟩:=tB hs hx
       obtain ⟨bs,rfl,k2⟩:=Fv k1
       have e3:=tZ k2
       rw [bX] at e3
       refine eM (v:=.int .i64 ((ByteArray.mk bs.toArray).size:Int)) ?_ fun ty=>OC hT e1
       rw [show (ByteArray.mk bs.toArray).size=bs.length from by show bs.toArray.size=_;simp,←e3]
       exact xT
     cases hq
   cases hq
 · -- cap
   split at hq
   · rename_i t o N sz cc hx
     split at hq
     · rename_i x' hT
       obtain ⟨E',sz'⟩:=x'
       cases hq
       obtain ⟨v,e1,k1⟩:=tB hs hx
       have e2:=(jU.1 k1.2).1
       subst e2
       exact eM xT fun ty=>Qy.cap (vZ hT) e1
     cases hq
   · rename_i hx
     split at hq
     · rename_i x' hT
       obtain ⟨E',sz'⟩:=x'
       cases hq
       obtain ⟨v,e1,k1⟩:=tB hs hx
       have e2:=nG.1 k1.2
       subst e2
       exact eM xT fun ty=>Qy.cap (vZ hT) e1
     cases hq
   cases hq
 · -- min
   split at hq
   · rename_i k m hx
     split at hq
     · rename_i k' m' hy
       rcases sY hq with ⟨h1,hr1⟩ | ⟨_,hr1⟩
       · have:=Hb h1
         subst this
         cases hr1
         obtain ⟨v,e1,k1⟩:=tB hs hx
         obtain ⟨u,e2,k2⟩:=tB hs hy
         rw [gJ.1 k1.2] at e1
         rw [gJ.1 k2.2] at e2
         have e3:(bif wI m m' then m else m')=if m'<m then m' else m:=by
          rw [uR]
          by_cases h2:m≤m'
          · simp [h2,Int.not_lt.2 h2]
          simp [h2,Int.not_le.1 h2]
         rw [e3]
         exact eM xT fun ty=>Qy.min e1 e2
       cases hr1
     cases hq
   cases hq
 · -- max
   split at hq
   · rename_i k m hx
     split at hq
     · rename_i k' m' hy
       rcases sY hq with ⟨h1,hr1⟩ | ⟨_,hr1⟩
       · have:=Hb h1
         subst this
         cases hr1
         obtain ⟨v,e1,k1⟩:=tB hs hx
         obtain ⟨u,e2,k2⟩:=tB hs hy
         rw [gJ.1 k1.2] at e1
         rw [gJ.1 k2.2] at e2
         have e3:(bif wI m' m then m else m')=if m<m' then m' else m:=by
          rw [uR]
          by_cases h2:m'≤m
          · simp [h2,Int.not_lt.2 h2]
          simp [h2,Int.not_le.1 h2]
         rw [e3]
         exact eM xT fun ty=>sO e1 e2
       cases hr1
     cases hq
   cases hq
 · -- lookup
   rename_i T x i cc
   unfold XP at hq
   split at hq
   · rename_i t hx
     obtain ⟨v1,e1,k1⟩:=tB hs hx
     have e1':=Md k1
     subst e1'
     have hrd:JS E (.lookup T x i cc)=some t:=by show (match uM E x with | some (.mp t)=>some t | _=>none)=some t;rw [hx]
     split at hq
     · rename_i k hi
       obtain ⟨v2,e2,k2⟩:=tB hs hi
       split at hq
       · rename_i l st hb
         have hob:ob t=uF l:=hm t _ hrd hb
         split at hq
         · rename_i m hk
           rcases sY hq with ⟨h1,hr⟩ | ⟨_,hr⟩
           · cases hr
             obtain ⟨kt,hT⟩:=Rx h1
             have e3:=Jr hk k2
             subst e3
             rw [Jq wM]
             refine ⟨_,JR,fun w hw dst ty pos after g=>?_⟩
             have hbk:=hw t hrd
             rw [hob] at hbk
             simp only [execOp,(lookN a w).eval e1,(lookN a w).eval e2,bG,Dy hT hbk cc,aP,bL]
           cases hr
         cases hq
       · rename_i l st hb
         have hob:ob t=uF l:=hm t _ hrd hb
         split at hq
         · rename_i m hk
           rcases sY hq with ⟨h1,hr⟩ | ⟨_,hr⟩
           · cases hr
             obtain ⟨kt,hT⟩:=Ry h1
             have e3:=Js hk k2
             subst e3
             rw [Jq Rv]
             refine ⟨_,JR,fun w hw dst ty pos after g=>?_⟩
             have hbk:=hw t hrd
             rw [hob] at hbk
             simp only [execOp,(lookN a w).eval e1,(lookN a w).eval e2,bG,Dy hT hbk cc,aP,bL]
           cases hr
         cases hq
       cases hq
     cases hq
   cases hq
 cases hq
end
def tE:Nat:=1000000000
theorem Mh:tE=1000000000:=rfl
structure OldX (X:Nat→Prop) (ρ:Pl) (h:Tr CB) (nx:Nat) (w:World) (ρ':Pl) (h':Tr CB) (w':World):Prop where
 old:∀ t b,h'.get t=some b→Rr b<nx→h.get t=some b∧w'.heap[(ρ t).1]?=w.heap[(ρ t).1]?
 fr:∀ p,p<w.heap.size→(∀ t b,h.get t=some b→(ρ t).1≠p)→¬X p→w'.heap[p]?=w.heap[p]?
 nw:∀ t b,h'.get t=some b→w.heap.size≤(ρ' t).1∨∃ t' b',h.get t'=some b'∧(ρ t').1=(ρ' t).1
 sz:w.heap.size≤w'.heap.size
abbrev Oc:=OldX (fun _=>False)
section
variable {ρ ρ':Pl} {Φ:Imm→Prop} {w0:Bas Φ} {w w' w'':World} {h h' h'':Tr CB} {nx nx':Nat}
theorem OldX.refl {X:Nat→Prop}:OldX X ρ h nx w ρ h w:=⟨fun t b hb _=>⟨hb,rfl⟩,fun _ _ _ _=>rfl,fun t b hb=>.inr ⟨t,b,hb,rfl⟩,aG _⟩
abbrev gB:=@OldX.refl
theorem Mem.lt (hm:Mem ρ w0 h nx w) {t:Nat} {b:CB} (ht:h.get t=some b):(ρ t).1<w.heap.size:=by
 obtain ⟨_,_,_,o,h1,_⟩:=hm.own t b ht
 exact (cG.1 h1).1
theorem Mem.klt (hm:Mem ρ w0 h nx w) {b:Nat} (hb:b∈w0.ks):b<w.heap.size:=(cG.1 (hm.kept b hb).2.1).1
theorem Ix {X:Nat→Prop} {ρ2:Pl} (hm:Mem ρ w0 h nx w) (k1:Oc ρ h nx w ρ' h' w') (k2:OldX X ρ' h' nx' w' ρ2 h'' w'') (hX:∀ p,X p→w.heap.size≤p) (hn:nx≤nx') (he:Ext nx ρ ρ'):Oc ρ h nx w ρ2 h'' w'':=by
 refine ⟨fun t b hb hs=>?_,fun p hp hu _=>?_,fun t b hb=>?_,aO k1.sz k2.sz⟩
 · obtain ⟨a1,a2⟩:=k2.old t b hb (bS hs hn)
   obtain ⟨b1,b2⟩:=k1.old t b a1 hs
   have e:=he t (hm.own t b b1).1
   rw [e] at a2
   exact ⟨b1,a2.trans b2⟩
 · refine (k2.fr p (bS hp k1.sz) (fun t b hb e=>?_) (fun hx=>kH _ (bS hp (hX p hx)))).trans (k1.fr p hp hu id)
   rcases k1.nw t b hb with h1 | ⟨t',b',h1,h2⟩
   · omega
   exact hu t' b' h1 (h2.trans e)
 rcases k2.nw t b hb with h1 | ⟨t',b',h1,h2⟩
 · exact .inl (aO k1.sz h1)
 rw [←h2];exact k1.nw t' b' h1
theorem OldX.trans {ρ2:Pl} (hm:Mem ρ w0 h nx w) (k1:Oc ρ h nx w ρ' h' w') (k2:Oc ρ' h' nx' w' ρ2 h'' w'') (hn:nx≤nx') (he:Ext nx ρ ρ'):Oc ρ h nx w ρ2 h'' w'':=Ix hm k1 k2 (fun _ h=>h.elim) hn he
theorem Mem.new (hm:Mem ρ w0 h nx w) (hf:nx<tE) {b:CB} {o:Obj} {s:Nat} (hst:Rr b=nx) (hu:Upd (fun _=>False) w w') (hs:w'.heap.size=w.heap.size+1) (ho:w'.heap[w.heap.size]?=some o) (hb:DB nx ρ s b o) :
 ∃ ρ',Ext nx ρ ρ'∧ρ' nx=(w.heap.size,s)∧Mem ρ' w0 (h.set (some b) tE nx) (nx+1) w'∧Oc ρ h nx w ρ' (h.set (some b) tE nx) w':=by
 have hext:Ext nx ρ (fun t=>if t=nx then (w.heap.size,s) else ρ t):=fun t ht=>by simp [sA ht]
 have get:=fun j=>eP (some b) tE h nx j hf
 refine ⟨fun t=>if t=nx then (w.heap.size,s) else ρ t,hext,by simp,⟨hm.upd.trans hu,?_,?_,hm.imm,hm.nod,fun c hc=>?_⟩,?_⟩
 · intro t b' ht
   rw [get] at ht
   by_cases e:t=nx
   · subst e
     rw [aR rfl] at ht
     cases ht
     simp only [eR]
     exact ⟨by omega,by omega,hm.upd.size,o,ho,hb.up (dB _) hext⟩
   rw [aL e] at ht
   obtain ⟨h1,hs1,h2,o',h3,h4⟩:=hm.own t b' ht
   simp only [e,eS]
   refine ⟨by omega,by omega,h2,o',?_,h4.up (dB _) hext⟩
   rw [hu.same _ (hm.lt ht) id];exact h3
 · intro t t' b1 b2 h1 h2 he
   rw [get] at h1 h2
   by_cases e:t=nx <;> by_cases e':t'=nx
   · rw [e,e']
   · rw [aL e'] at h2
     have:=hm.lt h2
     simp only [e,e',eR,eS] at he
     omega
   · rw [aL e] at h1
     have:=hm.lt h1
     simp only [e,e',eR,eS] at he
     omega
   rw [aL e] at h1
   rw [aL e'] at h2
   simp only [e,e',eS] at he
   exact hm.one t t' b1 b2 h1 h2 he
 · obtain ⟨k1,k2,k3⟩:=hm.kept c hc
   have hl:=hm.klt hc
   refine ⟨k1,(hu.same _ hl id).trans k2,fun t b' ht=>?_⟩
   rw [get] at ht
   by_cases e:t=nx
   · simp only [e,eR];omega
   rw [aL e] at ht
   simp only [e,eS]
   exact k3 t b' ht
 refine ⟨fun t b' hb' hst'=>?_,fun p hp _ _=>hu.same _ hp id,fun t b' hb'=>?_,hu.size⟩
 · rw [get] at hb'
   by_cases e:t=nx
   · rw [aR e] at hb';cases hb';omega
   rw [aL e] at hb'
   exact ⟨hb',hu.same _ (hm.lt hb') id⟩
 rw [get] at hb'
 by_cases e:t=nx
 · simp only [e,eR];exact .inl (aG _)
 rw [aL e] at hb'
 simp only [e,eS];exact .inr ⟨t,b',hb',rfl⟩
theorem Mem.write (hm:Mem ρ w0 h nx w) (hf:nx≤tE) {t:Nat} {b b':CB} {o:Obj} (hst:Rr b'=nx) (ht:h.get t=some b) (hu:Upd (·=(ρ t).1) w w') (ho:w'.heap[(ρ t).1]?=some o) (hb:DB nx ρ (ρ t).2 b' o) :
 Mem ρ w0 (h.set (some b') tE t) (nx+1) w'∧Oc ρ h nx w ρ (h.set (some b') tE t) w':=by
 obtain ⟨h1,hs1,h2,_⟩:=hm.own t b ht
 have get:=fun j=>eP (some b') tE h t j sV
 refine ⟨⟨⟨hu.os.trans hm.upd.os,hu.tape.trans hm.upd.tape,hu.output.trans hm.upd.output,aO hm.upd.size hu.size,fun k hk hx=>?_⟩,?_,?_,hm.imm,hm.nod,fun c hc=>?_⟩,?_⟩
 · exact (hu.same k (bS hk hm.upd.size) sV).trans (hm.upd.same k hk hx)
 · intro t' c hc
   rw [get] at hc
   by_cases e:t'=t
   · subst e
     rw [aR rfl] at hc
     cases hc
     exact ⟨by omega,by omega,h2,o,ho,hb.up (dB _) (dH _ _)⟩
   rw [aL e] at hc
   obtain ⟨g1,gs,g2,o',g3,g4⟩:=hm.own t' c hc
   refine ⟨by omega,by omega,g2,o',?_,g4.up (dB _) (dH _ _)⟩
   rw [hu.same _ (hm.lt hc) (fun e2=>e (hm.one t' t c b hc ht e2))];exact g3
 · intro t1 t2 b1 b2 e1 e2 he
   have f:∀ t' c,(h.set (some b') tE t).get t'=some c→∃ c',h.get t'=some c':=fun t' c hc=>by
    rw [get] at hc
    by_cases e:t'=t
    · subst e;exact ⟨b,ht⟩
    rw [aL e] at hc;exact ⟨c,hc⟩
   obtain ⟨c1,g1⟩:=f t1 b1 e1
   obtain ⟨c2,g2⟩:=f t2 b2 e2
   exact hm.one t1 t2 c1 c2 g1 g2 he
 · obtain ⟨k1,k2,k3⟩:=hm.kept c hc
   refine ⟨k1,(hu.same _ (hm.klt hc) (fun e=>k3 t b ht e.symm)).trans k2,fun t' b' ht'=>?_⟩
   rw [get] at ht'
   by_cases e:t'=t
   · subst e;exact k3 _ _ ht
   rw [aL e] at ht';exact k3 _ _ ht'
 refine ⟨fun t' c hc hs'=>?_,fun p hp hup _=>hu.same _ hp (fun e=>hup t b ht e.symm),fun t' c hc=>?_,hu.size⟩
 · rw [get] at hc
   by_cases e:t'=t
   · rw [aR e] at hc;cases hc;omega
   rw [aL e] at hc
   exact ⟨hc,hu.same _ (hm.lt hc) (fun e2=>e (hm.one t' t c b hc ht e2))⟩
 rw [get] at hc
 by_cases e:t'=t
 · exact .inr ⟨t,b,ht,by rw [e]⟩
 rw [aL e] at hc;exact .inr ⟨t',c,hc,rfl⟩
theorem Mem.kill (hm:Mem ρ w0 h nx w) (hf:nx≤tE) {t:Nat} (ht:t<nx):Mem ρ w0 (h.set none tE t) nx w∧Oc ρ h nx w ρ (h.set none tE t) w:=by
 have get:=fun j=>eP (none:Option CB) tE h t j sV
 have f:∀ t' c,(h.set none tE t).get t'=some c→h.get t'=some c:=fun t' c hc=>by
  rw [get] at hc
  by_cases e:t'=t
  · rw [aR e] at hc;cases hc
  rw [aL e] at hc;exact hc
 exact ⟨⟨hm.upd,fun t' c hc=>hm.own t' c (f t' c hc),fun t1 t2 b1 b2 e1 e2 he=>hm.one t1 t2 b1 b2 (f _ _ e1) (f _ _ e2) he,hm.imm,hm.nod,fun c hc=>⟨(hm.kept c hc).1,(hm.kept c hc).2.1,fun t' b' ht'=>(hm.kept c hc).2.2 t' b' (f _ _ ht')⟩⟩,⟨fun t' c hc _=>⟨f _ _ hc,rfl⟩,fun _ _ _ _=>rfl,fun t' c hc=>.inr ⟨t',c,f _ _ hc,rfl⟩,aG _⟩⟩
theorem Mem.drop (hm:Mem ρ w0 h nx w) (hf:nx≤tE) {t:Nat} {b:CB} (ht:h.get t=some b) (hu:Upd (·=(ρ t).1) w w'):Mem ρ w0 (h.set none tE t) nx w'∧Oc ρ h nx w ρ (h.set none tE t) w':=by
 obtain ⟨h1,hs1,h2,_⟩:=hm.own t b ht
 have get:=fun j=>eP (none:Option CB) tE h t j sV
 have f:∀ t' c,(h.set none tE t).get t'=some c→t'≠t∧h.get t'=some c:=fun t' c hc=>by
  rw [get] at hc
  by_cases e:t'=t
  · rw [aR e] at hc;cases hc
  rw [aL e] at hc;exact ⟨e,hc⟩
 have ne:∀ t' c,(h.set none tE t).get t'=some c→(ρ t').1≠(ρ t).1:=fun t' c hc e=>(f t' c hc).1 (hm.one t' t c b (f t' c hc).2 ht e)
 refine ⟨⟨⟨hu.os.trans hm.upd.os,hu.tape.trans hm.upd.tape,hu.output.trans hm.upd.output,aO hm.upd.size hu.size,fun k hk hx=>?_⟩,fun t' c hc=>?_,fun t1 t2 b1 b2 e1 e2 he=>hm.one t1 t2 b1 b2 (f _ _ e1).2 (f _ _ e2).2 he,hm.imm,hm.nod,fun c hc=>?_⟩,?_⟩
 · exact (hu.same k (bS hk hm.upd.size) sV).trans (hm.upd.same k hk hx)
 · obtain ⟨g1,gs,g2,o',g3,g4⟩:=hm.own t' c (f t' c hc).2
   exact ⟨g1,gs,g2,o',(hu.same _ (hm.lt (f t' c hc).2) (ne t' c hc)).trans g3,g4⟩
 · obtain ⟨k1,k2,k3⟩:=hm.kept c hc
   exact ⟨k1,(hu.same _ (hm.klt hc) (fun e=>k3 t b ht e.symm)).trans k2,fun t' b' ht'=>k3 t' b' (f _ _ ht').2⟩
 exact ⟨fun t' c hc _=>⟨(f t' c hc).2,hu.same _ (hm.lt (f t' c hc).2) (ne t' c hc)⟩,fun p hp hup _=>hu.same _ hp (fun e=>hup t b ht e.symm),fun t' c hc=>.inr ⟨t',c,(f _ _ hc).2,rfl⟩,hu.size⟩
theorem Mem.rename (hm:Mem ρ w0 h nx w) (hf:nx<tE) {t:Nat} {b b':CB} {o:Obj} (hst:Rr b'=nx) (ht:h.get t=some b) (hu:Upd (·=(ρ t).1) w w') (ho:w'.heap[(ρ t).1]?=some o) (hb:DB nx ρ (ρ t).2 b' o) :
 ∃ ρ',Ext nx ρ ρ'∧ρ' nx=ρ t∧Mem ρ' w0 ((h.set none tE t).set (some b') tE nx) (nx+1) w'∧Oc ρ h nx w ρ' ((h.set none tE t).set (some b') tE nx) w':=by
 have htn:=(hm.own t b ht).1
 have h0:=(hm.own t b ht).2.2.1
 have hext:Ext nx ρ (fun u=>if u=nx then ρ t else ρ u):=fun u hu=>by simp [sA hu]
 have g1:=fun j=>eP (none:Option CB) tE h t j sV
 have get:=fun j=>eP (some b') tE (h.set none tE t) nx j hf
 have f:∀ u c,((h.set none tE t).set (some b') tE nx).get u=some c→(u=nx∧c=b')∨(u≠nx∧u≠t∧h.get u=some c):=fun u c hc=>by
  rw [get] at hc
  by_cases e:u=nx
  · rw [aR e] at hc;cases hc;exact .inl ⟨e,rfl⟩
  rw [aL e,g1] at hc
  by_cases e2:u=t
  · rw [aR e2] at hc;cases hc
  rw [aL e2] at hc;exact .inr ⟨e,e2,hc⟩
 refine ⟨_,hext,by simp,⟨⟨hu.os.trans hm.upd.os,hu.tape.trans hm.upd.tape,hu.output.trans hm.upd.output,aO hm.upd.size hu.size,fun k hk hx=>?_⟩,?_,?_,hm.imm,hm.nod,fun c hc=>?_⟩,?_⟩
 · exact (hu.same k (bS hk hm.upd.size) sV).trans (hm.upd.same k hk hx)
 · intro u c hc
   rcases f u c hc with ⟨rfl,rfl⟩ | ⟨e1,e2,h1⟩
   · simp only [eR]
     exact ⟨by omega,by omega,h0,o,ho,hb.up (dB _) hext⟩
   obtain ⟨k1,ks,k2,o',k3,k4⟩:=hm.own u c h1
   simp only [e1,eS]
   refine ⟨by omega,by omega,k2,o',?_,k4.up (dB _) hext⟩
   rw [hu.same _ (hm.lt h1) (fun e3=>e2 (hm.one u t c b h1 ht e3))];exact k3
 · intro u u' c c' hc hc' he
   rcases f u c hc with ⟨rfl,rfl⟩ | ⟨e1,e2,h1⟩ <;> rcases f u' c' hc' with ⟨rfl,rfl⟩ | ⟨e1',e2',h1'⟩
   · rfl
   · simp only [eR,e1',eS] at he
     exact absurd (hm.one t u' b c' ht h1' he) (fun e=>e2' e.symm)
   · simp only [eR,e1,eS] at he
     exact absurd (hm.one u t c b h1 ht he) e2
   simp only [e1,e1',eS] at he
   exact hm.one u u' c c' h1 h1' he
 · obtain ⟨k1,k2,k3⟩:=hm.kept c hc
   refine ⟨k1,(hu.same _ (hm.klt hc) (fun e=>k3 t b ht e.symm)).trans k2,fun t' c' ht'=>?_⟩
   rcases f t' c' ht' with ⟨rfl,rfl⟩ | ⟨e1,e2,h1⟩
   · simp only [eR];exact k3 _ _ ht
   simp only [e1,eS];exact k3 _ _ h1
 refine ⟨fun u c hc hs=>?_,fun p hp hup _=>hu.same _ hp (fun e=>hup t b ht e.symm),fun u c hc=>?_,hu.size⟩
 · rcases f u c hc with ⟨rfl,rfl⟩ | ⟨e1,e2,h1⟩
   · omega
   exact ⟨h1,hu.same _ (hm.lt h1) (fun e3=>e2 (hm.one u t c b h1 ht e3))⟩
 rcases f u c hc with ⟨rfl,rfl⟩ | ⟨e1,e2,h1⟩
 · simp only [eR];exact .inr ⟨t,b,ht,rfl⟩
 simp only [e1,eS];exact .inr ⟨u,c,h1,rfl⟩
end
section
variable {Φ:Imm→Prop} {ρ ρ':Pl} {w0:Bas Φ} {w w':World} {E E':Tr CV} {h h':Tr CB} {nx nx' n:Nat} {a a':Act}
theorem Mem.base {ks:List Nat} {W:World} {G:Imm} {ok:Φ G} {s s':Nat} (hm:Mem ρ ⟨W,ks,G,ok,s⟩ h nx w):Mem ρ ⟨W,ks,G,ok,s'⟩ h nx w:=⟨hm.upd,hm.own,hm.one,hm.imm,hm.nod,hm.kept⟩
theorem Mem.less {ks os:List Nat} {W:World} {G:Imm} {ok:Φ G} {s:Nat} (hm:Mem ρ ⟨W,os++ks,G,ok,s⟩ h nx w):Mem ρ ⟨W,ks,G,ok,s⟩ h nx w:=
 ⟨hm.upd,hm.own,hm.one,hm.imm,(pI.1 hm.nod).2.1,fun b hb=>hm.kept b (jD _ hb)⟩
theorem Rel.slots (hR:Rel ρ w0 n E h nx a w):Slots ρ E nx n a:=by obtain ⟨os,hR⟩:=hR;exact hR.slots
theorem Rel.mem (hR:Rel ρ w0 n E h nx a w):Mem ρ w0 h nx w:=by obtain ⟨os,hR⟩:=hR;exact hR.mem.less
theorem Rel.put (hR:Rel ρ w0 n E h nx a w) {d:Option Nat} {v:Value} (hs:Slots ρ E' nx n (a.put d v)):Rel ρ w0 n E' h nx (a.put d v) w:=by
 obtain ⟨os,hR⟩:=hR
 exact ⟨os,hs,(show (a.put d v).defers=a.defers by cases d <;> rfl).trans hR.defers,hR.mem,hR.mks,hR.ss⟩
theorem Mem.grow (hm:Mem ρ w0 h nx w) (hu:Upd (fun _=>False) w w'):Mem ρ w0 h nx w'∧Oc ρ h nx w ρ h w':=by
 refine ⟨⟨hm.upd.trans hu,fun t b ht=>?_,hm.one,hm.imm,hm.nod,fun b hb=>?_⟩,⟨fun t b hb _=>⟨hb,hu.same _ (hm.lt hb) id⟩,fun p hp _ _=>hu.same _ hp id,fun t b hb=>.inr ⟨t,b,hb,rfl⟩,hu.size⟩⟩
 · obtain ⟨h1,h2,h3,o,h4,h5⟩:=hm.own t b ht
   exact ⟨h1,h2,h3,o,(hu.same _ (hm.lt ht) id).trans h4,h5⟩
 obtain ⟨k1,k2,k3⟩:=hm.kept b hb
 exact ⟨k1,(hu.same _ (hm.klt hb) id).trans k2,k3⟩
theorem Mem.keep {ks:List Nat} {W:World} {G:Imm} {ok:Φ G} {s:Nat} (hm:Mem ρ ⟨W,ks,G,ok,s⟩ h nx w):Mem ρ ⟨W,w.heap.size :: ks,G,ok,s⟩ h nx (w.alloc (.deferred (some [])))∧Oc ρ h nx w ρ h (w.alloc (.deferred (some []))):=by
 obtain ⟨g1,g2⟩:=hm.grow (w':=w.alloc (.deferred (some []))) ((kU _ w).alloc _)
 have hn:w.heap.size ∉ ks:=fun hb=>kH _ (hm.klt hb)
 refine ⟨⟨g1.upd,g1.own,g1.one,g1.imm,kF.2 ⟨hn,hm.nod⟩,fun b hb=>?_⟩,g2⟩
 rcases dF.1 hb with rfl | hb
 · refine ⟨hm.upd.size,uA w _,fun t c ht=>?_⟩
   have:=hm.lt ht
   omega
 exact g1.kept b hb
theorem Mem.shut {b:Nat} {ks:List Nat} {W:World} {G:Imm} {ok:Φ G} {s:Nat} (hm:Mem ρ ⟨W,b :: ks,G,ok,s⟩ h nx w):Mem ρ ⟨W,ks,G,ok,s⟩ h nx (w.putObj b (.deferred none))∧OldX (·=b) ρ h nx w ρ h (w.putObj b (.deferred none)):=by
 obtain ⟨k1,k2,k3⟩:=hm.kept b (bP ..)
 have hu:=vR w b (.deferred none)
 have hnd:=kF.1 hm.nod
 refine ⟨⟨⟨hu.os.trans hm.upd.os,hu.tape.trans hm.upd.tape,hu.output.trans hm.upd.output,aO hm.upd.size hu.size,fun k hk hx=>?_⟩,fun t c ht=>?_,hm.one,hm.imm,hnd.2,fun c hc=>?_⟩,⟨fun t c hc _=>⟨hc,hu.same _ (hm.lt hc) (k3 t c hc)⟩,fun p hp _ hx=>hu.same _ hp hx,fun t c hc=>.inr ⟨t,c,hc,rfl⟩,hu.size⟩⟩
 · exact (hu.same k (bS hk hm.upd.size) (fun e=>by subst e;exact absurd k1 (by show ¬W.heap.size≤k;exact Nat.not_le.2 hk))).trans (hm.upd.same k hk hx)
 · obtain ⟨h1,h2,h3,o,h4,h5⟩:=hm.own t c ht
   exact ⟨h1,h2,h3,o,(hu.same _ (hm.lt ht) (k3 t c ht)).trans h4,h5⟩
 obtain ⟨q1,q2,q3⟩:=hm.kept c (bB _ hc)
 exact ⟨q1,(hu.same _ (hm.klt (bB _ hc)) (fun e=>hnd.1 (by rw [←e];exact hc))).trans q2,q3⟩
end
inductive Ro where
 | bad
 | val (v:CV) (h:Tr CB) (nx:Nat)
 | unit (h:Tr CB) (nx:Nat)
def Wd {Φ:Imm→Prop} (P:Program) (op:Op) (ρ:Pl) (w0:Bas Φ) (h:Tr CB) (nx:Nat) (a:Act) (w:World):Ro→Prop
 | .bad=>True
 | .val c h' nx'=>nx≤nx'∧∃ v w' ρ',Ext nx ρ ρ'∧Kn nx' ρ' c v∧Mem ρ' w0 h' nx' w'∧nx'≤tE∧Oc ρ h nx w ρ' h' w'∧∀ (d:Option Tmp) (ty:TypeId) (pos:String) (after:Array Edge) (g:Option (Nat×Bool)),(execOp a.eval ⟨d,op,ty,pos,after,g⟩).run P w=.ok (.value v) w'
 | .unit h' nx'=>nx≤nx'∧∃ w' ρ',Ext nx ρ ρ'∧Mem ρ' w0 h' nx' w'∧nx'≤tE∧Oc ρ h nx w ρ' h' w'∧∀ (ty:TypeId) (pos:String) (after:Array Edge) (g:Option (Nat×Bool)),(execOp a.eval ⟨none,op,ty,pos,after,g⟩).run P w=.ok .skip w'
section
variable {P:Program} {w:World}
theorem Fw {t tx ty e:TypeId} {i:TypeInfo} (ht:P.underlying t=some (.slice e)) (hi:P.info? e=some i) {b off sLen sCap:Nat} {cur:Array Value} {bt:TypeId} (hb:w.heap[b]?=some (.cells cur bt (0,0))) {x:Value} {n:Nat} {news:List Value} (hs:Go.Src P i.size tx x n news w)
 (hroom:sLen+n≤sCap) (hfit:off+sLen*i.size+news.length≤cur.size) :
 (Builtin.append_ #[t,tx] ty #[.slice (some ⟨b,off,none⟩) sLen sCap,x]).run P w=.ok (.slice (some ⟨b,off,none⟩) (sLen+n) sCap) (w.setRow b (cur.toList.take (off+sLen*i.size)++news++cur.toList.drop (off+sLen*i.size+news.length)).toArray):=by
 have hst:=mT P b (off+sLen*i.size) bt news 0 cur w hb (by simpa using hfit) hs.one
 simp only [gT] at hst
 rcases hs.kind with ⟨e',hk⟩ | hk <;> simp [Builtin.append_,aV ht,aV hk,sizeOf,typeInfo,hi,hs.len,hroom,hs.cells,Addr.add_lit,hst]
theorem JT {t tx ty e:TypeId} {i:TypeInfo} (ht:P.underlying t=some (.slice e)) (hi:P.info? e=some i) {b off dLen dCap:Nat} {cur:Array Value} {bt:TypeId} (hb:w.heap[b]?=some (.cells cur bt (0,0))) {src:Addr} {sLen sCap k:Nat} {news:List Value}
 (hk:Nat.min sLen dLen=k) (hl:news.length=k*i.size) (hn:∀ j v,news[j]?=some v→w.cell? (src.add j)=some v) (h1:∀ v∈news,v.oneCell'=true) (hfit:off+news.length≤cur.size) :
 (Builtin.copy_ #[t,tx] ty #[.slice (some ⟨b,off,none⟩) dLen dCap,.slice (some src) sLen sCap]).run P w=.ok (.int .i64 (k:Int)) (w.setRow b (cur.toList.take off++news++cur.toList.drop (off+news.length)).toArray):=by
 have hst:=mT P b off bt news 0 cur w hb (by simpa using hfit) h1
 simp only [gT] at hst
 have hld:=mC (P:=P) w src news hn
 rw [hl] at hld
 simp [Builtin.copy_,aV ht,Builtin.lenOf,Builtin.firstCells,sizeOf,typeInfo,hi,hk,hld,hst,goInt]
theorem EH {t tx ty e:TypeId} {i:TypeInfo} (ht:P.underlying t=some (.slice e)) (hi:P.info? e=some i) {d a:Option Addr} {dLen dCap sLen sCap:Nat} (hk:Nat.min sLen dLen=0) :
 (Builtin.copy_ #[t,tx] ty #[.slice d dLen dCap,.slice a sLen sCap]).run P w=.ok (.int .i64 0) w:=by
 have hl:∀ (x:Addr),(loadCells x 0).run P w=.ok #[] w:=fun x=>by simpa using mC (P:=P) w x [] tS
 cases d <;> cases a <;> simp [Builtin.copy_,aV ht,Builtin.lenOf,Builtin.firstCells,sizeOf,typeInfo,hi,hk,storeCells,hl,goInt]
theorem Ju {zs:List Value} (h0:0<zs.length) (n:Nat):madeCells zs.toArray (n*zs.length)=(List.replicate n zs).flatten.toArray:=by
 apply rS
 apply fL
 intro q
 have hlen:(List.replicate n zs).flatten.length=n*zs.length:=tS
 by_cases hq:q<n*zs.length
 · have h6:q % zs.length<zs.length:=nQ _ h0
   have h7:zs.toArray[q % zs.toArray.size]! = zs[q % zs.length]'h6:=by
    rw [rW zs.toArray _ (by simpa using h6)]
    simp
   simp only [madeCells,pX,Array.toList_range,cK,fK hq,eY,h7]
   symm
   have key:∀ (n q:Nat),q<n*zs.length→(List.replicate n zs).flatten[q]?=some (zs[q % zs.length]'(nQ _ h0)):=by
    intro n
    induction n with
    | zero=>intro q h;simp at h
    | succ n ih =>
      intro q h
      rw [oG,List.flatten_cons]
      by_cases hz:q<zs.length
      · rw [bH hz,aB hz]
        congr 1
        simp only [gN hz]
      have h2:zs.length≤q:=sV
      rw [cM h2,ih (q - zs.length) (by rw [Nat.succ_mul] at h;omega)]
      congr 1
      have h3:(q - zs.length) % zs.length=q % zs.length:=by rw [←Nat.mod_eq_sub_mod h2]
      simp only [h3]
   exact key n q hq
 rw [cQ (by simp [madeCells];omega),cQ (by show (List.replicate n zs).flatten.length≤q;omega)]
end
def JU (P:Program) (T:Nat):Option (Nat×Nat×Nat×CV):=match P.underlying T with
 | some (.slice E)=>match P.info? E with
   | some i=>match PN P E with
     | some z=>bif Nat.beq (tW z) i.size && Nat.ble 1 i.size then some (E,i.size,i.bytes,z) else none
     | none=>none
   | none=>none
 | _=>none
theorem Ib {P:Program} {T E sz by':Nat} {z:CV} (h:JU P T=some (E,sz,by',z)) (nx:Nat) (ρ:Pl) :
 P.underlying T=some (.slice E)∧∃ i v,P.info? E=some i∧i.zero=some v∧i.size=sz∧i.bytes=by'∧KL nx ρ z v.cells.toList∧v.cells.toList.length=sz∧0<sz:=by
 unfold JU at h
 split at h
 · rename_i E' hu
   split at h
   · rename_i i hi
     split at h
     · rename_i z' hz
       rcases sY h with ⟨h1,h⟩ | ⟨_,h⟩
       · cases h
         simp only [aC] at h1
         obtain ⟨i',v,hi',hv,kz⟩:=Mc hz nx ρ
         rw [hi] at hi'
         cases hi'
         have:=aD h1.1
         rw [tZ kz] at this
         exact ⟨hu,i,v,hi,hv,rfl,rfl,kz,this,bA h1.2⟩
       cases h
     cases h
   cases h
 cases h
def RU (P:Program) (E:Tr CV) (h:Tr CB) (sz:Nat) (tx:Nat) (x:Operand):Option (Nat×CV):=match uM E x with
 | some .nils=>match Pq P tx with | some _=>some (0,.nil) | none=>none
 | some (.sl t o n sz' _)=>bif Nat.beq sz sz' then (match Pq P tx with
   | some _=>(match h.get t with
     | some (.cells l _ _ _)=>bif Nat.beq (tW (uE l o (Nat.mul n sz))) (Nat.mul n sz) && Fk (uE l o (Nat.mul n sz)) then some (n,uE l o (Nat.mul n sz)) else none
     | _=>none)
   | none=>none) else none
 | some (.str s)=>bif Nat.beq sz 1 then (match P.underlying tx with | some .string=>some (tW s,s) | _=>none) else none
 | _=>none
def XQ (P:Program) (E:Tr CV) (h:Tr CB) (nx:Nat) (T tx:Nat) (s x:Operand):Ro:=match JU P T with
 | some (e,sz,by',_)=>match RU P E h sz tx x with
   | some (m,news)=>match uM E s with
     | some .nils=>bif Nat.beq m 0 then .bad else
      bif Nat.ble (Nat.mul m by') 140737488355328 && (Nat.ble m 4611686018427387904 && Nat.ble (Nat.succ nx) tE) then .val (.sl nx 0 m sz none) (h.set (some (.cells (Nw news) e true nx)) tE nx) (Nat.succ nx) else .bad
     | some (.sl t o n sz' c)=>bif not (Nat.beq sz sz') then .bad else bif Nat.beq m 0 then .val (.sl t o n sz c) h nx else
       (match h.get t with
       | some (.cells l bt op _)=>bif not (Nat.beq bt e) then .bad else
         (match c with
         | some c=>bif Nat.ble (Nat.add n m) c then
          (bif Nat.ble (Nat.add o (Nat.mul (Nat.add n m) sz)) l.n && Nat.ble (Nat.succ nx) tE then .val (.sl t o (Nat.add n m) sz (some c)) (h.set (some (.cells (Nv (Nat.add o (Nat.mul n sz)) news l) bt op nx)) tE t) (Nat.succ nx) else .bad)
           else
            (bif Nat.ble (Nat.mul (Nat.add n m) by') 140737488355328 && (Nat.ble (Nat.add n m) 4611686018427387904 && (Nat.ble (Nat.succ nx) tE && Nat.beq (tW (uE l o (Nat.mul n sz))) (Nat.mul n sz))) then
             .val (.sl nx 0 (Nat.add n m) sz none) (h.set (some (.cells (Nw (zZ (uE l o (Nat.mul n sz)) news)) e true nx)) tE nx) (Nat.succ nx) else .bad)
         | none=>bif Nat.ble (Nat.add o (Nat.mul (Nat.add n m) sz)) l.n && Nat.ble (Nat.succ nx) tE then .val (.sl t o (Nat.add n m) sz none) (h.set (some (.cells (Nv (Nat.add o (Nat.mul n sz)) news l) bt op nx)) tE t) (Nat.succ nx)
           else
            bif (Nat.beq o 0 && Nat.beq (Nat.mul n sz) l.n) && (Nat.ble (Nat.mul (Nat.add n m) by') 140737488355328 && (Nat.ble (Nat.add n m) 4611686018427387904 && Nat.ble (Nat.succ nx) tE)) then
             .val (.sl nx 0 (Nat.add n m) sz none) ((h.set none tE t).set (some (.cells (RD l news) e true nx)) tE nx) (Nat.succ nx) else .bad)
       | _=>.bad)
     | _=>.bad
   | none=>.bad
 | none=>.bad
def wv0 (P:Program) (E:Tr CV) (h:Tr CB) (nx:Nat) (T:TypeId):Ro:=match PN P T with
 | some z=>bif Nat.ble (Nat.succ nx) tE then .val (.ptr nx 0) (h.set (some (.cells (Nw z) T false nx)) tE nx) (Nat.succ nx) else .bad
 | none=>.bad
def wv1 (P:Program) (E:Tr CV) (h:Tr CB) (nx:Nat) (T:TypeId) (x:Operand):Ro:=match uM E x with
 | some c=>match zS c with
   | some l=>bif Nat.ble (Nat.succ nx) tE then .val (.ptr nx 0) (h.set (some (.cells (Nw l) T false nx)) tE nx) (Nat.succ nx) else .bad
   | none=>.bad
 | none=>.bad
def wv2 (P:Program) (E:Tr CV) (h:Tr CB) (nx:Nat) (T:TypeId) (x:Operand) (y:Operand):Ro:=match uM E x with
 | some (.ptr t o)=>match uM E y with
   | some c=>match zS c with
     | some m=>match h.get t with
       | some (.cells l bt op _)=>match EZ P T with
         | some k=>bif Nat.beq (tW m) k && (Fk m && (Nat.ble (Nat.add o k) l.n && Nat.ble (Nat.succ nx) tE)) then .unit (h.set (some (.cells (Nv o m l) bt op nx)) tE t) (Nat.succ nx) else .bad
         | none=>.bad
       | _=>.bad
     | none=>.bad
   | none=>.bad
 | _=>.bad
def wv3 (P:Program) (E:Tr CV) (h:Tr CB) (nx:Nat) (T:TypeId) (n:Nat) (parts:List (Nat×Operand)):Ro:=match JU P T with
 | some (e,sz,_,z)=>bif Nat.ble 1 n && (Nat.ble (Nat.mul n sz) 16777216 && Nat.ble (Nat.succ nx) tE) then
  (match Ft E (vL n sz) (Nat.mul n sz) parts (Xt z n) with
  | some l=>.val (.sl nx 0 n sz (some n)) (h.set (some (.cells (Nw l) e false nx)) tE nx) (Nat.succ nx)
  | none=>.bad) else .bad
 | none=>.bad
def wv4 (P:Program) (E:Tr CV) (h:Tr CB) (nx:Nat) (T:TypeId) (x:Operand) (y:Operand):Ro:=match JU P T with
 | some (e,sz,by',z)=>match uM E x with
   | some (.int _ n)=>match uM E y with
     | some (.int _ c)=>bif wI 0 n && (wI n c && (Nat.ble (Nat.mul by' c.toNat) 281474976710656 && (Nat.ble c.toNat 4611686018427387904 && Nat.ble (Nat.succ nx) tE))) then
      .val (.sl nx 0 n.toNat sz (some c.toNat)) (h.set (some (.cells (Nw (Xt z c.toNat)) e false nx)) tE nx) (Nat.succ nx) else .bad
     | _=>.bad
   | _=>.bad
 | none=>.bad
def wv6 (P:Program) (E:Tr CV) (h:Tr CB) (nx:Nat) (d:Operand) (x:Operand) (T:TypeId):Ro:=match JU P T with
 | some (_,sz,_,_)=>match uM E d with
   | some (.sl t o n sz' _)=>match uM E x with
     | some (.sl t2 o2 n2 sz2 _)=>bif Nat.beq sz sz' && Nat.beq sz sz2 then
      (match h.get t with
      | some (.cells l bt op _)=>(match h.get t2 with
        | some (.cells l2 _ _ _) =>
          bif Nat.beq (tW (uE l2 o2 (Nat.mul (Nat.min n2 n) sz))) (Nat.mul (Nat.min n2 n) sz) && (Fk (uE l2 o2 (Nat.mul (Nat.min n2 n) sz)) && (Nat.ble (Nat.add o (Nat.mul (Nat.min n2 n) sz)) l.n && Nat.ble (Nat.succ nx) tE)) then
           .val (.int .i64 (Nat.min n2 n)) (h.set (some (.cells (Nv o (uE l2 o2 (Nat.mul (Nat.min n2 n) sz)) l) bt op nx)) tE t) (Nat.succ nx) else .bad
        | _=>.bad)
      | _=>.bad) else .bad
     | some .nils=>.val (.int .i64 0) h nx
     | _=>.bad
   | _=>.bad
 | none=>.bad
def wv (P:Program) (E:Tr CV) (h:Tr CB) (nx:Nat):Op→Ro
 | .alloc T=>wv0 P E h nx T
 | .box T x=>wv1 P E h nx T x
 | .store T x y=>wv2 P E h nx T x y
 | .buildSlice T n ⟨parts⟩=>wv3 P E h nx T n parts
 | .makeSlice T x y=>wv4 P E h nx T x y
 | .call ⟨.builtin .append,⟨[s,x]⟩,⟨[T,tx]⟩⟩=>XQ P E h nx T tx s x
 | .call ⟨.builtin .copy,⟨[d,x]⟩,⟨[T,_]⟩⟩=>wv6 P E h nx d x T
 | _=>.bad
section
variable {P:Program} {nx n:Nat} {ρ:Pl} {Φ:Imm→Prop} {w0:Bas Φ} {w:World} {E:Tr CV} {h:Tr CB} {a:Act}
theorem uZ {x:Operand} {v:Value} (hx:(eA a).ev x=some v):a.eval x=v:=(lookN a default).eval hx
theorem Wd.new {op:Op} {c:CV} {b:CB} {o:Obj} {s:Nat} (hm:Mem ρ w0 h nx w) (hf:Nat.ble (Nat.succ nx) tE=true) (hst:Rr b=nx) {w':World} {v:Value} (hu:Upd (fun _=>False) w w') (hsz:w'.heap.size=w.heap.size+1) (ho:w'.heap[w.heap.size]?=some o) (hb:DB nx ρ s b o)
 (hk:∀ ρ',ρ' nx=(w.heap.size,s)→DV ρ' c v) (hbd:Bd (nx+1) c) (hr:∀ (d:Option Tmp) (ty:TypeId) (pos:String) (after:Array Edge) (g:Option (Nat×Bool)),(execOp a.eval ⟨d,op,ty,pos,after,g⟩).run P w=.ok (.value v) w') :
 Wd P op ρ w0 h nx a w (.val c (h.set (some b) tE nx) (Nat.succ nx)):=by
 have hf':=bA hf
 obtain ⟨ρ',h1,h2,h3,h4⟩:=hm.new (w':=w') hf' hst hu hsz ho hb
 exact ⟨dB _,v,w',ρ',h1,⟨hbd,hk ρ' h2⟩,h3,hf',h4,hr⟩
abbrev pR:=@Wd.new
theorem uV (w:World) (o:Obj):Upd (fun _=>False) w (w.alloc o):=(kU _ w).alloc o
theorem vA (w:World) (o:Obj):(w.alloc o).heap.size=w.heap.size+1:=by show (w.heap.push o).size=_;simp
theorem wN {l:CV} {vs:List Value} (hk:KL nx ρ l vs) (ty:Nat) {st:Nat}:DB nx ρ vs.length (.cells (Nw l) ty false st) (.cells vs.toArray ty (0,0)):=⟨vs,[],Ru hk,by simp,by simp,fun _=>rfl⟩
theorem Yb {t p:Nat} {l:Rw} {m:CV} {bt:Nat} {op:Bool} {st:Nat} {news:List Value} (hm:Mem ρ w0 h nx w) (hfit:nx≤tE) (ht:h.get t=some (.cells l bt op st)) (hn:KL nx ρ m news) (hp:p+news.length≤l.n) :
 ∃ cur:Array Value,w.heap[(ρ t).1]?=some (.cells cur bt (0,0))∧p+news.length≤cur.size∧cur.size=(ρ t).2∧∀ w',Upd (·=(ρ t).1) w w'→w'.heap[(ρ t).1]?=some (.cells (cur.toList.take p++news++cur.toList.drop (p+news.length)).toArray bt (0,0))→
  Mem ρ w0 (h.set (some (.cells (Nv p m l) bt op nx)) tE t) (nx+1) w'∧Oc ρ h nx w ρ (h.set (some (.cells (Nv p m l) bt op nx)) tE t) w':=by
 obtain ⟨h1,hs1,h2,o,h3,vs,junk,k1,rfl,k3,k4⟩:=hm.own t _ ht
 rw [Fp k1] at hp
 refine ⟨_,h3,by simp;omega,by simpa using k3,fun w' hu ho=>hm.write hfit rfl ht hu ho ?_⟩
 refine ⟨vs.take p++news++vs.drop (p+news.length),junk,?_,?_,?_,k4⟩
 · exact OA k1 hn hp
 · simp only [fG (show p≤vs.length by omega),eO hp,dQ]
 simp only [aI,bC,eC];omega
theorem RV {m l:CV} {p k:Nat} (h:p+tW m≤tW l):tW (zZ (Ca p l) (zZ m (Bz (p+tW m) l)))=tW l:=by
 have t:∀ (k:Nat) (x:CV),tW (Ca k x)=min k (tW x):=by
  intro k
  induction k with
  | zero=>intro x;show 0=_;omega
  | succ k ih=>intro x;cases x with
    | cons a b=>show Nat.succ (tW (Ca k b))=min (k+1) (Nat.succ (tW b));rw [ih];omega
    | _=>show 0=min (k+1) 0;omega
 have d:∀ (k:Nat) (x:CV),tW (Bz k x)=tW x - k:=by
  intro k
  induction k with
  | zero=>intro x;rfl
  | succ k ih=>intro x;cases x with
    | cons a b=>show tW (Bz k b)=Nat.succ (tW b) - (k+1);rw [ih];omega
    | _=>show 0=0 - (k+1);omega
 have ap:∀ x y:CV,tW (zZ x y)=tW x+tW y:=by
  intro x y
  induction x with
  | cons a b _ ih=>show Nat.succ (tW (zZ b y))=Nat.succ (tW b)+tW y;rw [ih];omega
  | _=>show tW y=0+tW y;omega
 rw [ap,ap,t,d];omega
theorem Pt {pl:List (Nat×Nat)} {N:Nat}:∀ {parts:List (Nat×Operand)} {l r:CV},Ft E pl N parts l=some r→N≤tW l→tW r=tW l:=by
 intro parts
 induction parts with
 | nil=>intro l r h _;cases h;rfl
 | cons p parts ih =>
   intro l r h hN
   have h':(match Ed pl p.1 with
    | some (off,size)=>(match uM E p.2 with
      | some c=>(match zS c with
        | some m=>bif Nat.beq (tW m) size && Nat.ble (off+size) N then Ft E pl N parts (zZ (Ca off l) (zZ m (Bz (off+size) l))) else none
        | none=>none)
      | none=>none)
    | none=>none)=some r:=h
   split at h'
   · rename_i off size hp0
     split at h'
     · split at h'
       · rename_i m hm0
         rcases sY h' with ⟨h1,h2⟩ | ⟨_,h2⟩
         · simp only [aC] at h1
           have e1:=aD h1.1
           have e2:=bA h1.2
           subst e1
           have hp:=RV (k:=0) (m:=m) (l:=l) (p:=off) sV
           rw [ih h2 (by rw [hp];exact hN),hp]
         cases h2
       cases h'
     cases h'
   cases h'
theorem JV {T:TypeId} {r:Ro} (hs:Slots ρ E nx n a) (hm:Mem ρ w0 h nx w) (hr:wv P E h nx (.alloc T)=r):Wd P (.alloc T) ρ w0 h nx a w r:=by
 subst hr
 show Wd _ _ _ _ _ _ _ _ (match PN P T with | some z=>bif Nat.ble (Nat.succ nx) tE then .val (.ptr nx 0) (h.set (some (.cells (Nw z) T false nx)) tE nx) (Nat.succ nx) else .bad | none=>.bad)
 split
 · rename_i z hz
   cases hf:Nat.ble (Nat.succ nx) tE with
   | false=>trivial
   | true =>
     obtain ⟨i,v,hi,hv,kz⟩:=Mc hz nx ρ
     refine pR (s:=v.cells.toList.length) (o:=.cells v.cells.toList.toArray T (0,0)) (w':=w.alloc (.cells v.cells.toList.toArray T (0,0))) (v:=.pointer (some ⟨w.heap.size,0,none⟩)) hm hf rfl (uV _ _) (vA _ _) (uA _ _) (wN kz T) (fun ρ' hρ=>?_) (cO nx) fun d ty pos after g=>?_
     · show _=Value.pointer (some ⟨(ρ' nx).1,0,none⟩)
       rw [hρ]
     simp [execOp,Instr.alloc,newVar,newRow,zeroValue,typeInfo,hi,hv]
 trivial
theorem RW {T:TypeId} {x:Operand} {r:Ro} (hs:Slots ρ E nx n a) (hm:Mem ρ w0 h nx w) (hr:wv P E h nx (.box T x)=r):Wd P (.box T x) ρ w0 h nx a w r:=by
 subst hr
 show Wd _ _ _ _ _ _ _ _ (match uM E x with
  | some c=>match zS c with
    | some l=>bif Nat.ble (Nat.succ nx) tE then .val (.ptr nx 0) (h.set (some (.cells (Nw l) T false nx)) tE nx) (Nat.succ nx) else .bad
    | none=>.bad
  | none=>.bad)
 split
 · rename_i c hc
   split
   · rename_i l hl
     cases hf:Nat.ble (Nat.succ nx) tE with
     | false=>trivial
     | true =>
       obtain ⟨v,e1,k1⟩:=tB hs hc
       have kz:=Aa k1 hl
       refine pR (s:=v.cells.toList.length) (o:=.cells v.cells.toList.toArray T (0,0)) (w':=w.alloc (.cells v.cells.toList.toArray T (0,0))) (v:=.pointer (some ⟨w.heap.size,0,none⟩)) hm hf rfl (uV _ _) (vA _ _) (uA _ _) (wN kz T) (fun ρ' hρ=>?_) (cO nx) fun d ty pos after g=>?_
       · show _=Value.pointer (some ⟨(ρ' nx).1,0,none⟩)
         rw [hρ]
       simp [execOp,Instr.box,newVar,newRow,uZ e1]
   trivial
 trivial
theorem JW {T:TypeId} {x y:Operand} {r:Ro} (hs:Slots ρ E nx n a) (hm:Mem ρ w0 h nx w) (hfit:nx≤tE) (hr:wv P E h nx (.store T x y)=r):Wd P (.store T x y) ρ w0 h nx a w r:=by
 subst hr
 show Wd _ _ _ _ _ _ _ _ (match uM E x with
  | some (.ptr t o)=>match uM E y with
    | some c=>match zS c with
      | some m=>match h.get t with
        | some (.cells l bt op _)=>match EZ P T with
          | some k=>bif Nat.beq (tW m) k && (Fk m && (Nat.ble (Nat.add o k) l.n && Nat.ble (Nat.succ nx) tE)) then .unit (h.set (some (.cells (Nv o m l) bt op nx)) tE t) (Nat.succ nx) else .bad
          | none=>.bad
        | _=>.bad
      | none=>.bad
    | none=>.bad
  | _=>.bad)
 split
 · rename_i t o hx
   split
   · rename_i c hc
     split
     · rename_i m hmc
       split
       · rename_i l bt op st ht
         split
         · rename_i k hk
           cases hb:Nat.beq (tW m) k && (Fk m && (Nat.ble (Nat.add o k) l.n && Nat.ble (Nat.succ nx) tE)) with
           | false=>trivial
           | true =>
             simp only [aC] at hb
             obtain ⟨v,e1,k1⟩:=tB hs hx
             have e2:=mI.1 k1.2
             subst e2
             obtain ⟨u,e3,k3⟩:=tB hs hc
             have km:=Aa k3 hmc
             have hlen:u.cells.toList.length=k:=by rw [←tZ km];exact aD hb.1
             have hle:o+u.cells.toList.length≤l.n:=by rw [hlen];exact bA hb.2.2.1
             obtain ⟨cur,g1,g2,g3,g4⟩:=Yb hm hfit ht km hle
             have g1':w.heap[(ρ t).1]?=some (.cells cur.toList.toArray bt (0,0)):=by rw [g1]
             have hrun:=zM (P:=P) (T:=T) (off:=o) (cs:=cur.toList) (vs:=u.cells.toList) (v:=u) (by rw [hlen];exact Dx hk) tS (Ly km hb.2.1) g1' (by simpa using g2)
             have g5:=g4 (w.setRow (ρ t).1 (cur.toList.take o++u.cells.toList++cur.toList.drop (o+u.cells.toList.length)).toArray) (vE w (ρ t).1 _) FC
             refine ⟨dB _,w.setRow (ρ t).1 (cur.toList.take o++u.cells.toList++cur.toList.drop (o+u.cells.toList.length)).toArray,ρ,dH _ _,g5.1,bA hb.2.2.2,g5.2,fun ty pos after g=>?_⟩
             simp [execOp,uZ e1,uZ e3,hrun]
         trivial
       trivial
     trivial
   trivial
 trivial
theorem Od {T N:Nat} {parts:List (Nat×Operand)} {r:Ro} (hs:Slots ρ E nx n a) (hm:Mem ρ w0 h nx w) (hr:wv P E h nx (.buildSlice T N ⟨parts⟩)=r):Wd P (.buildSlice T N ⟨parts⟩) ρ w0 h nx a w r:=by
 subst hr
 show Wd _ _ _ _ _ _ _ _ (match JU P T with
  | some (e,sz,_,z)=>bif Nat.ble 1 N && (Nat.ble (Nat.mul N sz) 16777216 && Nat.ble (Nat.succ nx) tE) then
   (match Ft E (vL N sz) (Nat.mul N sz) parts (Xt z N) with
   | some l=>.val (.sl nx 0 N sz (some N)) (h.set (some (.cells (Nw l) e false nx)) tE nx) (Nat.succ nx)
   | none=>.bad) else .bad
  | none=>.bad)
 split
 · rename_i e sz by' z hz
   cases hb:Nat.ble 1 N && (Nat.ble (Nat.mul N sz) 16777216 && Nat.ble (Nat.succ nx) tE) with
   | false=>trivial
   | true =>
     simp only [gE]
     split
     · rename_i l hl
       simp only [aC] at hb
       obtain ⟨hu,i,zv,hi,hzv,hsz,hby,kz,hzl,h0⟩:=Ib hz nx ρ
       have kr:=Jn kz N
       obtain ⟨vs,e1,o1,k1⟩:=Fu hs kr hl
       have hN:=bA hb.1
       have hNs:N*sz≤16777216:=bA hb.2.1
       have hpos:0<N*sz:=Nat.mul_pos hN h0
       have hlen:(List.replicate N zv.cells.toList).flatten.length=N*sz:=by simp [←hzl]
       have hf:=Ej (fun i=>some (i*sz,sz)) (vL N sz) (fun i x h=>by
        simp only [vL,cK,gA] at h
        obtain ⟨j,hj,rfl⟩:=h
        obtain ⟨hlt,hj⟩:=aS.1 hj
        simp at hj;subst hj;rfl) vs (List.replicate N zv.cells.toList).flatten (N*sz) hlen o1
       have hmade:((Array.range (N*i.size)).map (zv.cells[· % zv.cells.size]!))=(List.replicate N zv.cells.toList).flatten.toArray:=by
        have:=Ju (zs:=zv.cells.toList) sV N
        rw [hzl] at this
        simpa [madeCells,hsz] using this
       have hrun:=run_buildSlice (P:=P) w T e N vs.toArray (yH (vL N sz) (List.replicate N zv.cells.toList).flatten vs).toArray i zv hu hi hzv Sq Sq (by rw [hmade,hsz];exact hf)
       have hmm:(parts.toArray.map fun (i,x)=>(i,a.eval x))=vs.toArray:=by rw [←(lookN a w).parts e1];simp
       have hlenF:(yH (vL N sz) (List.replicate N zv.cells.toList).flatten vs).length=N*sz:=by
        rw [←tZ k1,Pt hl (by rw [tZ kr,hlen];exact aG _),tZ kr,hlen]
       refine pR (s:=(yH (vL N sz) (List.replicate N zv.cells.toList).flatten vs).length) (o:=.cells (yH (vL N sz) (List.replicate N zv.cells.toList).flatten vs).toArray e (0,0)) (v:=.slice (some ⟨w.heap.size,0,none⟩) N N) hm hb.2.2 rfl (uV _ _) (vA _ _) (uA _ _) (wN k1 e) (fun ρ' hρ=>?_) (cO nx) fun d ty pos after g=>?_
       · refine jU.2 ⟨by rw [hρ],by rw [hρ,hlenF];omega,aG _,?_⟩
         have:=pU N h0
         simp only [maxLen];omega
       simp only [execOp,hmm,bG,hrun,aP,bL]
     trivial
 trivial
end
section
variable {P:Program} {nx n:Nat} {ρ:Pl} {Φ:Imm→Prop} {w0:Bas Φ} {w:World} {E:Tr CV} {h:Tr CB} {a:Act}
theorem Sa {T:TypeId} {x y:Operand} {r:Ro} (hs:Slots ρ E nx n a) (hm:Mem ρ w0 h nx w) (hr:wv P E h nx (.makeSlice T x y)=r):Wd P (.makeSlice T x y) ρ w0 h nx a w r:=by
 subst hr
 show Wd _ _ _ _ _ _ _ _ (match JU P T with
  | some (e,sz,by',z)=>match uM E x with
    | some (.int _ n)=>match uM E y with
      | some (.int _ c)=>bif wI 0 n && (wI n c && (Nat.ble (Nat.mul by' c.toNat) 281474976710656 && (Nat.ble c.toNat 4611686018427387904 && Nat.ble (Nat.succ nx) tE))) then
       .val (.sl nx 0 n.toNat sz (some c.toNat)) (h.set (some (.cells (Nw (Xt z c.toNat)) e false nx)) tE nx) (Nat.succ nx) else .bad
      | _=>.bad
    | _=>.bad
  | none=>.bad)
 split
 · rename_i e sz by' z hz
   split
   · rename_i k N hx
     split
     · rename_i k' C hy
       cases hb:wI 0 N && (wI N C && (Nat.ble (Nat.mul by' C.toNat) 281474976710656 && (Nat.ble C.toNat 4611686018427387904 && Nat.ble (Nat.succ nx) tE))) with
       | false=>trivial
       | true =>
         simp only [aC,uR,aT] at hb
         obtain ⟨hb1,hb2,hb3,hb4,hb5⟩:=hb
         have hb3:by'*C.toNat≤281474976710656:=bA hb3
         have hb4:=bA hb4
         obtain ⟨hu,i,zv,hi,hzv,hsz,hby,kz,hzl,h0⟩:=Ib hz nx ρ
         obtain ⟨v1,e1,k1⟩:=tB hs hx
         obtain ⟨v2,e2,k2⟩:=tB hs hy
         rw [gJ.1 k1.2] at e1
         rw [gJ.1 k2.2] at e2
         have hbc:(i.bytes:Int)*C≤281474976710656:=by
          have:((by'*C.toNat:Nat):Int)=(i.bytes:Int)*C:=by rw [cJ,cP sV,hby]
          omega
         have hrun:=run_make (P:=P) w T e i zv hu hi hzv k k' N C hb1 hb2 hbc sV
         have hmade:madeCells zv.cells (C.toNat*i.size)=(List.replicate C.toNat zv.cells.toList).flatten.toArray:=by
          have:=Ju (zs:=zv.cells.toList) sV C.toNat
          rw [hzl] at this
          rw [hsz,←this]
         rw [hmade] at hrun
         have hlen:(List.replicate C.toNat zv.cells.toList).flatten.length=C.toNat*sz:=by simp [←hzl]
         refine pR (s:=C.toNat*sz) (o:=.cells (List.replicate C.toNat zv.cells.toList).flatten.toArray e (0,0)) (v:=.slice (some ⟨w.heap.size,0,none⟩) N.toNat C.toNat) hm hb5 rfl (uV _ _) (vA _ _) (uA _ _) (by rw [←hlen];exact wN (Jn kz C.toNat) e) (fun ρ' hρ=>?_) (cO nx) fun d ty pos after g=>?_
         · refine jU.2 ⟨by rw [hρ],by rw [hρ];show 0+C.toNat*sz≤C.toNat*sz;omega,by omega,?_⟩
           simp only [maxLen];omega
         simp only [execOp,uZ e1,uZ e2,bG,hrun,aP,bL]
     trivial
   trivial
 trivial
theorem Jv {t:Nat} {vs:List Value} {ty:TypeId} (hb:w.heap[t]?=some (.cells vs.toArray ty (0,0))) {o:Nat} {m:Nat} {news:List Value} (hn:news=(vs.drop o).take m):∀ j v,news[j]?=some v→w.cell? ((⟨t,o,none⟩:Addr).add j)=some v:=fun j v hj=>by
 rw [add_lit,cell_of_block hb]
 subst hn
 rw [iY] at hj
 split at hj
 · rw [eV] at hj;exact hj
 cases hj
theorem OL {sz tx:Nat} {x:Operand} {m:Nat} {l:CV} (hs:Slots ρ E nx n a) (hm:Mem ρ w0 h nx w) (hq:RU P E h sz tx x=some (m,l)):∃ xv news,(eA a).ev x=some xv∧KL nx ρ l news∧news.length=m*sz∧Go.Src P sz tx xv m news w:=by
 unfold RU at hq
 split at hq
 · rename_i hx
   split at hq
   · rename_i q hT
     obtain ⟨e',sz'⟩:=q
     cases hq
     obtain ⟨v,e1,k1⟩:=tB hs hx
     have e2:=nG.1 k1.2
     subst e2
     exact ⟨_,[],e1,nS,by simp,Go.Src.ofNil w (vZ hT).1 0⟩
   cases hq
 · rename_i t o N sz' cc hx
   rcases sY hq with ⟨h1,hr1⟩ | ⟨_,hr1⟩
   · have:=aD h1
     subst this
     split at hr1
     · rename_i q hT
       obtain ⟨e',sz'⟩:=q
       split at hr1
       · rename_i lb bt op st ht
         rcases sY hr1 with ⟨h2,hr2⟩ | ⟨_,hr2⟩
         · cases hr2
           simp only [aC] at h2
           obtain ⟨v,e1,k1⟩:=tB hs hx
           obtain ⟨c',rfl⟩:=Cc k1
           obtain ⟨_,_,_,ob,g3,vs,junk,kl,rfl,_,_⟩:=hm.own t _ ht
           have kk:=xS (k:=m*sz) kl (aD h2.1)
           have hlen:((vs.drop o).take (m*sz)).length=m*sz:=by rw [←tZ kk];exact aD h2.1
           have hone:=Ly kk h2.2
           have hdrop:((vs++junk).drop o).take (m*sz)=(vs.drop o).take (m*sz):=by
            rw [bC,eC] at hlen
            by_cases h0:m*sz=0
            · rw [h0];simp
            rw [eO sV,fG Yq]
           exact ⟨_,(vs.drop o).take (m*sz),e1,kk,hlen,Go.Src.ofSlice w (vZ hT).1 _ m c' _ hlen (Jv g3 hdrop.symm) (fun u hu=>fC.1 hone u hu)⟩
         cases hr2
       cases hr1
     cases hr1
   cases hr1
 · rename_i s hx
   rcases sY hq with ⟨h1,hr1⟩ | ⟨_,hr1⟩
   · have:=aD h1
     subst this
     split at hr1
     · rename_i hT
       cases hr1
       obtain ⟨v,e1,k1⟩:=tB hs hx
       obtain ⟨bs,rfl,k2⟩:=Fv k1
       have hlen:=tZ k2
       have hsz:(ByteArray.mk bs.toArray).size=tW l:=by
        rw [hlen,bX];show bs.toArray.size=_;simp
       have hbc:byteCells (ByteArray.mk bs.toArray)=bs.map fun b=>Value.int .u8 b.toNat:=by unfold byteCells;simp
       refine ⟨_,_,e1,k2,by rw [←hlen];omega,?_⟩
       have:=Go.Src.ofString w hT (ByteArray.mk bs.toArray)
       rw [hsz,hbc] at this
       exact this
     cases hr1
   cases hr1
 cases hq
end
end Go.Sl.Ev
end
