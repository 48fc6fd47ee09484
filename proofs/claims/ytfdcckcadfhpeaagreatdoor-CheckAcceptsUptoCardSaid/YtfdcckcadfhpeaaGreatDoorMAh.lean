/- cK of the proof (part 8): what the rows' text needs of the texts that lead to it. -/
import Derived.Test.YtfdcckcadfhpeaaGreatDoorMAg
set_option linter.unusedVariables false
set_option linter.unusedSimpArgs false
set_option linter.unusedSectionVars false
set_option maxHeartbeats 4000000
noncomputable section
set_option maxRecDepth 100000
namespace Go.Sl.Ev
open Go Go.Sl
def LoP (e:Env) (d:Nat):Option Operand→Nat→Prop
 | none,l=>l=d
 | some y,l=>∃ k,e.ev y=some (.int k (l:Int))
section
variable {P:Program} {e:Env} {H:Hp} {G:Imm} {ty T:TypeId}
theorem aJE {x:Operand} {fs:Array Field} {fd:Field} {i:Nat} {vs:List Value} {v:Value} (hu:P.underlying T=some (.struct fs)) (hf:fs[i]?=some fd) (h1:eC P fd.type=true)
 (hx:e.ev x=some (.agg vs.toArray)) (hv:vs[fd.offset]?=some v):Qy P (.field T x i) ty e H G v:=fun a w _ _ _ _ hh=>by
 simp [execOp,hh.eval hx,Instr.field,run_underlying hu,hf,asAgg,part,fI w h1,hv]
theorem aJF {x:Operand} {fs:Array Field} {fd:Field} {i k:Nat} {vs:List Value} (hu:P.underlying T=some (.struct fs)) (hf:fs[i]?=some fd) (h1:fD P fd.type k=true)
 (hx:e.ev x=some (.agg vs.toArray)):Qy P (.field T x i) ty e H G (.agg ((vs.drop fd.offset).take k).toArray):=fun a w _ _ _ _ hh=>by
 have h2:=run_sizeOf (P:=P) w (tU h1)
 simp [execOp,hh.eval hx,Instr.field,run_underlying hu,hf,asAgg,part,kC w h1,h2]
theorem sM {x:Operand} {lo hi:Option Operand} {a:Option Addr} {n c l h E sz:Nat} (hT:aS P T E sz) (hx:e.ev x=some (.slice a n c))
 (hl:LoP e 0 lo l) (hh:LoP e n hi h) (hlh:l≤h) (hhc:h≤c) :
 Qy P (.slice T x lo hi none) ty e H G (.slice (if c=l then a else a.map (·.add (l*sz))) (h - l) (c - l)):=fun ac w _ _ _ _ hk=>by
 have hr:=run_sizeOf (P:=P) w hT.2
 have e1:(h:Int)≤c:=by omega
 have e2:(l:Int)≤h:=by omega
 cases lo with
 | none =>
   have hl:l=0:=hl
   subst hl
   cases hi with
   | none=>have hh:h=n:=hh;subst hh;simp [execOp,Instr.sliceAt,Instr.slice,hk.eval hx,run_underlying hT.1,Instr.sliceBounds,Instr.sliceBound,asIntOf,hr]
   | some y =>
     obtain ⟨k,hy⟩:=hh
     simp [execOp,Instr.sliceAt,Instr.slice,hk.eval hx,hk.eval hy,run_underlying hT.1,Instr.sliceBounds,Instr.sliceBound,asIntOf,hr,e1,hhc]
 | some z =>
   obtain ⟨kz,hz⟩:=hl
   cases hi with
   | none =>
     have hh:h=n:=hh
     subst hh
     simp [execOp,Instr.sliceAt,Instr.slice,hk.eval hx,hk.eval hz,run_underlying hT.1,Instr.sliceBounds,Instr.sliceBound,asIntOf,hr,e2,hlh]
   | some y =>
     obtain ⟨k,hy⟩:=hh
     simp [execOp,Instr.sliceAt,Instr.slice,hk.eval hx,hk.eval hz,hk.eval hy,run_underlying hT.1,Instr.sliceBounds,Instr.sliceBound,asIntOf,hr,e1,e2,hlh,hhc]
theorem xA {x i:Operand} {b o n sz E:Nat} {k:IntKind} {m:Int} (hu:P.underlying T=some (.array n E)) (hs:(P.info? E).map (·.size)=some sz) (hx:e.ev x=some (.pointer (some ⟨b,o,none⟩))) (hi:e.ev i=some (.int k m))
 (hb:0≤m∧m<n):Qy P (.indexAddr T x i) ty e H G (.pointer (some ⟨b,o+m.toNat*sz,none⟩)):=fun a w _ _ _ _ hh=>by
 simp [execOp,Instr.indexAt,hh.eval hx,hh.eval hi,asIntOf,run_underlying hu,Instr.sureAddr,hb,run_sizeOf w hs,add_lit]
theorem Qy.indexV {x i:Operand} {n E:Nat} {k:IntKind} {m:Int} {vs:List Value} {v:Value} (hu:P.underlying T=some (.array n E)) (h1:eC P E=true) (hs:(P.info? E).map (·.size)=some 1) (hx:e.ev x=some (.agg vs.toArray)) (hi:e.ev i=some (.int k m))
 (hb:0≤m∧m<n) (hv:vs[m.toNat]?=some v):Qy P (.index T x i) ty e H G v:=fun a w _ _ _ _ hh=>by
 simp [execOp,Instr.index,hh.eval hx,hh.eval hi,asIntOf,run_underlying hu,hb,run_sizeOf w hs,part,fI w h1,hv]
theorem aEQ {x i:Operand} {n E sz:Nat} {k:IntKind} {m:Int} {vs:List Value} (hu:P.underlying T=some (.array n E)) (h1:fD P E sz=true) (hx:e.ev x=some (.agg vs.toArray)) (hi:e.ev i=some (.int k m))
 (hb:0≤m∧m<n):Qy P (.index T x i) ty e H G (.agg ((vs.drop (m.toNat*sz)).take sz).toArray):=fun a w _ _ _ _ hh=>by
 have h2:=run_sizeOf (P:=P) w (tU h1)
 simp [execOp,Instr.index,hh.eval hx,hh.eval hi,asIntOf,run_underlying hu,hb,h2,part,kC w h1]
theorem aQP {x:Operand} {s:ByteArray} (ht:P.underlying T=some .string) (hx:e.ev x=some (.string s)):Qy P (.call { callee:=.builtin .len,args:=#[x],argTypes:=#[T] }) ty e H G (.int .i64 s.size):=fun a w _ _ _ _ hh=>by
 simp [execOp,resolve,invoke,builtin,Builtin.len_,hh.eval hx,run_underlying ht,goInt]
end
section
variable {P:Program} {e:Env} {H:Hp} {G:Imm} {ty T:TypeId}
theorem qJ {t t':TypeId} {x y:Operand} {a:Option Addr} (ht:P.underlying t=some (.pointer (P.pointee t))) (hx:e.ev x=some (.pointer a)) (hy:e.ev y=some (.pointer none)):Qy P (.binOp .eql t x y t') ty e H G (.bool a.isNone):=fun w0 w _ _ _ _ hh=>by
 have:=run_equalIn_pointer_nil (P:=P) w 9999 t a ht
 simp [execOp,hh.eval hx,hh.eval hy,binOp,eqGuard,Op.equal,Op.maxDepth,this]
theorem qK {t t':TypeId} {x y:Operand} {a:Option Addr} (ht:P.underlying t=some (.pointer (P.pointee t))) (hx:e.ev x=some (.pointer a)) (hy:e.ev y=some (.pointer none)):Qy P (.binOp .neq t x y t') ty e H G (.bool (!a.isNone)):=fun w0 w _ _ _ _ hh=>by
 have:=run_equalIn_pointer_nil (P:=P) w 9999 t a ht
 simp [execOp,hh.eval hx,hh.eval hy,binOp,eqGuard,Op.equal,Op.maxDepth,this]
theorem xZ {x z:Operand} {lo hi:Option Operand} {a:Option Addr} {n c l h m E sz:Nat} {kz:IntKind} (hT:aS P T E sz) (hx:e.ev x=some (.slice a n c))
 (hl:LoP e 0 lo l) (hh:∃ y,hi=some y∧∃ k,e.ev y=some (.int k (h:Int))) (hz:e.ev z=some (.int kz (m:Int))) (hlh:l≤h) (hhm:h≤m) (hmc:m≤c) :
 Qy P (.slice T x lo hi (some z)) ty e H G (.slice (if m=l then a else a.map (·.add (l*sz))) (h - l) (m - l)):=fun ac w _ _ _ _ hk=>by
 have hr:=run_sizeOf (P:=P) w hT.2
 have e1:(h:Int)≤m:=by omega
 have e2:(l:Int)≤h:=by omega
 have e3:(m:Int)≤c:=by omega
 obtain ⟨y,rfl,k,hy⟩:=hh
 cases lo with
 | none =>
   have hl:l=0:=hl
   subst hl
   simp [execOp,Instr.sliceAt,Instr.slice,hk.eval hx,hk.eval hy,hk.eval hz,run_underlying hT.1,Instr.sliceBounds,Instr.sliceBound,asIntOf,hr,e1,e3,hhm,hmc]
 | some u =>
   obtain ⟨ku,hu⟩:=hl
   simp [execOp,Instr.sliceAt,Instr.slice,hk.eval hx,hk.eval hy,hk.eval hz,hk.eval hu,run_underlying hT.1,Instr.sliceBounds,Instr.sliceBound,asIntOf,hr,e1,e2,e3,hhm,hmc,hlh]
end
def arQ (P:Program) (T:Nat):Option (Nat×Nat×Nat):=match P.underlying T with
 | some (.array n E)=>match szQ P E with | some k=>some (n,E,k) | none=>none
 | _=>none
theorem vK {P:Program} {T n E k:Nat} (h:arQ P T=some (n,E,k)):P.underlying T=some (.array n E)∧(P.info? E).map (·.size)=some k:=by
 unfold arQ at h
 split at h
 · rename_i n' E' hu
   split at h
   · rename_i m hm;cases h;exact ⟨hu,rT hm⟩
   cases h
 cases h
def kI:CV→Option CV
 | .agg l=>some l
 | .tup _=>none
 | .nil=>none
 | .cons _ _=>none
 | x=>some (.cons x .nil)
section
variable {nx n:Nat} {ρ:Pl}
theorem kU {x:CV} {v:Value} (h:Kn nx ρ x v) {l:CV} (hl:kI x=some l):KL nx ρ l v.cells.toList:=by
 have scal:∀ y:CV,zL y=true→∀ u,Kn nx ρ y u→KL nx ρ (.cons y .nil) u.cells.toList:=fun y hy u hu=>by
  rw [xF (xY hu hy)];exact KL.cons hu KL.nil
 cases x with
 | agg m=>cases hl;obtain ⟨vs,h1,h2⟩:=DV.agg.1 h.2;rw [h2];exact ⟨h.1,h1⟩
 | tup m=>cases hl
 | nil=>cases hl
 | cons a b=>cases hl
 | _=>cases hl;exact scal _ rfl _ h
end
def plQ (P:Program) (fs:List Field):Option (List (Nat×Nat)):=List.rec (some []) (fun f _ ih=>match szQ P f.type with | some k=>(match ih with | some l=>some ((f.offset,k) :: l) | none=>none) | none=>none) fs
theorem aSK {P:Program}:∀ {fs:List Field} {pl:List (Nat×Nat)},plQ P fs=some pl→fs.map (fun f=>(f.offset,(P.info? f.type).map (·.size)))=pl.map fun x=>(x.1,some x.2):=by
 intro fs
 induction fs with
 | nil=>intro pl h;cases h;rfl
 | cons f fs ih =>
   intro pl h
   have h':(match szQ P f.type with | some k=>(match plQ P fs with | some l=>some ((f.offset,k) :: l) | none=>none) | none=>none)=some pl:=h
   split at h'
   · rename_i k hk
     split at h'
     · rename_i l hl
       cases h'
       rw [List.map_cons,List.map_cons,ih hl,rT hk]
     cases h'
   cases h'
def zeQ (P:Program) (T:Nat):Option CV:=match P.info? T with
 | some i=>match i.zero with
   | some v=>match ofV v with
     | some x=>kI x
     | none=>none
   | none=>none
 | none=>none
theorem vL {P:Program} {T:Nat} {x:CV} (h:zeQ P T=some x) (nx:Nat) (ρ:Pl):∃ i z,P.info? T=some i∧i.zero=some z∧KL nx ρ x z.cells.toList:=by
 unfold zeQ at h
 split at h
 · rename_i i hi
   split at h
   · rename_i v hv
     split at h
     · rename_i y hy
       exact ⟨i,v,hi,hv,kU (aNN hy) h⟩
     cases h
   cases h
 cases h
def qL (E:Tr CV) (pl:List (Nat×Nat)) (n:Nat) (parts:List (Nat×Operand)):CV→Option CV:=
 List.rec (fun l=>some l) (fun p _ ih l=>match nth pl p.1 with
  | some (off,size)=>(match evo E p.2 with
    | some c=>(match kI c with
      | some m=>bif Nat.beq (cC m) size && Nat.ble (off+size) n then ih (kS (oC off l) (kS m (oB (off+size) l))) else none
      | none=>none)
    | none=>none)
  | none=>none) parts
section
variable {nx n:Nat} {ρ:Pl} {E:Tr CV} {a:Act}
theorem qM (hs:Slots ρ E nx n a) {pl:List (Nat×Nat)} {N:Nat}:∀ {parts:List (Nat×Operand)} {l r:CV} {zs:List Value},KL nx ρ l zs→qL E pl N parts l=some r→
 ∃ vs,iT (eA a) parts=some vs∧oG pl N vs=true∧KL nx ρ r (iO pl zs vs):=by
 intro parts
 induction parts with
 | nil=>intro l r zs hl h;cases h;exact ⟨[],rfl,rfl,hl⟩
 | cons p parts ih =>
   intro l r zs hl h
   obtain ⟨i,x⟩:=p
   have h':(match nth pl i with
    | some (off,size)=>(match evo E x with
      | some c=>(match kI c with
        | some m=>bif Nat.beq (cC m) size && Nat.ble (off+size) N then qL E pl N parts (kS (oC off l) (kS m (oB (off+size) l))) else none
        | none=>none)
      | none=>none)
    | none=>none)=some r:=h
   split at h'
   · rename_i off size hp
     split at h'
     · rename_i c hc
       split at h'
       · rename_i m hm
         cases hb:Nat.beq (cC m) size && Nat.ble (off+size) N with
         | true =>
           rw [hb] at h'
           simp only [Bool.and_eq_true] at hb
           obtain ⟨v,e1,k1⟩:=aJ hs hc
           have kc:=kU k1 hm
           have hlen:v.cells.toList.length=size:=by rw [←cL kc];exact Nat.eq_of_beq_eq_true hb.1
           obtain ⟨vs,e2,o2,k2⟩:=ih (nO (vG off hl) (nO kc (vF (off+size) hl))) h'
           rw [gV] at hp
           refine ⟨(i,v) :: vs,by unfold iT;rw [e1,e2],?_,?_⟩
           · unfold oG
             rw [hp,o2,Bool.and_true,hlen]
             simp only [Bool.and_eq_true]
             exact ⟨by simp,hb.2⟩
           · unfold iO
             rw [hp]
             simp only [hlen]
             exact k2
         | false=>rw [hb] at h';cases h'
       cases h'
     cases h'
   cases h'
end
def chkF (P:Program) (fs:List Field):Nat→Bool:=List.rec (fun _=>true) (fun f _ ih j=>match iG P f with | (true,k)=>Nat.beq k j && ih (Nat.succ j) | _=>false) fs
theorem aQQ {P:Program}:∀ {fs:List Field} {j:Nat},chkF P fs j=true→fs.map (iG P)=(List.range' j fs.length).map fun i=>(true,i):=by
 intro fs
 induction fs with
 | nil=>intro j _;rfl
 | cons f fs ih =>
   intro j h
   have h':(match iG P f with | (true,k)=>Nat.beq k j && chkF P fs (Nat.succ j) | _=>false)=true:=h
   split at h'
   · rename_i k hk
     rw [Bool.and_eq_true] at h'
     have e:=Nat.eq_of_beq_eq_true h'.1
     subst e
     rw [List.map_cons,hk,List.length_cons,List.range'_succ,List.map_cons,ih h'.2]
   cases h'
def aiQ (P:Program) (t:Nat):Option Nat:=match P.underlying t with
 | some (.struct ⟨fs⟩)=>bif not (P.stoodInHeld t) && (not (P.eqGuardType P.depth t) && chkF P fs 0) then some fs.length else none
 | _=>none
theorem aNP {P:Program} {t n:Nat} (h:aiQ P t=some n):kE P t n:=by
 unfold aiQ at h
 split at h
 · rename_i fs hu
   rcases aE h with ⟨h1,h2⟩ | ⟨_,h2⟩
   · cases h2
     simp only [Bool.and_eq_true,Bool.not_eq_true'] at h1
     have hf:P.fieldsOf t=⟨fs⟩:=by unfold Program.fieldsOf;rw [hu]
     refine ⟨by rw [hf];exact hu,h1.1,h1.2.1,?_⟩
     rw [hf,aQQ h1.2.2,List.range_eq_range']
   cases h2
 cases h
def intQ:CV→Option Int
 | .int .i64 n=>some n
 | _=>none
theorem aQR {nx:Nat} {ρ:Pl} {a:CV} {v:Value} {n:Int} (h:intQ a=some n) (hk:Kn nx ρ a v):v=.int .i64 n:=by
 unfold intQ at h
 split at h
 · cases h;exact hk.2
 cases h
def aCM (l:CV):Option (List Int):=lrec (some []) (fun a _ ih=>match intQ a with | some n=>(match ih with | some l=>some (n :: l) | none=>none) | none=>none) l
theorem aCN {nx:Nat} {ρ:Pl} {x:CV} {vs:List Value} (h:KL nx ρ x vs):∀ {xs:List Int},aCM x=some xs→vs=xs.map (Value.int .i64):=by
 refine gA (motive:=fun x vs=>∀ {xs:List Int},aCM x=some xs→vs=xs.map (Value.int .i64)) ?_ ?_ h
 · intro xs hx
   have hx':some []=some xs:=hx
   cases hx';rfl
 intro a b v vs hv _ ih xs hx
 have hx':(match intQ a with | some n=>(match aCM b with | some l=>some (n :: l) | none=>none) | none=>none)=some xs:=hx
 split at hx'
 · rename_i n hn
   split at hx'
   · rename_i l hl
     cases hx'
     rw [List.map_cons,←ih hl,aQR hn hv]
   cases hx'
 cases hx'
def eqL (xs ys:List Int):Bool:=List.rec (fun ys=>List.rec true (fun _ _ _=>false) ys) (fun x _ ih ys=>List.rec false (fun y l _=>ieq x y && ih l) ys) xs ys
theorem aSL:∀ xs ys:List Int,eqL xs ys=decide (xs=ys):=by
 intro xs
 induction xs with
 | nil=>intro ys;cases ys with
   | nil=>rfl
   | cons y ys=>show false=_;simp
 | cons x xs ih=>intro ys;cases ys with
   | nil=>show false=_;simp
   | cons y ys =>
     show (ieq x y && eqL xs ys)=_
     rw [fS,ih]
     by_cases h1:x=y <;> by_cases h2:xs=ys <;> simp [h1,h2]
def eqC (P:Program) (t:Nat) (x y:CV):Option Bool:=match x,y with
 | .bool a,.bool b=>(match P.underlying t with | some .bool=>some (bif a then b else not b) | _=>none)
 | .agg a,.agg b=>(match aiQ P t with
   | some n=>(match aCM a with
     | some xs=>(match aCM b with
       | some ys=>bif Nat.beq xs.length n && Nat.beq ys.length n then some (eqL xs ys) else none
       | none=>none)
     | none=>none)
   | none=>none)
 | .sl _ _ _ _ _,.nils=>(match slQ P t with | some _=>some false | none=>none)
 | .nils,.nils=>(match slQ P t with | some _=>some true | none=>none)
 | .ptr _ _,.nilp=>(match P.underlying t with | some (.pointer _)=>some false | _=>none)
 | .nilp,.nilp=>(match P.underlying t with | some (.pointer _)=>some true | _=>none)
 | .fn _ _ _,.nilf=>bif pJ P t then some false else none
 | _,_=>none
theorem tH {P:Program} {t u:Nat} (h:P.underlying t=some (.pointer u)):P.underlying t=some (.pointer (P.pointee t)):=by
 have:P.pointee t=u:=by unfold Program.pointee;rw [h]
 rw [this];exact h
section
variable {P:Program} {nx n:Nat} {ρ:Pl} {E:Tr CV} {a:Act} {e:Env} {H:Hp} {G:Imm}
theorem aSM {t t':Nat} {x y:Operand} {cx cy:CV} {vx vy:Value} {b:Bool} (h:eqC P t cx cy=some b) (kx:Kn nx ρ cx vx) (ky:Kn nx ρ cy vy) (hx:e.ev x=some vx) (hy:e.ev y=some vy) :
 (∀ ty,Qy P (.binOp .eql t x y t') ty e H G (.bool b))∧(∀ ty,Qy P (.binOp .neq t x y t') ty e H G (.bool (not b))):=by
 unfold eqC at h
 split at h
 · rename_i p q
   split at h
   · rename_i hu
     cases h
     rw [DV.bool.1 kx.2] at hx
     rw [DV.bool.1 ky.2] at hy
     have e1:(bif p then q else not q)=decide (p=q):=by cases p <;> cases q <;> rfl
     refine ⟨fun ty=>by rw [e1];exact lH hu hx hy,fun ty=>?_⟩
     rw [e1,qI]
     exact pB hu hx hy
   cases h
 · rename_i l m
   split at h
   · rename_i N hN
     split at h
     · rename_i xs hxs
       split at h
       · rename_i ys hys
         rcases aE h with ⟨h1,h2⟩ | ⟨_,h2⟩
         · cases h2
           rw [Bool.and_eq_true] at h1
           obtain ⟨vs,k1,e1⟩:=DV.agg.1 kx.2
           obtain ⟨us,k2,e2⟩:=DV.agg.1 ky.2
           have kl1:KL nx ρ l vs:=⟨kx.1,k1⟩
           have kl2:KL nx ρ m us:=⟨ky.1,k2⟩
           have g1:=aCN kl1 hxs
           have g2:=aCN kl2 hys
           rw [e1,g1] at hx
           rw [e2,g2] at hy
           rw [aSL]
           have hT:=aNP hN
           refine ⟨fun ty=>sY xs ys hT hx hy (Nat.eq_of_beq_eq_true h1.1) (Nat.eq_of_beq_eq_true h1.2),fun ty=>?_⟩
           rw [qI]
           exact yR xs ys hT hx hy (Nat.eq_of_beq_eq_true h1.1) (Nat.eq_of_beq_eq_true h1.2)
         cases h2
       cases h
     cases h
   cases h
 · rename_i t1 o1 n1 s1 c1
   split at h
   · rename_i q hT
     obtain ⟨E',sz⟩:=q
     cases h
     have e2:=DV.nils.1 ky.2
     subst e2
     have hs:∃ c',vx=.slice (some ⟨(ρ t1).1,o1,none⟩) n1 c':=by
      cases c1 with
      | some c=>exact ⟨c,(eL.1 kx.2).1⟩
      | none=>obtain ⟨c,h1,_⟩:=gK.1 kx.2;exact ⟨c,h1⟩
     obtain ⟨c',rfl⟩:=hs
     refine ⟨fun ty=>?_,fun ty=>?_⟩
     · have:=cQ (t':=t') (ty:=ty) (H:=H) (G:=G) (eW hT) hx hy;simpa using this
     have:=mK (t':=t') (ty:=ty) (H:=H) (G:=G) (eW hT) hx hy;simpa using this
   cases h
 · split at h
   · rename_i q hT
     obtain ⟨E',sz⟩:=q
     cases h
     have e1:=DV.nils.1 kx.2
     have e2:=DV.nils.1 ky.2
     subst e1 e2
     refine ⟨fun ty=>?_,fun ty=>?_⟩
     · have:=cQ (t':=t') (ty:=ty) (H:=H) (G:=G) (eW hT) hx hy;simpa using this
     have:=mK (t':=t') (ty:=ty) (H:=H) (G:=G) (eW hT) hx hy;simpa using this
   cases h
 · split at h
   · rename_i u hu
     cases h
     have e1:=DV.ptr.1 kx.2
     have e2:=DV.nilp.1 ky.2
     subst e1 e2
     exact ⟨fun ty=>qJ (tH hu) hx hy,fun ty=>qK (tH hu) hx hy⟩
   cases h
 · split at h
   · rename_i u hu
     cases h
     have e1:=DV.nilp.1 kx.2
     have e2:=DV.nilp.1 ky.2
     subst e1 e2
     exact ⟨fun ty=>qJ (tH hu) hx hy,fun ty=>qK (tH hu) hx hy⟩
   cases h
 · rcases aE h with ⟨h1,h2⟩ | ⟨_,h2⟩
   · cases h2
     obtain ⟨xs,ys,_,_,e1⟩:=DV.fn.1 kx.2
     have e2:vy=.nilFunc:=ky.2
     subst e1 e2
     exact ⟨fun ty=>wU h1 hx hy,fun ty=>wV h1 hx hy⟩
   cases h2
 cases h
end
section gen
variable {κ:Type} [DecidableEq κ] [OneVal κ]
def xB (eq:κ→κ→Bool) (k:κ) (l:List (κ×Int)):Option Int:=List.rec none (fun x _ ih=>bif eq x.1 k then some x.2 else ih) l
def aNQ (eq:κ→κ→Bool) (k:κ) (v:Int) (l:List (κ×Int)):List (κ×Int):=List.rec [(k,v)] (fun x xs ih=>bif eq x.1 k then (x.1,v) :: xs else x :: ih) l
theorem tI {eq:κ→κ→Bool} (he:∀ a b,eq a b=decide (a=b)) (k:κ) (l:List (κ×Int)):xB eq k l=gB l k:=by
 induction l with
 | nil=>rfl
 | cons x l ih =>
   show (bif eq x.1 k then some x.2 else xB eq k l)=_
   rw [he,ih]
   by_cases h:x.1=k
   · simp [gB,h]
   simp [gB,h]
theorem aQS {eq:κ→κ→Bool} (he:∀ a b,eq a b=decide (a=b)) (k:κ) (v:Int) (l:List (κ×Int)):aNQ eq k v l=wP l k v:=by
 induction l with
 | nil=>rfl
 | cons x l ih =>
   obtain ⟨k',u⟩:=x
   show (bif eq k' k then (k',v) :: l else (k',u) :: aNQ eq k v l)=_
   rw [he,ih]
   by_cases h:k'=k
   · simp [wP,h]
   simp [wP,h]
end gen
def eqK (a b:K4):Bool:=ieq a.c b.c && (ieq a.b b.b && (ieq a.a b.a && ieq a.op b.op))
theorem zO (a b:K4):eqK a b=decide (a=b):=by
 cases a;cases b
 simp only [eqK,fS]
 rw [Bool.eq_iff_iff]
 simp only [Bool.and_eq_true,decide_eq_true_eq,K4.mk.injEq]
 constructor
 · rintro ⟨h1,h2,h3,h4⟩;exact ⟨h4,h3,h2,h1⟩
 rintro ⟨h1,h2,h3,h4⟩;exact ⟨h4,h3,h2,h1⟩
def aJG (x:CV):Option Int:=match x with
 | .int .i64 n=>some n
 | _=>none
def aJH (x:CV):Option K4:=match x with
 | .agg (.cons (.int .i64 a) (.cons (.int .i64 b) (.cons (.int .i64 c) (.cons (.int .i64 d) .nil))))=>some ⟨a,b,c,d⟩
 | _=>none
def z0 (P:Program) (et:Nat):Bool:=match P.info? et with
 | some i=>match i.zero with | some (.int .i64 n)=>ieq n 0 | _=>false
 | none=>false
theorem aRM {P:Program} {et:Nat} (h:z0 P et=true) (w:World):(zeroValue et).run P w=.ok (.int .i64 0) w:=by
 unfold z0 at h
 split at h
 · rename_i i hi
   split at h
   · rename_i n hz
     rw [fS,decide_eq_true_eq] at h
     subst h
     simp [zeroValue,typeInfo,hi,hz]
   cases h
 cases h
def mtI (P:Program) (T:Nat):Bool:=match P.underlying T with
 | some (.map kt et)=>match P.underlying kt with | some (.int .i64)=>z0 P et | _=>false
 | _=>false
def mtK (P:Program) (T:Nat):Bool:=match P.underlying T with
 | some (.map kt et)=>match aiQ P kt with | some n=>Nat.beq n 4 && z0 P et | none=>false
 | _=>false
theorem zP {P:Program} {T:Nat} (h:mtI P T=true):∃ kt,MapT P T kt Int:=by
 unfold mtI at h
 split at h
 · rename_i kt et hT
   split at h
   · rename_i hk
     exact ⟨kt,⟨et,hT,aRM h⟩,KeyT.int hk⟩
   cases h
 cases h
theorem zQ {P:Program} {T:Nat} (h:mtK P T=true):∃ kt,MapT P T kt K4:=by
 unfold mtK at h
 split at h
 · rename_i kt et hT
   split at h
   · rename_i n hk
     rw [Bool.and_eq_true] at h
     have:=Nat.eq_of_beq_eq_true h.1
     subst this
     exact ⟨kt,⟨et,hT,aRM h.2⟩,KeyT.k4 (aNP hk)⟩
   cases h
 cases h
def laC (c:Bool) (r:Option Int):CV:=bif c then .tup (.cons (.int .i64 (match r with | some v=>v | none=>0)) (.cons (.bool (match r with | some _=>true | none=>false)) .nil)) else .int .i64 (match r with | some v=>v | none=>0)
section
variable {P:Program} {nx n:Nat} {ρ:Pl} {w:World}
theorem tJ {x:CV} {n:Int} {v:Value} (h:aJG x=some n) (hk:Kn nx ρ x v):v=OneVal.val n:=by
 unfold aJG at h
 split at h
 · cases h;exact DV.int.1 hk.2
 cases h
theorem tK {x:CV} {n:K4} {v:Value} (h:aJH x=some n) (hk:Kn nx ρ x v):v=OneVal.val n:=by
 unfold aJH at h
 split at h
 · cases h
   obtain ⟨vs,h1,rfl⟩:=DV.agg.1 hk.2
   obtain ⟨v1,r1,rfl,g1,h1⟩:=DL.cons.1 h1
   obtain ⟨v2,r2,rfl,g2,h1⟩:=DL.cons.1 h1
   obtain ⟨v3,r3,rfl,g3,h1⟩:=DL.cons.1 h1
   obtain ⟨v4,r4,rfl,g4,h1⟩:=DL.cons.1 h1
   rw [DL.nil.1 h1,DV.int.1 g1,DV.int.1 g2,DV.int.1 g3,DV.int.1 g4]
   rfl
 cases h
theorem vM {t:Nat} {v:Value} (hk:Kn nx ρ (.mp t) v):v=.map (some (ρ t).1):=DV.mp.1 hk.2
theorem aNR {c:Bool} {r:Option Int}:Kn nx ρ (laC c r) (if c then .tuple #[.int .i64 (r.getD 0),.bool r.isSome] else .int .i64 (r.getD 0)):=by
 cases c with
 | false=>cases r <;> exact ⟨trivial,rfl⟩
 | true =>
   cases r with
   | none=>exact ⟨⟨trivial,trivial,trivial⟩,DV.tup.2 ⟨_,DL.cons.2 ⟨_,_,rfl,rfl,DL.cons.2 ⟨_,_,rfl,rfl,rfl⟩⟩,rfl⟩⟩
   | some v=>exact ⟨⟨trivial,trivial,trivial⟩,DV.tup.2 ⟨_,DL.cons.2 ⟨_,_,rfl,rfl,DL.cons.2 ⟨_,_,rfl,rfl,rfl⟩⟩,rfl⟩⟩
variable {κ:Type} [DecidableEq κ] [OneVal κ] {T kt:TypeId}
theorem oR {r:Nat} {xs:List (κ×Int)} {k:κ} (hT:MapT P T kt κ) (hb:w.heap[r]?=some (cE xs)) (c:Bool):(Instr.lookup T (.map (some r)) (OneVal.val k) c).run P w =
 .ok (if c then .tuple #[.int .i64 ((gB xs k).getD 0),.bool (gB xs k).isSome] else .int .i64 ((gB xs k).getD 0)) w:=by
 obtain ⟨⟨et,hu,hz⟩,hk⟩:=hT
 simp only [Instr.lookup,Sem.run_bind,run_underlying hu,Result.andThen_ok,MapKept.run_getObj_map (P:=P) hb,Sem.run_pure,hk.check,hk.look]
 cases hm:gB xs k with
 | none=>rw [(rC xs k).1 hm];cases c <;> simp [hz]
 | some v=>obtain ⟨i,h1,_⟩:=xK xs k hm;rw [h1];cases c <;> simp
end
def loC (E:Tr CV):Option Operand→Option Int
 | none=>some 0
 | some y=>match evo E y with | some (.int _ m)=>some m | _=>none
def hiC (E:Tr CV) (n:Nat):Option Operand→Option Int
 | none=>some n
 | some y=>match evo E y with | some (.int _ m)=>some m | _=>none
def cutC (t o n sz:Nat) (c:Option Nat) (l h:Int):Option CV:=
 bif ile 0 l && ile l h then
  (match c with
  | some c=>bif ile h c then
   (bif Nat.beq c l.toNat then some (.sl t o (Nat.sub h.toNat l.toNat) sz (some 0)) else some (.sl t (Nat.add o (Nat.mul l.toNat sz)) (Nat.sub h.toNat l.toNat) sz (some (Nat.sub c l.toNat)))) else none
  | none=>bif ile h n then
   (bif Nat.beq l.toNat 0 then some (.sl t o h.toNat sz none) else
    bif ile n l then some .sle else some (.sl t (Nat.add o (Nat.mul l.toNat sz)) (Nat.sub h.toNat l.toNat) sz none)) else none)
 else none
def aRN (m:Int) (n:Nat):Option Nat→Bool
 | some c=>ile m c
 | none=>ile m n
def rdT (E:Tr CV):Op→Option Nat
 | .load _ x=>match evo E x with | some (.ptr t _)=>some t | _=>none
 | .lookup _ x _ _=>match evo E x with | some (.mp t)=>some t | _=>none
 | _=>none
def qv2 (P:Program) (E:Tr CV) (h:Tr CB) (c:Operand) (x:Operand) (y:Operand):Option CV:=match evo E c with | some (.bool b)=>evo E (bif b then x else y) | _=>none
def qv3 (P:Program) (E:Tr CV) (h:Tr CB) (x:Operand):Option CV:=match evo E x with | some (.bool b)=>some (.bool (not b)) | _=>none
def qv4 (P:Program) (E:Tr CV) (h:Tr CB) (x:Operand):Option CV:=match evo E x with | some (.int k m)=>some (.int k (wr k (0 - m))) | _=>none
def qv5 (P:Program) (E:Tr CV) (h:Tr CB) (o:BinOp) (t:TypeId) (x:Operand) (y:Operand):Option CV:=match evo E x with
 | some (.int k m)=>match evo E y with
   | some (.int k' n)=>match sh o k m n with
     | some c=>some c
     | none=>bif ikB k k' then bo o k m n else none
   | _=>none
 | some a=>match evo E y with
   | some b=>match eqC P t a b with
     | some r=>(match o with | .eql=>some (.bool r) | .neq=>some (.bool (not r)) | _=>none)
     | none=>none
   | none=>none
 | none=>none
def qv6 (P:Program) (E:Tr CV) (h:Tr CB) (s:TypeId) (t:TypeId) (x:Operand):Option CV:=match P.underlying t with
 | some (.int k')=>match P.underlying s with
   | some _=>match evo E x with | some (.int _ m)=>some (.int k' (wr k' m)) | _=>none
   | none=>none
 | _=>none
def qv7 (P:Program) (E:Tr CV) (h:Tr CB) (x:Operand) (i:Nat):Option CV:=match evo E x with | some (.tup l)=>sU l i | _=>none
def qv8 (P:Program) (E:Tr CV) (h:Tr CB) (x:Operand):Option CV:=match evo E x with
 | some (.ptr t o)=>some (.ptr t o)
 | some (.mp t)=>some (.mp t)
 | some (.fn f a b)=>some (.fn f a b)
 | some (.yl t)=>some (.yl t)
 | _=>none
def qv9 (P:Program) (E:Tr CV) (h:Tr CB) (s:TypeId) (x:Operand) (f:Nat):Option CV:=match evo E x with
 | some (.ptr t o)=>match foQ P s f with | some k=>some (.ptr t (Nat.add o k)) | none=>none
 | _=>none
def qv10 (P:Program) (E:Tr CV) (h:Tr CB) (T:TypeId) (x:Operand) (i:Nat):Option CV:=match evo E x with
 | some (.agg l)=>match P.underlying T with
   | some (.struct ⟨fs⟩)=>match nth fs i with
     | some fd=>bif eC P fd.type then sU l fd.offset else (match agQ P fd.type with | some k=>some (.agg (oC k (oB fd.offset l))) | none=>none)
     | none=>none
   | _=>none
 | _=>none
def qv11 (P:Program) (E:Tr CV) (h:Tr CB) (T:TypeId) (x:Operand):Option CV:=match evo E x with
 | some (.ptr t o)=>match h.get t with
   | some (.cells l _ _ _)=>bif eC P T then aJB l o else
     (match agQ P T with
     | some k=>bif Nat.beq (cC (cU l o k)) k then some (.agg (cU l o k)) else none
     | none=>none)
   | _=>none
 | _=>none
def qv12 (P:Program) (E:Tr CV) (h:Tr CB) (f:Nat) (xs:List Operand) (ys:List Operand):Option CV:=match aJD E xs with
 | some a=>match aJD E ys with | some b=>some (.fn f a b) | none=>none
 | none=>none
def qv13 (P:Program) (E:Tr CV) (h:Tr CB) (T:TypeId) (x:Operand) (i:Operand):Option CV:=match evo E i with
 | some (.int _ m)=>match evo E x with
   | some (.sl t o n sz _)=>match slQ P T with
     | some (_,sz')=>bif Nat.beq sz sz' && (ile 0 m && not (ile n m)) then some (.ptr t (Nat.add o (Nat.mul m.toNat sz'))) else none
     | none=>none
   | some (.ptr t o)=>match arQ P T with
     | some (n,_,sz)=>bif ile 0 m && not (ile n m) then some (.ptr t (Nat.add o (Nat.mul m.toNat sz))) else none
     | none=>none
   | _=>none
 | _=>none
def qv14 (P:Program) (E:Tr CV) (h:Tr CB) (T:TypeId) (x:Operand) (i:Operand):Option CV:=match evo E i with
 | some (.int _ m)=>match evo E x with
   | some (.agg l)=>match arQ P T with
     | some (n,E',sz)=>bif Nat.beq sz 1 && (eC P E' && (ile 0 m && not (ile n m))) then sU l m.toNat else
      bif fD P E' sz && (Nat.ble 1 sz && (ile 0 m && not (ile n m))) then some (.agg (oC sz (oB (Nat.mul m.toNat sz) l))) else none
     | none=>none
   | _=>none
 | _=>none
def qv15 (P:Program) (E:Tr CV) (h:Tr CB) (T:TypeId) (x:Operand) (lo:Option Operand) (hi:Option Operand):Option CV:=match evo E x with
 | some (.sl t o n sz c)=>match slQ P T with
   | some (_,sz')=>bif Nat.beq sz sz' then (match loC E lo with
     | some l=>(match hiC E n hi with | some h=>cutC t o n sz c l h | none=>none)
     | none=>none) else none
   | none=>none
 | some .nils=>match slQ P T with
   | some _=>(match loC E lo with
     | some l=>(match hiC E 0 hi with | some h=>bif ieq l 0 && ieq h 0 then some .nils else none | none=>none)
     | none=>none)
   | none=>none
 | _=>none
def qv16 (P:Program) (E:Tr CV) (h:Tr CB) (T:TypeId) (x:Operand) (lo:Option Operand) (y:Operand) (z:Operand):Option CV:=match evo E x with
 | some (.sl t o n sz c)=>match slQ P T with
   | some (_,sz')=>bif Nat.beq sz sz' then (match loC E lo with
     | some l=>(match hiC E n (some y) with
       | some h=>(match evo E z with
         | some (.int _ m)=>bif ile 0 l && (ile l h && (ile h m && aRN m n c)) then
          (bif Nat.beq m.toNat l.toNat then some (.sl t o (Nat.sub h.toNat l.toNat) sz (some 0)) else some (.sl t (Nat.add o (Nat.mul l.toNat sz)) (Nat.sub h.toNat l.toNat) sz (some (Nat.sub m.toNat l.toNat)))) else none
         | _=>none)
       | none=>none)
     | none=>none) else none
   | none=>none
 | some .nils=>match slQ P T with
   | some _=>(match loC E lo with
     | some l=>(match hiC E 0 (some y) with
       | some h=>(match evo E z with
         | some (.int _ m)=>bif ieq l 0 && (ieq h 0 && ieq m 0) then some .nils else none
         | _=>none)
       | none=>none)
     | none=>none)
   | none=>none
 | _=>none
def qv17 (P:Program) (E:Tr CV) (h:Tr CB) (t:TypeId) (parts:List (Nat×Operand)):Option CV:=match P.underlying t with
 | some (.struct ⟨fs⟩)=>match plQ P fs with
   | some pl=>match zeQ P t with
     | some z=>match qL E pl (cC z) parts z with | some l=>some (.agg l) | none=>none
     | none=>none
   | none=>none
 | some (.array n E')=>match szQ P E' with
   | some sz=>match zeQ P t with
     | some z=>match qL E (dW n sz) (cC z) parts z with | some l=>some (.agg l) | none=>none
     | none=>none
   | none=>none
 | _=>none
def aJI (P:Program) (E:Tr CV) (h:Tr CB) (x:Operand) (T:TypeId):Option CV:=match evo E x with
 | some (.sl _ _ n _ _)=>match slQ P T with | some _=>some (.int .i64 n) | none=>none
 | some .nils=>match slQ P T with | some _=>some (.int .i64 0) | none=>none
 | some .sle=>match slQ P T with | some _=>some (.int .i64 0) | none=>none
 | some (.str s)=>match P.underlying T with | some .string=>some (.int .i64 (cC s)) | _=>none
 | _=>none
def qv19 (P:Program) (E:Tr CV) (h:Tr CB) (x:Operand) (T:TypeId):Option CV:=match evo E x with
 | some (.sl _ _ _ _ (some c))=>match slQ P T with | some _=>some (.int .i64 c) | none=>none
 | some .nils=>match slQ P T with | some _=>some (.int .i64 0) | none=>none
 | _=>none
def qv20 (P:Program) (E:Tr CV) (h:Tr CB) (x:Operand) (y:Operand):Option CV:=match evo E x with
 | some (.int k m)=>match evo E y with | some (.int k' n)=>bif ikB k k' then some (.int k (bif ile m n then m else n)) else none | _=>none
 | _=>none
def qv21 (P:Program) (E:Tr CV) (h:Tr CB) (x:Operand) (y:Operand):Option CV:=match evo E x with
 | some (.int k m)=>match evo E y with | some (.int k' n)=>bif ikB k k' then some (.int k (bif ile n m then m else n)) else none | _=>none
 | _=>none
def qvL (P:Program) (E:Tr CV) (h:Tr CB) (T:TypeId) (x i:Operand) (c:Bool):Option CV:=match evo E x with
 | some (.mp t)=>match evo E i with
   | some k=>match h.get t with
     | some (.mapI l _)=>(match aJG k with | some n=>bif mtI P T then some (laC c (xB ieq n l)) else none | none=>none)
     | some (.mapK l _)=>(match aJH k with | some n=>bif mtK P T then some (laC c (xB eqK n l)) else none | none=>none)
     | _=>none
   | none=>none
 | _=>none
def qv (P:Program) (E:Tr CV) (h:Tr CB):Op→Option CV
 | .move x=>evo E x
 | .assign x=>evo E x
 | .pick c x y=>qv2 P E h c x y
 | .unOp .not _ x=>qv3 P E h x
 | .unOp .neg _ x=>qv4 P E h x
 | .binOp o t x y _=>qv5 P E h o t x y
 | .convert s t x=>qv6 P E h s t x
 | .extract x i=>qv7 P E h x i
 | .nilCheck x=>qv8 P E h x
 | .fieldAddr s x f=>qv9 P E h s x f
 | .field T x i=>qv10 P E h T x i
 | .load T x=>qv11 P E h T x
 | .makeFunc (.func f) ⟨xs⟩ ⟨ys⟩=>qv12 P E h f xs ys
 | .indexAddr T x i=>qv13 P E h T x i
 | .index T x i=>qv14 P E h T x i
 | .slice T x lo hi none=>qv15 P E h T x lo hi
 | .slice T x lo (some y) (some z)=>qv16 P E h T x lo y z
 | .build t ⟨parts⟩=>qv17 P E h t parts
 | .call ⟨.builtin .len,⟨[x]⟩,⟨[T]⟩⟩=>aJI P E h x T
 | .call ⟨.builtin .cap,⟨[x]⟩,⟨[T]⟩⟩=>qv19 P E h x T
 | .call ⟨.builtin .min,⟨[x,y]⟩,_⟩=>qv20 P E h x y
 | .call ⟨.builtin .max,⟨[x,y]⟩,_⟩=>qv21 P E h x y
 | .lookup T x i c=>qvL P E h T x i c
 | _=>none
def Yd (P:Program) (op:Op) (nx:Nat) (ρ:Pl) (E:Tr CV) (ob:Nat→Obj) (a:Act) (c:CV):Prop:=
 ∃ v,Kn nx ρ c v∧∀ (w:World),(∀ t,rdT E op=some t→w.heap[(ρ t).1]?=some (ob t))→∀ (dst:Option Tmp) (ty:TypeId) (pos:String) (after:Array Edge) (g:Option (Nat×Bool)),(execOp a.eval ⟨dst,op,ty,pos,after,g⟩).run P w=.ok (.value v) w
section
variable {P:Program} {op:Op} {nx n:Nat} {ρ:Pl} {E:Tr CV} {h:Tr CB} {ob:Nat→Obj} {a:Act} {c:CV}
theorem Yd.pure {v:Value} (hk:Kn nx ρ c v) (hq:∀ ty,Qy P op ty (eA a) [] (fun _=>none) v):Yd P op nx ρ E ob a c:=
 ⟨v,hk,fun w _ dst ty pos after g=>hq ty a w dst pos after g (lookN a w)⟩
theorem Yd.read {v:Value} {t:Nat} (ht:rdT E op=some t) (hk:Kn nx ρ c v) (hq:∀ ty,Qy P op ty (eA a) [(0,some (ρ t).1,ob t)] (fun _=>none) v):Yd P op nx ρ E ob a c:=
 ⟨v,hk,fun w hw dst ty pos after g=>hq ty a w dst pos after g (lookB a (hw t ht))⟩
theorem hJ {k:IntKind} {m:Int}:Kn nx ρ (.int k m) (.int k m):=⟨trivial,rfl⟩
theorem tL {b:Bool}:Kn nx ρ (.bool b) (.bool b):=⟨trivial,rfl⟩
theorem aQT {t o m sz:Nat} {c:Option Nat} {l hi:Int} {r:CV} {v:Value} (hv:Kn nx ρ (.sl t o m sz c) v) (hr:cutC t o m sz c l hi=some r) :
 0≤l∧l≤hi∧∃ c',v=.slice (some ⟨(ρ t).1,o,none⟩) m c'∧hi.toNat≤c'∧Kn nx ρ r (.slice (if c'=l.toNat then some ⟨(ρ t).1,o,none⟩ else (some (⟨(ρ t).1,o,none⟩:Addr)).map (·.add (l.toNat*sz))) (hi.toNat - l.toNat) (c' - l.toNat)):=by
 unfold cutC at hr
 cases hb:ile 0 l && ile l hi with
 | false=>rw [hb] at hr;cases hr
 | true =>
   rw [hb] at hr
   simp only [cond_true] at hr
   simp only [Bool.and_eq_true,dN,decide_eq_true_eq] at hb
   obtain ⟨h1,h2⟩:=hb
   refine ⟨h1,h2,?_⟩
   have hlh:l.toNat≤hi.toNat:=by omega
   cases c with
   | some c =>
     obtain ⟨e1,e2,e3,e4⟩:=eL.1 hv.2
     simp only at hr
     cases hb2:ile hi c with
     | false=>rw [hb2] at hr;cases hr
     | true =>
       rw [hb2] at hr
       simp only [cond_true] at hr
       simp only [dN,decide_eq_true_eq] at hb2
       have hhc:hi.toNat≤c:=by omega
       refine ⟨c,e1,hhc,?_⟩
       cases hb3:Nat.beq c l.toNat with
       | true =>
         rw [hb3] at hr
         cases hr
         have:=Nat.eq_of_beq_eq_true hb3
         rw [if_pos this]
         refine ⟨hv.1,eL.2 ⟨?_,by omega,?_,by simp [maxLen]⟩⟩
         · rw [show c - l.toNat=0 by omega];rfl
         · show hi.toNat - l.toNat≤0;omega
       | false =>
         rw [hb3] at hr
         cases hr
         have hne:c≠l.toNat:=fun e=>by rw [e] at hb3;simp at hb3
         rw [if_neg hne]
         refine ⟨hv.1,eL.2 ⟨?_,?_,?_,?_⟩⟩
         · show Value.slice (some (Addr.add ⟨(ρ t).1,o,none⟩ (l.toNat*sz))) _ _=_;rw [add_lit];rfl
         · show o+l.toNat*sz+(c - l.toNat)*sz≤_
           have:l.toNat*sz+(c - l.toNat)*sz=c*sz:=by rw [←Nat.add_mul];congr 1;omega
           omega
         · show hi.toNat - l.toNat≤c - l.toNat;omega
         · show c - l.toNat≤_;omega
   | none =>
     obtain ⟨c,e1,e2,e3,e4⟩:=gK.1 hv.2
     simp only at hr
     cases hb2:ile hi m with
     | false=>rw [hb2] at hr;cases hr
     | true =>
       rw [hb2] at hr
       simp only [cond_true] at hr
       simp only [dN,decide_eq_true_eq] at hb2
       refine ⟨c,e1,by omega,?_⟩
       cases hb3:Nat.beq l.toNat 0 with
       | true =>
         rw [hb3] at hr
         cases hr
         have h0:=Nat.eq_of_beq_eq_true hb3
         rw [h0]
         refine ⟨hv.1,gK.2 ⟨c,?_,e2,by omega,e4⟩⟩
         show Value.slice (if c=0 then _ else some (Addr.add ⟨(ρ t).1,o,none⟩ (0*sz))) _ _=_
         rw [Nat.zero_mul,add_lit]
         simp
       | false =>
         rw [hb3] at hr
         simp only [cond_false] at hr
         cases hb4:ile m l with
         | true =>
           rw [hb4] at hr
           cases hr
           simp only [dN,decide_eq_true_eq] at hb4
           exact ⟨trivial,_,_,by rw [show hi.toNat - l.toNat=0 by omega]⟩
         | false =>
           rw [hb4] at hr
           cases hr
           simp only [dN,decide_eq_false_iff_not] at hb4
           rw [if_neg (by omega)]
           refine ⟨hv.1,gK.2 ⟨c - l.toNat,?_,?_,?_,?_⟩⟩
           · show Value.slice (some (Addr.add ⟨(ρ t).1,o,none⟩ (l.toNat*sz))) _ _=_;rw [add_lit];rfl
           · show o+l.toNat*sz+(c - l.toNat)*sz=_
             have:l.toNat*sz+(c - l.toNat)*sz=c*sz:=by rw [←Nat.add_mul];congr 1;omega
             omega
           · show hi.toNat - l.toNat≤_;omega
           omega
theorem zR (hs:Slots ρ E nx n a) {lo:Option Operand} {l:Int} (h:loC E lo=some l) (h0:0≤l):LoP (eA a) 0 lo l.toNat:=by
 cases lo with
 | none=>cases h;rfl
 | some y =>
   unfold loC at h
   simp only at h
   split at h
   · rename_i k m hy
     cases h
     obtain ⟨v,e1,k1⟩:=aJ hs hy
     rw [DV.int.1 k1.2] at e1
     exact ⟨k,by rw [Int.toNat_of_nonneg h0];exact e1⟩
   cases h
theorem zS (hs:Slots ρ E nx n a) {N:Nat} {lo:Option Operand} {l:Int} (h:hiC E N lo=some l) (h0:0≤l):LoP (eA a) N lo l.toNat:=by
 cases lo with
 | none=>cases h;rfl
 | some y =>
   unfold hiC at h
   simp only at h
   split at h
   · rename_i k m hy
     cases h
     obtain ⟨v,e1,k1⟩:=aJ hs hy
     rw [DV.int.1 k1.2] at e1
     exact ⟨k,by rw [Int.toNat_of_nonneg h0];exact e1⟩
   cases h
end
section
variable {P:Program} {op:Op} {nx n:Nat} {ρ:Pl} {E:Tr CV} {h:Tr CB} {ob:Nat→Obj} {a:Act} {c:CV}
theorem vN {l:CV} {vs:List Value} (h:KL nx ρ l vs):Kn nx ρ (.agg l) (.agg vs.toArray):=⟨h.1,DV.agg.2 ⟨vs,h.2,rfl⟩⟩
theorem oS {l:CV} {v:Value} (h:Kn nx ρ (.agg l) v):∃ vs,KL nx ρ l vs∧v=.agg vs.toArray:=by
 obtain ⟨vs,h1,h2⟩:=DV.agg.1 h.2
 exact ⟨vs,⟨h.1,h1⟩,h2⟩
theorem aER {l:CV} {v:Value} (h:Kn nx ρ (.tup l) v):∃ vs,KL nx ρ l vs∧v=.tuple vs.toArray:=by
 obtain ⟨vs,h1,h2⟩:=DV.tup.1 h.2
 exact ⟨vs,⟨h.1,h1⟩,h2⟩
theorem rU {f:Nat} {x y:CV} {v:Value} (h:Kn nx ρ (.fn f x y) v):∃ xs ys,KL nx ρ x xs∧KL nx ρ y ys∧v=.func (.func f) xs.toArray ys.toArray:=by
 obtain ⟨xs,ys,h1,h2,h3⟩:=DV.fn.1 h.2
 exact ⟨xs,ys,⟨h.1.1,h1⟩,⟨h.1.2,h2⟩,h3⟩
theorem oT {t o m sz:Nat} {cc:Option Nat} {v:Value} (h:Kn nx ρ (.sl t o m sz cc) v):∃ c',v=.slice (some ⟨(ρ t).1,o,none⟩) m c':=by
 cases cc with
 | some c=>exact ⟨c,(eL.1 h.2).1⟩
 | none=>obtain ⟨c,h1,_⟩:=gK.1 h.2;exact ⟨c,h1⟩
theorem nP {m:Int} {N:Nat} (hb:(ile 0 m && not (ile N m))=true):0≤m∧m<N:=by
 simp only [Bool.and_eq_true,Bool.not_eq_true',dN,decide_eq_true_eq,decide_eq_false_iff_not] at hb
 omega
theorem zT {s:CV} {v:Value} (h:Kn nx ρ (.str s) v):∃ bs:List UInt8,v=.string ⟨bs.toArray⟩∧KL nx ρ s (bs.map fun b=>Value.int .u8 b.toNat):=by
 obtain ⟨vs,bs,h1,h2,h3⟩:=h.2
 subst h2
 exact ⟨bs,h3,h.1,h1⟩
theorem aGW (hs:Slots ρ E nx n a) (hm:∀ t b,rdT E op=some t→h.get t=some b→DB nx ρ (ρ t).2 b (ob t)) (hq:qv P E h op=some c):Yd P op nx ρ E ob a c:=by
 unfold qv at hq
 unfold qv2 qv3 qv4 qv5 qv6 qv7 qv8 qv9 qv10 qv11 qv12 qv13 qv14 qv15 qv16 qv17 aJI qv19 qv20 qv21 at hq
 split at hq
 · -- move
   obtain ⟨v,e1,k1⟩:=aJ hs hq
   exact Yd.pure k1 fun ty=>Qy.move e1
 · obtain ⟨v,e1,k1⟩:=aJ hs hq
   exact Yd.pure k1 fun ty=>Qy.assign e1
 · -- pick
   split at hq
   · rename_i b hb
     obtain ⟨v,e1,k1⟩:=aJ hs hb
     obtain ⟨u,e2,k2⟩:=aJ hs hq
     rw [DV.bool.1 k1.2] at e1
     exact Yd.pure k2 fun ty=>Qy.pick e1 e2
   cases hq
 · -- not
   split at hq
   · rename_i b hb
     cases hq
     obtain ⟨v,e1,k1⟩:=aJ hs hb
     rw [DV.bool.1 k1.2] at e1
     exact Yd.pure tL fun ty=>Qy.not e1
   cases hq
 · -- neg
   split at hq
   · rename_i k m hb
     cases hq
     obtain ⟨v,e1,k1⟩:=aJ hs hb
     rw [DV.int.1 k1.2] at e1
     refine Yd.pure hJ fun ty=>?_
     rw [wr_eq]
     exact fM e1
   cases hq
 · -- binOp
   split at hq
   · rename_i k m hx
     split at hq
     · rename_i k' n' hy
       obtain ⟨v,e1,k1⟩:=aJ hs hx
       obtain ⟨u,e2,k2⟩:=aJ hs hy
       rw [DV.int.1 k1.2] at e1
       rw [DV.int.1 k2.2] at e2
       split at hq
       · rename_i c' hc
         cases hq
         obtain ⟨v',hk,hq⟩:=sh_ok (P:=P) (H:=[]) (G:=fun _=>none) (nx:=nx) (ρ:=ρ) e1 e2 hc
         exact Yd.pure hk hq
       rcases aE hq with ⟨hk,hr1⟩ | ⟨_,hr1⟩
       · have:=rE hk
         subst this
         obtain ⟨v',hk,hr1⟩:=bo_ok (P:=P) (H:=[]) (G:=fun _=>none) (nx:=nx) (ρ:=ρ) e1 e2 hr1
         exact Yd.pure hk hr1
       cases hr1
     cases hq
   · rename_i ca hne hx
     split at hq
     · rename_i cb hy
       split at hq
       · rename_i r hr
         obtain ⟨v,e1,k1⟩:=aJ hs hx
         obtain ⟨u,e2,k2⟩:=aJ hs hy
         have he:=fun t'=>aSM (t':=t') (H:=[]) (G:=fun _=>none) hr k1 k2 e1 e2
         split at hq
         · cases hq;exact Yd.pure tL (he _).1
         · cases hq;exact Yd.pure tL (he _).2
         cases hq
       cases hq
     cases hq
   cases hq
 · -- convert
   split at hq
   · rename_i k' ht
     split at hq
     · rename_i d hd
       split at hq
       · rename_i k m hx
         cases hq
         obtain ⟨v,e1,k1⟩:=aJ hs hx
         rw [DV.int.1 k1.2] at e1
         refine Yd.pure hJ fun ty=>?_
         rw [wr_eq]
         exact bE (by rw [hd];rfl) ht e1
       cases hq
     cases hq
   cases hq
 · -- extract
   split at hq
   · rename_i l hx
     obtain ⟨v,e1,k1⟩:=aJ hs hx
     obtain ⟨vs,k2,rfl⟩:=aER k1
     obtain ⟨u,e2,k3⟩:=qH k2 hq
     exact Yd.pure k3 fun ty=>Qy.extract e1 e2
   cases hq
 · -- nilCheck
   split at hq
   · rename_i t o hx
     cases hq
     obtain ⟨v,e1,k1⟩:=aJ hs hx
     have e2:=DV.ptr.1 k1.2
     subst e2
     exact Yd.pure k1 fun ty=>Qy.nilCheck e1
   · rename_i t hx
     cases hq
     obtain ⟨v,e1,k1⟩:=aJ hs hx
     have e2:=DV.mp.1 k1.2
     subst e2
     exact Yd.pure k1 fun ty=>yO e1
   · rename_i f x y hx
     cases hq
     obtain ⟨v,e1,k1⟩:=aJ hs hx
     obtain ⟨xs,ys,_,_,rfl⟩:=rU k1
     exact Yd.pure k1 fun ty=>yP e1
   · rename_i t hx
     cases hq
     obtain ⟨v,e1,k1⟩:=aJ hs hx
     have e2:v=.func (.yield (ρ t).1) #[] #[]:=k1.2
     subst e2
     exact Yd.pure k1 fun ty=>yQ e1
   cases hq
 · -- fieldAddr
   split at hq
   · rename_i t o hx
     split at hq
     · rename_i k hk
       cases hq
       obtain ⟨v,e1,k1⟩:=aJ hs hx
       have e2:=DV.ptr.1 k1.2
       subst e2
       exact Yd.pure (c:=.ptr t (Nat.add o k)) ⟨k1.1,rfl⟩ fun ty=>Qy.fieldAddr (aSJ hk) e1
     cases hq
   cases hq
 · -- field
   split at hq
   · rename_i l hx
     obtain ⟨v,e1,k1⟩:=aJ hs hx
     obtain ⟨vs,k2,rfl⟩:=oS k1
     split at hq
     · rename_i fs hu
       split at hq
       · rename_i fd hf
         rw [gV] at hf
         rcases aE hq with ⟨h1,hr1⟩ | ⟨_,hr1⟩
         · obtain ⟨u,e2,k3⟩:=qH k2 hr1
           exact Yd.pure k3 fun ty=>aJE hu (by simpa using hf) h1 e1 e2
         split at hr1
         · rename_i k hk
           cases hr1
           exact Yd.pure (vN (vG k (vF fd.offset k2))) fun ty=>aJF hu (by simpa using hf) (aNO hk) e1
         cases hr1
       cases hq
     cases hq
   cases hq
 · -- load
   rename_i T x
   split at hq
   · rename_i t o hx
     split at hq
     · rename_i l bt op' st hb
       obtain ⟨v,e1,k1⟩:=aJ hs hx
       have e2:=DV.ptr.1 k1.2
       subst e2
       have hrd:rdT E (.load T x)=some t:=by show (match evo E x with | some (.ptr t _)=>some t | _=>none)=some t;rw [hx]
       obtain ⟨vs,junk,kl,eo,_,_⟩:=hm t _ hrd hb
       rcases aE hq with ⟨h1,hr1⟩ | ⟨_,hr1⟩
       · obtain ⟨u,e2,k3⟩:=aGU kl hr1
         refine Yd.read hrd k3 fun ty=>Qy.load 0 h1 e1 (by rw [eo];rfl) ?_
         rw [List.getElem?_append_left (List.getElem?_eq_some_iff.1 e2).1];exact e2
       split at hr1
       · rename_i k hk
         rcases aE hr1 with ⟨h2,hr2⟩ | ⟨_,hr2⟩
         · cases hr2
           have kk:=kT kl (Nat.eq_of_beq_eq_true (by first | exact hb2 | exact h2 | exact hb | assumption))
           have hlen:=cL kk
           rw [Nat.eq_of_beq_eq_true h2] at hlen
           refine Yd.read hrd (vN kk) fun ty=>bC 0 (aNO hk) e1 (by rw [eo];rfl) ?_ hlen.symm
           have h3:o+k≤vs.length∨k=0:=by
            rw [List.length_take,List.length_drop] at hlen
            omega
           rcases h3 with h3 | h3
           · rw [List.drop_append_of_le_length (by omega),List.take_append_of_le_length (by rw [List.length_drop];omega)]
           subst h3;simp
         cases hr2
       cases hr1
     cases hq
   cases hq
 · -- makeFunc
   split at hq
   · rename_i x hx
     split at hq
     · rename_i y hy
       cases hq
       obtain ⟨us,e1,k1⟩:=tG hs hx
       obtain ⟨vs,e2,k2⟩:=tG hs hy
       exact Yd.pure ⟨⟨k1.1,k2.1⟩,DV.fn.2 ⟨us,vs,k1.2,k2.2,rfl⟩⟩ fun ty=>Qy.makeFunc e1 e2
     cases hq
   cases hq
 · -- indexAddr
   split at hq
   · rename_i k m hi
     obtain ⟨vi,ei,ki⟩:=aJ hs hi
     rw [DV.int.1 ki.2] at ei
     split at hq
     · rename_i t o N sz cc hx
       split at hq
       · rename_i E' sz' hT
         rcases aE hq with ⟨h1,hr1⟩ | ⟨_,hr1⟩
         · cases hr1
           have h1':Nat.beq sz sz'=true∧(ile 0 m && not (ile N m))=true:=by simpa only [Bool.and_eq_true] using h1
           have:=Nat.eq_of_beq_eq_true h1'.1
           subst this
           obtain ⟨v,e1,k1⟩:=aJ hs hx
           obtain ⟨c',rfl⟩:=oT k1
           exact Yd.pure (c:=.ptr t (Nat.add o (Nat.mul m.toNat sz))) ⟨k1.1,rfl⟩ fun ty=>Qy.indexAddr (eW hT) e1 ei (nP h1'.2)
         cases hr1
       cases hq
     · rename_i t o hx
       split at hq
       · rename_i N E' sz hT
         rcases aE hq with ⟨h1,hr1⟩ | ⟨_,hr1⟩
         · cases hr1
           obtain ⟨v,e1,k1⟩:=aJ hs hx
           have e2:=DV.ptr.1 k1.2
           subst e2
           exact Yd.pure (c:=.ptr t (Nat.add o (Nat.mul m.toNat sz))) ⟨k1.1,rfl⟩ fun ty=>xA (vK hT).1 (vK hT).2 e1 ei (nP h1)
         cases hr1
       cases hq
     cases hq
   cases hq
 · -- index
   split at hq
   · rename_i k m hi
     obtain ⟨vi,ei,ki⟩:=aJ hs hi
     rw [DV.int.1 ki.2] at ei
     split at hq
     · rename_i l hx
       split at hq
       · rename_i N E' sz hT
         rcases aE hq with ⟨h1,hr1⟩ | ⟨_,hr1⟩
         · have h1':Nat.beq sz 1=true∧eC P E'=true∧(ile 0 m && not (ile N m))=true:=by simpa only [Bool.and_eq_true] using h1
           have:=Nat.eq_of_beq_eq_true h1'.1
           subst this
           obtain ⟨v,e1,k1⟩:=aJ hs hx
           obtain ⟨vs,k2,rfl⟩:=oS k1
           obtain ⟨u,e2,k3⟩:=qH k2 hr1
           exact Yd.pure k3 fun ty=>Qy.indexV (vK hT).1 h1'.2.1 (vK hT).2 e1 ei (nP h1'.2.2) e2
         rcases aE hr1 with ⟨h2,hr2⟩ | ⟨_,hr2⟩
         · have h2':fD P E' sz=true∧Nat.ble 1 sz=true∧(ile 0 m && not (ile N m))=true:=by simpa only [Bool.and_eq_true] using h2
           cases hr2
           obtain ⟨v,e1,k1⟩:=aJ hs hx
           obtain ⟨vs,k2,rfl⟩:=oS k1
           exact Yd.pure (vN (vG sz (vF (Nat.mul m.toNat sz) k2))) fun ty=>aEQ (vK hT).1 h2'.1 e1 ei (nP h2'.2.2)
         cases hr2
       cases hq
     cases hq
   cases hq
 · -- slice
   split at hq
   · rename_i t o N sz cc hx
     split at hq
     · rename_i E' sz' hT
       rcases aE hq with ⟨h1,hr1⟩ | ⟨_,hr1⟩
       · have:=Nat.eq_of_beq_eq_true h1
         subst this
         split at hr1
         · rename_i l hl
           split at hr1
           · rename_i hi hh
             obtain ⟨v,e1,k1⟩:=aJ hs hx
             obtain ⟨h2,h3,c',rfl,h4,k2⟩:=aQT k1 hr1
             exact Yd.pure k2 fun ty=>sM (eW hT) e1 (zR hs hl h2) (zS hs hh (by omega)) (by omega) h4
           cases hr1
         cases hr1
       cases hr1
     cases hq
   · rename_i hx
     split at hq
     · rename_i x' hT
       obtain ⟨E',sz⟩:=x'
       split at hq
       · rename_i l hl
         split at hq
         · rename_i hi hh
           rcases aE hq with ⟨h1,hr1⟩ | ⟨_,hr1⟩
           · cases hr1
             simp only [Bool.and_eq_true,fS,decide_eq_true_eq] at h1
             obtain ⟨rfl,rfl⟩:=h1
             obtain ⟨v,e1,k1⟩:=aJ hs hx
             have e2:=DV.nils.1 k1.2
             subst e2
             exact Yd.pure k1 fun ty=>sM (eW hT) e1 (zR hs hl (by omega)) (zS hs hh (by omega)) (Nat.le_refl _) (Nat.le_refl _)
           cases hr1
         cases hq
       cases hq
     cases hq
   cases hq
 · -- slice,its room too
   split at hq
   · rename_i t o N sz cc hx
     split at hq
     · rename_i E' sz' hT
       rcases aE hq with ⟨h1,hr1⟩ | ⟨_,hr1⟩
       · have:=Nat.eq_of_beq_eq_true h1
         subst this
         split at hr1
         · rename_i l hl
           split at hr1
           · rename_i hi hh
             split at hr1
             · rename_i kz m hz
               rcases aE hr1 with ⟨h2,hr2⟩ | ⟨_,hr2⟩
               · obtain ⟨v,e1,k1⟩:=aJ hs hx
                 obtain ⟨vz,ez,kkz⟩:=aJ hs hz
                 rw [DV.int.1 kkz.2] at ez
                 have h2':0≤l∧l≤hi∧hi≤m∧aRN m N cc=true:=by
                  simpa only [Bool.and_eq_true,dN,decide_eq_true_eq] using h2
                 obtain ⟨q1,q2,q3,q4⟩:=h2'
                 have hC:∃ C,v=.slice (some ⟨(ρ t).1,o,none⟩) N C∧m.toNat≤C∧o+C*sz≤(ρ t).2∧C≤maxLen:=by
                  cases cc with
                  | some c =>
                    obtain ⟨g1,g2,g3,g4⟩:=eL.1 k1.2
                    have q4':m≤(c:Int):=by
                     have q5:ile m c=true:=q4
                     simpa only [dN,decide_eq_true_eq] using q5
                    exact ⟨c,g1,by omega,g2,g4⟩
                  | none =>
                    obtain ⟨c,g1,g2,g3,g4⟩:=gK.1 k1.2
                    have q4':m≤(N:Int):=by
                     have q5:ile m N=true:=q4
                     simpa only [dN,decide_eq_true_eq] using q5
                    exact ⟨c,g1,by omega,by omega,g4⟩
                 obtain ⟨C,rfl,hmC,hsz,hCm⟩:=hC
                 have hLh:=zS hs hh (show 0≤hi by omega)
                 have hQ:=fun ty=>xZ (P:=P) (H:=[]) (G:=fun _=>none) (ty:=ty) (eW hT) e1 (zR hs hl q1) (h:=hi.toNat) (m:=m.toNat) (kz:=kz) ⟨_,rfl,hLh⟩ (by rw [Int.toNat_of_nonneg (by omega)];exact ez) (by omega) (by omega) hmC
                 rcases aE hr2 with ⟨h3,hr3⟩ | ⟨h3,hr3⟩
                 · cases hr3
                   have h3':=Nat.eq_of_beq_eq_true h3
                   refine Yd.pure ⟨k1.1,eL.2 ⟨rfl,by omega,?_,by simp [maxLen]⟩⟩ fun ty=>?_
                   · show hi.toNat - l.toNat≤0;omega
                   have:=hQ ty
                   rw [if_pos h3',show m.toNat - l.toNat=0 by omega] at this
                   exact this
                 cases hr3
                 have h3':m.toNat≠l.toNat:=fun e=>by rw [e] at h3;simp at h3
                 refine Yd.pure ⟨k1.1,eL.2 ⟨rfl,?_,?_,?_⟩⟩ fun ty=>?_
                 · show o+l.toNat*sz+(m.toNat - l.toNat)*sz≤_
                   have e1:l.toNat*sz+(m.toNat - l.toNat)*sz=m.toNat*sz:=by rw [←Nat.add_mul];congr 1;omega
                   have e2:m.toNat*sz≤C*sz:=Nat.mul_le_mul_right _ hmC
                   omega
                 · show hi.toNat - l.toNat≤m.toNat - l.toNat;omega
                 · show m.toNat - l.toNat≤_;omega
                 have:=hQ ty
                 rw [if_neg h3'] at this
                 show Qy P _ ty _ _ _ (.slice (some ⟨(ρ t).1,o+l.toNat*sz,none⟩) (hi.toNat - l.toNat) (m.toNat - l.toNat))
                 rw [←add_lit]
                 exact this
               cases hr2
             cases hr1
           cases hr1
         cases hr1
       cases hr1
     cases hq
   · rename_i hx
     split at hq
     · rename_i x' hT
       obtain ⟨E',sz⟩:=x'
       split at hq
       · rename_i l hl
         split at hq
         · rename_i hi hh
           split at hq
           · rename_i kz m hz
             rcases aE hq with ⟨h1,hr1⟩ | ⟨_,hr1⟩
             · cases hr1
               simp only [Bool.and_eq_true,fS,decide_eq_true_eq] at h1
               obtain ⟨rfl,rfl,rfl⟩:=h1
               obtain ⟨v,e1,k1⟩:=aJ hs hx
               have e2:=DV.nils.1 k1.2
               subst e2
               obtain ⟨vz,ez,kkz⟩:=aJ hs hz
               rw [DV.int.1 kkz.2] at ez
               refine Yd.pure k1 fun ty=>?_
               have:=xZ (P:=P) (H:=[]) (G:=fun _=>none) (ty:=ty) (eW hT) e1 (zR hs hl (by omega)) (h:=0) (m:=0) (kz:=kz) ⟨_,rfl,zS hs hh (by omega)⟩ ez (Nat.le_refl _) (Nat.le_refl _) (Nat.le_refl _)
               exact this
             cases hr1
           cases hq
         cases hq
       cases hq
     cases hq
   cases hq
 · -- build
   rename_i t parts
   split at hq
   · rename_i fs hu
     split at hq
     · rename_i pl hpl
       split at hq
       · rename_i z hz
         split at hq
         · rename_i l hf
           cases hq
           obtain ⟨i,zv,hi,hzv,kz⟩:=vL hz nx ρ
           obtain ⟨vs,e1,o1,k1⟩:=qM hs kz hf
           rw [cL kz] at o1
           refine Yd.pure (vN k1) fun ty=>Qy.build (pl:=pl) (zs:=zv.cells.toList) ⟨zv,fs.toArray,hu,fun w=>?_,by simp,aSK hpl⟩ e1 o1 rfl
           simp [zeroValue,typeInfo,hi,hzv]
         cases hq
       cases hq
     cases hq
   · rename_i N E' hu
     split at hq
     · rename_i sz hsz
       split at hq
       · rename_i z hz
         split at hq
         · rename_i l hf
           cases hq
           obtain ⟨i,zv,hi,hzv,kz⟩:=vL hz nx ρ
           obtain ⟨vs,e1,o1,k1⟩:=qM hs kz hf
           rw [cL kz] at o1
           refine Yd.pure (vN k1) fun ty=>rB (n:=N) (sz:=sz) (zs:=zv.cells.toList) ⟨zv,E',hu,fun w=>?_,by simp,rT hsz⟩ e1 o1 rfl
           simp [zeroValue,typeInfo,hi,hzv]
         cases hq
       cases hq
     cases hq
   cases hq
 · -- len
   split at hq
   · rename_i t o N sz cc hx
     split at hq
     · rename_i x' hT
       obtain ⟨E',sz'⟩:=x'
       cases hq
       obtain ⟨v,e1,k1⟩:=aJ hs hx
       obtain ⟨c',rfl⟩:=oT k1
       exact Yd.pure hJ fun ty=>Qy.len (eW hT) e1
     cases hq
   · rename_i hx
     split at hq
     · rename_i x' hT
       obtain ⟨E',sz'⟩:=x'
       cases hq
       obtain ⟨v,e1,k1⟩:=aJ hs hx
       have e2:=DV.nils.1 k1.2
       subst e2
       exact Yd.pure hJ fun ty=>Qy.len (eW hT) e1
     cases hq
   · rename_i hx
     split at hq
     · rename_i x' hT
       obtain ⟨E',sz'⟩:=x'
       cases hq
       obtain ⟨v,e1,k1⟩:=aJ hs hx
       obtain ⟨a',c',rfl⟩:=k1.2
       exact Yd.pure hJ fun ty=>Qy.len (eW hT) e1
     cases hq
   · rename_i s hx
     split at hq
     · rename_i hT
       cases hq
       obtain ⟨v,e1,k1⟩:=aJ hs hx
       obtain ⟨bs,rfl,k2⟩:=zT k1
       have e3:=cL k2
       rw [List.length_map] at e3
       refine Yd.pure (v:=.int .i64 ((ByteArray.mk bs.toArray).size:Int)) ?_ fun ty=>aQP hT e1
       rw [show (ByteArray.mk bs.toArray).size=bs.length from by show bs.toArray.size=_;simp,←e3]
       exact hJ
     cases hq
   cases hq
 · -- cap
   split at hq
   · rename_i t o N sz cc hx
     split at hq
     · rename_i x' hT
       obtain ⟨E',sz'⟩:=x'
       cases hq
       obtain ⟨v,e1,k1⟩:=aJ hs hx
       have e2:=(eL.1 k1.2).1
       subst e2
       exact Yd.pure hJ fun ty=>Qy.cap (eW hT) e1
     cases hq
   · rename_i hx
     split at hq
     · rename_i x' hT
       obtain ⟨E',sz'⟩:=x'
       cases hq
       obtain ⟨v,e1,k1⟩:=aJ hs hx
       have e2:=DV.nils.1 k1.2
       subst e2
       exact Yd.pure hJ fun ty=>Qy.cap (eW hT) e1
     cases hq
   cases hq
 · -- min
   split at hq
   · rename_i k m hx
     split at hq
     · rename_i k' m' hy
       rcases aE hq with ⟨h1,hr1⟩ | ⟨_,hr1⟩
       · have:=rE h1
         subst this
         cases hr1
         obtain ⟨v,e1,k1⟩:=aJ hs hx
         obtain ⟨u,e2,k2⟩:=aJ hs hy
         rw [DV.int.1 k1.2] at e1
         rw [DV.int.1 k2.2] at e2
         have e3:(bif ile m m' then m else m')=if m'<m then m' else m:=by
          rw [dN]
          by_cases h2:m≤m'
          · simp [h2,Int.not_lt.2 h2]
          simp [h2,Int.not_le.1 h2]
         rw [e3]
         exact Yd.pure hJ fun ty=>Qy.min e1 e2
       cases hr1
     cases hq
   cases hq
 · -- max
   split at hq
   · rename_i k m hx
     split at hq
     · rename_i k' m' hy
       rcases aE hq with ⟨h1,hr1⟩ | ⟨_,hr1⟩
       · have:=rE h1
         subst this
         cases hr1
         obtain ⟨v,e1,k1⟩:=aJ hs hx
         obtain ⟨u,e2,k2⟩:=aJ hs hy
         rw [DV.int.1 k1.2] at e1
         rw [DV.int.1 k2.2] at e2
         have e3:(bif ile m' m then m else m')=if m<m' then m' else m:=by
          rw [dN]
          by_cases h2:m'≤m
          · simp [h2,Int.not_lt.2 h2]
          simp [h2,Int.not_le.1 h2]
         rw [e3]
         exact Yd.pure hJ fun ty=>Qy.max e1 e2
       cases hr1
     cases hq
   cases hq
 · -- lookup
   rename_i T x i cc
   unfold qvL at hq
   split at hq
   · rename_i t hx
     obtain ⟨v1,e1,k1⟩:=aJ hs hx
     have e1':=vM k1
     subst e1'
     have hrd:rdT E (.lookup T x i cc)=some t:=by show (match evo E x with | some (.mp t)=>some t | _=>none)=some t;rw [hx]
     split at hq
     · rename_i k hi
       obtain ⟨v2,e2,k2⟩:=aJ hs hi
       split at hq
       · rename_i l st hb
         have hob:ob t=cE l:=hm t _ hrd hb
         split at hq
         · rename_i m hk
           rcases aE hq with ⟨h1,hr⟩ | ⟨_,hr⟩
           · cases hr
             obtain ⟨kt,hT⟩:=zP h1
             have e3:=tJ hk k2
             subst e3
             rw [tI fS]
             refine ⟨_,aNR,fun w hw dst ty pos after g=>?_⟩
             have hbk:=hw t hrd
             rw [hob] at hbk
             simp only [execOp,(lookN a w).eval e1,(lookN a w).eval e2,Sem.run_bind,oR hT hbk cc,Result.andThen_ok,Sem.run_pure]
           cases hr
         cases hq
       · rename_i l st hb
         have hob:ob t=cE l:=hm t _ hrd hb
         split at hq
         · rename_i m hk
           rcases aE hq with ⟨h1,hr⟩ | ⟨_,hr⟩
           · cases hr
             obtain ⟨kt,hT⟩:=zQ h1
             have e3:=tK hk k2
             subst e3
             rw [tI zO]
             refine ⟨_,aNR,fun w hw dst ty pos after g=>?_⟩
             have hbk:=hw t hrd
             rw [hob] at hbk
             simp only [execOp,(lookN a w).eval e1,(lookN a w).eval e2,Sem.run_bind,oR hT hbk cc,Result.andThen_ok,Sem.run_pure]
           cases hr
         cases hq
       cases hq
     cases hq
   cases hq
 cases hq
end
def Fit:Nat:=1000000000
theorem vO:Fit=1000000000:=rfl
structure OldX (X:Nat→Prop) (ρ:Pl) (h:Tr CB) (nx:Nat) (w:World) (ρ':Pl) (h':Tr CB) (w':World):Prop where
 old:∀ t b,h'.get t=some b→stB b<nx→h.get t=some b∧w'.heap[(ρ t).1]?=w.heap[(ρ t).1]?
 fr:∀ p,p<w.heap.size→(∀ t b,h.get t=some b→(ρ t).1≠p)→¬X p→w'.heap[p]?=w.heap[p]?
 nw:∀ t b,h'.get t=some b→w.heap.size≤(ρ' t).1∨∃ t' b',h.get t'=some b'∧(ρ t').1=(ρ' t).1
 sz:w.heap.size≤w'.heap.size
abbrev Old:=OldX (fun _=>False)
section
variable {ρ ρ':Pl} {Φ:Imm→Prop} {w0:Bas Φ} {w w' w'':World} {h h' h'':Tr CB} {nx nx':Nat}
theorem OldX.refl {X:Nat→Prop}:OldX X ρ h nx w ρ h w:=⟨fun t b hb _=>⟨hb,rfl⟩,fun _ _ _ _=>rfl,fun t b hb=>.inr ⟨t,b,hb,rfl⟩,Nat.le_refl _⟩
theorem Mem.lt (hm:Mem ρ w0 h nx w) {t:Nat} {b:CB} (ht:h.get t=some b):(ρ t).1<w.heap.size:=by
 obtain ⟨_,_,_,o,h1,_⟩:=hm.own t b ht
 exact (Array.getElem?_eq_some_iff.1 h1).1
theorem Mem.klt (hm:Mem ρ w0 h nx w) {b:Nat} (hb:b∈w0.ks):b<w.heap.size:=(Array.getElem?_eq_some_iff.1 (hm.kept b hb).2.1).1
theorem sN {X:Nat→Prop} {ρ2:Pl} (hm:Mem ρ w0 h nx w) (k1:Old ρ h nx w ρ' h' w') (k2:OldX X ρ' h' nx' w' ρ2 h'' w'') (hX:∀ p,X p→w.heap.size≤p) (hn:nx≤nx') (he:Ext nx ρ ρ'):Old ρ h nx w ρ2 h'' w'':=by
 refine ⟨fun t b hb hs=>?_,fun p hp hu _=>?_,fun t b hb=>?_,Nat.le_trans k1.sz k2.sz⟩
 · obtain ⟨a1,a2⟩:=k2.old t b hb (Nat.lt_of_lt_of_le hs hn)
   obtain ⟨b1,b2⟩:=k1.old t b a1 hs
   have e:=he t (hm.own t b b1).1
   rw [e] at a2
   exact ⟨b1,a2.trans b2⟩
 · refine (k2.fr p (Nat.lt_of_lt_of_le hp k1.sz) (fun t b hb e=>?_) (fun hx=>Nat.lt_irrefl _ (Nat.lt_of_lt_of_le hp (hX p hx)))).trans (k1.fr p hp hu id)
   rcases k1.nw t b hb with h1 | ⟨t',b',h1,h2⟩
   · omega
   exact hu t' b' h1 (h2.trans e)
 rcases k2.nw t b hb with h1 | ⟨t',b',h1,h2⟩
 · exact .inl (Nat.le_trans k1.sz h1)
 rw [←h2];exact k1.nw t' b' h1
theorem OldX.trans {ρ2:Pl} (hm:Mem ρ w0 h nx w) (k1:Old ρ h nx w ρ' h' w') (k2:Old ρ' h' nx' w' ρ2 h'' w'') (hn:nx≤nx') (he:Ext nx ρ ρ'):Old ρ h nx w ρ2 h'' w'':=sN hm k1 k2 (fun _ h=>h.elim) hn he
theorem Mem.new (hm:Mem ρ w0 h nx w) (hf:nx<Fit) {b:CB} {o:Obj} {s:Nat} (hst:stB b=nx) (hu:Upd (fun _=>False) w w') (hs:w'.heap.size=w.heap.size+1) (ho:w'.heap[w.heap.size]?=some o) (hb:DB nx ρ s b o) :
 ∃ ρ',Ext nx ρ ρ'∧ρ' nx=(w.heap.size,s)∧Mem ρ' w0 (h.set (some b) Fit nx) (nx+1) w'∧Old ρ h nx w ρ' (h.set (some b) Fit nx) w':=by
 have hext:Ext nx ρ (fun t=>if t=nx then (w.heap.size,s) else ρ t):=fun t ht=>by simp [Nat.ne_of_lt ht]
 have get:=fun j=>bB (some b) Fit h nx j hf
 refine ⟨fun t=>if t=nx then (w.heap.size,s) else ρ t,hext,by simp,⟨hm.upd.trans hu,?_,?_,hm.imm,hm.nod,fun c hc=>?_⟩,?_⟩
 · intro t b' ht
   rw [get] at ht
   by_cases e:t=nx
   · subst e
     rw [if_pos rfl] at ht
     cases ht
     simp only [if_true]
     exact ⟨by omega,by omega,hm.upd.size,o,ho,hb.up (Nat.le_succ _) hext⟩
   rw [if_neg e] at ht
   obtain ⟨h1,hs1,h2,o',h3,h4⟩:=hm.own t b' ht
   simp only [e,if_false]
   refine ⟨by omega,by omega,h2,o',?_,h4.up (Nat.le_succ _) hext⟩
   rw [hu.same _ (hm.lt ht) id];exact h3
 · intro t t' b1 b2 h1 h2 he
   rw [get] at h1 h2
   by_cases e:t=nx <;> by_cases e':t'=nx
   · rw [e,e']
   · rw [if_neg e'] at h2
     have:=hm.lt h2
     simp only [e,e',if_true,if_false] at he
     omega
   · rw [if_neg e] at h1
     have:=hm.lt h1
     simp only [e,e',if_true,if_false] at he
     omega
   rw [if_neg e] at h1
   rw [if_neg e'] at h2
   simp only [e,e',if_false] at he
   exact hm.one t t' b1 b2 h1 h2 he
 · obtain ⟨k1,k2,k3⟩:=hm.kept c hc
   have hl:=hm.klt hc
   refine ⟨k1,(hu.same _ hl id).trans k2,fun t b' ht=>?_⟩
   rw [get] at ht
   by_cases e:t=nx
   · simp only [e,if_true];omega
   rw [if_neg e] at ht
   simp only [e,if_false]
   exact k3 t b' ht
 refine ⟨fun t b' hb' hst'=>?_,fun p hp _ _=>hu.same _ hp id,fun t b' hb'=>?_,hu.size⟩
 · rw [get] at hb'
   by_cases e:t=nx
   · rw [if_pos e] at hb';cases hb';omega
   rw [if_neg e] at hb'
   exact ⟨hb',hu.same _ (hm.lt hb') id⟩
 rw [get] at hb'
 by_cases e:t=nx
 · simp only [e,if_true];exact .inl (Nat.le_refl _)
 rw [if_neg e] at hb'
 simp only [e,if_false];exact .inr ⟨t,b',hb',rfl⟩
theorem Mem.write (hm:Mem ρ w0 h nx w) (hf:nx≤Fit) {t:Nat} {b b':CB} {o:Obj} (hst:stB b'=nx) (ht:h.get t=some b) (hu:Upd (·=(ρ t).1) w w') (ho:w'.heap[(ρ t).1]?=some o) (hb:DB nx ρ (ρ t).2 b' o) :
 Mem ρ w0 (h.set (some b') Fit t) (nx+1) w'∧Old ρ h nx w ρ (h.set (some b') Fit t) w':=by
 obtain ⟨h1,hs1,h2,_⟩:=hm.own t b ht
 have get:=fun j=>bB (some b') Fit h t j (by omega)
 refine ⟨⟨⟨hu.os.trans hm.upd.os,hu.tape.trans hm.upd.tape,hu.output.trans hm.upd.output,Nat.le_trans hm.upd.size hu.size,fun k hk hx=>?_⟩,?_,?_,hm.imm,hm.nod,fun c hc=>?_⟩,?_⟩
 · exact (hu.same k (Nat.lt_of_lt_of_le hk hm.upd.size) (by omega)).trans (hm.upd.same k hk hx)
 · intro t' c hc
   rw [get] at hc
   by_cases e:t'=t
   · subst e
     rw [if_pos rfl] at hc
     cases hc
     exact ⟨by omega,by omega,h2,o,ho,hb.up (Nat.le_succ _) (Ext.refl _ _)⟩
   rw [if_neg e] at hc
   obtain ⟨g1,gs,g2,o',g3,g4⟩:=hm.own t' c hc
   refine ⟨by omega,by omega,g2,o',?_,g4.up (Nat.le_succ _) (Ext.refl _ _)⟩
   rw [hu.same _ (hm.lt hc) (fun e2=>e (hm.one t' t c b hc ht e2))];exact g3
 · intro t1 t2 b1 b2 e1 e2 he
   have f:∀ t' c,(h.set (some b') Fit t).get t'=some c→∃ c',h.get t'=some c':=fun t' c hc=>by
    rw [get] at hc
    by_cases e:t'=t
    · subst e;exact ⟨b,ht⟩
    rw [if_neg e] at hc;exact ⟨c,hc⟩
   obtain ⟨c1,g1⟩:=f t1 b1 e1
   obtain ⟨c2,g2⟩:=f t2 b2 e2
   exact hm.one t1 t2 c1 c2 g1 g2 he
 · obtain ⟨k1,k2,k3⟩:=hm.kept c hc
   refine ⟨k1,(hu.same _ (hm.klt hc) (fun e=>k3 t b ht e.symm)).trans k2,fun t' b' ht'=>?_⟩
   rw [get] at ht'
   by_cases e:t'=t
   · subst e;exact k3 _ _ ht
   rw [if_neg e] at ht';exact k3 _ _ ht'
 refine ⟨fun t' c hc hs'=>?_,fun p hp hup _=>hu.same _ hp (fun e=>hup t b ht e.symm),fun t' c hc=>?_,hu.size⟩
 · rw [get] at hc
   by_cases e:t'=t
   · rw [if_pos e] at hc;cases hc;omega
   rw [if_neg e] at hc
   exact ⟨hc,hu.same _ (hm.lt hc) (fun e2=>e (hm.one t' t c b hc ht e2))⟩
 rw [get] at hc
 by_cases e:t'=t
 · exact .inr ⟨t,b,ht,by rw [e]⟩
 rw [if_neg e] at hc;exact .inr ⟨t',c,hc,rfl⟩
theorem Mem.kill (hm:Mem ρ w0 h nx w) (hf:nx≤Fit) {t:Nat} (ht:t<nx):Mem ρ w0 (h.set none Fit t) nx w∧Old ρ h nx w ρ (h.set none Fit t) w:=by
 have get:=fun j=>bB (none:Option CB) Fit h t j (by omega)
 have f:∀ t' c,(h.set none Fit t).get t'=some c→h.get t'=some c:=fun t' c hc=>by
  rw [get] at hc
  by_cases e:t'=t
  · rw [if_pos e] at hc;cases hc
  rw [if_neg e] at hc;exact hc
 exact ⟨⟨hm.upd,fun t' c hc=>hm.own t' c (f t' c hc),fun t1 t2 b1 b2 e1 e2 he=>hm.one t1 t2 b1 b2 (f _ _ e1) (f _ _ e2) he,hm.imm,hm.nod,fun c hc=>⟨(hm.kept c hc).1,(hm.kept c hc).2.1,fun t' b' ht'=>(hm.kept c hc).2.2 t' b' (f _ _ ht')⟩⟩,⟨fun t' c hc _=>⟨f _ _ hc,rfl⟩,fun _ _ _ _=>rfl,fun t' c hc=>.inr ⟨t',c,f _ _ hc,rfl⟩,Nat.le_refl _⟩⟩
theorem Mem.rename (hm:Mem ρ w0 h nx w) (hf:nx<Fit) {t:Nat} {b b':CB} {o:Obj} (hst:stB b'=nx) (ht:h.get t=some b) (hu:Upd (·=(ρ t).1) w w') (ho:w'.heap[(ρ t).1]?=some o) (hb:DB nx ρ (ρ t).2 b' o) :
 ∃ ρ',Ext nx ρ ρ'∧ρ' nx=ρ t∧Mem ρ' w0 ((h.set none Fit t).set (some b') Fit nx) (nx+1) w'∧Old ρ h nx w ρ' ((h.set none Fit t).set (some b') Fit nx) w':=by
 have htn:=(hm.own t b ht).1
 have h0:=(hm.own t b ht).2.2.1
 have hext:Ext nx ρ (fun u=>if u=nx then ρ t else ρ u):=fun u hu=>by simp [Nat.ne_of_lt hu]
 have g1:=fun j=>bB (none:Option CB) Fit h t j (by omega)
 have get:=fun j=>bB (some b') Fit (h.set none Fit t) nx j hf
 have f:∀ u c,((h.set none Fit t).set (some b') Fit nx).get u=some c→(u=nx∧c=b')∨(u≠nx∧u≠t∧h.get u=some c):=fun u c hc=>by
  rw [get] at hc
  by_cases e:u=nx
  · rw [if_pos e] at hc;cases hc;exact .inl ⟨e,rfl⟩
  rw [if_neg e,g1] at hc
  by_cases e2:u=t
  · rw [if_pos e2] at hc;cases hc
  rw [if_neg e2] at hc;exact .inr ⟨e,e2,hc⟩
 refine ⟨_,hext,by simp,⟨⟨hu.os.trans hm.upd.os,hu.tape.trans hm.upd.tape,hu.output.trans hm.upd.output,Nat.le_trans hm.upd.size hu.size,fun k hk hx=>?_⟩,?_,?_,hm.imm,hm.nod,fun c hc=>?_⟩,?_⟩
 · exact (hu.same k (Nat.lt_of_lt_of_le hk hm.upd.size) (by omega)).trans (hm.upd.same k hk hx)
 · intro u c hc
   rcases f u c hc with ⟨rfl,rfl⟩ | ⟨e1,e2,h1⟩
   · simp only [if_true]
     exact ⟨by omega,by omega,h0,o,ho,hb.up (Nat.le_succ _) hext⟩
   obtain ⟨k1,ks,k2,o',k3,k4⟩:=hm.own u c h1
   simp only [e1,if_false]
   refine ⟨by omega,by omega,k2,o',?_,k4.up (Nat.le_succ _) hext⟩
   rw [hu.same _ (hm.lt h1) (fun e3=>e2 (hm.one u t c b h1 ht e3))];exact k3
 · intro u u' c c' hc hc' he
   rcases f u c hc with ⟨rfl,rfl⟩ | ⟨e1,e2,h1⟩ <;> rcases f u' c' hc' with ⟨rfl,rfl⟩ | ⟨e1',e2',h1'⟩
   · rfl
   · simp only [if_true,e1',if_false] at he
     exact absurd (hm.one t u' b c' ht h1' he) (fun e=>e2' e.symm)
   · simp only [if_true,e1,if_false] at he
     exact absurd (hm.one u t c b h1 ht he) e2
   simp only [e1,e1',if_false] at he
   exact hm.one u u' c c' h1 h1' he
 · obtain ⟨k1,k2,k3⟩:=hm.kept c hc
   refine ⟨k1,(hu.same _ (hm.klt hc) (fun e=>k3 t b ht e.symm)).trans k2,fun t' c' ht'=>?_⟩
   rcases f t' c' ht' with ⟨rfl,rfl⟩ | ⟨e1,e2,h1⟩
   · simp only [if_true];exact k3 _ _ ht
   simp only [e1,if_false];exact k3 _ _ h1
 refine ⟨fun u c hc hs=>?_,fun p hp hup _=>hu.same _ hp (fun e=>hup t b ht e.symm),fun u c hc=>?_,hu.size⟩
 · rcases f u c hc with ⟨rfl,rfl⟩ | ⟨e1,e2,h1⟩
   · omega
   exact ⟨h1,hu.same _ (hm.lt h1) (fun e3=>e2 (hm.one u t c b h1 ht e3))⟩
 rcases f u c hc with ⟨rfl,rfl⟩ | ⟨e1,e2,h1⟩
 · simp only [if_true];exact .inr ⟨t,b,ht,rfl⟩
 simp only [e1,if_false];exact .inr ⟨u,c,h1,rfl⟩
end
section
variable {Φ:Imm→Prop} {ρ ρ':Pl} {w0:Bas Φ} {w w':World} {E E':Tr CV} {h h':Tr CB} {nx nx' n:Nat} {a a':Act}
theorem Mem.base {ks:List Nat} {W:World} {G:Imm} {ok:Φ G} {s s':Nat} (hm:Mem ρ ⟨W,ks,G,ok,s⟩ h nx w):Mem ρ ⟨W,ks,G,ok,s'⟩ h nx w:=⟨hm.upd,hm.own,hm.one,hm.imm,hm.nod,hm.kept⟩
theorem Mem.less {ks os:List Nat} {W:World} {G:Imm} {ok:Φ G} {s:Nat} (hm:Mem ρ ⟨W,os++ks,G,ok,s⟩ h nx w):Mem ρ ⟨W,ks,G,ok,s⟩ h nx w:=
 ⟨hm.upd,hm.own,hm.one,hm.imm,(List.nodup_append.1 hm.nod).2.1,fun b hb=>hm.kept b (List.mem_append_right _ hb)⟩
theorem Rel.slots (hR:Rel ρ w0 n E h nx a w):Slots ρ E nx n a:=by obtain ⟨os,hR⟩:=hR;exact hR.slots
theorem Rel.mem (hR:Rel ρ w0 n E h nx a w):Mem ρ w0 h nx w:=by obtain ⟨os,hR⟩:=hR;exact hR.mem.less
theorem Rel.put (hR:Rel ρ w0 n E h nx a w) {d:Option Nat} {v:Value} (hs:Slots ρ E' nx n (a.put d v)):Rel ρ w0 n E' h nx (a.put d v) w:=by
 obtain ⟨os,hR⟩:=hR
 exact ⟨os,hs,(show (a.put d v).defers=a.defers by cases d <;> rfl).trans hR.defers,hR.mem,hR.mks,hR.ss⟩
theorem Mem.grow (hm:Mem ρ w0 h nx w) (hu:Upd (fun _=>False) w w'):Mem ρ w0 h nx w'∧Old ρ h nx w ρ h w':=by
 refine ⟨⟨hm.upd.trans hu,fun t b ht=>?_,hm.one,hm.imm,hm.nod,fun b hb=>?_⟩,⟨fun t b hb _=>⟨hb,hu.same _ (hm.lt hb) id⟩,fun p hp _ _=>hu.same _ hp id,fun t b hb=>.inr ⟨t,b,hb,rfl⟩,hu.size⟩⟩
 · obtain ⟨h1,h2,h3,o,h4,h5⟩:=hm.own t b ht
   exact ⟨h1,h2,h3,o,(hu.same _ (hm.lt ht) id).trans h4,h5⟩
 obtain ⟨k1,k2,k3⟩:=hm.kept b hb
 exact ⟨k1,(hu.same _ (hm.klt hb) id).trans k2,k3⟩
theorem Mem.keep {ks:List Nat} {W:World} {G:Imm} {ok:Φ G} {s:Nat} (hm:Mem ρ ⟨W,ks,G,ok,s⟩ h nx w):Mem ρ ⟨W,w.heap.size :: ks,G,ok,s⟩ h nx (w.alloc (.deferred (some [])))∧Old ρ h nx w ρ h (w.alloc (.deferred (some []))):=by
 obtain ⟨g1,g2⟩:=hm.grow (w':=w.alloc (.deferred (some []))) ((Upd.refl _ w).alloc _)
 have hn:w.heap.size ∉ ks:=fun hb=>Nat.lt_irrefl _ (hm.klt hb)
 refine ⟨⟨g1.upd,g1.own,g1.one,g1.imm,List.nodup_cons.2 ⟨hn,hm.nod⟩,fun b hb=>?_⟩,g2⟩
 rcases List.mem_cons.1 hb with rfl | hb
 · refine ⟨hm.upd.size,cG w _,fun t c ht=>?_⟩
   have:=hm.lt ht
   omega
 exact g1.kept b hb
theorem Mem.shut {b:Nat} {ks:List Nat} {W:World} {G:Imm} {ok:Φ G} {s:Nat} (hm:Mem ρ ⟨W,b :: ks,G,ok,s⟩ h nx w):Mem ρ ⟨W,ks,G,ok,s⟩ h nx (w.putObj b (.deferred none))∧OldX (·=b) ρ h nx w ρ h (w.putObj b (.deferred none)):=by
 obtain ⟨k1,k2,k3⟩:=hm.kept b (List.mem_cons_self ..)
 have hu:=lK w b (.deferred none)
 have hnd:=List.nodup_cons.1 hm.nod
 refine ⟨⟨⟨hu.os.trans hm.upd.os,hu.tape.trans hm.upd.tape,hu.output.trans hm.upd.output,Nat.le_trans hm.upd.size hu.size,fun k hk hx=>?_⟩,fun t c ht=>?_,hm.one,hm.imm,hnd.2,fun c hc=>?_⟩,⟨fun t c hc _=>⟨hc,hu.same _ (hm.lt hc) (k3 t c hc)⟩,fun p hp _ hx=>hu.same _ hp hx,fun t c hc=>.inr ⟨t,c,hc,rfl⟩,hu.size⟩⟩
 · exact (hu.same k (Nat.lt_of_lt_of_le hk hm.upd.size) (fun e=>by subst e;exact absurd k1 (by show ¬W.heap.size≤k;exact Nat.not_le.2 hk))).trans (hm.upd.same k hk hx)
 · obtain ⟨h1,h2,h3,o,h4,h5⟩:=hm.own t c ht
   exact ⟨h1,h2,h3,o,(hu.same _ (hm.lt ht) (k3 t c ht)).trans h4,h5⟩
 obtain ⟨q1,q2,q3⟩:=hm.kept c (List.mem_cons_of_mem _ hc)
 exact ⟨q1,(hu.same _ (hm.klt (List.mem_cons_of_mem _ hc)) (fun e=>hnd.1 (by rw [←e];exact hc))).trans q2,q3⟩
end
inductive Ro where
 | bad
 | val (v:CV) (h:Tr CB) (nx:Nat)
 | unit (h:Tr CB) (nx:Nat)
def Wd {Φ:Imm→Prop} (P:Program) (op:Op) (ρ:Pl) (w0:Bas Φ) (h:Tr CB) (nx:Nat) (a:Act) (w:World):Ro→Prop
 | .bad=>True
 | .val c h' nx'=>nx≤nx'∧∃ v w' ρ',Ext nx ρ ρ'∧Kn nx' ρ' c v∧Mem ρ' w0 h' nx' w'∧nx'≤Fit∧Old ρ h nx w ρ' h' w'∧∀ (d:Option Tmp) (ty:TypeId) (pos:String) (after:Array Edge) (g:Option (Nat×Bool)),(execOp a.eval ⟨d,op,ty,pos,after,g⟩).run P w=.ok (.value v) w'
 | .unit h' nx'=>nx≤nx'∧∃ w' ρ',Ext nx ρ ρ'∧Mem ρ' w0 h' nx' w'∧nx'≤Fit∧Old ρ h nx w ρ' h' w'∧∀ (ty:TypeId) (pos:String) (after:Array Edge) (g:Option (Nat×Bool)),(execOp a.eval ⟨none,op,ty,pos,after,g⟩).run P w=.ok .skip w'
section
variable {P:Program} {w:World}
theorem qN {t tx ty e:TypeId} {i:TypeInfo} (ht:P.underlying t=some (.slice e)) (hi:P.info? e=some i) {b off sLen sCap:Nat} {cur:Array Value} {bt:TypeId} (hb:w.heap[b]?=some (.cells cur bt (0,0))) {x:Value} {n:Nat} {news:List Value} (hs:Go.Src P i.size tx x n news w)
 (hroom:sLen+n≤sCap) (hfit:off+sLen*i.size+news.length≤cur.size) :
 (Builtin.append_ #[t,tx] ty #[.slice (some ⟨b,off,none⟩) sLen sCap,x]).run P w=.ok (.slice (some ⟨b,off,none⟩) (sLen+n) sCap) (w.setRow b (cur.toList.take (off+sLen*i.size)++news++cur.toList.drop (off+sLen*i.size+news.length)).toArray):=by
 have hst:=run_storeCells_at P b (off+sLen*i.size) bt news 0 cur w hb (by simpa using hfit) hs.one
 simp only [Nat.add_zero] at hst
 rcases hs.kind with ⟨e',hk⟩ | hk <;> simp [Builtin.append_,run_underlying ht,run_underlying hk,sizeOf,typeInfo,hi,hs.len,hroom,hs.cells,Addr.add_lit,hst]
theorem aNS {t tx ty e:TypeId} {i:TypeInfo} (ht:P.underlying t=some (.slice e)) (hi:P.info? e=some i) {b off dLen dCap:Nat} {cur:Array Value} {bt:TypeId} (hb:w.heap[b]?=some (.cells cur bt (0,0))) {src:Addr} {sLen sCap k:Nat} {news:List Value}
 (hk:Nat.min sLen dLen=k) (hl:news.length=k*i.size) (hn:∀ j v,news[j]?=some v→w.cell? (src.add j)=some v) (h1:∀ v∈news,v.oneCell'=true) (hfit:off+news.length≤cur.size) :
 (Builtin.copy_ #[t,tx] ty #[.slice (some ⟨b,off,none⟩) dLen dCap,.slice (some src) sLen sCap]).run P w=.ok (.int .i64 (k:Int)) (w.setRow b (cur.toList.take off++news++cur.toList.drop (off+news.length)).toArray):=by
 have hst:=run_storeCells_at P b off bt news 0 cur w hb (by simpa using hfit) h1
 simp only [Nat.add_zero] at hst
 have hld:=run_loadCells_list (P:=P) w src news hn
 rw [hl] at hld
 simp [Builtin.copy_,run_underlying ht,Builtin.lenOf,Builtin.firstCells,sizeOf,typeInfo,hi,hk,hld,hst,goInt]
theorem aJJ {t tx ty e:TypeId} {i:TypeInfo} (ht:P.underlying t=some (.slice e)) (hi:P.info? e=some i) {d a:Option Addr} {dLen dCap sLen sCap:Nat} (hk:Nat.min sLen dLen=0) :
 (Builtin.copy_ #[t,tx] ty #[.slice d dLen dCap,.slice a sLen sCap]).run P w=.ok (.int .i64 0) w:=by
 have hl:∀ (x:Addr),(loadCells x 0).run P w=.ok #[] w:=fun x=>by simpa using run_loadCells_list (P:=P) w x [] (by simp)
 cases d <;> cases a <;> simp [Builtin.copy_,run_underlying ht,Builtin.lenOf,Builtin.firstCells,sizeOf,typeInfo,hi,hk,storeCells,hl,goInt]
theorem tM {zs:List Value} (h0:0<zs.length) (n:Nat):madeCells zs.toArray (n*zs.length)=(List.replicate n zs).flatten.toArray:=by
 apply Array.ext'
 apply List.ext_getElem?
 intro q
 have hlen:(List.replicate n zs).flatten.length=n*zs.length:=by simp
 by_cases hq:q<n*zs.length
 · have h6:q % zs.length<zs.length:=Nat.mod_lt _ h0
   have h7:zs.toArray[q % zs.toArray.size]! = zs[q % zs.length]'h6:=by
    rw [getElem!_pos zs.toArray _ (by simpa using h6)]
    simp
   simp only [madeCells,Array.toList_map,Array.toList_range,List.getElem?_map,List.getElem?_range hq,Option.map_some,h7]
   symm
   have key:∀ (n q:Nat),q<n*zs.length→(List.replicate n zs).flatten[q]?=some (zs[q % zs.length]'(Nat.mod_lt _ h0)):=by
    intro n
    induction n with
    | zero=>intro q h;simp at h
    | succ n ih =>
      intro q h
      rw [List.replicate_succ,List.flatten_cons]
      by_cases hz:q<zs.length
      · rw [List.getElem?_append_left hz,List.getElem?_eq_getElem hz]
        congr 1
        simp only [Nat.mod_eq_of_lt hz]
      have h2:zs.length≤q:=by omega
      rw [List.getElem?_append_right h2,ih (q - zs.length) (by rw [Nat.succ_mul] at h;omega)]
      congr 1
      have h3:(q - zs.length) % zs.length=q % zs.length:=by rw [←Nat.mod_eq_sub_mod h2]
      simp only [h3]
   exact key n q hq
 rw [List.getElem?_eq_none (by simp [madeCells];omega),List.getElem?_eq_none (by show (List.replicate n zs).flatten.length≤q;omega)]
end
def elQ (P:Program) (T:Nat):Option (Nat×Nat×Nat×CV):=match P.underlying T with
 | some (.slice E)=>match P.info? E with
   | some i=>match zeQ P E with
     | some z=>bif Nat.beq (cC z) i.size && Nat.ble 1 i.size then some (E,i.size,i.bytes,z) else none
     | none=>none
   | none=>none
 | _=>none
theorem rV {P:Program} {T E sz by':Nat} {z:CV} (h:elQ P T=some (E,sz,by',z)) (nx:Nat) (ρ:Pl) :
 P.underlying T=some (.slice E)∧∃ i v,P.info? E=some i∧i.zero=some v∧i.size=sz∧i.bytes=by'∧KL nx ρ z v.cells.toList∧v.cells.toList.length=sz∧0<sz:=by
 unfold elQ at h
 split at h
 · rename_i E' hu
   split at h
   · rename_i i hi
     split at h
     · rename_i z' hz
       rcases aE h with ⟨h1,h⟩ | ⟨_,h⟩
       · cases h
         simp only [Bool.and_eq_true] at h1
         obtain ⟨i',v,hi',hv,kz⟩:=vL hz nx ρ
         rw [hi] at hi'
         cases hi'
         have:=Nat.eq_of_beq_eq_true h1.1
         rw [cL kz] at this
         exact ⟨hu,i,v,hi,hv,rfl,rfl,kz,this,Nat.le_of_ble_eq_true h1.2⟩
       cases h
     cases h
   cases h
 cases h
def srcC (P:Program) (E:Tr CV) (h:Tr CB) (sz:Nat) (tx:Nat) (x:Operand):Option (Nat×CV):=match evo E x with
 | some .nils=>match slQ P tx with | some _=>some (0,.nil) | none=>none
 | some (.sl t o n sz' _)=>bif Nat.beq sz sz' then (match slQ P tx with
   | some _=>(match h.get t with
     | some (.cells l _ _ _)=>bif Nat.beq (cC (cU l o (Nat.mul n sz))) (Nat.mul n sz) && qG (cU l o (Nat.mul n sz)) then some (n,cU l o (Nat.mul n sz)) else none
     | _=>none)
   | none=>none) else none
 | some (.str s)=>bif Nat.beq sz 1 then (match P.underlying tx with | some .string=>some (cC s,s) | _=>none) else none
 | _=>none
def apC (P:Program) (E:Tr CV) (h:Tr CB) (nx:Nat) (T tx:Nat) (s x:Operand):Ro:=match elQ P T with
 | some (e,sz,by',_)=>match srcC P E h sz tx x with
   | some (m,news)=>match evo E s with
     | some .nils=>bif Nat.beq m 0 then .bad else
      bif Nat.ble (Nat.mul m by') 140737488355328 && (Nat.ble m 4611686018427387904 && Nat.ble (Nat.succ nx) Fit) then .val (.sl nx 0 m sz none) (h.set (some (.cells (ofR news) e true nx)) Fit nx) (Nat.succ nx) else .bad
     | some (.sl t o n sz' c)=>bif not (Nat.beq sz sz') then .bad else bif Nat.beq m 0 then .val (.sl t o n sz c) h nx else
       (match h.get t with
       | some (.cells l bt op _)=>bif not (Nat.beq bt e) then .bad else
         (match c with
         | some c=>bif Nat.ble (Nat.add n m) c then
          (bif Nat.ble (Nat.add o (Nat.mul (Nat.add n m) sz)) l.n && Nat.ble (Nat.succ nx) Fit then .val (.sl t o (Nat.add n m) sz (some c)) (h.set (some (.cells (wZ (Nat.add o (Nat.mul n sz)) news l) bt op nx)) Fit t) (Nat.succ nx) else .bad)
           else
            (bif Nat.ble (Nat.mul (Nat.add n m) by') 140737488355328 && (Nat.ble (Nat.add n m) 4611686018427387904 && (Nat.ble (Nat.succ nx) Fit && Nat.beq (cC (cU l o (Nat.mul n sz))) (Nat.mul n sz))) then
             .val (.sl nx 0 (Nat.add n m) sz none) (h.set (some (.cells (ofR (kS (cU l o (Nat.mul n sz)) news)) e true nx)) Fit nx) (Nat.succ nx) else .bad)
         | none=>bif Nat.ble (Nat.add o (Nat.mul (Nat.add n m) sz)) l.n && Nat.ble (Nat.succ nx) Fit then .val (.sl t o (Nat.add n m) sz none) (h.set (some (.cells (wZ (Nat.add o (Nat.mul n sz)) news l) bt op nx)) Fit t) (Nat.succ nx)
           else
            bif (Nat.beq o 0 && Nat.beq (Nat.mul n sz) l.n) && (Nat.ble (Nat.mul (Nat.add n m) by') 140737488355328 && (Nat.ble (Nat.add n m) 4611686018427387904 && Nat.ble (Nat.succ nx) Fit)) then
             .val (.sl nx 0 (Nat.add n m) sz none) ((h.set none Fit t).set (some (.cells (appR l news) e true nx)) Fit nx) (Nat.succ nx) else .bad)
       | _=>.bad)
     | _=>.bad
   | none=>.bad
 | none=>.bad
def wv0 (P:Program) (E:Tr CV) (h:Tr CB) (nx:Nat) (T:TypeId):Ro:=match zeQ P T with
 | some z=>bif Nat.ble (Nat.succ nx) Fit then .val (.ptr nx 0) (h.set (some (.cells (ofR z) T false nx)) Fit nx) (Nat.succ nx) else .bad
 | none=>.bad
def wv1 (P:Program) (E:Tr CV) (h:Tr CB) (nx:Nat) (T:TypeId) (x:Operand):Ro:=match evo E x with
 | some c=>match kI c with
   | some l=>bif Nat.ble (Nat.succ nx) Fit then .val (.ptr nx 0) (h.set (some (.cells (ofR l) T false nx)) Fit nx) (Nat.succ nx) else .bad
   | none=>.bad
 | none=>.bad
def wv2 (P:Program) (E:Tr CV) (h:Tr CB) (nx:Nat) (T:TypeId) (x:Operand) (y:Operand):Ro:=match evo E x with
 | some (.ptr t o)=>match evo E y with
   | some c=>match kI c with
     | some m=>match h.get t with
       | some (.cells l bt op _)=>match szQ P T with
         | some k=>bif Nat.beq (cC m) k && (qG m && (Nat.ble (Nat.add o k) l.n && Nat.ble (Nat.succ nx) Fit)) then .unit (h.set (some (.cells (wZ o m l) bt op nx)) Fit t) (Nat.succ nx) else .bad
         | none=>.bad
       | _=>.bad
     | none=>.bad
   | none=>.bad
 | _=>.bad
def wv3 (P:Program) (E:Tr CV) (h:Tr CB) (nx:Nat) (T:TypeId) (n:Nat) (parts:List (Nat×Operand)):Ro:=match elQ P T with
 | some (e,sz,_,z)=>bif Nat.ble 1 n && (Nat.ble (Nat.mul n sz) 16777216 && Nat.ble (Nat.succ nx) Fit) then
  (match qL E (dW n sz) (Nat.mul n sz) parts (aEM z n) with
  | some l=>.val (.sl nx 0 n sz (some n)) (h.set (some (.cells (ofR l) e false nx)) Fit nx) (Nat.succ nx)
  | none=>.bad) else .bad
 | none=>.bad
def wv4 (P:Program) (E:Tr CV) (h:Tr CB) (nx:Nat) (T:TypeId) (x:Operand) (y:Operand):Ro:=match elQ P T with
 | some (e,sz,by',z)=>match evo E x with
   | some (.int _ n)=>match evo E y with
     | some (.int _ c)=>bif ile 0 n && (ile n c && (Nat.ble (Nat.mul by' c.toNat) 281474976710656 && (Nat.ble c.toNat 4611686018427387904 && Nat.ble (Nat.succ nx) Fit))) then
      .val (.sl nx 0 n.toNat sz (some c.toNat)) (h.set (some (.cells (ofR (aEM z c.toNat)) e false nx)) Fit nx) (Nat.succ nx) else .bad
     | _=>.bad
   | _=>.bad
 | none=>.bad
def wv6 (P:Program) (E:Tr CV) (h:Tr CB) (nx:Nat) (d:Operand) (x:Operand) (T:TypeId):Ro:=match elQ P T with
 | some (_,sz,_,_)=>match evo E d with
   | some (.sl t o n sz' _)=>match evo E x with
     | some (.sl t2 o2 n2 sz2 _)=>bif Nat.beq sz sz' && Nat.beq sz sz2 then
      (match h.get t with
      | some (.cells l bt op _)=>(match h.get t2 with
        | some (.cells l2 _ _ _) =>
          bif Nat.beq (cC (cU l2 o2 (Nat.mul (Nat.min n2 n) sz))) (Nat.mul (Nat.min n2 n) sz) && (qG (cU l2 o2 (Nat.mul (Nat.min n2 n) sz)) && (Nat.ble (Nat.add o (Nat.mul (Nat.min n2 n) sz)) l.n && Nat.ble (Nat.succ nx) Fit)) then
           .val (.int .i64 (Nat.min n2 n)) (h.set (some (.cells (wZ o (cU l2 o2 (Nat.mul (Nat.min n2 n) sz)) l) bt op nx)) Fit t) (Nat.succ nx) else .bad
        | _=>.bad)
      | _=>.bad) else .bad
     | some .nils=>.val (.int .i64 0) h nx
     | _=>.bad
   | _=>.bad
 | none=>.bad
def wv (P:Program) (E:Tr CV) (h:Tr CB) (nx:Nat):Op→Ro
 | .alloc T=>wv0 P E h nx T
 | .box T x=>wv1 P E h nx T x
 | .store T x y=>wv2 P E h nx T x y
 | .buildSlice T n ⟨parts⟩=>wv3 P E h nx T n parts
 | .makeSlice T x y=>wv4 P E h nx T x y
 | .call ⟨.builtin .append,⟨[s,x]⟩,⟨[T,tx]⟩⟩=>apC P E h nx T tx s x
 | .call ⟨.builtin .copy,⟨[d,x]⟩,⟨[T,_]⟩⟩=>wv6 P E h nx d x T
 | _=>.bad
section
variable {P:Program} {nx n:Nat} {ρ:Pl} {Φ:Imm→Prop} {w0:Bas Φ} {w:World} {E:Tr CV} {h:Tr CB} {a:Act}
theorem fT {x:Operand} {v:Value} (hx:(eA a).ev x=some v):a.eval x=v:=(lookN a default).eval hx
theorem Wd.new {op:Op} {c:CV} {b:CB} {o:Obj} {s:Nat} (hm:Mem ρ w0 h nx w) (hf:Nat.ble (Nat.succ nx) Fit=true) (hst:stB b=nx) {w':World} {v:Value} (hu:Upd (fun _=>False) w w') (hsz:w'.heap.size=w.heap.size+1) (ho:w'.heap[w.heap.size]?=some o) (hb:DB nx ρ s b o)
 (hk:∀ ρ',ρ' nx=(w.heap.size,s)→DV ρ' c v) (hbd:Bd (nx+1) c) (hr:∀ (d:Option Tmp) (ty:TypeId) (pos:String) (after:Array Edge) (g:Option (Nat×Bool)),(execOp a.eval ⟨d,op,ty,pos,after,g⟩).run P w=.ok (.value v) w') :
 Wd P op ρ w0 h nx a w (.val c (h.set (some b) Fit nx) (Nat.succ nx)):=by
 have hf':=Nat.le_of_ble_eq_true hf
 obtain ⟨ρ',h1,h2,h3,h4⟩:=hm.new (w':=w') hf' hst hu hsz ho hb
 exact ⟨Nat.le_succ _,v,w',ρ',h1,⟨hbd,hk ρ' h2⟩,h3,hf',h4,hr⟩
theorem dJ (w:World) (o:Obj):Upd (fun _=>False) w (w.alloc o):=(Upd.refl _ w).alloc o
theorem dO (w:World) (o:Obj):(w.alloc o).heap.size=w.heap.size+1:=by show (w.heap.push o).size=_;simp
theorem fK {l:CV} {vs:List Value} (hk:KL nx ρ l vs) (ty:Nat) {st:Nat}:DB nx ρ vs.length (.cells (ofR l) ty false st) (.cells vs.toArray ty (0,0)):=⟨vs,[],zN hk,by simp,by simp,fun _=>rfl⟩
theorem aES {t p:Nat} {l:Rw} {m:CV} {bt:Nat} {op:Bool} {st:Nat} {news:List Value} (hm:Mem ρ w0 h nx w) (hfit:nx≤Fit) (ht:h.get t=some (.cells l bt op st)) (hn:KL nx ρ m news) (hp:p+news.length≤l.n) :
 ∃ cur:Array Value,w.heap[(ρ t).1]?=some (.cells cur bt (0,0))∧p+news.length≤cur.size∧cur.size=(ρ t).2∧∀ w',Upd (·=(ρ t).1) w w'→w'.heap[(ρ t).1]?=some (.cells (cur.toList.take p++news++cur.toList.drop (p+news.length)).toArray bt (0,0))→
  Mem ρ w0 (h.set (some (.cells (wZ p m l) bt op nx)) Fit t) (nx+1) w'∧Old ρ h nx w ρ (h.set (some (.cells (wZ p m l) bt op nx)) Fit t) w':=by
 obtain ⟨h1,hs1,h2,o,h3,vs,junk,k1,rfl,k3,k4⟩:=hm.own t _ ht
 rw [aGT k1] at hp
 refine ⟨_,h3,by simp;omega,by simpa using k3,fun w' hu ho=>hm.write hfit rfl ht hu ho ?_⟩
 refine ⟨vs.take p++news++vs.drop (p+news.length),junk,?_,?_,?_,k4⟩
 · exact aQN k1 hn hp
 · simp only [List.take_append_of_le_length (show p≤vs.length by omega),List.drop_append_of_le_length hp,List.append_assoc]
 simp only [List.length_append,List.length_take,List.length_drop];omega
theorem aSN {m l:CV} {p k:Nat} (h:p+cC m≤cC l):cC (kS (oC p l) (kS m (oB (p+cC m) l)))=cC l:=by
 have t:∀ (k:Nat) (x:CV),cC (oC k x)=min k (cC x):=by
  intro k
  induction k with
  | zero=>intro x;show 0=_;omega
  | succ k ih=>intro x;cases x with
    | cons a b=>show Nat.succ (cC (oC k b))=min (k+1) (Nat.succ (cC b));rw [ih];omega
    | _=>show 0=min (k+1) 0;omega
 have d:∀ (k:Nat) (x:CV),cC (oB k x)=cC x - k:=by
  intro k
  induction k with
  | zero=>intro x;rfl
  | succ k ih=>intro x;cases x with
    | cons a b=>show cC (oB k b)=Nat.succ (cC b) - (k+1);rw [ih];omega
    | _=>show 0=0 - (k+1);omega
 have ap:∀ x y:CV,cC (kS x y)=cC x+cC y:=by
  intro x y
  induction x with
  | cons a b _ ih=>show Nat.succ (cC (kS b y))=Nat.succ (cC b)+cC y;rw [ih];omega
  | _=>show cC y=0+cC y;omega
 rw [ap,ap,t,d];omega
theorem yA {pl:List (Nat×Nat)} {N:Nat}:∀ {parts:List (Nat×Operand)} {l r:CV},qL E pl N parts l=some r→N≤cC l→cC r=cC l:=by
 intro parts
 induction parts with
 | nil=>intro l r h _;cases h;rfl
 | cons p parts ih =>
   intro l r h hN
   have h':(match nth pl p.1 with
    | some (off,size)=>(match evo E p.2 with
      | some c=>(match kI c with
        | some m=>bif Nat.beq (cC m) size && Nat.ble (off+size) N then qL E pl N parts (kS (oC off l) (kS m (oB (off+size) l))) else none
        | none=>none)
      | none=>none)
    | none=>none)=some r:=h
   split at h'
   · rename_i off size hp0
     split at h'
     · split at h'
       · rename_i m hm0
         rcases aE h' with ⟨h1,h2⟩ | ⟨_,h2⟩
         · simp only [Bool.and_eq_true] at h1
           have e1:=Nat.eq_of_beq_eq_true h1.1
           have e2:=Nat.le_of_ble_eq_true h1.2
           subst e1
           have hp:=aSN (k:=0) (m:=m) (l:=l) (p:=off) (by omega)
           rw [ih h2 (by rw [hp];exact hN),hp]
         cases h2
       cases h'
     cases h'
   cases h'
theorem aNT {T:TypeId} {r:Ro} (hs:Slots ρ E nx n a) (hm:Mem ρ w0 h nx w) (hr:wv P E h nx (.alloc T)=r):Wd P (.alloc T) ρ w0 h nx a w r:=by
 subst hr
 show Wd _ _ _ _ _ _ _ _ (match zeQ P T with | some z=>bif Nat.ble (Nat.succ nx) Fit then .val (.ptr nx 0) (h.set (some (.cells (ofR z) T false nx)) Fit nx) (Nat.succ nx) else .bad | none=>.bad)
 split
 · rename_i z hz
   cases hf:Nat.ble (Nat.succ nx) Fit with
   | false=>trivial
   | true =>
     obtain ⟨i,v,hi,hv,kz⟩:=vL hz nx ρ
     refine Wd.new (s:=v.cells.toList.length) (o:=.cells v.cells.toList.toArray T (0,0)) (w':=w.alloc (.cells v.cells.toList.toArray T (0,0))) (v:=.pointer (some ⟨w.heap.size,0,none⟩)) hm hf rfl (dJ _ _) (dO _ _) (cG _ _) (fK kz T) (fun ρ' hρ=>?_) (Nat.lt_succ_self nx) fun d ty pos after g=>?_
     · show _=Value.pointer (some ⟨(ρ' nx).1,0,none⟩)
       rw [hρ]
     simp [execOp,Instr.alloc,newVar,newRow,zeroValue,typeInfo,hi,hv]
 trivial
theorem aSO {T:TypeId} {x:Operand} {r:Ro} (hs:Slots ρ E nx n a) (hm:Mem ρ w0 h nx w) (hr:wv P E h nx (.box T x)=r):Wd P (.box T x) ρ w0 h nx a w r:=by
 subst hr
 show Wd _ _ _ _ _ _ _ _ (match evo E x with
  | some c=>match kI c with
    | some l=>bif Nat.ble (Nat.succ nx) Fit then .val (.ptr nx 0) (h.set (some (.cells (ofR l) T false nx)) Fit nx) (Nat.succ nx) else .bad
    | none=>.bad
  | none=>.bad)
 split
 · rename_i c hc
   split
   · rename_i l hl
     cases hf:Nat.ble (Nat.succ nx) Fit with
     | false=>trivial
     | true =>
       obtain ⟨v,e1,k1⟩:=aJ hs hc
       have kz:=kU k1 hl
       refine Wd.new (s:=v.cells.toList.length) (o:=.cells v.cells.toList.toArray T (0,0)) (w':=w.alloc (.cells v.cells.toList.toArray T (0,0))) (v:=.pointer (some ⟨w.heap.size,0,none⟩)) hm hf rfl (dJ _ _) (dO _ _) (cG _ _) (fK kz T) (fun ρ' hρ=>?_) (Nat.lt_succ_self nx) fun d ty pos after g=>?_
       · show _=Value.pointer (some ⟨(ρ' nx).1,0,none⟩)
         rw [hρ]
       simp [execOp,Instr.box,newVar,newRow,fT e1]
   trivial
 trivial
theorem aNU {T:TypeId} {x y:Operand} {r:Ro} (hs:Slots ρ E nx n a) (hm:Mem ρ w0 h nx w) (hfit:nx≤Fit) (hr:wv P E h nx (.store T x y)=r):Wd P (.store T x y) ρ w0 h nx a w r:=by
 subst hr
 show Wd _ _ _ _ _ _ _ _ (match evo E x with
  | some (.ptr t o)=>match evo E y with
    | some c=>match kI c with
      | some m=>match h.get t with
        | some (.cells l bt op _)=>match szQ P T with
          | some k=>bif Nat.beq (cC m) k && (qG m && (Nat.ble (Nat.add o k) l.n && Nat.ble (Nat.succ nx) Fit)) then .unit (h.set (some (.cells (wZ o m l) bt op nx)) Fit t) (Nat.succ nx) else .bad
          | none=>.bad
        | _=>.bad
      | none=>.bad
    | none=>.bad
  | _=>.bad)
 split
 · rename_i t o hx
   split
   · rename_i c hc
     split
     · rename_i m hmc
       split
       · rename_i l bt op st ht
         split
         · rename_i k hk
           cases hb:Nat.beq (cC m) k && (qG m && (Nat.ble (Nat.add o k) l.n && Nat.ble (Nat.succ nx) Fit)) with
           | false=>trivial
           | true =>
             simp only [Bool.and_eq_true] at hb
             obtain ⟨v,e1,k1⟩:=aJ hs hx
             have e2:=DV.ptr.1 k1.2
             subst e2
             obtain ⟨u,e3,k3⟩:=aJ hs hc
             have km:=kU k3 hmc
             have hlen:u.cells.toList.length=k:=by rw [←cL km];exact Nat.eq_of_beq_eq_true hb.1
             have hle:o+u.cells.toList.length≤l.n:=by rw [hlen];exact Nat.le_of_ble_eq_true hb.2.2.1
             obtain ⟨cur,g1,g2,g3,g4⟩:=aES hm hfit ht km hle
             have g1':w.heap[(ρ t).1]?=some (.cells cur.toList.toArray bt (0,0)):=by rw [g1]
             have hrun:=jW (P:=P) (T:=T) (off:=o) (cs:=cur.toList) (vs:=u.cells.toList) (v:=u) (by rw [hlen];exact rT hk) (by simp) (vH km hb.2.1) g1' (by simpa using g2)
             have g5:=g4 (w.setRow (ρ t).1 (cur.toList.take o++u.cells.toList++cur.toList.drop (o+u.cells.toList.length)).toArray) (eE w (ρ t).1 _) (by rw [setRow_heap w (ρ t).1 _ _ bt _ g1])
             refine ⟨Nat.le_succ _,w.setRow (ρ t).1 (cur.toList.take o++u.cells.toList++cur.toList.drop (o+u.cells.toList.length)).toArray,ρ,Ext.refl _ _,g5.1,Nat.le_of_ble_eq_true hb.2.2.2,g5.2,fun ty pos after g=>?_⟩
             simp [execOp,fT e1,fT e3,hrun]
         trivial
       trivial
     trivial
   trivial
 trivial
theorem xC {T N:Nat} {parts:List (Nat×Operand)} {r:Ro} (hs:Slots ρ E nx n a) (hm:Mem ρ w0 h nx w) (hr:wv P E h nx (.buildSlice T N ⟨parts⟩)=r):Wd P (.buildSlice T N ⟨parts⟩) ρ w0 h nx a w r:=by
 subst hr
 show Wd _ _ _ _ _ _ _ _ (match elQ P T with
  | some (e,sz,_,z)=>bif Nat.ble 1 N && (Nat.ble (Nat.mul N sz) 16777216 && Nat.ble (Nat.succ nx) Fit) then
   (match qL E (dW N sz) (Nat.mul N sz) parts (aEM z N) with
   | some l=>.val (.sl nx 0 N sz (some N)) (h.set (some (.cells (ofR l) e false nx)) Fit nx) (Nat.succ nx)
   | none=>.bad) else .bad
  | none=>.bad)
 split
 · rename_i e sz by' z hz
   cases hb:Nat.ble 1 N && (Nat.ble (Nat.mul N sz) 16777216 && Nat.ble (Nat.succ nx) Fit) with
   | false=>trivial
   | true =>
     simp only [cond_true]
     split
     · rename_i l hl
       simp only [Bool.and_eq_true] at hb
       obtain ⟨hu,i,zv,hi,hzv,hsz,hby,kz,hzl,h0⟩:=rV hz nx ρ
       have kr:=tF kz N
       obtain ⟨vs,e1,o1,k1⟩:=qM hs kr hl
       have hN:=Nat.le_of_ble_eq_true hb.1
       have hNs:N*sz≤16777216:=Nat.le_of_ble_eq_true hb.2.1
       have hpos:0<N*sz:=Nat.mul_pos hN h0
       have hlen:(List.replicate N zv.cells.toList).flatten.length=N*sz:=by simp [←hzl]
       have hf:=pE (fun i=>some (i*sz,sz)) (dW N sz) (fun i x h=>by
        simp only [dW,List.getElem?_map,Option.map_eq_some_iff] at h
        obtain ⟨j,hj,rfl⟩:=h
        obtain ⟨hlt,hj⟩:=List.getElem?_eq_some_iff.1 hj
        simp at hj;subst hj;rfl) vs (List.replicate N zv.cells.toList).flatten (N*sz) hlen o1
       have hmade:((Array.range (N*i.size)).map (zv.cells[· % zv.cells.size]!))=(List.replicate N zv.cells.toList).flatten.toArray:=by
        have:=tM (zs:=zv.cells.toList) (by omega) N
        rw [hzl] at this
        simpa [madeCells,hsz] using this
       have hrun:=run_buildSlice (P:=P) w T e N vs.toArray (iO (dW N sz) (List.replicate N zv.cells.toList).flatten vs).toArray i zv hu hi hzv (by rw [hsz];omega) (by rw [hsz];omega) (by rw [hmade,hsz];exact hf)
       have hmm:(parts.toArray.map fun (i,x)=>(i,a.eval x))=vs.toArray:=by rw [←(lookN a w).parts e1];simp
       have hlenF:(iO (dW N sz) (List.replicate N zv.cells.toList).flatten vs).length=N*sz:=by
        rw [←cL k1,yA hl (by rw [cL kr,hlen];exact Nat.le_refl _),cL kr,hlen]
       refine Wd.new (s:=(iO (dW N sz) (List.replicate N zv.cells.toList).flatten vs).length) (o:=.cells (iO (dW N sz) (List.replicate N zv.cells.toList).flatten vs).toArray e (0,0)) (v:=.slice (some ⟨w.heap.size,0,none⟩) N N) hm hb.2.2 rfl (dJ _ _) (dO _ _) (cG _ _) (fK k1 e) (fun ρ' hρ=>?_) (Nat.lt_succ_self nx) fun d ty pos after g=>?_
       · refine eL.2 ⟨by rw [hρ],by rw [hρ,hlenF];omega,Nat.le_refl _,?_⟩
         have:=Nat.le_mul_of_pos_right N h0
         simp only [maxLen];omega
       simp only [execOp,hmm,Sem.run_bind,hrun,Result.andThen_ok,Sem.run_pure]
     trivial
 trivial
end
section
variable {P:Program} {nx n:Nat} {ρ:Pl} {Φ:Imm→Prop} {w0:Bas Φ} {w:World} {E:Tr CV} {h:Tr CB} {a:Act}
theorem zU {T:TypeId} {x y:Operand} {r:Ro} (hs:Slots ρ E nx n a) (hm:Mem ρ w0 h nx w) (hr:wv P E h nx (.makeSlice T x y)=r):Wd P (.makeSlice T x y) ρ w0 h nx a w r:=by
 subst hr
 show Wd _ _ _ _ _ _ _ _ (match elQ P T with
  | some (e,sz,by',z)=>match evo E x with
    | some (.int _ n)=>match evo E y with
      | some (.int _ c)=>bif ile 0 n && (ile n c && (Nat.ble (Nat.mul by' c.toNat) 281474976710656 && (Nat.ble c.toNat 4611686018427387904 && Nat.ble (Nat.succ nx) Fit))) then
       .val (.sl nx 0 n.toNat sz (some c.toNat)) (h.set (some (.cells (ofR (aEM z c.toNat)) e false nx)) Fit nx) (Nat.succ nx) else .bad
      | _=>.bad
    | _=>.bad
  | none=>.bad)
 split
 · rename_i e sz by' z hz
   split
   · rename_i k N hx
     split
     · rename_i k' C hy
       cases hb:ile 0 N && (ile N C && (Nat.ble (Nat.mul by' C.toNat) 281474976710656 && (Nat.ble C.toNat 4611686018427387904 && Nat.ble (Nat.succ nx) Fit))) with
       | false=>trivial
       | true =>
         simp only [Bool.and_eq_true,dN,decide_eq_true_eq] at hb
         obtain ⟨hb1,hb2,hb3,hb4,hb5⟩:=hb
         have hb3:by'*C.toNat≤281474976710656:=Nat.le_of_ble_eq_true hb3
         have hb4:=Nat.le_of_ble_eq_true hb4
         obtain ⟨hu,i,zv,hi,hzv,hsz,hby,kz,hzl,h0⟩:=rV hz nx ρ
         obtain ⟨v1,e1,k1⟩:=aJ hs hx
         obtain ⟨v2,e2,k2⟩:=aJ hs hy
         rw [DV.int.1 k1.2] at e1
         rw [DV.int.1 k2.2] at e2
         have hbc:(i.bytes:Int)*C≤281474976710656:=by
          have:((by'*C.toNat:Nat):Int)=(i.bytes:Int)*C:=by rw [Int.natCast_mul,Int.toNat_of_nonneg (by omega),hby]
          omega
         have hrun:=run_make (P:=P) w T e i zv hu hi hzv k k' N C hb1 hb2 hbc (by omega)
         have hmade:madeCells zv.cells (C.toNat*i.size)=(List.replicate C.toNat zv.cells.toList).flatten.toArray:=by
          have:=tM (zs:=zv.cells.toList) (by omega) C.toNat
          rw [hzl] at this
          rw [hsz,←this]
         rw [hmade] at hrun
         have hlen:(List.replicate C.toNat zv.cells.toList).flatten.length=C.toNat*sz:=by simp [←hzl]
         refine Wd.new (s:=C.toNat*sz) (o:=.cells (List.replicate C.toNat zv.cells.toList).flatten.toArray e (0,0)) (v:=.slice (some ⟨w.heap.size,0,none⟩) N.toNat C.toNat) hm hb5 rfl (dJ _ _) (dO _ _) (cG _ _) (by rw [←hlen];exact fK (tF kz C.toNat) e) (fun ρ' hρ=>?_) (Nat.lt_succ_self nx) fun d ty pos after g=>?_
         · refine eL.2 ⟨by rw [hρ],by rw [hρ];show 0+C.toNat*sz≤C.toNat*sz;omega,by omega,?_⟩
           simp only [maxLen];omega
         simp only [execOp,fT e1,fT e2,Sem.run_bind,hrun,Result.andThen_ok,Sem.run_pure]
     trivial
   trivial
 trivial
theorem tN {t:Nat} {vs:List Value} {ty:TypeId} (hb:w.heap[t]?=some (.cells vs.toArray ty (0,0))) {o:Nat} {m:Nat} {news:List Value} (hn:news=(vs.drop o).take m):∀ j v,news[j]?=some v→w.cell? ((⟨t,o,none⟩:Addr).add j)=some v:=fun j v hj=>by
 rw [add_lit,cell_of_block hb]
 subst hn
 rw [List.getElem?_take] at hj
 split at hj
 · rw [List.getElem?_drop] at hj;exact hj
 cases hj
theorem aQU {sz tx:Nat} {x:Operand} {m:Nat} {l:CV} (hs:Slots ρ E nx n a) (hm:Mem ρ w0 h nx w) (hq:srcC P E h sz tx x=some (m,l)):∃ xv news,(eA a).ev x=some xv∧KL nx ρ l news∧news.length=m*sz∧Go.Src P sz tx xv m news w:=by
 unfold srcC at hq
 split at hq
 · rename_i hx
   split at hq
   · rename_i q hT
     obtain ⟨e',sz'⟩:=q
     cases hq
     obtain ⟨v,e1,k1⟩:=aJ hs hx
     have e2:=DV.nils.1 k1.2
     subst e2
     exact ⟨_,[],e1,KL.nil,by simp,Go.Src.ofNil w (eW hT).1 0⟩
   cases hq
 · rename_i t o N sz' cc hx
   rcases aE hq with ⟨h1,hr1⟩ | ⟨_,hr1⟩
   · have:=Nat.eq_of_beq_eq_true h1
     subst this
     split at hr1
     · rename_i q hT
       obtain ⟨e',sz'⟩:=q
       split at hr1
       · rename_i lb bt op st ht
         rcases aE hr1 with ⟨h2,hr2⟩ | ⟨_,hr2⟩
         · cases hr2
           simp only [Bool.and_eq_true] at h2
           obtain ⟨v,e1,k1⟩:=aJ hs hx
           obtain ⟨c',rfl⟩:=oT k1
           obtain ⟨_,_,_,ob,g3,vs,junk,kl,rfl,_,_⟩:=hm.own t _ ht
           have kk:=kT (k:=m*sz) kl (Nat.eq_of_beq_eq_true h2.1)
           have hlen:((vs.drop o).take (m*sz)).length=m*sz:=by rw [←cL kk];exact Nat.eq_of_beq_eq_true h2.1
           have hone:=vH kk h2.2
           have hdrop:((vs++junk).drop o).take (m*sz)=(vs.drop o).take (m*sz):=by
            rw [List.length_take,List.length_drop] at hlen
            by_cases h0:m*sz=0
            · rw [h0];simp
            rw [List.drop_append_of_le_length (by omega),List.take_append_of_le_length (by rw [List.length_drop];omega)]
           exact ⟨_,(vs.drop o).take (m*sz),e1,kk,hlen,Go.Src.ofSlice w (eW hT).1 _ m c' _ hlen (tN g3 hdrop.symm) (fun u hu=>List.all_eq_true.1 hone u hu)⟩
         cases hr2
       cases hr1
     cases hr1
   cases hr1
 · rename_i s hx
   rcases aE hq with ⟨h1,hr1⟩ | ⟨_,hr1⟩
   · have:=Nat.eq_of_beq_eq_true h1
     subst this
     split at hr1
     · rename_i hT
       cases hr1
       obtain ⟨v,e1,k1⟩:=aJ hs hx
       obtain ⟨bs,rfl,k2⟩:=zT k1
       have hlen:=cL k2
       have hsz:(ByteArray.mk bs.toArray).size=cC l:=by
        rw [hlen,List.length_map];show bs.toArray.size=_;simp
       have hbc:byteCells (ByteArray.mk bs.toArray)=bs.map fun b=>Value.int .u8 b.toNat:=by unfold byteCells;simp
       refine ⟨_,_,e1,k2,by rw [←hlen];omega,?_⟩
       have:=Go.Src.ofString w hT (ByteArray.mk bs.toArray)
       rw [hsz,hbc] at this
       exact this
     cases hr1
   cases hr1
 cases hq
end
section
variable {P:Program} {nx n:Nat} {ρ:Pl} {Φ:Imm→Prop} {w0:Bas Φ} {w:World} {E:Tr CV} {h:Tr CB} {a:Act}
theorem kV {s x:Operand} {T tx:TypeId} {v1 v2 v:Value} {w':World} (e1:(eA a).ev s=some v1) (e2:(eA a).ev x=some v2) (hr:∀ ty,(Builtin.append_ #[T,tx] ty #[v1,v2]).run P w=.ok v w') (d:Option Tmp) (ty:TypeId) (pos:String) (after:Array Edge) (g:Option (Nat×Bool)) :
 (execOp a.eval ⟨d,.call ⟨.builtin .append,⟨[s,x]⟩,⟨[T,tx]⟩⟩,ty,pos,after,g⟩).run P w=.ok (.value v) w':=by
 simp only [execOp,resolve,invoke,builtin,Sem.run_bind,Sem.run_pure,Result.andThen_ok,List.map_toArray,List.map_cons,List.map_nil,fT e1,fT e2,hr]
theorem yB {s x:Operand} {T tx:TypeId} {v1 v2 v:Value} {w':World} (e1:(eA a).ev s=some v1) (e2:(eA a).ev x=some v2) (hr:∀ ty,(Builtin.copy_ #[T,tx] ty #[v1,v2]).run P w=.ok v w') (d:Option Tmp) (ty:TypeId) (pos:String) (after:Array Edge) (g:Option (Nat×Bool)) :
 (execOp a.eval ⟨d,.call ⟨.builtin .copy,⟨[s,x]⟩,⟨[T,tx]⟩⟩,ty,pos,after,g⟩).run P w=.ok (.value v) w':=by
 simp only [execOp,resolve,invoke,builtin,Sem.run_bind,Sem.run_pure,Result.andThen_ok,List.map_toArray,List.map_cons,List.map_nil,fT e1,fT e2,hr]
theorem vP {T tx e:TypeId} {i:TypeInfo} {zv:Value} {sz m N C:Nat} {base:Option Addr} {xv:Value} {olds news:List Value} (hu:P.underlying T=some (.slice e)) (hi:P.info? e=some i) (hz:i.zero=some zv) (hsz:i.size=sz) (hzl:zv.cells.toList.length=sz) (h0:0<sz)
 (hold:(Builtin.firstCells i.size N (.slice base N C)).run P w.drew=.ok olds.toArray w.drew) (ho:olds.length=N*sz) (hs:Go.Src P sz tx xv m news w) (hC:C<N+m) (h1:(N+m)*i.bytes≤140737488355328) (h2:N+m≤4611686018427387904) :
 ∃ cap junk,(∀ ty,(Builtin.append_ #[T,tx] ty #[.slice base N C,xv]).run P w=.ok (.slice (some ⟨w.heap.size,0,none⟩) (N+m) cap) (w.drew.alloc (.cells (olds++news++junk).toArray e)))∧(olds++news).length+junk.length=cap*sz∧N+m≤cap∧cap≤maxLen:=by
 have hge:=grownCap_ge w (N+m) C e
 have hml:N+m≤maxLen:=by simp only [maxLen];omega
 have hle:=grownCap_le_maxLen w (N+m) C e hml
 refine ⟨grownCap w (N+m) C e,(Builtin.zeroCells zv.cells (grownCap w (N+m) C e - (N+m))).toList,fun ty=>?_,?_,hge,hle⟩
 · rw [←hsz] at hs
   have hr:=run_append_grow_src (P:=P) w T tx ty e i zv hu hi hz base N C olds hold xv m news hs hC (by omega) (growslice_fits hC h1)
   rw [hr]
   congr 3
   apply Array.ext'
   simp
 have hn:=hs.newsLen
 have e1:zv.cells.size=sz:=by rw [←hzl];simp
 have hz1:(Builtin.zeroCells zv.cells (grownCap w (N+m) C e - (N+m))).toList.length=(grownCap w (N+m) C e - (N+m))*sz:=by rw [Array.length_toList,size_zeroCells,e1]
 rw [List.length_append,hz1,ho,hn,←Nat.add_mul,←Nat.add_mul]
 congr 1;omega
theorem jP (w:World) (o:Obj):Upd (fun _=>False) w (w.drew.alloc o):=(Upd.refl _ w).drew.alloc o
theorem iM (w:World) (o:Obj):(w.drew.alloc o).heap.size=w.heap.size+1:=by show (w.heap.push o).size=_;simp
theorem jQ (w:World) (o:Obj):(w.drew.alloc o).heap[w.heap.size]?=some o:=by
 rw [show w.heap.size=w.drew.heap.size from rfl,cG]
theorem zV {l:Rw} {vs junk:List Value} (hk:RL nx ρ l vs) (ty:Nat) {st:Nat}:DB nx ρ (vs.length+junk.length) (.cells l ty true st) (.cells (vs++junk).toArray ty (0,0)):=⟨vs,junk,hk,rfl,rfl,fun h=>by cases h⟩
theorem aU {α:Type} {b:Bool} {x y:α} (M:α→Prop) (h1:b=true→M x) (h2:b=false→M y):M (bif b then x else y):=by cases b;exact h2 rfl;exact h1 rfl
theorem bA {a b:Nat} (h:Nat.ble a b=true):a≤b:=Nat.le_of_ble_eq_true h
theorem aSP {a b:Nat} (h:Nat.ble a b=false):b<a:=by
 rcases Nat.lt_or_ge b a with h1 | h1
 · exact h1
 rw [Nat.ble_eq_true_of_le h1] at h;cases h
theorem aET {a b:Nat} (h:Nat.beq a b=false):a≠b:=fun e=>by subst e;simp at h
theorem Wd.kill {op:Op} {h' h2:Tr CB} {v:CV} {nx':Nat} (hm:Mem ρ w0 h nx w) (ho:Old ρ h nx w ρ h2 w) (hw:Wd P op ρ w0 h2 nx a w (.val v h' nx')):Wd P op ρ w0 h nx a w (.val v h' nx'):=by
 obtain ⟨h1,v',w',ρ',e1,e2,e3,e4,e5,e6⟩:=hw
 exact ⟨h1,v',w',ρ',e1,e2,e3,e4,ho.trans hm e5 (Nat.le_refl _) (Ext.refl _ _),e6⟩
theorem aSQ {T tx:Nat} {s x:Operand} (hs:Slots ρ E nx n a) (hm:Mem ρ w0 h nx w) (hfit:nx≤Fit):Wd P (.call ⟨.builtin .append,⟨[s,x]⟩,⟨[T,tx]⟩⟩) ρ w0 h nx a w (apC P E h nx T tx s x):=by
 unfold apC
 split
 · rename_i e sz by' z hz
   obtain ⟨hu,i,zv,hi,hzv,hsz,hby,kz,hzl,h0⟩:=rV hz nx ρ
   split
   · rename_i m news hsrc
     obtain ⟨xv,nw,ex,kn,hnl,hS⟩:=aQU hs hm hsrc
     split
     · -- from nil
       rename_i hsv
       obtain ⟨v,e1,k1⟩:=aJ hs hsv
       have e2:=DV.nils.1 k1.2
       subst e2
       refine aU (Wd _ _ _ _ _ _ _ _) (fun _=>trivial) fun hm0=>aU (Wd _ _ _ _ _ _ _ _) (fun hb=>?_) fun _=>trivial
       have hm0:=aET hm0
       simp only [Bool.and_eq_true] at hb
       have hb1:m*by'≤140737488355328:=bA hb.1
       obtain ⟨cap,junk,hr,hlen,hc1,hc2⟩:=vP (base:=none) (N:=0) (C:=0) (olds:=[]) hu hi hzv hsz hzl h0 (run_firstCells_none ..) (by simp) hS (by omega) (by rw [hby,Nat.zero_add];exact hb1) (by rw [Nat.zero_add];exact bA hb.2.1)
       rw [Nat.zero_add] at hr hc1
       simp only [List.nil_append] at hr hlen
       refine Wd.new (s:=nw.length+junk.length) hm hb.2.2 rfl (jP w _) (iM w _) (jQ w _) (zV (zN kn) e) (fun ρ' hρ=>?_) (Nat.lt_succ_self nx) (kV e1 ex hr)
       exact gK.2 ⟨cap,by rw [hρ],by rw [hρ,hlen];show 0+cap*sz=cap*sz;omega,hc1,hc2⟩
     · -- a slice
       rename_i t o N sz' c hsv
       refine aU (Wd _ _ _ _ _ _ _ _) (fun _=>trivial) fun hne=>?_
       have hsq:sz=sz':=by
        cases hb:Nat.beq sz sz' with
        | true=>exact Nat.eq_of_beq_eq_true hb
        | false=>rw [hb] at hne;cases hne
       subst hsq
       obtain ⟨v,e1,k1⟩:=aJ hs hsv
       obtain ⟨C,hC⟩:=oT k1
       subst hC
       have hNC:N≤C:=by
        cases c with
        | some c'=>obtain ⟨q1,_,q3,_⟩:=eL.1 k1.2;cases q1;exact q3
        | none=>obtain ⟨c',q1,_,q3,_⟩:=gK.1 k1.2;cases q1;exact q3
       refine aU (Wd _ _ _ _ _ _ _ _) (fun hm0=>?_) fun hm0=>?_
       · -- nothing to append
         have hm0:=Nat.eq_of_beq_eq_true hm0
         subst hm0
         have hnw:nw=[]:=List.eq_nil_of_length_eq_zero (by rw [hnl,Nat.zero_mul])
         subst hnw
         refine ⟨Nat.le_refl _,_,w,ρ,Ext.refl _ _,k1,hm,hfit,OldX.refl,kV e1 ex fun ty=>?_⟩
         rw [←hsz] at hS
         rcases hS.kind with ⟨e',hk⟩ | hk <;> simp [Builtin.append_,run_underlying hu,run_underlying hk,sizeOf,typeInfo,hi,hS.len,hNC,hS.cells,storeCells]
       have hm0:=aET hm0
       split
       · rename_i l bt op st ht
         refine aU (Wd _ _ _ _ _ _ _ _) (fun _=>trivial) fun hbt=>?_
         have hbt:bt=e:=by
          cases hb:Nat.beq bt e with
          | true=>exact Nat.eq_of_beq_eq_true hb
          | false=>rw [hb] at hbt;cases hbt
         subst hbt
         have inplace:∀ c',N+m≤C→o+(N+m)*sz≤l.n→nx+1≤Fit→Kn nx ρ (.sl t o (N+m) sz c') (.slice (some ⟨(ρ t).1,o,none⟩) (N+m) C)→Wd P (.call ⟨.builtin .append,⟨[s,x]⟩,⟨[T,tx]⟩⟩) ρ w0 h nx a w (.val (.sl t o (Nat.add N m) sz c') (h.set (some (.cells (wZ (Nat.add o (Nat.mul N sz)) news l) bt op nx)) Fit t) (Nat.succ nx)):=fun c' hr1 hr2 hf1 hk=>by
          have hp:o+N*sz+nw.length≤l.n:=by rw [hnl,Nat.add_assoc,←Nat.add_mul];exact hr2
          obtain ⟨cur,g1,g2,g3,g4⟩:=aES hm hfit ht kn hp
          have hrun:=fun ty=>qN (P:=P) (tx:=tx) (ty:=ty) hu hi g1 (x:=xv) (by rw [hsz];exact hS) hr1 (by rw [hsz];exact g2)
          rw [hsz] at hrun
          have g5:=g4 _ (eE w (ρ t).1 _) (by rw [setRow_heap w (ρ t).1 _ _ bt _ g1])
          exact ⟨Nat.le_succ _,_,_,ρ,Ext.refl _ _,hk.up (Nat.le_succ _) (Ext.refl _ _),g5.1,hf1,g5.2,kV e1 ex hrun⟩
         split
         · -- room known
           rename_i c'
           obtain ⟨q1,q2,q3,q4⟩:=eL.1 k1.2
           cases q1
           refine aU (Wd _ _ _ _ _ _ _ _) (fun hroom=>?_) fun hroom=>?_
           · have hroom:N+m≤C:=bA hroom
             refine aU (Wd _ _ _ _ _ _ _ _) (fun hfitl=>?_) fun _=>trivial
             simp only [Bool.and_eq_true] at hfitl
             exact inplace (some C) hroom (bA hfitl.1) (bA hfitl.2) ⟨k1.1,eL.2 ⟨rfl,q2,hroom,q4⟩⟩
           have hroom:C<N+m:=aSP hroom
           refine aU (Wd _ _ _ _ _ _ _ _) (fun hb=>?_) fun _=>trivial
           simp only [Bool.and_eq_true] at hb
           obtain ⟨hb1,hb2,hb3,hb4⟩:=hb
           have hb1:(N+m)*by'≤140737488355328:=bA hb1
           obtain ⟨_,_,_,ob,p3,vs,junk0,kl,rfl,_,_⟩:=hm.own t _ ht
           have kk:=kT (k:=N*sz) kl (Nat.eq_of_beq_eq_true hb4)
           have hlen:((vs.drop o).take (N*sz)).length=N*sz:=by rw [←cL kk];exact Nat.eq_of_beq_eq_true hb4
           have hdrop:((vs++junk0).drop o).take (N*sz)=(vs.drop o).take (N*sz):=by
            rw [List.length_take,List.length_drop] at hlen
            by_cases h0:N*sz=0
            · rw [h0];simp
            rw [List.drop_append_of_le_length (by omega),List.take_append_of_le_length (by rw [List.length_drop];omega)]
           have hold:(Builtin.firstCells i.size N (.slice (some ⟨(ρ t).1,o,none⟩) N C)).run P w.drew=.ok ((vs.drop o).take (N*sz)).toArray w.drew:=
            run_firstCells_some w.drew i.size N _ N C _ (by rw [hsz];exact hlen) (fun j v hj=>by
             have:=tN p3 hdrop.symm j v hj
             simpa using this)
           obtain ⟨cap,junk,hr,hl2,hc1,hc2⟩:=vP hu hi hzv hsz hzl h0 hold hlen hS hroom (by rw [hby];exact hb1) (bA hb2)
           refine Wd.new (s:=((vs.drop o).take (N*sz)++nw).length+junk.length) hm hb3 rfl (jP w _) (iM w _) (jQ w _) (zV (zN (nO kk kn)) bt) (fun ρ' hρ=>?_) (Nat.lt_succ_self nx) (kV e1 ex hr)
           exact gK.2 ⟨cap,by rw [hρ];rfl,by rw [hρ,hl2];show 0+cap*sz=cap*sz;omega,hc1,hc2⟩
         -- room unknown
         obtain ⟨C',q1,q2,q3,q4⟩:=gK.1 k1.2
         cases q1
         obtain ⟨p1,ps,p2,ob,p3,vs,junk0,kl,rfl,p5,p6⟩:=hm.own t _ ht
         have hvl:=aGT kl
         refine aU (Wd _ _ _ _ _ _ _ _) (fun hfitl=>?_) fun hfitl=>?_
         · simp only [Bool.and_eq_true] at hfitl
           have hff:=bA hfitl.2
           have hfitl:o+(N+m)*sz≤l.n:=bA hfitl.1
           have hroom:N+m≤C:=by
            have:(N+m)*sz≤C*sz:=by omega
            exact Nat.le_of_mul_le_mul_right this h0
           exact inplace none hroom hfitl hff ⟨k1.1,gK.2 ⟨C,rfl,q2,hroom,q4⟩⟩
         refine aU (Wd _ _ _ _ _ _ _ _) (fun hb=>?_) fun _=>trivial
         simp only [Bool.and_eq_true] at hb
         obtain ⟨⟨hb1,hb2⟩,hb3,hb4,hb5⟩:=hb
         have ho:=Nat.eq_of_beq_eq_true hb1
         subst ho
         have hNl:N*sz=l.n:=Nat.eq_of_beq_eq_true hb2
         have hb3:(N+m)*by'≤140737488355328:=bA hb3
         have hf5:nx+1≤Fit:=bA hb5
         by_cases hroom:N+m≤C
         · -- in its place
           have hfit2:0+N*i.size+nw.length≤((vs++junk0).toArray).size:=by
            have:(N+m)*sz≤C*sz:=Nat.mul_le_mul_right _ hroom
            rw [Nat.add_mul] at this
            rw [hsz,hnl,List.size_toArray,List.length_append];omega
           have hrun:=fun ty=>qN (P:=P) (tx:=tx) (ty:=ty) hu hi p3 (x:=xv) (by rw [hsz];exact hS) hroom hfit2
           obtain ⟨ρ',r1,r2,r3,r4⟩:=hm.rename (b':=.cells (appR l news) bt true nx) (w':=w.setRow (ρ t).1 ((vs++junk0).toArray.toList.take (0+N*i.size)++nw++(vs++junk0).toArray.toList.drop (0+N*i.size+nw.length)).toArray) hf5 rfl ht (eE w (ρ t).1 _) (by rw [setRow_heap w (ρ t).1 _ _ bt _ p3]) (by
            refine ⟨vs++nw,junk0.drop nw.length,aGS kl kn,?_,?_,fun hh=>by cases hh⟩
            · have e5:0+N*i.size=vs.length:=by rw [hsz,Nat.zero_add,hNl,hvl]
              rw [e5]
              simp only [List.take_left,List.drop_length_add_append]
            rw [List.length_append,List.length_drop]
            have:(N+m)*sz≤C*sz:=Nat.mul_le_mul_right _ hroom
            rw [Nat.add_mul] at this
            omega)
           refine ⟨Nat.le_succ _,_,_,ρ',r1,⟨Nat.lt_succ_self nx,gK.2 ⟨C,?_,?_,hroom,q4⟩⟩,r3,hf5,r4,kV e1 ex hrun⟩
           · rw [r2];rfl
           rw [r2];exact q2
         have hroom:C<N+m:=by omega
         have hold:(Builtin.firstCells i.size N (.slice (some ⟨(ρ t).1,0,none⟩) N C)).run P w.drew=.ok vs.toArray w.drew:=
          run_firstCells_some w.drew i.size N _ N C _ (by rw [hsz,←hvl];exact hNl.symm) (fun j v hj=>by
           have:=tN p3 (o:=0) (m:=vs.length) (news:=vs) (by simp) j v hj
           simpa using this)
         obtain ⟨cap,junk,hr,hl2,hc1,hc2⟩:=vP hu hi hzv hsz hzl h0 hold (by rw [←hvl];exact hNl.symm) hS hroom (by rw [hby];exact hb3) (bA hb4)
         have hm2:=hm.kill hfit p1
         refine Wd.kill (h2:=h.set none Fit t) hm hm2.2 ?_
         refine Wd.new (s:=(vs++nw).length+junk.length) hm2.1 hb5 rfl (jP w _) (iM w _) (jQ w _) (zV (aGS kl kn) bt) (fun ρ' hρ=>?_) (Nat.lt_succ_self nx) (kV e1 ex hr)
         exact gK.2 ⟨cap,by rw [hρ];rfl,by rw [hρ,hl2];show 0+cap*sz=cap*sz;omega,hc1,hc2⟩
       trivial
     trivial
   trivial
 trivial
end
section
variable {P:Program} {nx n:Nat} {ρ:Pl} {Φ:Imm→Prop} {w0:Bas Φ} {w:World} {E:Tr CV} {h:Tr CB} {a:Act}
theorem aQV {T tx:Nat} {d x:Operand} (hs:Slots ρ E nx n a) (hm:Mem ρ w0 h nx w) (hfit:nx≤Fit):Wd P (.call ⟨.builtin .copy,⟨[d,x]⟩,⟨[T,tx]⟩⟩) ρ w0 h nx a w (wv P E h nx (.call ⟨.builtin .copy,⟨[d,x]⟩,⟨[T,tx]⟩⟩)):=by
 show Wd _ _ _ _ _ _ _ _ (match elQ P T with
  | some (_,sz,_,_)=>match evo E d with
    | some (.sl t o n sz' _)=>match evo E x with
      | some (.sl t2 o2 n2 sz2 _)=>bif Nat.beq sz sz' && Nat.beq sz sz2 then
       (match h.get t with
       | some (.cells l bt op _)=>(match h.get t2 with
         | some (.cells l2 _ _ _) =>
           bif Nat.beq (cC (cU l2 o2 (Nat.mul (Nat.min n2 n) sz))) (Nat.mul (Nat.min n2 n) sz) && (qG (cU l2 o2 (Nat.mul (Nat.min n2 n) sz)) && (Nat.ble (Nat.add o (Nat.mul (Nat.min n2 n) sz)) l.n && Nat.ble (Nat.succ nx) Fit)) then
            .val (.int .i64 (Nat.min n2 n)) (h.set (some (.cells (wZ o (cU l2 o2 (Nat.mul (Nat.min n2 n) sz)) l) bt op nx)) Fit t) (Nat.succ nx) else .bad
         | _=>.bad)
       | _=>.bad) else .bad
      | some .nils=>.val (.int .i64 0) h nx
      | _=>.bad
    | _=>.bad
  | none=>.bad)
 split
 · rename_i e sz by' z hz
   obtain ⟨hu,i,zv,hi,hzv,hsz,hby,kz,hzl,h0⟩:=rV hz nx ρ
   split
   · rename_i t o N sz' c hd
     obtain ⟨v,e1,k1⟩:=aJ hs hd
     obtain ⟨C,rfl⟩:=oT k1
     split
     · rename_i t2 o2 n2 sz2 c2 hx
       obtain ⟨v2,e2,k2⟩:=aJ hs hx
       obtain ⟨C2,rfl⟩:=oT k2
       refine aU (Wd _ _ _ _ _ _ _ _) (fun hb=>?_) fun _=>trivial
       simp only [Bool.and_eq_true] at hb
       have q1:=Nat.eq_of_beq_eq_true hb.1
       have q2:=Nat.eq_of_beq_eq_true hb.2
       subst q1 q2
       split
       · rename_i l bt op st ht
         split
         · rename_i l2 bt2 op2 st2 ht2
           refine aU (Wd _ _ _ _ _ _ _ _) (fun hb=>?_) fun _=>trivial
           simp only [Bool.and_eq_true] at hb
           obtain ⟨hb1,hb2,hb3,hb4⟩:=hb
           obtain ⟨k,hk⟩:∃ k,k=Nat.min n2 N:=⟨_,rfl⟩
           rw [←hk] at hb1 hb2 hb3 ⊢
           obtain ⟨_,_,_,ob,p3,vs,junk0,kl,rfl,_,_⟩:=hm.own t2 _ ht2
           have kk:=kT (k:=k*sz) kl (Nat.eq_of_beq_eq_true hb1)
           have hlen:((vs.drop o2).take (k*sz)).length=k*sz:=by rw [←cL kk];exact Nat.eq_of_beq_eq_true hb1
           have hdrop:((vs++junk0).drop o2).take (k*sz)=(vs.drop o2).take (k*sz):=by
            rw [List.length_take,List.length_drop] at hlen
            by_cases h0:k*sz=0
            · rw [h0];simp
            rw [List.drop_append_of_le_length (by omega),List.take_append_of_le_length (by rw [List.length_drop];omega)]
           have hp:o+((vs.drop o2).take (k*sz)).length≤l.n:=by rw [hlen];exact bA hb3
           obtain ⟨cur,g1,g2,g3,g4⟩:=aES hm hfit ht kk hp
           have hone:=vH kk hb2
           have hrun:=fun ty=>aNS (P:=P) (tx:=tx) (ty:=ty) (dCap:=C) (sCap:=C2) hu hi g1 hk.symm (by rw [hsz];exact hlen) (tN p3 hdrop.symm) (fun v hv=>List.all_eq_true.1 hone v hv) g2
           have g5:=g4 _ (eE w (ρ t).1 _) (by rw [setRow_heap w (ρ t).1 _ _ bt _ g1])
           exact ⟨Nat.le_succ _,_,_,ρ,Ext.refl _ _,hJ,g5.1,bA hb4,g5.2,yB e1 e2 hrun⟩
         trivial
       trivial
     · rename_i hx
       obtain ⟨v2,e2,k2⟩:=aJ hs hx
       have q2:=DV.nils.1 k2.2
       subst q2
       exact ⟨Nat.le_refl _,_,w,ρ,Ext.refl _ _,hJ,hm,hfit,OldX.refl,yB e1 e2 fun ty=>aJJ hu hi (Nat.zero_min _)⟩
     trivial
   trivial
 trivial
theorem wv_ok {op:Op} (hs:Slots ρ E nx n a) (hm:Mem ρ w0 h nx w) (hfit:nx≤Fit):Wd P op ρ w0 h nx a w (wv P E h nx op):=by
 obtain ⟨r,hr⟩:∃ r,wv P E h nx op=r:=⟨_,rfl⟩
 have hr':=hr
 unfold wv at hr
 split at hr
 · rw [hr'];exact aNT hs hm hr'
 · rw [hr'];exact aSO hs hm hr'
 · rw [hr'];exact aNU hs hm hfit hr'
 · rw [hr'];exact xC hs hm hr'
 · rw [hr'];exact zU hs hm hr'
 · exact aSQ hs hm hfit
 · exact aQV hs hm hfit
 rw [hr',←hr];trivial
end
def aJK {α:Type} (f:α→α) (l:List α):Nat→List α:=List.rec (fun _=>[]) (fun x xs ih n=>Nat.rec (f x :: xs) (fun n _=>x :: ih n) n) l
theorem aGX {α:Type} (f:α→α):∀ (l:List α) (n:Nat),aJK f l n=l.modify n f
 | [],n=>by simp [aJK]
 | x :: l,0=>rfl
 | x :: l,n+1=>by show x :: aJK f l n=_;rw [aGX f l n];rfl
def mv0 (P:Program) (E:Tr CV) (h:Tr CB) (nx:Nat) (T:TypeId):Ro:=bif Nat.ble (Nat.succ nx) Fit then
 (bif mtI P T then .val (.mp nx) (h.set (some (.mapI [] nx)) Fit nx) (Nat.succ nx) else
  bif mtK P T then .val (.mp nx) (h.set (some (.mapK [] nx)) Fit nx) (Nat.succ nx) else .bad) else .bad
def mv1 (P:Program) (E:Tr CV) (h:Tr CB) (nx:Nat) (T:TypeId) (x:Operand) (i:Operand) (c:Bool):Ro:=match evo E x with
 | some (.mp t)=>match evo E i with
   | some k=>match h.get t with
     | some (.mapI l _)=>match aJG k with | some n=>(bif mtI P T then .val (laC c (xB ieq n l)) h nx else .bad) | none=>.bad
     | some (.mapK l _)=>match aJH k with | some n=>(bif mtK P T then .val (laC c (xB eqK n l)) h nx else .bad) | none=>.bad
     | _=>.bad
   | none=>.bad
 | _=>.bad
def mv2 (P:Program) (E:Tr CV) (h:Tr CB) (nx:Nat) (T:TypeId) (x:Operand) (i:Operand) (y:Operand):Ro:=match evo E x with
 | some (.mp t)=>match evo E i with
   | some k=>match evo E y with
     | some (.int .i64 v)=>bif Nat.ble (Nat.succ nx) Fit then (match h.get t with
       | some (.mapI l _)=>match aJG k with | some n=>(bif mtI P T then .unit (h.set (some (.mapI (aNQ ieq n v l) nx)) Fit t) (Nat.succ nx) else .bad) | none=>.bad
       | some (.mapK l _)=>match aJH k with | some n=>(bif mtK P T then .unit (h.set (some (.mapK (aNQ eqK n v l) nx)) Fit t) (Nat.succ nx) else .bad) | none=>.bad
       | _=>.bad) else .bad
     | _=>.bad
   | none=>.bad
 | _=>.bad
def mv3 (P:Program) (E:Tr CV) (h:Tr CB) (nx:Nat) (T:TypeId) (x:Operand) (i:Operand):Ro:=match evo E x with
 | some (.mp t)=>match evo E i with
   | some k=>bif Nat.ble (Nat.succ nx) Fit then (match h.get t with
     | some (.mapK l _)=>match aJH k with
       | some n=>(bif mtK P T then (match xB eqK n l with
         | none=>.val (.tup (.cons (.int .i64 0) (.cons (.int .i64 l.length) .nil))) (h.set (some (.mapK (l++[(n,0)]) nx)) Fit t) (Nat.succ nx)
         | some _=>.bad) else .bad)
       | none=>.bad
     | some (.mapI l _)=>match aJG k with
       | some n=>(bif mtI P T then (match xB ieq n l with
         | none=>.val (.tup (.cons (.int .i64 0) (.cons (.int .i64 l.length) .nil))) (h.set (some (.mapI (l++[(n,0)]) nx)) Fit t) (Nat.succ nx)
         | some _=>.bad) else .bad)
       | none=>.bad
     | _=>.bad) else .bad
   | none=>.bad
 | _=>.bad
def mv4 (P:Program) (E:Tr CV) (h:Tr CB) (nx:Nat) (T:TypeId) (x:Operand) (s:Operand) (y:Operand):Ro:=match evo E x with
 | some (.mp t)=>match evo E s with
   | some (.int .i64 m)=>match evo E y with
     | some (.int .i64 v)=>bif Nat.ble (Nat.succ nx) Fit && ile 0 m then (match h.get t with
       | some (.mapK l _)=>bif Nat.ble (Nat.succ m.toNat) l.length then .unit (h.set (some (.mapK (aJK (fun p=>(p.1,v)) l m.toNat) nx)) Fit t) (Nat.succ nx) else .bad
       | some (.mapI l _)=>bif Nat.ble (Nat.succ m.toNat) l.length then .unit (h.set (some (.mapI (aJK (fun p=>(p.1,v)) l m.toNat) nx)) Fit t) (Nat.succ nx) else .bad
       | _=>.bad) else .bad
     | _=>.bad
   | _=>.bad
 | _=>.bad
def mv5 (P:Program) (E:Tr CV) (h:Tr CB) (nx:Nat) (T:TypeId) (n:Nat) (parts:List (Nat×Operand)):Ro:=bif Nat.beq n 0 && Nat.ble (Nat.succ nx) Fit then (match parts with
 | []=>match slQ P T with
   | some (e,sz)=>.val (.sl nx 0 0 sz (some 0)) (h.set (some (.cells (ofR .nil) e false nx)) Fit nx) (Nat.succ nx)
   | none=>.bad
 | _=>.bad) else .bad
def mv6 (P:Program) (E:Tr CV) (h:Tr CB) (nx:Nat) (s:TypeId) (t:TypeId) (x:Operand):Ro:=match evo E x with
 | some (.sl b o n sz c)=>match P.underlying t with
   | some (.slice e)=>match P.underlying e with
     | some (.int .u8)=>bif Nat.beq s t && Nat.ble (Nat.succ nx) Fit then (match h.get b with
       | some (.cells l ty false _)=>.val (.sl b o n sz c) (h.set (some (.ro l ty nx)) Fit b) (Nat.succ nx)
       | _=>.bad) else .bad
     | _=>.bad
   | _=>.bad
 | _=>.bad
def mv7 (P:Program) (E:Tr CV) (h:Tr CB) (nx:Nat) (T:TypeId) (x:Operand):Ro:=match evo E x with
 | some (.ptr t o)=>match h.get t with
   | some (.ro l _ _)=>bif eC P T then (match aJB l o with | some c=>.val c h nx | none=>.bad) else .bad
   | _=>.bad
 | _=>.bad
def mv8 (P:Program) (E:Tr CV) (h:Tr CB) (nx:Nat) (T:TypeId) (x:Operand) (i:Operand):Ro:=match evo E x with
 | some (.str s)=>match P.underlying T with
   | some .string=>match evo E i with
     | some (.int _ m)=>bif ile 0 m then (match sU s m.toNat with | some c=>.val c h nx | none=>.bad) else .bad
     | _=>.bad
   | _=>.bad
 | _=>.bad
def mv (P:Program) (E:Tr CV) (h:Tr CB) (nx:Nat):Op→Ro
 | .makeMap T none=>mv0 P E h nx T
 | .lookup T x i c=>mv1 P E h nx T x i c
 | .mapUpdate T x i y=>mv2 P E h nx T x i y
 | .mapEntry T x i=>mv3 P E h nx T x i
 | .entryStore T x s y=>mv4 P E h nx T x s y
 | .buildSlice T n ⟨parts⟩=>mv5 P E h nx T n parts
 | .convert s t x=>mv6 P E h nx s t x
 | .load T x=>mv7 P E h nx T x
 | .index T x i=>mv8 P E h nx T x i
 | _=>.bad
section
variable {P:Program} {nx n:Nat} {ρ:Pl} {Φ:Imm→Prop} {w0:Bas Φ} {w:World} {E:Tr CV} {h:Tr CB} {a:Act}
theorem zW {κ:Type} [DecidableEq κ] [OneVal κ] {t:Nat} {b b':CB} {l:List (κ×Int)} (hm:Mem ρ w0 h nx w) (hfit:nx≤Fit) (ht:h.get t=some b) (hst:stB b'=nx) (hb:DB nx ρ (ρ t).2 b' (cE l)) :
 Mem ρ w0 (h.set (some b') Fit t) (nx+1) { w with heap:=w.heap.setIfInBounds (ρ t).1 (cE l) }∧Old ρ h nx w ρ (h.set (some b') Fit t) { w with heap:=w.heap.setIfInBounds (ρ t).1 (cE l) }:=
 hm.write hfit hst ht aPH (by simp [hm.lt ht]) hb
variable {κ:Type} [DecidableEq κ] [OneVal κ] {T kt:TypeId}
theorem xD {r:Nat} {xs:List (κ×Int)} {k:κ} {v:Int} (hT:MapT P T kt κ) (hb:w.heap[r]?=some (cE xs)):(Instr.mapUpdate T (.map (some r)) (OneVal.val k) (.int .i64 v)).run P w =
 .ok () { w with heap:=w.heap.setIfInBounds r (cE (wP xs k v)) }:=by
 obtain ⟨⟨et,hu,hz⟩,hk⟩:=hT
 simp only [Instr.mapUpdate,Sem.run_bind,run_underlying hu,Result.andThen_ok,MapKept.run_getObj_map (P:=P) hb,Sem.run_pure,hk.check,hk.look]
 cases hm:gB xs k with
 | none =>
   rw [(rC xs k).1 hm,aHN xs k v hm]
   simp only [Option.bind_none,MapKept.run_setObj_map (P:=P) _ hb,Result.andThen_ok]
   congr 3
   simp [cE,mJ,bJ]
 | some u =>
   obtain ⟨i,h1,h2,h3⟩:=xK xs k hm
   rw [h1,h3]
   have hg:(bJ 0 xs)[i]?=some { key:=OneVal.val k,val:=.int .i64 u,born:=0+i }:=by rw [fU,h2];rfl
   simp only [Option.bind_some,Option.map_some,List.getElem?_toArray,hg,Option.getD_some,Sem.run_bind,hk.stays,Result.andThen_ok,MapKept.run_setObj_map (P:=P) _ hb]
   congr 3
   simp only [cE,List.length_set,sF xs i k u v h2]
   congr 1
   apply Array.ext'
   simp only [Array.toList_modify]
   apply List.ext_getElem?
   intro j
   simp only [List.getElem?_modify,fU]
   by_cases hij:i=j
   · subst hij;simp [h2]
   simp [hij]
theorem zX {r:Nat} {xs:List (κ×Int)} {k:κ} (hT:MapT P T kt κ) (hb:w.heap[r]?=some (cE xs)) (hk0:gB xs k=none):(Instr.mapEntry T (.map (some r)) (OneVal.val k)).run P w =
 .ok (.tuple #[.int .i64 0,.int .i64 xs.length]) { w with heap:=w.heap.setIfInBounds r (cE (xs++[(k,0)])) }:=by
 obtain ⟨⟨et,hu,hz⟩,hk⟩:=hT
 simp only [Instr.mapEntry,Sem.run_bind,run_underlying hu,Result.andThen_ok,MapKept.run_getObj_map (P:=P) hb,Sem.run_pure,hk.check,hk.look]
 rw [(rC xs k).1 hk0]
 simp only [Option.bind_none,Sem.run_bind,hz,Result.andThen_ok,MapKept.run_setObj_map (P:=P) _ hb,Sem.run_pure,goInt]
 congr 3
 simp [cE,mJ,bJ]
theorem vQ {r i:Nat} {xs:List (κ×Int)} {v:Int} (hb:w.heap[r]?=some (cE xs)) (hi:i<xs.length):(Instr.entryStore T (.map (some r)) (.int .i64 i) (.int .i64 v)).run P w =
 .ok () { w with heap:=w.heap.setIfInBounds r (cE (xs.modify i fun p=>(p.1,v))) }:=by
 obtain ⟨k,u,hku⟩:∃ k u,xs[i]?=some (k,u):=⟨_,_,List.getElem?_eq_getElem hi⟩
 have hfind:(bJ 0 xs).toArray.findIdx? (fun e=>(e.born:Int) == ((i:Nat):Int))=some i:=by
  rw [List.findIdx?_toArray,List.findIdx?_eq_some_iff_getElem]
  have hl:(bJ 0 xs).length=xs.length:=uC xs 0
  refine ⟨by omega,?_,?_⟩
  · have:=fU xs 0 i
    rw [List.getElem?_eq_getElem (show i<(bJ 0 xs).length by omega),hku] at this
    simp at this
    simp [this]
  intro j hj
  have:=fU xs 0 j
  rw [List.getElem?_eq_getElem (show j<(bJ 0 xs).length by omega),List.getElem?_eq_getElem (show j<xs.length by omega)] at this
  simp at this
  simp [this];omega
 simp only [Instr.entryStore,Sem.run_bind,MapKept.run_getObj_map (P:=P) hb,Result.andThen_ok,asInt,asIntOf,Sem.run_pure]
 rw [hfind]
 simp only [MapKept.run_setObj_map (P:=P) _ hb,Result.andThen_ok,Sem.run_pure]
 congr 3
 have h3:=sF xs i k u v hku 0
 have h4:xs.modify i (fun p=>(p.1,v))=xs.set i (k,v):=by
  apply List.ext_getElem?
  intro j
  rw [List.getElem?_modify,List.getElem?_set]
  by_cases hij:i=j
  · subst hij;obtain ⟨_,hg⟩:=List.getElem?_eq_some_iff.1 hku;simp [hi,hg]
  simp [hij]
 rw [h4]
 simp only [cE,h3,List.length_set]
 simp
theorem aGY {κ:Type} [DecidableEq κ] [OneVal κ] {eq:κ→κ→Bool} (he:∀ a b,eq a b=decide (a=b)) {T kt t:Nat} {x i:Operand} {c:Bool} {l:List (κ×Int)} {b:CB} {k:κ} {kc:CV} (hT:MapT P T kt κ) (hs:Slots ρ E nx n a) (hm:Mem ρ w0 h nx w) (hfit:nx≤Fit)
 (hx:evo E x=some (.mp t)) (hi:evo E i=some kc) (hk:∀ v,Kn nx ρ kc v→v=OneVal.val k) (ht:h.get t=some b) (hb:∀ o,DB nx ρ (ρ t).2 b o→o=cE l):Wd P (.lookup T x i c) ρ w0 h nx a w (.val (laC c (xB eq k l)) h nx):=by
 obtain ⟨v1,e1,k1⟩:=aJ hs hx
 obtain ⟨v2,e2,k2⟩:=aJ hs hi
 have:=vM k1
 subst this
 have:=hk _ k2
 subst this
 obtain ⟨_,_,_,o,h3,h4⟩:=hm.own t _ ht
 have:=hb o h4
 subst this
 rw [tI he]
 refine ⟨Nat.le_refl _,_,w,ρ,Ext.refl _ _,aNR,hm,hfit,OldX.refl,fun d ty pos after g=>?_⟩
 simp only [execOp,fT e1,fT e2,Sem.run_bind,oR hT h3 c,Result.andThen_ok,Sem.run_pure]
theorem aNV {κ:Type} [DecidableEq κ] [OneVal κ] {eq:κ→κ→Bool} (he:∀ a b,eq a b=decide (a=b)) {T kt t:Nat} {x i y:Operand} {l:List (κ×Int)} {b b':CB} {k:κ} {kc:CV} {v:Int} (hT:MapT P T kt κ) (hs:Slots ρ E nx n a) (hm:Mem ρ w0 h nx w) (hfit:Nat.ble (Nat.succ nx) Fit=true)
 (hx:evo E x=some (.mp t)) (hi:evo E i=some kc) (hy:evo E y=some (.int .i64 v)) (hk:∀ v,Kn nx ρ kc v→v=OneVal.val k) (ht:h.get t=some b) (hb:∀ o,DB nx ρ (ρ t).2 b o→o=cE l) (hst:stB b'=nx) (hb':DB nx ρ (ρ t).2 b' (cE (aNQ eq k v l))) :
 Wd P (.mapUpdate T x i y) ρ w0 h nx a w (.unit (h.set (some b') Fit t) (Nat.succ nx)):=by
 obtain ⟨v1,e1,k1⟩:=aJ hs hx
 obtain ⟨v2,e2,k2⟩:=aJ hs hi
 obtain ⟨v3,e3,k3⟩:=aJ hs hy
 have:=vM k1
 subst this
 have:=hk _ k2
 subst this
 have:=DV.int.1 k3.2
 subst this
 obtain ⟨_,_,_,o,h3,h4⟩:=hm.own t _ ht
 have:=hb o h4
 subst this
 have hf:=bA hfit
 obtain ⟨g1,g2⟩:=zW hm (by omega) ht hst hb'
 refine ⟨Nat.le_succ _,_,ρ,Ext.refl _ _,g1,hf,g2,fun ty pos after g=>?_⟩
 rw [aQS he]
 simp only [execOp,fT e1,fT e2,fT e3,Sem.run_bind,xD hT h3,Result.andThen_ok,Sem.run_pure]
theorem aNW {κ:Type} [DecidableEq κ] [OneVal κ] {eq:κ→κ→Bool} (he:∀ a b,eq a b=decide (a=b)) {T kt t:Nat} {x i:Operand} {l:List (κ×Int)} {b b':CB} {k:κ} {kc:CV} (hT:MapT P T kt κ) (hs:Slots ρ E nx n a) (hm:Mem ρ w0 h nx w) (hfit:Nat.ble (Nat.succ nx) Fit=true)
 (hx:evo E x=some (.mp t)) (hi:evo E i=some kc) (h0:xB eq k l=none) (hk:∀ v,Kn nx ρ kc v→v=OneVal.val k) (ht:h.get t=some b) (hb:∀ o,DB nx ρ (ρ t).2 b o→o=cE l) (hst:stB b'=nx) (hb':DB nx ρ (ρ t).2 b' (cE (l++[(k,0)]))) :
 Wd P (.mapEntry T x i) ρ w0 h nx a w (.val (.tup (.cons (.int .i64 0) (.cons (.int .i64 l.length) .nil))) (h.set (some b') Fit t) (Nat.succ nx)):=by
 obtain ⟨v1,e1,k1⟩:=aJ hs hx
 obtain ⟨v2,e2,k2⟩:=aJ hs hi
 have:=vM k1
 subst this
 have:=hk _ k2
 subst this
 obtain ⟨_,_,_,o,h3,h4⟩:=hm.own t _ ht
 have:=hb o h4
 subst this
 have hf:=bA hfit
 rw [tI he] at h0
 obtain ⟨g1,g2⟩:=zW hm (by omega) ht hst hb'
 refine ⟨Nat.le_succ _,.tuple #[.int .i64 0,.int .i64 l.length],_,ρ,Ext.refl _ _,⟨⟨trivial,trivial,trivial⟩,DV.tup.2 ⟨_,DL.cons.2 ⟨_,_,rfl,rfl,DL.cons.2 ⟨_,_,rfl,rfl,rfl⟩⟩,rfl⟩⟩,g1,hf,g2,fun d ty pos after g=>?_⟩
 simp only [execOp,fT e1,fT e2,Sem.run_bind,zX hT h3 h0,Result.andThen_ok,Sem.run_pure]
theorem aNX {κ:Type} [DecidableEq κ] [OneVal κ] {T t:Nat} {x s y:Operand} {l:List (κ×Int)} {b b':CB} {m v:Int} (hs:Slots ρ E nx n a) (hm:Mem ρ w0 h nx w) (hfit:Nat.ble (Nat.succ nx) Fit=true)
 (hx:evo E x=some (.mp t)) (hi:evo E s=some (.int .i64 m)) (hy:evo E y=some (.int .i64 v)) (h0:0≤m) (hl:Nat.ble (Nat.succ m.toNat) l.length=true) (ht:h.get t=some b) (hb:∀ o,DB nx ρ (ρ t).2 b o→o=cE l) (hst:stB b'=nx) (hb':DB nx ρ (ρ t).2 b' (cE (aJK (fun p=>(p.1,v)) l m.toNat))) :
 Wd P (.entryStore T x s y) ρ w0 h nx a w (.unit (h.set (some b') Fit t) (Nat.succ nx)):=by
 obtain ⟨v1,e1,k1⟩:=aJ hs hx
 obtain ⟨v2,e2,k2⟩:=aJ hs hi
 obtain ⟨v3,e3,k3⟩:=aJ hs hy
 have:=vM k1
 subst this
 have:=DV.int.1 k2.2
 subst this
 have:=DV.int.1 k3.2
 subst this
 obtain ⟨_,_,_,o,h3,h4⟩:=hm.own t _ ht
 have:=hb o h4
 subst this
 have hf:=bA hfit
 obtain ⟨g1,g2⟩:=zW hm (by omega) ht hst hb'
 refine ⟨Nat.le_succ _,_,ρ,Ext.refl _ _,g1,hf,g2,fun ty pos after g=>?_⟩
 rw [aGX]
 have hr:=vQ (P:=P) (T:=T) (w:=w) (v:=v) h3 (bA hl)
 rw [Int.toNat_of_nonneg h0] at hr
 simp only [execOp,fT e1,fT e2,fT e3,Sem.run_bind,hr,Result.andThen_ok,Sem.run_pure]
theorem aRO {ρ':Pl} {s:Nat} (h:ρ' nx=(w.heap.size,s)):DV ρ' (.mp nx) (.map (some w.heap.size)):=by rw [DV.mp,h]
theorem run_mark {t e:TypeId} {b o n c:Nat} {cs:Array Value} {ty:TypeId} (ht:P.underlying t=some (.slice e)) (he:P.underlying e=some (.int .u8)) (hb:w.heap[b]?=some (.cells cs ty (0,0))) :
 (convert t t (.slice (some ⟨b,o,none⟩) n c)).run P w=.ok (.slice (some ⟨b,o,none⟩) n c) (w.freeze ⟨b,cs.size,none⟩ 1):=by
 have hsh:w.shape? b=some (ty,cs.size):=by unfold World.shape?;rw [hb]
 simp [convert,run_underlying ht,run_underlying he,markStringish,hsh]
theorem freeze_upd {b k:Nat}:Upd (·=b) w (w.freeze ⟨b,k,none⟩ 1):=⟨rfl,rfl,rfl,by simp [World.freeze],fun j _ hj=>by
 have hj':b≠j:=fun e=>hj e.symm
 simp [World.freeze,Array.getElem?_modify,hj']⟩
theorem freeze_at {b k:Nat} {cs:Array Value} {ty:TypeId} (hb:w.heap[b]?=some (.cells cs ty (0,0))):(w.freeze ⟨b,k,none⟩ 1).heap[b]?=some (.cells cs ty (k,k+1)):=by
 simp [World.freeze,Array.getElem?_modify,hb]
theorem mv_ok {op:Op} (hs:Slots ρ E nx n a) (hm:Mem ρ w0 h nx w) (hfit:nx≤Fit):Wd P op ρ w0 h nx a w (mv P E h nx op):=by
 unfold mv mv0 mv1 mv2 mv3 mv4 mv5 mv6 mv7 mv8
 split
 · rename_i T
   refine aU (Wd _ _ _ _ _ _ _ _) (fun hb=>?_) fun _=>trivial
   have hr:∀ (d:Option Tmp) (ty:TypeId) (pos:String) (after:Array Edge) (g:Option (Nat×Bool)),(execOp a.eval ⟨d,.makeMap T none,ty,pos,after,g⟩).run P w=.ok (.value (.map (some w.heap.size))) (w.alloc (cE ([]:List (Int×Int)))):=fun d ty pos after g=>by
    simp only [execOp,Option.map_none,Sem.run_bind,kM,Result.andThen_ok,Sem.run_pure];rfl
   refine aU (Wd _ _ _ _ _ _ _ _) (fun _=>?_) fun _=>?_
   · exact Wd.new (s:=0) hm hb rfl (dJ w _) (dO w _) (cG w _) rfl (fun ρ' h=>aRO h) (Nat.lt_succ_self _) hr
   refine aU (Wd _ _ _ _ _ _ _ _) (fun _=>?_) fun _=>trivial
   exact Wd.new (s:=0) hm hb rfl (dJ w _) (dO w _) (cG w _) rfl (fun ρ' h=>aRO h) (Nat.lt_succ_self _) hr
 · rename_i T x i c
   split
   · rename_i t hx
     split
     · rename_i k hi
       split
       · rename_i l st ht
         split
         · rename_i m hk
           refine aU (Wd _ _ _ _ _ _ _ _) (fun hT=>?_) fun _=>trivial
           obtain ⟨kt,hT⟩:=zP hT
           exact aGY fS hT hs hm hfit hx hi (fun v hv=>tJ hk hv) ht fun o ho=>ho
         trivial
       · rename_i l st ht
         split
         · rename_i m hk
           refine aU (Wd _ _ _ _ _ _ _ _) (fun hT=>?_) fun _=>trivial
           obtain ⟨kt,hT⟩:=zQ hT
           exact aGY zO hT hs hm hfit hx hi (fun v hv=>tK hk hv) ht fun o ho=>ho
         trivial
       trivial
     trivial
   trivial
 · rename_i T x i y
   split
   · rename_i t hx
     split
     · rename_i k hi
       split
       · rename_i v hy
         refine aU (Wd _ _ _ _ _ _ _ _) (fun hb=>?_) fun _=>trivial
         split
         · rename_i l st ht
           split
           · rename_i m hk
             refine aU (Wd _ _ _ _ _ _ _ _) (fun hT=>?_) fun _=>trivial
             obtain ⟨kt,hT⟩:=zP hT
             exact aNV fS hT hs hm hb hx hi hy (fun v hv=>tJ hk hv) ht (fun o ho=>ho) rfl rfl
           trivial
         · rename_i l st ht
           split
           · rename_i m hk
             refine aU (Wd _ _ _ _ _ _ _ _) (fun hT=>?_) fun _=>trivial
             obtain ⟨kt,hT⟩:=zQ hT
             exact aNV zO hT hs hm hb hx hi hy (fun v hv=>tK hk hv) ht (fun o ho=>ho) rfl rfl
           trivial
         trivial
       trivial
     trivial
   trivial
 · rename_i T x i
   split
   · rename_i t hx
     split
     · rename_i k hi
       refine aU (Wd _ _ _ _ _ _ _ _) (fun hb=>?_) fun _=>trivial
       split
       · rename_i l st ht
         split
         · rename_i m hk
           refine aU (Wd _ _ _ _ _ _ _ _) (fun hT=>?_) fun _=>trivial
           obtain ⟨kt,hT⟩:=zQ hT
           split
           · rename_i h0
             exact aNW zO hT hs hm hb hx hi h0 (fun v hv=>tK hk hv) ht (fun o ho=>ho) rfl rfl
           trivial
         trivial
       · rename_i l st ht
         split
         · rename_i m hk
           refine aU (Wd _ _ _ _ _ _ _ _) (fun hT=>?_) fun _=>trivial
           obtain ⟨kt,hT⟩:=zP hT
           split
           · rename_i h0
             exact aNW fS hT hs hm hb hx hi h0 (fun v hv=>tJ hk hv) ht (fun o ho=>ho) rfl rfl
           trivial
         trivial
       trivial
     trivial
   trivial
 · rename_i T x s y
   split
   · rename_i t hx
     split
     · rename_i m hi
       split
       · rename_i v hy
         refine aU (Wd _ _ _ _ _ _ _ _) (fun hb=>?_) fun _=>trivial
         rw [Bool.and_eq_true,dN,decide_eq_true_eq] at hb
         split
         · rename_i l st ht
           refine aU (Wd _ _ _ _ _ _ _ _) (fun hl=>?_) fun _=>trivial
           exact aNX hs hm hb.1 hx hi hy hb.2 hl ht (fun o ho=>ho) rfl rfl
         · rename_i l st ht
           refine aU (Wd _ _ _ _ _ _ _ _) (fun hl=>?_) fun _=>trivial
           exact aNX hs hm hb.1 hx hi hy hb.2 hl ht (fun o ho=>ho) rfl rfl
         trivial
       trivial
     trivial
   trivial
 · rename_i T N parts
   refine aU (Wd _ _ _ _ _ _ _ _) (fun hb=>?_) fun _=>trivial
   rw [Bool.and_eq_true] at hb
   have:=Nat.eq_of_beq_eq_true hb.1
   subst this
   split
   · split
     · rename_i e sz hT
       have hT':=eW hT
       refine Wd.new (s:=0) hm hb.2 rfl (dJ w _) (dO w _) (cG w _) (v:=.slice (some ⟨w.heap.size,0,none⟩) 0 0) (fK KL.nil e) (fun ρ' h=>eL.2 ⟨by rw [h],by omega,by omega,by omega⟩) (Nat.lt_succ_self _) fun d ty pos after g=>?_
       simp [execOp,Instr.buildSlice,run_underlying hT'.1,run_sizeOf w hT'.2,Instr.fill,newRow,show Array.range 0=#[] from Array.eq_empty_of_size_eq_zero (by simp)]
     trivial
   trivial
 · rename_i s t x
   split
   · rename_i b o N sz c hx
     split
     · rename_i e ht
       split
       · rename_i he
         refine aU (Wd _ _ _ _ _ _ _ _) (fun hb=>?_) fun _=>trivial
         rw [Bool.and_eq_true] at hb
         have:=Nat.eq_of_beq_eq_true hb.1
         subst this
         have hf:=bA hb.2
         split
         · rename_i l ty st hbk
           obtain ⟨v,e1,k1⟩:=aJ hs hx
           obtain ⟨_,_,_,ob,h3,vs,junk,kl,rfl,hlen,hj⟩:=hm.own b _ hbk
           have hj0:=hj rfl
           subst hj0
           rw [List.append_nil] at h3
           obtain ⟨C,hv⟩:=oT k1
           subst hv
           obtain ⟨m2,o2⟩:=hm.write (b':=.ro l ty nx) (by omega) rfl hbk freeze_upd (freeze_at (k:=vs.toArray.size) h3) ⟨vs,_,kl,rfl⟩
           refine ⟨Nat.le_succ _,_,_,ρ,Ext.refl _ _,⟨k1.1.mono (Nat.le_succ _) _,k1.2⟩,m2,hf,o2,fun d ty pos after g=>?_⟩
           simp only [execOp,fT e1,Sem.run_bind,run_mark ht he h3,Result.andThen_ok,Sem.run_pure]
         trivial
       trivial
     trivial
   trivial
 · rename_i T x
   split
   · rename_i t o hx
     split
     · rename_i l ty st ht
       refine aU (Wd _ _ _ _ _ _ _ _) (fun h1=>?_) fun _=>trivial
       split
       · rename_i c hc
         obtain ⟨v,e1,k1⟩:=aJ hs hx
         have e3:=DV.ptr.1 k1.2
         subst e3
         obtain ⟨_,_,_,ob,h3,vs,fz,kl,rfl⟩:=hm.own t _ ht
         obtain ⟨u,e2,k3⟩:=aGU kl hc
         refine ⟨Nat.le_refl _,u,w,ρ,Ext.refl _ _,k3,hm,hfit,OldX.refl,fun d ty pos after g=>?_⟩
         have hc:w.cell? ⟨(ρ t).1,o,none⟩=some u:=by rw [cell_of_block h3];simpa using e2
         simp [execOp,fT e1,gC h1 hc]
       trivial
     trivial
   trivial
 · rename_i T x i
   split
   · rename_i s hx
     split
     · rename_i hT
       split
       · rename_i k m hi
         refine aU (Wd _ _ _ _ _ _ _ _) (fun h1=>?_) fun _=>trivial
         rw [dN,decide_eq_true_eq] at h1
         split
         · rename_i c hc
           obtain ⟨v,e1,k1⟩:=aJ hs hx
           obtain ⟨bs,rfl,k2⟩:=zT k1
           obtain ⟨v2,e2,k3⟩:=aJ hs hi
           have e3:=DV.int.1 k3.2
           subst e3
           obtain ⟨u,e4,k4⟩:=qH k2 hc
           refine ⟨Nat.le_refl _,u,w,ρ,Ext.refl _ _,k4,hm,hfit,OldX.refl,fun d ty pos after g=>?_⟩
           have e5:∃ b,bs[m.toNat]?=some b∧u=.int .u8 b.toNat:=by
            rw [List.getElem?_map] at e4
            cases hb:bs[m.toNat]? with
            | none=>rw [hb] at e4;cases e4
            | some b=>rw [hb] at e4;cases e4;exact ⟨b,rfl,rfl⟩
           obtain ⟨b,e6,rfl⟩:=e5
           have e7:(ByteArray.mk bs.toArray)[m.toNat]?=some b:=by
            obtain ⟨hl,hg⟩:=List.getElem?_eq_some_iff.1 e6
            have hs':m.toNat<(ByteArray.mk bs.toArray).size:=by show m.toNat<bs.toArray.size;simpa using hl
            rw [getElem?_pos (ByteArray.mk bs.toArray) m.toNat hs']
            congr 1
           simp [execOp,fT e1,fT e2,Instr.index,asIntOf,run_underlying hT,h1,e7]
         trivial
       trivial
     trivial
   trivial
 trivial
def wm (P:Program) (E:Tr CV) (h:Tr CB) (nx:Nat) (op:Op):Ro:=match wv P E h nx op with
 | .bad=>mv P E h nx op
 | r=>r
theorem wm_ok {op:Op} (hs:Slots ρ E nx n a) (hm:Mem ρ w0 h nx w) (hfit:nx≤Fit):Wd P op ρ w0 h nx a w (wm P E h nx op):=by
 unfold wm
 have H:=wv_ok (P:=P) (op:=op) hs hm hfit
 split
 · exact mv_ok hs hm hfit
 exact H
end
end Go.Sl.Ev
namespace Go.Sl
open Go
section
variable {P:Program} {B:Bs} {e:Env} {D:List Deferred} {H:Hp} {G:Imm} {K:Act→World→Prop} {ops:Array Oper} {rest:List Oper} {d:Nat} {ty:TypeId} {pos:String} {after:Array Edge}
theorem Wl.mark {T E ty0:TypeId} {x:Operand} {b n c:Nat} {cs:List Value} (t:Nat) (hn:Nat.ble (d+1) B.n=true) (hT:P.underlying T=some (.slice E)) (hE:P.underlying E=some (.int .u8)) (hx:e.ev x=some (.slice (some ⟨b,0,none⟩) n c)) (ht:H.get t=some (some b,.cells cs.toArray ty0 (0,0)))
 (h:Wl P ops rest B ⟨(d,.slice (some ⟨b,0,none⟩) n c) :: e,D,(t,some b,.cells cs.toArray ty0 (cs.toArray.size,cs.toArray.size+1)) :: H,G⟩ K):Wl P ops (⟨some d,.convert T T x,ty,pos,after,none⟩ :: rest) B ⟨e,D,H,G⟩ K:=
 kK (v:=.slice (some ⟨b,0,none⟩) n c) (x:=.value (.slice (some ⟨b,0,none⟩) n c)) ht (.inr ⟨rfl,d,rfl,hn⟩) (fun a w hh=>by
  have hb:=hh.mem.own t b _ ht
  refine ⟨_,?_,Ev.freeze_upd,Ev.freeze_at (k:=cs.toArray.size) hb⟩
  simp only [execOp,hh.eval hx,Sem.run_bind,Ev.run_mark hT hE hb,Result.andThen_ok,Sem.run_pure]) h
end
end Go.Sl
namespace Go.Proofs.YtfdcckcadfhpeaaGreatDoor
open Go Go.Sl
theorem c73 (G:Imm) (b:Nat):Does Tryz.prog 73 [.pointer (some ⟨b,0,none⟩)] G [] (fun v G' Ho=>v=.agg #[.pointer (some ⟨b,3,none⟩),.pointer (some ⟨b,7,none⟩),.pointer (some ⟨b,11,none⟩)]∧G'=G∧Ho=[]):=by
 refine D0 Tryz.func73 Tryz.ntmps73 fun w=>?_
 refine Wc.gl 2 [] ?_
 refine Wl.alloc 0 rfl T.zero119 fun b1=>?_
 refine Wl.gc 3 [] ?_
 refine aN [0] [(0,10)] T.mixed [[0],[1],[2],[3],[4],[5],[6],[7],[8]] ?_
 refine Gm.u 9 [] rfl (rB (cs:=[_,_,_]) T.ar119 rfl rfl rfl) ?_
 refine Gm.o1 10 ?_
 refine aA 1 [0] ?_
 refine aO ?_
 refine mG (by kernel_rfl) trivial (by first | exact Imm.le_refl _ | repeat (first | assumption | refine Imm.le_trans ?_ ‹_›)) ?_
 refine Ar.ga 2 [] ?_
 refine aT (.inr rfl) (Ho:=Hp.only _ []) rfl (.agg 0 rfl rfl T.agg119) (aC _ _) ?_
 exact ⟨rfl,rfl,rfl⟩
end Go.Proofs.YtfdcckcadfhpeaaGreatDoor
end
