/- Parts of the proof (part 7): what the rows' text needs of the texts that lead to it. -/
import Derived.Test.YtfdcckcadfhpeaaGreatDoorMUf
set_option linter.unusedVariables false
set_option linter.unusedSimpArgs false
set_option linter.unusedSectionVars false
namespace Go.Sl.Ev
open Go Go.Sl
noncomputable def setN {α:Type} (f:α→α) (l:List α):Nat→List α:=List.rec (fun _=>[]) (fun x xs ih n=>Nat.rec (f x :: xs) (fun n _=>x :: ih n) n) l
theorem setN_eq {α:Type} (f:α→α):∀ (l:List α) (n:Nat),setN f l n=l.modify n f
 | [],n=>by simp [setN]
 | x :: l,0=>rfl
 | x :: l,n+1=>by show x :: setN f l n=_;rw [setN_eq f l n];rfl
noncomputable def mv0 (P:Program) (E:Tr CV) (h:Tr CB) (nx:Nat) (T:TypeId):Ro:=bif Nat.ble (Nat.succ nx) Fit then
 (bif mtI P T then .val (.mp nx) (h.set (some (.mapI [] nx)) Fit nx) (Nat.succ nx) else
  bif mtK P T then .val (.mp nx) (h.set (some (.mapK [] nx)) Fit nx) (Nat.succ nx) else .bad) else .bad
noncomputable def mv1 (P:Program) (E:Tr CV) (h:Tr CB) (nx:Nat) (T:TypeId) (x:Operand) (i:Operand) (c:Bool):Ro:=match evo E x with
 | some (.mp t)=>match evo E i with
   | some k=>match h.get t with
     | some (.mapI l _)=>match keyI k with | some n=>(bif mtI P T then .val (laC c (getM ieq n l)) h nx else .bad) | none=>.bad
     | some (.mapK l _)=>match keyK k with | some n=>(bif mtK P T then .val (laC c (getM eqK n l)) h nx else .bad) | none=>.bad
     | _=>.bad
   | none=>.bad
 | _=>.bad
noncomputable def mv2 (P:Program) (E:Tr CV) (h:Tr CB) (nx:Nat) (T:TypeId) (x:Operand) (i:Operand) (y:Operand):Ro:=match evo E x with
 | some (.mp t)=>match evo E i with
   | some k=>match evo E y with
     | some (.int .i64 v)=>bif Nat.ble (Nat.succ nx) Fit then (match h.get t with
       | some (.mapI l _)=>match keyI k with | some n=>(bif mtI P T then .unit (h.set (some (.mapI (putM ieq n v l) nx)) Fit t) (Nat.succ nx) else .bad) | none=>.bad
       | some (.mapK l _)=>match keyK k with | some n=>(bif mtK P T then .unit (h.set (some (.mapK (putM eqK n v l) nx)) Fit t) (Nat.succ nx) else .bad) | none=>.bad
       | _=>.bad) else .bad
     | _=>.bad
   | none=>.bad
 | _=>.bad
noncomputable def mv3 (P:Program) (E:Tr CV) (h:Tr CB) (nx:Nat) (T:TypeId) (x:Operand) (i:Operand):Ro:=match evo E x with
 | some (.mp t)=>match evo E i with
   | some k=>bif Nat.ble (Nat.succ nx) Fit then (match h.get t with
     | some (.mapK l _)=>match keyK k with
       | some n=>(bif mtK P T then (match getM eqK n l with
         | none=>.val (.tup (.cons (.int .i64 0) (.cons (.int .i64 l.length) .nil))) (h.set (some (.mapK (l++[(n,0)]) nx)) Fit t) (Nat.succ nx)
         | some _=>.bad) else .bad)
       | none=>.bad
     | some (.mapI l _)=>match keyI k with
       | some n=>(bif mtI P T then (match getM ieq n l with
         | none=>.val (.tup (.cons (.int .i64 0) (.cons (.int .i64 l.length) .nil))) (h.set (some (.mapI (l++[(n,0)]) nx)) Fit t) (Nat.succ nx)
         | some _=>.bad) else .bad)
       | none=>.bad
     | _=>.bad) else .bad
   | none=>.bad
 | _=>.bad
noncomputable def mv4 (P:Program) (E:Tr CV) (h:Tr CB) (nx:Nat) (T:TypeId) (x:Operand) (s:Operand) (y:Operand):Ro:=match evo E x with
 | some (.mp t)=>match evo E s with
   | some (.int .i64 m)=>match evo E y with
     | some (.int .i64 v)=>bif Nat.ble (Nat.succ nx) Fit && ile 0 m then (match h.get t with
       | some (.mapK l _)=>bif Nat.ble (Nat.succ m.toNat) l.length then .unit (h.set (some (.mapK (setN (fun p=>(p.1,v)) l m.toNat) nx)) Fit t) (Nat.succ nx) else .bad
       | some (.mapI l _)=>bif Nat.ble (Nat.succ m.toNat) l.length then .unit (h.set (some (.mapI (setN (fun p=>(p.1,v)) l m.toNat) nx)) Fit t) (Nat.succ nx) else .bad
       | _=>.bad) else .bad
     | _=>.bad
   | _=>.bad
 | _=>.bad
noncomputable def mv5 (P:Program) (E:Tr CV) (h:Tr CB) (nx:Nat) (T:TypeId) (n:Nat) (parts:List (Nat×Operand)):Ro:=bif Nat.beq n 0 && Nat.ble (Nat.succ nx) Fit then (match parts with
 | []=>match slQ P T with
   | some (e,sz)=>.val (.sl nx 0 0 sz (some 0)) (h.set (some (.cells (ofR .nil) e false nx)) Fit nx) (Nat.succ nx)
   | none=>.bad
 | _=>.bad) else .bad
noncomputable def mv6 (P:Program) (E:Tr CV) (h:Tr CB) (nx:Nat) (s:TypeId) (t:TypeId) (x:Operand):Ro:=match evo E x with
 | some (.sl b o n sz c)=>match P.underlying t with
   | some (.slice e)=>match P.underlying e with
     | some (.int .u8)=>bif Nat.beq s t && Nat.ble (Nat.succ nx) Fit then (match h.get b with
       | some (.cells l ty false _)=>.val (.sl b o n sz c) (h.set (some (.ro l ty nx)) Fit b) (Nat.succ nx)
       | _=>.bad) else .bad
     | _=>.bad
   | _=>.bad
 | _=>.bad
noncomputable def mv7 (P:Program) (E:Tr CV) (h:Tr CB) (nx:Nat) (T:TypeId) (x:Operand):Ro:=match evo E x with
 | some (.ptr t o)=>match h.get t with
   | some (.ro l _ _)=>bif oneB P T then (match nthR l o with | some c=>.val c h nx | none=>.bad) else .bad
   | _=>.bad
 | _=>.bad
noncomputable def mv8 (P:Program) (E:Tr CV) (h:Tr CB) (nx:Nat) (T:TypeId) (x:Operand) (i:Operand):Ro:=match evo E x with
 | some (.str s)=>match P.underlying T with
   | some .string=>match evo E i with
     | some (.int _ m)=>bif ile 0 m then (match nthC s m.toNat with | some c=>.val c h nx | none=>.bad) else .bad
     | _=>.bad
   | _=>.bad
 | _=>.bad
noncomputable def mv (P:Program) (E:Tr CV) (h:Tr CB) (nx:Nat):Op→Ro
 | .makeMap T none=>mv0 P E h nx T
 | .lookup T x i c=>mv1 P E h nx T x i c
 | .mapUpdate T x i y=>mv2 P E h nx T x i y
 | .mapEntry T x i=>mv3 P E h nx T x i
 | .entryStore T x s y=>mv4 P E h nx T x s y
 | .buildSlice T n ⟨parts⟩=>mv5 P E h nx T n parts
 | .convert s t x=>mv6 P E h nx s t x
 | .load T x=>mv7 P E h nx T x
 | .index T x i=>mv8 P E h nx T x i
 | _=>.bad
section
variable {P:Program} {nx n:Nat} {ρ:Pl} {Φ:Imm→Prop} {w0:Bas Φ} {w:World} {E:Tr CV} {h:Tr CB} {a:Act}
theorem map_put {κ:Type} [DecidableEq κ] [OneVal κ] {t:Nat} {b b':CB} {l:List (κ×Int)} (hm:Mem ρ w0 h nx w) (hfit:nx≤Fit) (ht:h.get t=some b) (hst:stB b'=nx) (hb:DB nx ρ (ρ t).2 b' (mapObj l)) :
 Mem ρ w0 (h.set (some b') Fit t) (nx+1) { w with heap:=w.heap.setIfInBounds (ρ t).1 (mapObj l) }∧Old ρ h nx w ρ (h.set (some b') Fit t) { w with heap:=w.heap.setIfInBounds (ρ t).1 (mapObj l) }:=
 hm.write hfit hst ht upd_set (by simp [hm.lt ht]) hb
variable {κ:Type} [DecidableEq κ] [OneVal κ] {T kt:TypeId}
theorem run_mapUpdate {r:Nat} {xs:List (κ×Int)} {k:κ} {v:Int} (hT:MapT P T kt κ) (hb:w.heap[r]?=some (mapObj xs)):(Instr.mapUpdate T (.map (some r)) (OneVal.val k) (.int .i64 v)).run P w =
 .ok () { w with heap:=w.heap.setIfInBounds r (mapObj (mput xs k v)) }:=by
 obtain ⟨⟨et,hu,hz⟩,hk⟩:=hT
 simp only [Instr.mapUpdate,Sem.run_bind,run_underlying hu,Result.andThen_ok,MapKept.run_getObj_map (P:=P) hb,Sem.run_pure,hk.check,hk.look]
 cases hm:mget xs k with
 | none =>
   rw [(mget_none xs k).1 hm,mput_none xs k v hm]
   simp only [Option.bind_none,MapKept.run_setObj_map (P:=P) _ hb,Result.andThen_ok]
   congr 3
   simp [mapObj,entries_append,entries]
 | some u =>
   obtain ⟨i,h1,h2,h3⟩:=mget_some xs k hm
   rw [h1,h3]
   have hg:(entries 0 xs)[i]?=some { key:=OneVal.val k,val:=.int .i64 u,born:=0+i }:=by rw [entries_get,h2];rfl
   simp only [Option.bind_some,Option.map_some,List.getElem?_toArray,hg,Option.getD_some,Sem.run_bind,hk.stays,Result.andThen_ok,MapKept.run_setObj_map (P:=P) _ hb]
   congr 3
   simp only [mapObj,List.length_set,entries_set xs i k u v h2]
   congr 1
   apply Array.ext'
   simp only [Array.toList_modify]
   apply List.ext_getElem?
   intro j
   simp only [List.getElem?_modify,entries_get]
   by_cases hij:i=j
   · subst hij;simp [h2]
   simp [hij]
theorem run_mapEntry {r:Nat} {xs:List (κ×Int)} {k:κ} (hT:MapT P T kt κ) (hb:w.heap[r]?=some (mapObj xs)) (hk0:mget xs k=none):(Instr.mapEntry T (.map (some r)) (OneVal.val k)).run P w =
 .ok (.tuple #[.int .i64 0,.int .i64 xs.length]) { w with heap:=w.heap.setIfInBounds r (mapObj (xs++[(k,0)])) }:=by
 obtain ⟨⟨et,hu,hz⟩,hk⟩:=hT
 simp only [Instr.mapEntry,Sem.run_bind,run_underlying hu,Result.andThen_ok,MapKept.run_getObj_map (P:=P) hb,Sem.run_pure,hk.check,hk.look]
 rw [(mget_none xs k).1 hk0]
 simp only [Option.bind_none,Sem.run_bind,hz,Result.andThen_ok,MapKept.run_setObj_map (P:=P) _ hb,Sem.run_pure,goInt]
 congr 3
 simp [mapObj,entries_append,entries]
theorem run_entryStore {r i:Nat} {xs:List (κ×Int)} {v:Int} (hb:w.heap[r]?=some (mapObj xs)) (hi:i<xs.length):(Instr.entryStore T (.map (some r)) (.int .i64 i) (.int .i64 v)).run P w =
 .ok () { w with heap:=w.heap.setIfInBounds r (mapObj (xs.modify i fun p=>(p.1,v))) }:=by
 obtain ⟨k,u,hku⟩:∃ k u,xs[i]?=some (k,u):=⟨_,_,List.getElem?_eq_getElem hi⟩
 have hfind:(entries 0 xs).toArray.findIdx? (fun e=>(e.born:Int) == ((i:Nat):Int))=some i:=by
  rw [List.findIdx?_toArray,List.findIdx?_eq_some_iff_getElem]
  have hl:(entries 0 xs).length=xs.length:=entries_length xs 0
  refine ⟨by omega,?_,?_⟩
  · have:=entries_get xs 0 i
    rw [List.getElem?_eq_getElem (show i<(entries 0 xs).length by omega),hku] at this
    simp at this
    simp [this]
  intro j hj
  have:=entries_get xs 0 j
  rw [List.getElem?_eq_getElem (show j<(entries 0 xs).length by omega),List.getElem?_eq_getElem (show j<xs.length by omega)] at this
  simp at this
  simp [this];omega
 simp only [Instr.entryStore,Sem.run_bind,MapKept.run_getObj_map (P:=P) hb,Result.andThen_ok,asInt,asIntOf,Sem.run_pure]
 rw [hfind]
 simp only [MapKept.run_setObj_map (P:=P) _ hb,Result.andThen_ok,Sem.run_pure]
 congr 3
 have h3:=entries_set xs i k u v hku 0
 have h4:xs.modify i (fun p=>(p.1,v))=xs.set i (k,v):=by
  apply List.ext_getElem?
  intro j
  rw [List.getElem?_modify,List.getElem?_set]
  by_cases hij:i=j
  · subst hij;obtain ⟨_,hg⟩:=List.getElem?_eq_some_iff.1 hku;simp [hi,hg]
  simp [hij]
 rw [h4]
 simp only [mapObj,h3,List.length_set]
 simp
theorem look_ok {κ:Type} [DecidableEq κ] [OneVal κ] {eq:κ→κ→Bool} (he:∀ a b,eq a b=decide (a=b)) {T kt t:Nat} {x i:Operand} {c:Bool} {l:List (κ×Int)} {b:CB} {k:κ} {kc:CV} (hT:MapT P T kt κ) (hs:Slots ρ E nx n a) (hm:Mem ρ w0 h nx w) (hfit:nx≤Fit)
 (hx:evo E x=some (.mp t)) (hi:evo E i=some kc) (hk:∀ v,Kn nx ρ kc v→v=OneVal.val k) (ht:h.get t=some b) (hb:∀ o,DB nx ρ (ρ t).2 b o→o=mapObj l):Wd P (.lookup T x i c) ρ w0 h nx a w (.val (laC c (getM eq k l)) h nx):=by
 obtain ⟨v1,e1,k1⟩:=evo_ok hs hx
 obtain ⟨v2,e2,k2⟩:=evo_ok hs hi
 have:=mp_inv k1
 subst this
 have:=hk _ k2
 subst this
 obtain ⟨_,_,_,o,h3,h4⟩:=hm.own t _ ht
 have:=hb o h4
 subst this
 rw [getM_eq he]
 refine ⟨Nat.le_refl _,_,w,ρ,Ext.refl _ _,kn_la,hm,hfit,OldX.refl,fun d ty pos after g=>?_⟩
 simp only [execOp,ev_a e1,ev_a e2,Sem.run_bind,run_lookup hT h3 c,Result.andThen_ok,Sem.run_pure]
theorem upd_ok {κ:Type} [DecidableEq κ] [OneVal κ] {eq:κ→κ→Bool} (he:∀ a b,eq a b=decide (a=b)) {T kt t:Nat} {x i y:Operand} {l:List (κ×Int)} {b b':CB} {k:κ} {kc:CV} {v:Int} (hT:MapT P T kt κ) (hs:Slots ρ E nx n a) (hm:Mem ρ w0 h nx w) (hfit:Nat.ble (Nat.succ nx) Fit=true)
 (hx:evo E x=some (.mp t)) (hi:evo E i=some kc) (hy:evo E y=some (.int .i64 v)) (hk:∀ v,Kn nx ρ kc v→v=OneVal.val k) (ht:h.get t=some b) (hb:∀ o,DB nx ρ (ρ t).2 b o→o=mapObj l) (hst:stB b'=nx) (hb':DB nx ρ (ρ t).2 b' (mapObj (putM eq k v l))) :
 Wd P (.mapUpdate T x i y) ρ w0 h nx a w (.unit (h.set (some b') Fit t) (Nat.succ nx)):=by
 obtain ⟨v1,e1,k1⟩:=evo_ok hs hx
 obtain ⟨v2,e2,k2⟩:=evo_ok hs hi
 obtain ⟨v3,e3,k3⟩:=evo_ok hs hy
 have:=mp_inv k1
 subst this
 have:=hk _ k2
 subst this
 have:=DV.int.1 k3.2
 subst this
 obtain ⟨_,_,_,o,h3,h4⟩:=hm.own t _ ht
 have:=hb o h4
 subst this
 have hf:=le_ble hfit
 obtain ⟨g1,g2⟩:=map_put hm (by omega) ht hst hb'
 refine ⟨Nat.le_succ _,_,ρ,Ext.refl _ _,g1,hf,g2,fun ty pos after g=>?_⟩
 rw [putM_eq he]
 simp only [execOp,ev_a e1,ev_a e2,ev_a e3,Sem.run_bind,run_mapUpdate hT h3,Result.andThen_ok,Sem.run_pure]
theorem ent_ok {κ:Type} [DecidableEq κ] [OneVal κ] {eq:κ→κ→Bool} (he:∀ a b,eq a b=decide (a=b)) {T kt t:Nat} {x i:Operand} {l:List (κ×Int)} {b b':CB} {k:κ} {kc:CV} (hT:MapT P T kt κ) (hs:Slots ρ E nx n a) (hm:Mem ρ w0 h nx w) (hfit:Nat.ble (Nat.succ nx) Fit=true)
 (hx:evo E x=some (.mp t)) (hi:evo E i=some kc) (h0:getM eq k l=none) (hk:∀ v,Kn nx ρ kc v→v=OneVal.val k) (ht:h.get t=some b) (hb:∀ o,DB nx ρ (ρ t).2 b o→o=mapObj l) (hst:stB b'=nx) (hb':DB nx ρ (ρ t).2 b' (mapObj (l++[(k,0)]))) :
 Wd P (.mapEntry T x i) ρ w0 h nx a w (.val (.tup (.cons (.int .i64 0) (.cons (.int .i64 l.length) .nil))) (h.set (some b') Fit t) (Nat.succ nx)):=by
 obtain ⟨v1,e1,k1⟩:=evo_ok hs hx
 obtain ⟨v2,e2,k2⟩:=evo_ok hs hi
 have:=mp_inv k1
 subst this
 have:=hk _ k2
 subst this
 obtain ⟨_,_,_,o,h3,h4⟩:=hm.own t _ ht
 have:=hb o h4
 subst this
 have hf:=le_ble hfit
 rw [getM_eq he] at h0
 obtain ⟨g1,g2⟩:=map_put hm (by omega) ht hst hb'
 refine ⟨Nat.le_succ _,.tuple #[.int .i64 0,.int .i64 l.length],_,ρ,Ext.refl _ _,⟨⟨trivial,trivial,trivial⟩,DV.tup.2 ⟨_,DL.cons.2 ⟨_,_,rfl,rfl,DL.cons.2 ⟨_,_,rfl,rfl,rfl⟩⟩,rfl⟩⟩,g1,hf,g2,fun d ty pos after g=>?_⟩
 simp only [execOp,ev_a e1,ev_a e2,Sem.run_bind,run_mapEntry hT h3 h0,Result.andThen_ok,Sem.run_pure]
theorem est_ok {κ:Type} [DecidableEq κ] [OneVal κ] {T t:Nat} {x s y:Operand} {l:List (κ×Int)} {b b':CB} {m v:Int} (hs:Slots ρ E nx n a) (hm:Mem ρ w0 h nx w) (hfit:Nat.ble (Nat.succ nx) Fit=true)
 (hx:evo E x=some (.mp t)) (hi:evo E s=some (.int .i64 m)) (hy:evo E y=some (.int .i64 v)) (h0:0≤m) (hl:Nat.ble (Nat.succ m.toNat) l.length=true) (ht:h.get t=some b) (hb:∀ o,DB nx ρ (ρ t).2 b o→o=mapObj l) (hst:stB b'=nx) (hb':DB nx ρ (ρ t).2 b' (mapObj (setN (fun p=>(p.1,v)) l m.toNat))) :
 Wd P (.entryStore T x s y) ρ w0 h nx a w (.unit (h.set (some b') Fit t) (Nat.succ nx)):=by
 obtain ⟨v1,e1,k1⟩:=evo_ok hs hx
 obtain ⟨v2,e2,k2⟩:=evo_ok hs hi
 obtain ⟨v3,e3,k3⟩:=evo_ok hs hy
 have:=mp_inv k1
 subst this
 have:=DV.int.1 k2.2
 subst this
 have:=DV.int.1 k3.2
 subst this
 obtain ⟨_,_,_,o,h3,h4⟩:=hm.own t _ ht
 have:=hb o h4
 subst this
 have hf:=le_ble hfit
 obtain ⟨g1,g2⟩:=map_put hm (by omega) ht hst hb'
 refine ⟨Nat.le_succ _,_,ρ,Ext.refl _ _,g1,hf,g2,fun ty pos after g=>?_⟩
 rw [setN_eq]
 have hr:=run_entryStore (P:=P) (T:=T) (w:=w) (v:=v) h3 (le_ble hl)
 rw [Int.toNat_of_nonneg h0] at hr
 simp only [execOp,ev_a e1,ev_a e2,ev_a e3,Sem.run_bind,hr,Result.andThen_ok,Sem.run_pure]
theorem kn_mp {ρ':Pl} {s:Nat} (h:ρ' nx=(w.heap.size,s)):DV ρ' (.mp nx) (.map (some w.heap.size)):=by rw [DV.mp,h]
theorem run_mark {t e:TypeId} {b o n c:Nat} {cs:Array Value} {ty:TypeId} (ht:P.underlying t=some (.slice e)) (he:P.underlying e=some (.int .u8)) (hb:w.heap[b]?=some (.cells cs ty (0,0))) :
 (convert t t (.slice (some ⟨b,o,none⟩) n c)).run P w=.ok (.slice (some ⟨b,o,none⟩) n c) (w.freeze ⟨b,cs.size,none⟩ 1):=by
 have hsh:w.shape? b=some (ty,cs.size):=by unfold World.shape?;rw [hb]
 simp [convert,run_underlying ht,run_underlying he,markStringish,hsh]
theorem freeze_upd {b k:Nat}:Upd (·=b) w (w.freeze ⟨b,k,none⟩ 1):=⟨rfl,rfl,rfl,by simp [World.freeze],fun j _ hj=>by
 have hj':b≠j:=fun e=>hj e.symm
 simp [World.freeze,Array.getElem?_modify,hj']⟩
theorem freeze_at {b k:Nat} {cs:Array Value} {ty:TypeId} (hb:w.heap[b]?=some (.cells cs ty (0,0))):(w.freeze ⟨b,k,none⟩ 1).heap[b]?=some (.cells cs ty (k,k+1)):=by
 simp [World.freeze,Array.getElem?_modify,hb]
theorem mv_ok {op:Op} (hs:Slots ρ E nx n a) (hm:Mem ρ w0 h nx w) (hfit:nx≤Fit):Wd P op ρ w0 h nx a w (mv P E h nx op):=by
 unfold mv mv0 mv1 mv2 mv3 mv4 mv5 mv6 mv7 mv8
 split
 · rename_i T
   refine bif_val (Wd _ _ _ _ _ _ _ _) (fun hb=>?_) fun _=>trivial
   have hr:∀ (d:Option Tmp) (ty:TypeId) (pos:String) (after:Array Edge) (g:Option (Nat×Bool)),(execOp a.eval ⟨d,.makeMap T none,ty,pos,after,g⟩).run P w=.ok (.value (.map (some w.heap.size))) (w.alloc (mapObj ([]:List (Int×Int)))):=fun d ty pos after g=>by
    simp only [execOp,Option.map_none,Sem.run_bind,run_makeMap_here,Result.andThen_ok,Sem.run_pure];rfl
   refine bif_val (Wd _ _ _ _ _ _ _ _) (fun _=>?_) fun _=>?_
   · exact Wd.new (s:=0) hm hb rfl (alloc_upd w _) (alloc_size w _) (alloc_new w _) rfl (fun ρ' h=>kn_mp h) (Nat.lt_succ_self _) hr
   refine bif_val (Wd _ _ _ _ _ _ _ _) (fun _=>?_) fun _=>trivial
   exact Wd.new (s:=0) hm hb rfl (alloc_upd w _) (alloc_size w _) (alloc_new w _) rfl (fun ρ' h=>kn_mp h) (Nat.lt_succ_self _) hr
 · rename_i T x i c
   split
   · rename_i t hx
     split
     · rename_i k hi
       split
       · rename_i l st ht
         split
         · rename_i m hk
           refine bif_val (Wd _ _ _ _ _ _ _ _) (fun hT=>?_) fun _=>trivial
           obtain ⟨kt,hT⟩:=mtI_ok hT
           exact look_ok ieq_eq hT hs hm hfit hx hi (fun v hv=>keyI_ok hk hv) ht fun o ho=>ho
         trivial
       · rename_i l st ht
         split
         · rename_i m hk
           refine bif_val (Wd _ _ _ _ _ _ _ _) (fun hT=>?_) fun _=>trivial
           obtain ⟨kt,hT⟩:=mtK_ok hT
           exact look_ok eqK_eq hT hs hm hfit hx hi (fun v hv=>keyK_ok hk hv) ht fun o ho=>ho
         trivial
       trivial
     trivial
   trivial
 · rename_i T x i y
   split
   · rename_i t hx
     split
     · rename_i k hi
       split
       · rename_i v hy
         refine bif_val (Wd _ _ _ _ _ _ _ _) (fun hb=>?_) fun _=>trivial
         split
         · rename_i l st ht
           split
           · rename_i m hk
             refine bif_val (Wd _ _ _ _ _ _ _ _) (fun hT=>?_) fun _=>trivial
             obtain ⟨kt,hT⟩:=mtI_ok hT
             exact upd_ok ieq_eq hT hs hm hb hx hi hy (fun v hv=>keyI_ok hk hv) ht (fun o ho=>ho) rfl rfl
           trivial
         · rename_i l st ht
           split
           · rename_i m hk
             refine bif_val (Wd _ _ _ _ _ _ _ _) (fun hT=>?_) fun _=>trivial
             obtain ⟨kt,hT⟩:=mtK_ok hT
             exact upd_ok eqK_eq hT hs hm hb hx hi hy (fun v hv=>keyK_ok hk hv) ht (fun o ho=>ho) rfl rfl
           trivial
         trivial
       trivial
     trivial
   trivial
 · rename_i T x i
   split
   · rename_i t hx
     split
     · rename_i k hi
       refine bif_val (Wd _ _ _ _ _ _ _ _) (fun hb=>?_) fun _=>trivial
       split
       · rename_i l st ht
         split
         · rename_i m hk
           refine bif_val (Wd _ _ _ _ _ _ _ _) (fun hT=>?_) fun _=>trivial
           obtain ⟨kt,hT⟩:=mtK_ok hT
           split
           · rename_i h0
             exact ent_ok eqK_eq hT hs hm hb hx hi h0 (fun v hv=>keyK_ok hk hv) ht (fun o ho=>ho) rfl rfl
           trivial
         trivial
       · rename_i l st ht
         split
         · rename_i m hk
           refine bif_val (Wd _ _ _ _ _ _ _ _) (fun hT=>?_) fun _=>trivial
           obtain ⟨kt,hT⟩:=mtI_ok hT
           split
           · rename_i h0
             exact ent_ok ieq_eq hT hs hm hb hx hi h0 (fun v hv=>keyI_ok hk hv) ht (fun o ho=>ho) rfl rfl
           trivial
         trivial
       trivial
     trivial
   trivial
 · rename_i T x s y
   split
   · rename_i t hx
     split
     · rename_i m hi
       split
       · rename_i v hy
         refine bif_val (Wd _ _ _ _ _ _ _ _) (fun hb=>?_) fun _=>trivial
         rw [Bool.and_eq_true,ile_eq,decide_eq_true_eq] at hb
         split
         · rename_i l st ht
           refine bif_val (Wd _ _ _ _ _ _ _ _) (fun hl=>?_) fun _=>trivial
           exact est_ok hs hm hb.1 hx hi hy hb.2 hl ht (fun o ho=>ho) rfl rfl
         · rename_i l st ht
           refine bif_val (Wd _ _ _ _ _ _ _ _) (fun hl=>?_) fun _=>trivial
           exact est_ok hs hm hb.1 hx hi hy hb.2 hl ht (fun o ho=>ho) rfl rfl
         trivial
       trivial
     trivial
   trivial
 · rename_i T N parts
   refine bif_val (Wd _ _ _ _ _ _ _ _) (fun hb=>?_) fun _=>trivial
   rw [Bool.and_eq_true] at hb
   have:=Nat.eq_of_beq_eq_true hb.1
   subst this
   split
   · split
     · rename_i e sz hT
       have hT':=slQ_ok hT
       refine Wd.new (s:=0) hm hb.2 rfl (alloc_upd w _) (alloc_size w _) (alloc_new w _) (v:=.slice (some ⟨w.heap.size,0,none⟩) 0 0) (kl_cells KL.nil e) (fun ρ' h=>DV.slS.2 ⟨by rw [h],by omega,by omega,by omega⟩) (Nat.lt_succ_self _) fun d ty pos after g=>?_
       simp [execOp,Instr.buildSlice,run_underlying hT'.1,run_sizeOf w hT'.2,Instr.fill,newRow,show Array.range 0=#[] from Array.eq_empty_of_size_eq_zero (by simp)]
     trivial
   trivial
 · rename_i s t x
   split
   · rename_i b o N sz c hx
     split
     · rename_i e ht
       split
       · rename_i he
         refine bif_val (Wd _ _ _ _ _ _ _ _) (fun hb=>?_) fun _=>trivial
         rw [Bool.and_eq_true] at hb
         have:=Nat.eq_of_beq_eq_true hb.1
         subst this
         have hf:=le_ble hb.2
         split
         · rename_i l ty st hbk
           obtain ⟨v,e1,k1⟩:=evo_ok hs hx
           obtain ⟨_,_,_,ob,h3,vs,junk,kl,rfl,hlen,hj⟩:=hm.own b _ hbk
           have hj0:=hj rfl
           subst hj0
           rw [List.append_nil] at h3
           obtain ⟨C,hv⟩:=sl_inv k1
           subst hv
           obtain ⟨m2,o2⟩:=hm.write (b':=.ro l ty nx) (by omega) rfl hbk freeze_upd (freeze_at (k:=vs.toArray.size) h3) ⟨vs,_,kl,rfl⟩
           refine ⟨Nat.le_succ _,_,_,ρ,Ext.refl _ _,⟨k1.1.mono (Nat.le_succ _) _,k1.2⟩,m2,hf,o2,fun d ty pos after g=>?_⟩
           simp only [execOp,ev_a e1,Sem.run_bind,run_mark ht he h3,Result.andThen_ok,Sem.run_pure]
         trivial
       trivial
     trivial
   trivial
 · rename_i T x
   split
   · rename_i t o hx
     split
     · rename_i l ty st ht
       refine bif_val (Wd _ _ _ _ _ _ _ _) (fun h1=>?_) fun _=>trivial
       split
       · rename_i c hc
         obtain ⟨v,e1,k1⟩:=evo_ok hs hx
         have e3:=DV.ptr.1 k1.2
         subst e3
         obtain ⟨_,_,_,ob,h3,vs,fz,kl,rfl⟩:=hm.own t _ ht
         obtain ⟨u,e2,k3⟩:=nthR_ok kl hc
         refine ⟨Nat.le_refl _,u,w,ρ,Ext.refl _ _,k3,hm,hfit,OldX.refl,fun d ty pos after g=>?_⟩
         have hc:w.cell? ⟨(ρ t).1,o,none⟩=some u:=by rw [cell_of_block h3];simpa using e2
         simp [execOp,ev_a e1,run_loadAt_one h1 hc]
       trivial
     trivial
   trivial
 · rename_i T x i
   split
   · rename_i s hx
     split
     · rename_i hT
       split
       · rename_i k m hi
         refine bif_val (Wd _ _ _ _ _ _ _ _) (fun h1=>?_) fun _=>trivial
         rw [ile_eq,decide_eq_true_eq] at h1
         split
         · rename_i c hc
           obtain ⟨v,e1,k1⟩:=evo_ok hs hx
           obtain ⟨bs,rfl,k2⟩:=str_inv k1
           obtain ⟨v2,e2,k3⟩:=evo_ok hs hi
           have e3:=DV.int.1 k3.2
           subst e3
           obtain ⟨u,e4,k4⟩:=nthC_ok k2 hc
           refine ⟨Nat.le_refl _,u,w,ρ,Ext.refl _ _,k4,hm,hfit,OldX.refl,fun d ty pos after g=>?_⟩
           have e5:∃ b,bs[m.toNat]?=some b∧u=.int .u8 b.toNat:=by
            rw [List.getElem?_map] at e4
            cases hb:bs[m.toNat]? with
            | none=>rw [hb] at e4;cases e4
            | some b=>rw [hb] at e4;cases e4;exact ⟨b,rfl,rfl⟩
           obtain ⟨b,e6,rfl⟩:=e5
           have e7:(ByteArray.mk bs.toArray)[m.toNat]?=some b:=by
            obtain ⟨hl,hg⟩:=List.getElem?_eq_some_iff.1 e6
            have hs':m.toNat<(ByteArray.mk bs.toArray).size:=by show m.toNat<bs.toArray.size;simpa using hl
            rw [getElem?_pos (ByteArray.mk bs.toArray) m.toNat hs']
            congr 1
           simp [execOp,ev_a e1,ev_a e2,Instr.index,asIntOf,run_underlying hT,h1,e7]
         trivial
       trivial
     trivial
   trivial
 trivial
noncomputable def wm (P:Program) (E:Tr CV) (h:Tr CB) (nx:Nat) (op:Op):Ro:=match wv P E h nx op with
 | .bad=>mv P E h nx op
 | r=>r
theorem wm_ok {op:Op} (hs:Slots ρ E nx n a) (hm:Mem ρ w0 h nx w) (hfit:nx≤Fit):Wd P op ρ w0 h nx a w (wm P E h nx op):=by
 unfold wm
 have H:=wv_ok (P:=P) (op:=op) hs hm hfit
 split
 · exact mv_ok hs hm hfit
 exact H
end
end Go.Sl.Ev
namespace Go.Sl.Ev
open Go Go.Sl
def MkRes (P:Program) (op:Op) (ρ:Pl) (h:Tr CB) (nx:Nat) (a:Act) (c:CV) (h':Tr CB) (nx':Nat):Prop:=
 ∃ (b:CB) (s:Nat) (o:Obj) (V:Nat→Value),nx'=nx+1∧h'=h.set (some b) Fit nx∧nx+1≤Fit∧stB b=nx∧DB nx ρ s b o∧
  (∀ (ρ':Pl) (p:Nat),ρ' nx=(p,s)→Kn (nx+1) ρ' c (V p))∧
  ∀ (w:World) (d:Option Tmp) (ty:TypeId) (pos:String) (after:Array Edge) (g:Option (Nat×Bool)),(execOp a.eval ⟨d,op,ty,pos,after,g⟩).run P w=.ok (.value (V w.heap.size)) (w.alloc o)
def mkrK:Op→Option (List Operand)
 | .alloc _=>some []
 | .box _ x=>some [x]
 | .makeSlice _ x y=>some [x,y]
 | .buildSlice _ _ parts=>some (parts.toList.map (·.2))
 | .makeMap _ none=>some []
 | _=>none
section
variable {P:Program} {nx n:Nat} {ρ:Pl} {E:Tr CV} {h:Tr CB} {a:Act}
theorem mk_ok (hs:Slots ρ E nx n a) {op:Op} {xs:List Operand} (hx:mkrK op=some xs) {c:CV} {h':Tr CB} {nx':Nat} (hw:wm P E h nx op=.val c h' nx'):MkRes P op ρ h nx a c h' nx':=by
 have hv:wv P E h nx op=.val c h' nx'∨mv P E h nx op=.val c h' nx':=by
  unfold wm at hw
  split at hw
  · exact .inr hw
  exact .inl hw
 cases op with
 | alloc T =>
   rcases hv with hv | hv
   · have hv':(match zeQ P T with | some z=>bif Nat.ble (Nat.succ nx) Fit then Ro.val (.ptr nx 0) (h.set (some (.cells (ofR z) T false nx)) Fit nx) (Nat.succ nx) else .bad | none=>.bad)=.val c h' nx':=hv
     split at hv'
     · rename_i z hz
       rcases bif_cases hv' with ⟨hf,h1⟩ | ⟨_,h1⟩
       · cases h1
         obtain ⟨i,v,hi,hv,kz⟩:=zeQ_ok hz nx ρ
         refine ⟨_,v.cells.toList.length,.cells v.cells.toList.toArray T (0,0),fun p=>.pointer (some ⟨p,0,none⟩),rfl,rfl,le_ble hf,rfl,kl_cells kz T,fun ρ' p hρ=>⟨Nat.lt_succ_self nx,?_⟩,fun w d ty pos after g=>?_⟩
         · show _=Value.pointer (some ⟨(ρ' nx).1,0,none⟩)
           rw [hρ]
         simp [execOp,Instr.alloc,newVar,newRow,zeroValue,typeInfo,hi,hv]
       cases h1
     cases hv'
   · cases hv
 | box T x =>
   rcases hv with hv | hv
   · have hv':(match evo E x with
      | some c=>match cellsC c with
        | some l=>bif Nat.ble (Nat.succ nx) Fit then Ro.val (.ptr nx 0) (h.set (some (.cells (ofR l) T false nx)) Fit nx) (Nat.succ nx) else .bad
        | none=>.bad
      | none=>.bad)=.val c h' nx':=hv
     split at hv'
     · rename_i c1 hc
       split at hv'
       · rename_i l hl
         rcases bif_cases hv' with ⟨hf,h1⟩ | ⟨_,h1⟩
         · cases h1
           obtain ⟨v,e1,k1⟩:=evo_ok hs hc
           have kz:=cellsC_ok k1 hl
           refine ⟨_,v.cells.toList.length,.cells v.cells.toList.toArray T (0,0),fun p=>.pointer (some ⟨p,0,none⟩),rfl,rfl,le_ble hf,rfl,kl_cells kz T,fun ρ' p hρ=>⟨Nat.lt_succ_self nx,?_⟩,fun w d ty pos after g=>?_⟩
           · show _=Value.pointer (some ⟨(ρ' nx).1,0,none⟩)
             rw [hρ]
           simp [execOp,Instr.box,newVar,newRow,ev_a e1]
         cases h1
       cases hv'
     cases hv'
   · cases hv
 | makeSlice T x y =>
   rcases hv with hv | hv
   · have hv':(match elQ P T with
      | some (e,sz,by',z)=>match evo E x with
        | some (.int _ n)=>match evo E y with
          | some (.int _ c)=>bif ile 0 n && (ile n c && (Nat.ble (Nat.mul by' c.toNat) 281474976710656 && (Nat.ble c.toNat 4611686018427387904 && Nat.ble (Nat.succ nx) Fit))) then
           Ro.val (.sl nx 0 n.toNat sz (some c.toNat)) (h.set (some (.cells (ofR (repC z c.toNat)) e false nx)) Fit nx) (Nat.succ nx) else .bad
          | _=>.bad
        | _=>.bad
      | none=>.bad)=.val c h' nx':=hv
     split at hv'
     · rename_i e sz by' z hz
       split at hv'
       · rename_i k N hx
         split at hv'
         · rename_i k' C hy
           rcases bif_cases hv' with ⟨hb,h1⟩ | ⟨_,h1⟩
           · cases h1
             simp only [Bool.and_eq_true,ile_eq,decide_eq_true_eq] at hb
             obtain ⟨hb1,hb2,hb3,hb4,hb5⟩:=hb
             have hb3:by'*C.toNat≤281474976710656:=le_ble hb3
             have hb4:=le_ble hb4
             obtain ⟨hu,i,zv,hi,hzv,hsz,hby,kz,hzl,h0⟩:=elQ_ok hz nx ρ
             obtain ⟨v1,e1,k1⟩:=evo_ok hs hx
             obtain ⟨v2,e2,k2⟩:=evo_ok hs hy
             rw [DV.int.1 k1.2] at e1
             rw [DV.int.1 k2.2] at e2
             have hbc:(i.bytes:Int)*C≤281474976710656:=by
              have:((by'*C.toNat:Nat):Int)=(i.bytes:Int)*C:=by rw [Int.natCast_mul,Int.toNat_of_nonneg (by omega),hby]
              omega
             have hmade:madeCells zv.cells (C.toNat*i.size)=(List.replicate C.toNat zv.cells.toList).flatten.toArray:=by
              have:=made_eq (zs:=zv.cells.toList) (by omega) C.toNat
              rw [hzl] at this
              rw [hsz,←this]
             have hlen:(List.replicate C.toNat zv.cells.toList).flatten.length=C.toNat*sz:=by simp [←hzl]
             refine ⟨_,C.toNat*sz,.cells (List.replicate C.toNat zv.cells.toList).flatten.toArray e (0,0),fun p=>.slice (some ⟨p,0,none⟩) N.toNat C.toNat,rfl,rfl,le_ble hb5,rfl,by rw [←hlen];exact kl_cells (repC_ok kz C.toNat) e,fun ρ' p hρ=>⟨Nat.lt_succ_self nx,?_⟩,fun w d ty pos after g=>?_⟩
             · refine DV.slS.2 ⟨by rw [hρ],by rw [hρ];show 0+C.toNat*sz≤C.toNat*sz;omega,by omega,?_⟩
               simp only [maxLen];omega
             have hrun:=run_make (P:=P) w T e i zv hu hi hzv k k' N C hb1 hb2 hbc (by omega)
             rw [hmade] at hrun
             simp only [execOp,ev_a e1,ev_a e2,Sem.run_bind,hrun,Result.andThen_ok,Sem.run_pure]
           cases h1
         cases hv'
       cases hv'
     cases hv'
   · cases hv
 | buildSlice T N parts =>
   obtain ⟨parts⟩:=parts
   rcases hv with hv | hv
   · have hv':(match elQ P T with
      | some (e,sz,_,z)=>bif Nat.ble 1 N && (Nat.ble (Nat.mul N sz) 16777216 && Nat.ble (Nat.succ nx) Fit) then
       (match fillC E (evenPl N sz) (Nat.mul N sz) parts (repC z N) with
       | some l=>Ro.val (.sl nx 0 N sz (some N)) (h.set (some (.cells (ofR l) e false nx)) Fit nx) (Nat.succ nx)
       | none=>.bad) else .bad
      | none=>.bad)=.val c h' nx':=hv
     split at hv'
     · rename_i e sz by' z hz
       rcases bif_cases hv' with ⟨hb,h1⟩ | ⟨_,h1⟩
       · split at h1
         · rename_i l hl
           cases h1
           simp only [Bool.and_eq_true] at hb
           obtain ⟨hu,i,zv,hi,hzv,hsz,hby,kz,hzl,h0⟩:=elQ_ok hz nx ρ
           have kr:=repC_ok kz N
           obtain ⟨vs,e1,o1,k1⟩:=fillC_ok hs kr hl
           have hN:=Nat.le_of_ble_eq_true hb.1
           have hNs:N*sz≤16777216:=Nat.le_of_ble_eq_true hb.2.1
           have hpos:0<N*sz:=Nat.mul_pos hN h0
           have hlen:(List.replicate N zv.cells.toList).flatten.length=N*sz:=by simp [←hzl]
           have hf:=fill_eq (fun i=>some (i*sz,sz)) (evenPl N sz) (fun i x h=>by
            simp only [evenPl,List.getElem?_map,Option.map_eq_some_iff] at h
            obtain ⟨j,hj,rfl⟩:=h
            obtain ⟨hlt,hj⟩:=List.getElem?_eq_some_iff.1 hj
            simp at hj;subst hj;rfl) vs (List.replicate N zv.cells.toList).flatten (N*sz) hlen o1
           have hmade:((Array.range (N*i.size)).map (zv.cells[· % zv.cells.size]!))=(List.replicate N zv.cells.toList).flatten.toArray:=by
            have:=made_eq (zs:=zv.cells.toList) (by omega) N
            rw [hzl] at this
            simpa [madeCells,hsz] using this
           have hmm:(parts.toArray.map fun (i,x)=>(i,a.eval x))=vs.toArray:=by rw [←(lookN a (default:World)).parts e1];simp
           have hlenF:(fillL (evenPl N sz) (List.replicate N zv.cells.toList).flatten vs).length=N*sz:=by
            rw [←lenC_ok k1,fillC_len hl (by rw [lenC_ok kr,hlen];exact Nat.le_refl _),lenC_ok kr,hlen]
           refine ⟨_,(fillL (evenPl N sz) (List.replicate N zv.cells.toList).flatten vs).length,.cells (fillL (evenPl N sz) (List.replicate N zv.cells.toList).flatten vs).toArray e (0,0),fun p=>.slice (some ⟨p,0,none⟩) N N,rfl,rfl,le_ble hb.2.2,rfl,kl_cells k1 e,fun ρ' p hρ=>⟨Nat.lt_succ_self nx,?_⟩,fun w d ty pos after g=>?_⟩
           · refine DV.slS.2 ⟨by rw [hρ],by rw [hρ,hlenF];omega,Nat.le_refl _,?_⟩
             have:=Nat.le_mul_of_pos_right N h0
             simp only [maxLen];omega
           have hrun:=run_buildSlice (P:=P) w T e N vs.toArray (fillL (evenPl N sz) (List.replicate N zv.cells.toList).flatten vs).toArray i zv hu hi hzv (by rw [hsz];omega) (by rw [hsz];omega) (by rw [hmade,hsz];exact hf)
           simp only [execOp,hmm,Sem.run_bind,hrun,Result.andThen_ok,Sem.run_pure]
         cases h1
       cases h1
     cases hv'
   · have hv':(bif Nat.beq N 0 && Nat.ble (Nat.succ nx) Fit then (match parts with
      | []=>(match slQ P T with | some (e,sz)=>Ro.val (.sl nx 0 0 sz (some 0)) (h.set (some (.cells (ofR .nil) e false nx)) Fit nx) (Nat.succ nx) | none=>.bad)
      | _=>.bad) else .bad)=.val c h' nx':=hv
     rcases bif_cases hv' with ⟨hb,h1⟩ | ⟨_,h1⟩
     · rw [Bool.and_eq_true] at hb
       have hN:=Nat.eq_of_beq_eq_true hb.1
       subst hN
       cases parts with
       | cons q qs=>cases h1
       | nil =>
         simp only at h1
         split at h1
         · rename_i e sz hT
           cases h1
           have hT':=slQ_ok hT
           refine ⟨_,0,.cells #[] e (0,0),fun p=>.slice (some ⟨p,0,none⟩) 0 0,rfl,rfl,le_ble hb.2,rfl,kl_cells (vs:=[]) KL.nil e,fun ρ' p hρ=>⟨Nat.lt_succ_self nx,?_⟩,fun w d ty pos after g=>?_⟩
           · refine DV.slS.2 ⟨by rw [hρ],by rw [hρ];omega,Nat.le_refl _,by simp [maxLen]⟩
           simp [execOp,Instr.buildSlice,run_underlying hT'.1,run_sizeOf w hT'.2,Instr.fill,newRow,show Array.range 0=#[] from Array.eq_empty_of_size_eq_zero (by simp)]
         cases h1
     · cases h1
 | makeMap T o =>
   cases o with
   | some x=>cases hx
   | none =>
     rcases hv with hv | hv
     · cases hv
     · have hrun:∀ (w:World) (d:Option Tmp) (ty:TypeId) (pos:String) (after:Array Edge) (g:Option (Nat×Bool)),(execOp a.eval ⟨d,.makeMap T none,ty,pos,after,g⟩).run P w=.ok (.value (.map (some w.heap.size))) (w.alloc (mapObj ([]:List (Int×Int)))):=fun w d ty pos after g=>by
        simp only [execOp,Option.map_none,Sem.run_bind,run_makeMap_here,Result.andThen_ok,Sem.run_pure];rfl
       have hk:∀ (ρ':Pl) (p:Nat),ρ' nx=(p,0)→Kn (nx+1) ρ' (.mp nx) (.map (some p)):=fun ρ' p hρ=>⟨Nat.lt_succ_self nx,by rw [DV.mp,hρ]⟩
       unfold mv mv0 at hv
       rcases bif_cases hv with ⟨hf,h1⟩ | ⟨_,h1⟩
       · rcases bif_cases h1 with ⟨_,h2⟩ | ⟨_,h2⟩
         · cases h2
           exact ⟨_,0,_,fun p=>.map (some p),rfl,rfl,le_ble hf,rfl,rfl,hk,hrun⟩
         rcases bif_cases h2 with ⟨_,h3⟩ | ⟨_,h3⟩
         · cases h3
           exact ⟨_,0,_,fun p=>.map (some p),rfl,rfl,le_ble hf,rfl,rfl,hk,hrun⟩
         cases h3
       · cases h1
 | _=>cases hx
end
end Go.Sl.Ev
namespace Go.Sl.Ev
open Go Go.Sl
inductive Cmd where
 | code (c:Code) (n:Nat) (E:Tr CV) (h:Tr CB) (nx:Nat)
 | loop (c:Code) (n:Nat) (E:Tr CV) (h:Tr CB) (nx:Nat)
 | ops (all l:List Oper) (n:Nat) (E:Tr CV) (h:Tr CB) (nx:Nat)
 | one (o:Oper) (n:Nat) (E:Tr CV) (h:Tr CB) (nx:Nat)
 | call (f:Nat) (args:CV) (h:Tr CB) (nx:Nat)
 | round (t:Nat) (args:CV) (h:Tr CB) (nx:Nat)
 | reg (l:List Oper) (plan:List (Nat×Pk)) (pend:List (Nat×Nat×Nat)) (n:Nat) (E:Tr CV) (h:Tr CB) (nx:Nat)
inductive Res where
 | bad (why:Nat) (at_:List Oper)
 | ok (x:Exit) (E:Tr CV) (h:Tr CB) (nx:Nat)
 | ret (v:CV) (h:Tr CB) (nx:Nat)
noncomputable def fnQ (P:Program) (f:Nat):Option Func:=match nth P.funcs.toList f with
 | some fn => bif fn.name == "runtime.NumGoroutine" then none else some fn
 | none=>none
theorem fnQ_ok {P : Program} {f : Nat} {fn : Func} (h : fnQ P f = some fn) : P.funcs[f]? = some fn ∧ (fn.name == "runtime.NumGoroutine") = false := by
 unfold fnQ at h
 split at h
 · rename_i g hg
   rcases bif_cases h with ⟨_,h⟩ | ⟨h1,h⟩
   · cases h
   cases h
   rw [nth_eq,Array.getElem?_toList] at hg
   exact ⟨hg,h1⟩
 cases h
noncomputable def argE (l:CV):Nat→Tr CV→Tr CV:=lrec (fun _ E=>E) (fun a _ ih i E=>ih (Nat.succ i) (E.set (some a) Fit i)) l
noncomputable def resC (P:Program) (E:Tr CV) (h:Tr CB):ResultVar→Option CV
 | .tmp t=>E.get t
 | .cell t T=>qv P E h (.load T (.tmp t))
noncomputable def resL (P:Program) (E:Tr CV) (h:Tr CB) (l:List ResultVar):Option CV:=List.rec (some .nil) (fun x _ ih=>match resC P E h x with | some a=>(match ih with | some b=>some (.cons a b) | none=>none) | none=>none) l
noncomputable def resQ (P:Program) (E:Tr CV) (h:Tr CB) (l:List ResultVar):Option CV:=match resL P E h l with
 | some (.cons a .nil)=>some a
 | some x=>some (.tup x)
 | none=>none
noncomputable def putE (E:Tr CV) (n:Nat) (d:Option Nat) (v:CV):Option (Tr CV):=match d with
 | some d=>bif Nat.ble (Nat.succ d) n then some (E.set (some v) Fit d) else none
 | none=>some E
def eqB (a b:Bool):Bool:=bif a then b else not b
noncomputable def callQ (ih:Cmd→Res) (E:Tr CV) (n:Nat) (h:Tr CB) (nx:Nat) (dst:Option Nat):Op→Res
 | .call ⟨.value f,⟨args⟩,_⟩=>match evo E f with
   | some (.fn g fst cap)=>match evos E args with
     | some l=>(match ih (.call g (appC fst (appC l cap)) h nx) with
       | .ret v h nx=>(match putE E n dst v with | some E=>.ok .normal E h nx | none=>.bad 11 [])
       | .ok _ _ _ _=>.bad 12 []
       | r=>r)
     | none=>.bad 13 []
   | some (.yl t)=>match evos E args with
     | some l=>(match ih (.round t l h nx) with
       | .ret v h nx=>(match putE E n dst v with | some E=>.ok .normal E h nx | none=>.bad 51 [])
       | .ok _ _ _ _=>.bad 52 []
       | r=>r)
     | none=>.bad 53 []
   | _=>.bad 14 []
 | op => .bad 15 [⟨none, op, 0, "", #[], none⟩]
noncomputable def gdQ (l:List Oper) (E:Tr CV) (o:Oper):Option Bool:=match o.guard with
 | none=>some true
 | some (j,want)=>match dstN l j with
   | some t=>match E.get t with
     | some (.bool b)=>some (eqB b want)
     | some (.tup .nil)=>some false
     | _=>none
   | none=>none
noncomputable def dropP (o:Oper) (pend:List (Nat×Nat×Nat)):List (Nat×Nat×Nat):=List.rec [] (fun x _ ih=>bif not (lookK o.op) && hasE o x.2.1 then ih else x :: ih) pend
noncomputable def keepP (h:Tr CB) (pend:List (Nat×Nat×Nat)):Bool:=allB (fun x=>match h.get x.1 with | some b=>Nat.ble (Nat.succ (stB b)) x.2.2 | none=>false) pend
noncomputable def noR (c:Code):Bool:=
 Code.rec (motive:=fun _=>Bool) true (fun _ _ _=>true) (fun _ _ a b=>a && b) (fun _ _ _ a b=>a && b) (fun _ _ a=>a) (fun _ a=>a) (fun _ _ _ _ _ _=>false) (fun _=>true) (fun _ a=>a) (fun _=>true) (fun _=>true) true (fun _=>true) c
noncomputable def psE (n:Nat) (ps:List Nat):CV→Tr CV→Option (Tr CV):=List.rec (fun l E=>match l with | .nil=>some E | _=>none)
 (fun p _ ih l E=>match l with | .cons a b=>bif Nat.ble (Nat.succ p) n then ih b (E.set (some a) Fit p) else none | _=>none) ps
def endX:Exit→Option (Option Code)
 | .normal=>some none
 | .ret=>some (some .ret)
 | .exit id=>some (some (.exit id))
 | _=>none
def isRdy:LoopState→Bool | .ready=>true | _=>false
def isBusy:LoopState→Bool | .busy=>true | _=>false
abbrev Prims:=List (Nat×(CV→Option CV))
noncomputable def prQ (pr:Prims) (f:Nat):Option (CV→Option CV):=List.rec none (fun x _ ih=>bif Nat.beq x.1 f then some x.2 else ih) pr
noncomputable def stC4 (P:Program) (ih:Cmd→Res) (n:Nat) (E:Tr CV) (h:Tr CB) (nx:Nat) (a:Code) (b:Code):Res:=match ih (.code a n E h nx) with
 | .ok x E h nx=>(match x with
   | .normal=>ih (.code b n E h nx)
   | x=>.ok x E h nx)
 | r=>r
noncomputable def stC5 (P:Program) (ih:Cmd→Res) (n:Nat) (E:Tr CV) (h:Tr CB) (nx:Nat) (c:Operand) (a:Code) (b:Code):Res:=match evo E c with
 | some (.bool t)=>ih (.code (bif t then a else b) n E h nx)
 | _=>.bad 1 []
noncomputable def stC6 (P:Program) (ih:Cmd→Res) (n:Nat) (E:Tr CV) (h:Tr CB) (nx:Nat) (id:Nat) (c:Code):Res:=match ih (.code c n E h nx) with
 | .ok x E h nx=>(match x with
   | .exit id'=>bif Nat.beq id' id then .ok .normal E h nx else .ok (.exit id') E h nx
   | x=>.ok x E h nx)
 | r=>r
noncomputable def stC7 (P:Program) (ih:Cmd→Res) (n:Nat) (E:Tr CV) (h:Tr CB) (nx:Nat) (c:Code):Res:=match ih (.code c n E h nx) with
 | .ok x E h nx=>(match x with
   | .normal=>.ok .normal E h nx
   | .ret=>.ok .ret E h nx
   | .exit id=>.ok (.exit id) E h nx
   | _=>.bad 22 [])
 | r=>r
noncomputable def stC8 (P:Program) (ih:Cmd→Res) (n:Nat) (E:Tr CV) (h:Tr CB) (nx:Nat) (g:Operand) (ps:List Nat) (asg:Code) (body:Code):Res:=match evo E g with
 | some (.fn f .nil cap)=>bif Nat.ble (Nat.succ nx) Fit then
   (match ih (.call f (.cons (.yl nx) cap) (h.set (some (.lp E n ps asg body .ready none nx)) Fit nx) (Nat.succ nx)) with
   | .ret _ h' nx'=>(match h'.get nx with
     | some (.lp _ _ _ _ _ st p _)=>bif isBusy st || not (Nat.ble (Nat.succ nx') Fit) then .bad 41 [] else
       (match p with
       | none=>.ok .normal E (h'.set none Fit nx) (Nat.succ nx')
       | some c=>ih (.code c n E (h'.set none Fit nx) (Nat.succ nx')))
     | _=>.bad 42 [])
   | .ok _ _ _ _=>.bad 43 []
   | r=>r) else .bad 44 []
 | _=>.bad 45 []
noncomputable def stC10 (P:Program) (ih:Cmd→Res) (n:Nat) (E:Tr CV) (h:Tr CB) (nx:Nat) (l:List Oper):Res:=bif P.follows .mixedOrders then (match planQ l with
 | some p=>ih (.reg l p [] n E h nx)
 | none=>.bad 23 l) else .bad 24 []
noncomputable def stC11 (P:Program) (ih:Cmd→Res) (n:Nat) (E:Tr CV) (h:Tr CB) (nx:Nat) (l:List Oper):Res:=bif l.all notDefer then ih (.ops l l n E h nx) else .bad 2 []
noncomputable def stC (P:Program) (ih:Cmd→Res) (n:Nat) (E:Tr CV) (h:Tr CB) (nx:Nat):Code→Res
 | .skip=>.ok .normal E h nx
 | .label _=>.ok .normal E h nx
 | .exit id=>.ok (.exit id) E h nx
 | .ret=>.ok .ret E h nx
 | .seq a b=>stC4 P ih n E h nx a b
 | .cond c a b=>stC5 P ih n E h nx c a b
 | .block id c=>stC6 P ih n E h nx id c
 | .scope c=>stC7 P ih n E h nx c
 | .rangeFunc g ⟨ps⟩ asg body=>stC8 P ih n E h nx g ps asg body
 | .loop c=>ih (.loop c n E h nx)
 | .region _ ⟨l⟩ true=>stC10 P ih n E h nx l
 | .region _ ⟨l⟩ false=>stC11 P ih n E h nx l
 | _=>.bad 3 []
noncomputable def stG (ih:Cmd→Res) (all:List Oper) (o:Oper) (rest:List Oper) (n:Nat) (E:Tr CV) (h:Tr CB) (nx:Nat) (j:Nat) (want:Bool):Res:=
 (match dstN all j with
  | some t=>(match E.get t with
    | some (.bool b)=>bif eqB b want then
     (match ih (.one o n E h nx) with
     | .ok x E h nx=>ih (.ops all rest n E h nx)
     | r=>r)
      else (match putE E n o.dst (.tup .nil) with | some E=>ih (.ops all rest n E h nx) | none=>.bad 4 [])
    | some (.tup .nil)=>(match putE E n o.dst (.tup .nil) with | some E=>ih (.ops all rest n E h nx) | none=>.bad 4 [])
    | _=>.bad 5 [])
  | none=>.bad 6 [])
noncomputable def step1 (P:Program) (pr:Prims) (ih:Cmd→Res) (c:Code) (n:Nat) (E:Tr CV) (h:Tr CB) (nx:Nat):Res:=match ih (.code c n E h nx) with
 | .ok x E h nx=>(match x with
   | .normal=>ih (.loop c n E h nx)
   | x=>.ok x E h nx)
 | r=>r
noncomputable def step2 (P:Program) (pr:Prims) (ih:Cmd→Res) (all:List Oper) (l:List Oper) (n:Nat) (E:Tr CV) (h:Tr CB) (nx:Nat):Res:=match l with
 | []=>.ok .normal E h nx
 | o :: rest=>match o.guard with
   | none=>(match ih (.one o n E h nx) with
     | .ok x E h nx=>ih (.ops all rest n E h nx)
     | r=>r)
   | some (j,want)=>stG ih all o rest n E h nx j want
noncomputable def step3 (P:Program) (pr:Prims) (ih:Cmd→Res) (o:Oper) (n:Nat) (E:Tr CV) (h:Tr CB) (nx:Nat):Res:=match qv P E h o.op with
 | some c=>(match putE E n o.dst c with | some E=>.ok .normal E h nx | none=>.bad 7 [])
 | none=>match wm P E h nx o.op with
   | .val c h nx=>(match putE E n o.dst c with | some E=>.ok .normal E h nx | none=>.bad 8 [])
   | .unit h nx=>(match o.dst with | none=>.ok .normal E h nx | some _=>.bad 10 [])
   | .bad=>callQ ih E n h nx o.dst o.op
noncomputable def killE (l:List Oper) (R:List Nat) (E:Tr CV):Tr CV:=List.rec E (fun j _ ih=>match dstN l j with | some d=>ih.set none Fit d | none=>ih) R
noncomputable def raceQ (P:Program) (l:List Oper) (R:List Nat) (n:Nat) (E:Tr CV) (h:Tr CB) (nx:Nat):Bool:=
 allB (fun j=>nthB l j fun o=>(match o.dst with | some d=>Nat.ble (Nat.succ d) n | none=>false) && (match wm P E h nx o.op with | .val _ _ _=>true | _=>false)) R
noncomputable def step4 (P:Program) (pr:Prims) (ih:Cmd→Res) (l:List Oper) (plan:List (Nat×Pk)) (pend:List (Nat×Nat×Nat)) (n:Nat) (E:Tr CV) (h:Tr CB) (nx:Nat):Res:=match plan with
 | []=>.ok .normal E h nx
 | (i,.look) :: plan=>match nth l i with
   | some o=>(match gdQ l E o with
     | some g=>(bif g then (match qv P E h o.op with
      | some c=>(match putE E n o.dst c with
        | some E'=>ih (.reg l plan (match rdT E o.op with | some t=>(t,i,nx) :: pend | none=>pend) n E' h nx)
        | none=>.bad 25 [o])
      | none=>.bad 26 [o])
      else (match putE E n o.dst (.tup .nil) with | some E=>ih (.reg l plan pend n E h nx) | none=>.bad 27 [o]))
     | none=>.bad 30 [o])
   | none=>.bad 31 []
 | (i,.only) :: plan=>match nth l i with
   | some o=>(match gdQ l E o with
     | some g=>(bif g then (match ih (.one o n E h nx) with
      | .ok _ E h nx=>bif keepP h (dropP o pend) then ih (.reg l plan (dropP o pend) n E h nx) else .bad 28 [o]
      | r=>r)
      else (match putE E n o.dst (.tup .nil) with | some E=>ih (.reg l plan (dropP o pend) n E h nx) | none=>.bad 29 [o]))
     | none=>.bad 30 [o])
   | none=>.bad 31 []
 | (i,.race R) :: plan=>match nth l i with
   | some o=>bif raceQ P l R n (killE l R E) h nx then (match ih (.one o n (killE l R E) h nx) with
    | .ok _ E h nx=>bif keepP h (dropP o pend) then ih (.reg l plan (dropP o pend) n E h nx) else .bad 28 [o]
    | r=>r) else .bad 32 [o]
   | none=>.bad 31 []
 | (i,.make R) :: plan=>match nth l i with
   | some o=>bif raceQ P l R n (killE l R E) h nx then (match wm P (killE l R E) h nx o.op with
    | .val c h nx=>(match putE (killE l R E) n o.dst c with | some E=>ih (.reg l plan (dropP o pend) n E h nx) | none=>.bad 33 [o])
    | _=>.bad 34 [o]) else .bad 35 [o]
   | none=>.bad 31 []
noncomputable def step5 (P:Program) (pr:Prims) (ih:Cmd→Res) (t:Nat) (args:CV) (h:Tr CB) (nx:Nat):Res:=match h.get t with
 | some (.lp E n ps asg body st _ _)=>bif isRdy st && (noR asg && (noR body && Nat.ble n 100000)) then
   (match psE n ps args E with
   | some E1=>match ih (.code asg n E1 h nx) with
     | .ok .normal E2 h2 nx2=>(match h2.get t with
       | some (.lp E0 n0 ps0 as0 body0 st0 p0 _)=>bif isRdy st0 && Nat.ble (Nat.succ nx2) Fit then
         (match ih (.code body n E2 (h2.set (some (.lp E0 n0 ps0 as0 body0 .busy p0 nx2)) Fit t) (Nat.succ nx2)) with
         | .ok x _ h3 nx3=>(match h3.get t with
           | some (.lp E4 n4 ps4 as4 body4 _ _ _)=>bif Nat.ble (Nat.succ nx3) Fit then
             (match endX x with
             | some none=>.ret (.bool true) (h3.set (some (.lp E4 n4 ps4 as4 body4 .ready none nx3)) Fit t) (Nat.succ nx3)
             | some (some c)=>.ret (.bool false) (h3.set (some (.lp E4 n4 ps4 as4 body4 .done (some c) nx3)) Fit t) (Nat.succ nx3)
             | none=>.bad 46 []) else .bad 47 []
           | _=>.bad 48 [])
         | .ret _ _ _=>.bad 49 []
         | r=>r) else .bad 50 []
       | _=>.bad 54 [])
     | .ok _ _ _ _=>.bad 55 []
     | .ret _ _ _=>.bad 56 []
     | r=>r
   | none=>.bad 57 []) else .bad 58 []
 | _=>.bad 59 []
noncomputable def step6 (P:Program) (pr:Prims) (ih:Cmd→Res) (f:Nat) (args:CV) (h:Tr CB) (nx:Nat):Res:=match prQ pr f with
 | some g=>(match g args with | some v=>.ret v h nx | none=>.bad 60 [])
 | none=>match fnQ P f with
 | some fn=>(match fn.body with
   | some c=>bif Nat.ble (lenC args) fn.ntmps && Nat.ble fn.ntmps 100000 then (match ih (.code c fn.ntmps (argE args 0 .e) h nx) with
     | .ok x E h nx=>(match x with
       | .normal=>(match resQ P E h fn.results.toList with | some v=>.ret v h nx | none=>.bad 16 [])
       | .ret=>(match resQ P E h fn.results.toList with | some v=>.ret v h nx | none=>.bad 16 [])
       | _=>.bad 17 [])
     | .ret _ _ _=>.bad 18 []
     | r=>r) else .bad 19 []
   | none=>.bad 20 [])
 | none=>.bad 21 []
noncomputable def step (P:Program) (pr:Prims) (ih:Cmd→Res):Cmd→Res
 | .code c n E h nx=>stC P ih n E h nx c
 | .loop c n E h nx=>step1 P pr ih c n E h nx
 | .ops all l n E h nx=>step2 P pr ih all l n E h nx
 | .one o n E h nx=>step3 P pr ih o n E h nx
 | .reg l plan pend n E h nx=>step4 P pr ih l plan pend n E h nx
 | .round t args h nx=>step5 P pr ih t args h nx
 | .call f args h nx=>step6 P pr ih f args h nx
noncomputable def run (P:Program) (pr:Prims) (fuel:Nat):Cmd→Res:=Nat.rec (fun _=>.bad 0 []) (fun _ ih=>step P pr ih) fuel
end Go.Sl.Ev
namespace Go.Sl.Ev
open Go Go.Sl
structure Nx (ρ:Pl) (h:Tr CB) (nx:Nat) (w:World) (ρ':Pl) (h':Tr CB) (nx':Nat) (w':World):Prop where
 le:nx≤nx'
 fit:nx'≤Fit
 ext:Ext nx ρ ρ'
 old:Old ρ h nx w ρ' h' w'
theorem Nx.refl {ρ:Pl} {h:Tr CB} {nx:Nat} {w:World} (hf:nx≤Fit):Nx ρ h nx w ρ h nx w:=⟨Nat.le_refl _,hf,Ext.refl _ _,OldX.refl⟩
theorem Nx.trans {Φ:Imm→Prop} {w0:Bas Φ} {ρ ρ' ρ2:Pl} {h h' h2:Tr CB} {nx nx' nx2:Nat} {w w' w2:World} (hm:Mem ρ w0 h nx w) (a:Nx ρ h nx w ρ' h' nx' w') (b:Nx ρ' h' nx' w' ρ2 h2 nx2 w2):Nx ρ h nx w ρ2 h2 nx2 w2:=
 ⟨Nat.le_trans a.le b.le,b.fit,a.ext.trans b.ext a.le,a.old.trans hm b.old a.le a.ext⟩
def WrOf (l:List Oper) (i j:Nat):Prop:=∃ o,l[j]?=some o∧lookK o.op=false∧hasE o i=true
def CP (l:List Oper) (cs:List (Nat×Nat×Obj)) (L:Array Bool) (w:World):Prop:=∀ x∈cs,(∀ j,WrOf l x.1 j→L.getD j false=false)→w.heap[x.2.1]?=some x.2.2
def Down (l:List Oper) (L:Array Bool):Prop:=∀ j o,l[j]?=some o→L.getD j false=true→∀ e∈o.after,Region.binds .any e=true→L.getD e.on false=true
def PendOk (l:List Oper) (L:Array Bool) (ρ:Pl) (w:World) (nx:Nat) (pend:List (Nat×Nat×Nat)) (cs:List (Nat×Nat×Obj)):Prop:=
 ∀ x∈cs,(∃ j,WrOf l x.1 j∧L.getD j false=true)∨∃ t bound,(t,x.1,bound)∈pend∧t<nx∧(ρ t).1=x.2.1∧bound≤nx∧w.heap[x.2.1]?=some x.2.2
theorem PendOk.cp {l:List Oper} {L:Array Bool} {ρ:Pl} {w:World} {nx:Nat} {pend:List (Nat×Nat×Nat)} {cs:List (Nat×Nat×Obj)} (h:PendOk l L ρ w nx pend cs):CP l cs L w:=fun x hx hw=>by
 rcases h x hx with ⟨j,h1,h2⟩ | ⟨t,b,_,_,_,_,h3⟩
 · rw [hw j h1] at h2;cases h2
 exact h3
structure Early where
 j:Nat
 p:Nat
 o:Obj
 V:Nat→Value
structure EOk (P:Program) (l:List Oper) (ρ:Pl) (h:Tr CB) (a:Act) (w ws:World) (e:Early):Prop where
 ex:∃ oj d,l[e.j]?=some oj∧isMk oj=true∧oj.dst=some d∧a.tmps[d]?=some (e.V e.p)∧∀ w2,(execOp a.eval oj).run P w2=.ok (.value (e.V w2.heap.size)) (w2.alloc e.o)
 lt:e.p<w.heap.size
 at_:w.heap[e.p]?=some e.o
 ge:ws.heap.size≤e.p
 un:∀ t b,h.get t=some b→(ρ t).1≠e.p
structure LR (L:Array Bool) (S:List Early) (Lm:Array Bool):Prop where
 size:Lm.size=L.size
 iff:∀ j,Lm.getD j false=true↔(L.getD j false=true∨∃ e∈S,e.j=j)
 un:∀ e∈S,L.getD e.j true=false
structure RI {Φ:Imm→Prop} (P:Program) (l:List Oper) (n:Nat) (E:Tr CV) (h:Tr CB) (nx:Nat) (pend:List (Nat×Nat×Nat)) (ρ ρs:Pl) (w0:Bas Φ) (a:Act) (w ws:World) (hs:Tr CB) (nxs:Nat) (L Lm:Array Bool) (Rc:List Nat) (S:List Early) (cs:List (Nat×Nat×Obj)):Prop where
 rel:Rel ρ w0 n E h nx a w
 lr:LR L S Lm
 down:Down l Lm
 sub:∀ e∈S,e.j∈Rc
 ndj:(S.map (·.j)).Nodup
 ndp:(S.map (·.p)).Nodup
 eok:∀ e∈S,EOk P l ρ h a w ws e
 pend:PendOk l Lm ρ w nx pend cs
 ms:Mem ρs w0 hs nxs ws
 nxb:Nx ρs hs nxs ws ρ h nx w
def Kept (d:Option Nat) (a a':Act):Prop:=∀ i,d≠some i→a'.tmps[i]?=a.tmps[i]?
def Does1 (P:Program) (Φ:Imm→Prop):Cmd→Res→Prop
 | .code c n E h nx,.ok x E' h' nx'=>∀ (r:Option Nat) (ρ:Pl) (w0:Bas Φ) (a:Act) (w:World),Rel ρ w0 n E h nx a w→nx≤Fit→n≤100000→(r=none∨noR c=true)→
  ∀ Q:Exit→Act→World→Prop,(∀ ρ' a' w',Nx ρ h nx w ρ' h' nx' w'→Rel ρ' w0 n E' h' nx' a' w'→Q x a' w')→c.wpIn (FF r) 0 P Q a w
 | .loop c n E h nx,.ok x E' h' nx'=>∀ (r:Option Nat) (ρ:Pl) (w0:Bas Φ) (a:Act) (w:World),Rel ρ w0 n E h nx a w→nx≤Fit→n≤100000→(r=none∨noR c=true)→
  ∀ Q:Exit→Act→World→Prop,(∀ ρ' a' w',Nx ρ h nx w ρ' h' nx' w'→Rel ρ' w0 n E' h' nx' a' w'→Q x a' w')→AtLoop r P c Q a w
 | .ops all l n E h nx,.ok x E' h' nx'=>x=.normal∧∀ (ρ:Pl) (w0:Bas Φ) (a:Act) (w:World),Rel ρ w0 n E h nx a w→nx≤Fit→n≤100000→
  ∀ K:Act→World→Prop,(∀ ρ' a' w',Nx ρ h nx w ρ' h' nx' w'→Rel ρ' w0 n E' h' nx' a' w'→K a' w')→lstWp P all.toArray l a w K
 | .one o n E h nx,.ok x E' h' nx'=>x=.normal∧∀ (ρ:Pl) (w0:Bas Φ) (a:Act) (w:World),Rel ρ w0 n E h nx a w→nx≤Fit→n≤100000→
  ∀ K:Act→World→Prop,(∀ ρ' a' w',Nx ρ h nx w ρ' h' nx' w'→Rel ρ' w0 n E' h' nx' a' w'→Kept o.dst a a'→K a' w')→opWp P o a w K
 | .call f args h nx,.ret v h' nx'=>isFn P f∧∀ (ρ:Pl) (w0:Bas Φ) (w:World) (vs:List Value),Mem ρ w0 h nx w→KL nx ρ args vs→nx≤Fit→
  Calls P f vs.toArray w (fun e w'=>∃ u ρ',e=.returned u∧Nx ρ h nx w ρ' h' nx' w'∧Kn nx' ρ' v u∧Mem ρ' w0 h' nx' w')
 | .round t args h nx,.ret v h' nx'=>∀ (ρ:Pl) (w0:Bas Φ) (w:World) (vs:List Value),Mem ρ w0 h nx w→KL nx ρ args vs→nx≤Fit→
  ∃ f tmps assign body,(Instr.yield (ρ t).1 vs.toArray).run P w=.ok (.round (ρ t).1 f tmps assign body) w∧
   RoundIn Fence.wide 0 P (ρ t).1 f tmps assign body w (fun e w'=>∃ u ρ',e=.returned u∧Nx ρ h nx w ρ' h' nx' w'∧Kn nx' ρ' v u∧Mem ρ' w0 h' nx' w')
 | .reg l plan pend n E h nx,.ok x E' h' nx'=>x=.normal∧∀ (ρ ρs:Pl) (w0:Bas Φ) (a:Act) (w ws:World) (hs:Tr CB) (nxs:Nat) (L Lm:Array Bool) (Rc:List Nat) (S:List Early) (cs:List (Nat×Nat×Obj)) (f:Nat),RI P l n E h nx pend ρ ρs w0 a w ws hs nxs L Lm Rc S cs→nx≤Fit→n≤100000→
  Region.noSelect l.toArray=true→PlanOk l L Rc plan→plan.length=f+S.length→
  ∀ K:Act→World→Prop,(∀ ρ' a' w',Nx ρs hs nxs ws ρ' h' nx' w'→Rel ρ' w0 n E' h' nx' a' w'→K a' w')→gm P l.toArray K (CP l cs) f Lm a w
 | _,.bad _ _=>True
 | _,_=>False
section
variable {P:Program} {Φ:Imm→Prop} {pr:Prims} {nx nx' n:Nat} {ρ ρ':Pl} {w0:Bas Φ} {w w':World} {E:Tr CV} {h h':Tr CB} {a:Act}
theorem Slots.up (hs:Slots ρ E nx n a) (hn:nx≤nx') (he:Ext nx ρ ρ'):Slots ρ' E nx' n a:=⟨hs.1,fun i x hx=>by
 obtain ⟨v,h1,h2⟩:=hs.2 i x hx
 exact ⟨v,h1,h2.up hn he⟩⟩
theorem put_slots (hs:Slots ρ E nx n a) {d:Option Nat} {c:CV} {v:Value} {E':Tr CV} (hn:n≤100000) (hp:putE E n d c=some E') (hk:Kn nx ρ c v):Slots ρ E' nx n (a.put d v):=by
 cases d with
 | none=>cases hp;exact hs
 | some d =>
   have hp':(bif Nat.ble (Nat.succ d) n then some (E.set (some c) Fit d) else none)=some E':=hp
   rcases bif_cases hp' with ⟨h1,h2⟩ | ⟨_,h2⟩
   · cases h2
     have hd:d<n:=Nat.le_of_ble_eq_true h1
     refine ⟨by show (a.tmps.setIfInBounds d v).size=n;simp [hs.1],fun i x hx=>?_⟩
     rw [Tr.get_set (some c) Fit E d i (by rw [fit_eq];omega)] at hx
     show ∃ u,(a.tmps.setIfInBounds d v)[i]?=some u∧_
     by_cases e:i=d
     · subst e
       rw [if_pos rfl] at hx
       cases hx
       exact ⟨v,by simp [hs.1,hd],hk⟩
     rw [if_neg e] at hx
     obtain ⟨u,h1,h2⟩:=hs.2 i x hx
     exact ⟨u,by rw [Array.getElem?_setIfInBounds_ne (Ne.symm e)];exact h1,h2⟩
   cases h2
theorem undef_kn:Kn nx ρ (.tup .nil) undef:=⟨trivial,DV.tup.2 ⟨[],rfl,rfl⟩⟩
theorem put_defers (a:Act) (d:Option Nat) (v:Value):(a.put d v).defers=a.defers:=by cases d <;> rfl
theorem yielded_ok (hs:Slots ρ E nx n a) {all:List Oper} {j t:Nat} {b:Bool} (hd:dstN all j=some t) (he:E.get t=some (.bool b)):yielded all.toArray a.tmps j=some b:=by
 obtain ⟨v,h1,h2⟩:=hs.2 t _ he
 rw [DV.bool.1 h2.2] at h1
 rw [dstN_eq] at hd
 unfold yielded
 have:(all.toArray[j]?).bind (·.dst)=some t:=by simpa using hd
 rw [this]
 simp [h1]
theorem yielded_no (hs:Slots ρ E nx n a) {all:List Oper} {j t:Nat} (hd:dstN all j=some t) (he:E.get t=some (.tup .nil)):yielded all.toArray a.tmps j=none:=by
 obtain ⟨v,h1,h2⟩:=hs.2 t _ he
 obtain ⟨vs,h3,h4⟩:=DV.tup.1 h2.2
 have:vs=[]:=h3
 subst this
 rw [h4] at h1
 rw [dstN_eq] at hd
 unfold yielded
 have:(all.toArray[j]?).bind (·.dst)=some t:=by simpa using hd
 rw [this]
 simp [h1]
theorem Mem.cong {h2:Tr CB} (hm:Mem ρ w0 h nx w) (e:∀ t,h2.get t=h.get t):Mem ρ w0 h2 nx w:=
 ⟨hm.upd,fun t b ht=>hm.own t b (by rw [←e];exact ht),fun t t' b b' h1 h2=>hm.one t t' b b' (by rw [←e];exact h1) (by rw [←e];exact h2),hm.imm,hm.nod,fun b hb=>⟨(hm.kept b hb).1,(hm.kept b hb).2.1,fun t c ht=>(hm.kept b hb).2.2 t c (by rw [←e];exact ht)⟩⟩
theorem OldX.cong {h2:Tr CB} (ho:Old ρ h nx w ρ' h' w') (e:∀ t,h2.get t=h'.get t):Old ρ h nx w ρ' h2 w':=⟨fun t b ht=>ho.old t b (by rw [←e];exact ht),ho.fr,fun t b ht=>ho.nw t b (by rw [←e];exact ht),ho.sz⟩
theorem Kept.put (a:Act) (d:Option Nat) (v:Value):Kept d a (a.put d v):=fun i hi=>by
 cases d with
 | none=>rfl
 | some d =>
   show (a.tmps.setIfInBounds d v)[i]?=_
   rw [Array.getElem?_setIfInBounds_ne (fun e=>hi (by rw [e]))]
theorem Kept.refl (d:Option Nat) (a:Act):Kept d a a:=fun _ _=>rfl
def pendQ (P:Program) (Q:Exit→Act→World→Prop) (p:Option Code) (a:Act) (w:World):Prop:=match p with
 | none=>Q .normal a w
 | some c=>c.wpIn (FF none) 0 P Q a w
theorem range_go {g:Operand} {f:Nat} {cap:CV} {ps:List Nat} {asg body:Code} {v:CV} {h':Tr CB} {nx':Nat} {E4:Tr CV} {n4:Nat} {ps4:List Nat} {as4 body4:Code} {st:LoopState} {p0:Option Code} {stm:Nat}
 (hg:evo E g=some (.fn f .nil cap)) (hfit:Nat.ble (Nat.succ nx) Fit=true) (H1:Does1 P Φ (.call f (.cons (.yl nx) cap) (h.set (some (.lp E n ps asg body .ready none nx)) Fit nx) (Nat.succ nx)) (.ret v h' nx'))
 (hlp:h'.get nx=some (.lp E4 n4 ps4 as4 body4 st p0 stm)) (hst:isBusy st=false) (hfit':Nat.ble (Nat.succ nx') Fit=true)
 (ρ:Pl) (w0:Bas Φ) (a:Act) (w:World) (hR:Rel ρ w0 n E h nx a w) (hf:nx≤Fit) (hn:n≤100000) (Q:Exit→Act→World→Prop)
 (hQ:∀ ρ' a' w',Nx ρ h nx w ρ' (h'.set none Fit nx) (Nat.succ nx') w'→Rel ρ' w0 n E (h'.set none Fit nx) (Nat.succ nx') a' w'→pendQ P Q p0 a' w') :
 (Code.rangeFunc g ⟨ps⟩ asg body).wpIn (FF none) 0 P Q a w:=by
 obtain ⟨os,hR⟩:=hR
 obtain ⟨isf,H1⟩:=H1
 have hf1:=le_ble hfit
 refine wpIn_rangeFunc fun fn _=>?_
 obtain ⟨q,hq⟩:∃ q:Loop,q={ state:=.ready,pending:=none,fn,tmps:=a.tmps,params:=ps.toArray,assign:=asg,body,defers:=w.heap.size }:=⟨_,rfl⟩
 obtain ⟨gv,e1,k1⟩:=evo_ok hR.slots hg
 obtain ⟨xs,ys,kx,ky,rfl⟩:=kn_fn_inv k1
 have hx0:xs=[]:=kx.2
 subst hx0
 obtain ⟨m1,o1⟩:=hR.mem.keep
 have hsz:(w.alloc (.deferred (some []))).heap.size=w.heap.size+1:=World.size_alloc ..
 obtain ⟨ρ1,x1,p1,m2,o2⟩:=m1.new (b:=.lp E n ps asg body .ready none nx) (o:=.loop q) (s:=0) (w':=(w.alloc (.deferred (some []))).alloc (.loop q)) hf1 rfl (alloc_upd _ _) (alloc_size _ _) (alloc_new _ _)
  ⟨q,rfl,by rw [hq],by rw [hq],by rw [hq],by rw [hq],by rw [hq],by rw [hq];exact hR.slots.1,fun i x hx=>by rw [hq];exact hR.slots.2 i x hx⟩
 rw [hsz] at p1
 obtain ⟨fnn,hf1',hf2,hf3⟩:=isf
 refine ⟨w.heap.size+1,[mark w.heap.size],(w.alloc (.deferred (some []))).alloc (.loop q),{ target:=.fn (.func f) ys.toArray,args:=#[.func (.yield (w.heap.size+1)) #[] #[]] },(w.alloc (.deferred (some []))).alloc (.loop q),f,
  (.func (.yield (w.heap.size+1)) #[] #[] :: ys).toArray,(w.alloc (.deferred (some []))).alloc (.loop q),?_,?_,?_,?_,fun h=>by simp [FF] at h,?_⟩
 · have:=run_enterLoop_outer (P:=P) (w:=w) fn a.tmps ps.toArray asg body
   rw [hq];exact this
 · have hev:Act.eval a g=.func (.func f) #[] ys.toArray:=ev_a e1
   simp only [resolve,hev]
   simp [go_sem]
 · intro f' hf';trivial
 · simp [invoke,run_callFunc _ _ hf1' hf2 hf3]
 have hky:KL (nx+1) ρ1 cap ys:=ky.up (Nat.le_succ _) x1
 have hyl:Kn (nx+1) ρ1 (.yl nx) (.func (.yield (w.heap.size+1)) #[] #[]):=⟨Nat.lt_succ_self _,by show _=_;rw [p1]⟩
 have hC:=H1 ρ1 ⟨w0.w,w.heap.size :: (os++w0.ks),w0.G,w0.ok,w0.s⟩ _ (.func (.yield (w.heap.size+1)) #[] #[] :: ys) m2 (KL.cons hyl hky) hf1
 refine callsIn_FF.2 (hC.mono fun ex w' ⟨u,ρ2,h1,h2,h3,h4⟩=>?_)
 subst h1
 have hb:=h4.own nx _ hlp
 have e3:ρ2 nx=ρ1 nx:=h2.ext nx (Nat.lt_succ_self _)
 rw [e3,p1] at hb
 obtain ⟨_,_,_,o,ho,hdb⟩:=hb
 obtain ⟨q4,rfl,g1,g2,g3,g4,g5,g6,g7⟩:=hdb
 have hend:(Instr.endLoop (w.heap.size+1)).run P w'=.ok q4.pending (w'.putObj (w.heap.size+1) (.loop { q4 with state:=.exhausted })):=run_endLoop ho (by rw [g1];intro hh;subst hh;cases hst)
 have hlt:=(Array.getElem?_eq_some_iff.1 ho).1
 have e4:(ρ2 nx).1=w.heap.size+1:=by rw [e3,p1]
 have hfit2:=le_ble hfit'
 obtain ⟨m3,o3⟩:=h4.write (b':=.lp E4 n4 ps4 as4 body4 .exhausted p0 nx') (o:=.loop { q4 with state:=.exhausted }) (w':=w'.putObj (w.heap.size+1) (.loop { q4 with state:=.exhausted })) (by omega) rfl hlp
  (by rw [e4];exact putObj_upd w' _ _) (by rw [e4];exact World.putObj_heap_same hlt) ⟨_,rfl,rfl,g2,g3,g4,g5,g6,fun i x hx=>g7 i x hx⟩
 have hnx:nx<nx':=h2.le
 obtain ⟨m4,o4⟩:=m3.kill hfit2 (t:=nx) (by omega)
 have hset:∀ t,(h'.set none Fit nx).get t=((h'.set (some (CB.lp E4 n4 ps4 as4 body4 .exhausted p0 nx')) Fit nx).set none Fit nx).get t:=fun t=>by
  rw [Tr.get_set _ _ _ _ _ (by omega),Tr.get_set _ _ _ _ _ (by omega),Tr.get_set _ _ _ _ _ (by omega)]
  split <;> rfl
 have m4:=m4.cong hset
 have o4:=o4.cong hset
 have hnxx:Nx ρ h nx w ρ2 (h'.set none Fit nx) (Nat.succ nx') (w'.putObj (w.heap.size+1) (.loop { q4 with state:=.exhausted })):=by
  have a1:Nx ρ h nx w ρ h nx (w.alloc (.deferred (some []))):=⟨Nat.le_refl _,hf,Ext.refl _ _,o1⟩
  have a2:Nx ρ h nx (w.alloc (.deferred (some []))) ρ1 _ (nx+1) _:=⟨Nat.le_succ _,hf1,x1,o2⟩
  have a3:=(a1.trans hR.mem a2).trans hR.mem h2
  have a4:Nx ρ2 h' nx' w' ρ2 _ (nx'+1) _:=⟨Nat.le_succ _,hfit2,Ext.refl _ _,o3⟩
  have a5:=a3.trans hR.mem a4
  exact a5.trans hR.mem ⟨Nat.le_refl _,hfit2,Ext.refl _ _,o4⟩
 have hRel:Rel ρ2 w0 n E (h'.set none Fit nx) (Nat.succ nx') { a with defers:=[mark w.heap.size]++a.defers } (w'.putObj (w.heap.size+1) (.loop { q4 with state:=.exhausted })):=
  ⟨w.heap.size :: os,hR.slots.up hnxx.le hnxx.ext,by show [mark w.heap.size]++a.defers=_;rw [hR.defers];rfl,m4,fun b hb=>by
   rcases List.mem_cons.1 hb with rfl | hb
   · exact hR.ss
   exact hR.mks b hb,Nat.le_trans hR.ss hnxx.old.sz⟩
 have H:=hQ _ _ _ hnxx hRel
 rw [←g2] at H
 exact ⟨q4.pending,_,hend,H⟩
theorem step_code {ih:Cmd→Res} (H:∀ c,Does1 P Φ c (ih c)) (c:Code) (n:Nat) (E:Tr CV) (h:Tr CB) (nx:Nat):Does1 P Φ (.code c n E h nx) (step P pr ih (.code c n E h nx)):=by
 have quiet:∀ (x:Exit) (c:Code),(∀ (r:Option Nat) (a:Act) (w:World) (Q:Exit→Act→World→Prop),Q x a w→c.wpIn (FF r) 0 P Q a w)→Does1 P Φ (.code c n E h nx) (.ok x E h nx):=fun x c hc r ρ w0 a w hR hf hn hrr =>
  fun Q hQ=>hc r a w Q (hQ ρ a w (Nx.refl hf) hR)
 cases c with
 | skip=>exact quiet .normal _ fun r a w Q hq=>wpIn_skip hq
 | label l=>exact quiet .normal _ fun r a w Q hq=>wpIn_label hq
 | exit id=>exact quiet (.exit id) _ fun r a w Q hq=>wpIn_exit hq
 | ret=>exact quiet .ret _ fun r a w Q hq=>wpIn_ret hq
 | goto l=>trivial
 | refuse s=>trivial
 | rangeFunc g ps asg body =>
   obtain ⟨ps⟩:=ps
   show Does1 P Φ _ (match evo E g with
    | some (.fn f .nil cap)=>bif Nat.ble (Nat.succ nx) Fit then
      (match ih (.call f (.cons (.yl nx) cap) (h.set (some (.lp E n ps asg body .ready none nx)) Fit nx) (Nat.succ nx)) with
      | .ret _ h' nx'=>(match h'.get nx with
        | some (.lp _ _ _ _ _ st p _)=>bif isBusy st || not (Nat.ble (Nat.succ nx') Fit) then .bad 41 [] else
          (match p with
          | none=>.ok .normal E (h'.set none Fit nx) (Nat.succ nx')
          | some c=>ih (.code c n E (h'.set none Fit nx) (Nat.succ nx')))
        | _=>.bad 42 [])
      | .ok _ _ _ _=>.bad 43 []
      | r=>r) else .bad 44 []
    | _=>.bad 45 [])
   split
   · rename_i f cap hg
     refine bif_val (Does1 P Φ _) (fun hfit=>?_) fun _=>trivial
     have H1:=H (.call f (.cons (.yl nx) cap) (h.set (some (.lp E n ps asg body .ready none nx)) Fit nx) (Nat.succ nx))
     generalize ih (.call f (.cons (.yl nx) cap) (h.set (some (.lp E n ps asg body .ready none nx)) Fit nx) (Nat.succ nx))=q at H1
     cases q with
     | bad=>trivial
     | ok _ _ _ _=>trivial
     | ret v h' nx' =>
       show Does1 P Φ _ (match h'.get nx with
        | some (.lp _ _ _ _ _ st p _)=>bif isBusy st || not (Nat.ble (Nat.succ nx') Fit) then .bad 41 [] else
          (match p with
          | none=>.ok .normal E (h'.set none Fit nx) (Nat.succ nx')
          | some c=>ih (.code c n E (h'.set none Fit nx) (Nat.succ nx')))
        | _=>.bad 42 [])
       split
       · rename_i E4 n4 ps4 as4 body4 st p stm hlp
         refine bif_val (Does1 P Φ _) (fun _=>trivial) fun hbz=>?_
         rw [Bool.or_eq_false_iff,Bool.not_eq_false'] at hbz
         have hgo:=range_go (P:=P) (Φ:=Φ) (ps:=ps) (asg:=asg) (body:=body) hg hfit H1 hlp hbz.1 hbz.2
         cases p with
         | none =>
           intro r ρ w0 a w hR hf hn hrr Q hQ
           have hr0:r=none:=hrr.elim id (fun q=>by cases (show (false:Bool)=true from q))
           subst hr0
           exact hgo ρ w0 a w hR hf hn Q fun ρ' a' w' e1 e2=>hQ ρ' a' w' e1 e2
         | some c =>
           show Does1 P Φ _ (ih (.code c n E (h'.set none Fit nx) (Nat.succ nx')))
           have H2:=H (.code c n E (h'.set none Fit nx) (Nat.succ nx'))
           generalize ih (.code c n E (h'.set none Fit nx) (Nat.succ nx'))=q2 at H2
           cases q2 with
           | bad=>trivial
           | ret _ _ _=>exact H2.elim
           | ok x2 E2 h2 nx2 =>
             intro r ρ w0 a w hR hf hn hrr Q hQ
             have hr0:r=none:=hrr.elim id (fun q=>by cases (show (false:Bool)=true from q))
             subst hr0
             exact hgo ρ w0 a w hR hf hn Q fun ρ' a' w' e1 e2=>H2 none ρ' w0 a' w' e2 e1.fit hn (.inl rfl) Q fun ρ2 a2 w2 f1 f2=>hQ ρ2 a2 w2 (e1.trans hR.mem f1) f2
       trivial
   · trivial
 | region id ops draw =>
   obtain ⟨l⟩:=ops
   cases draw with
   | true =>
     show Does1 P Φ _ (bif P.follows .mixedOrders then (match planQ l with
      | some p=>ih (.reg l p [] n E h nx)
      | none=>.bad 23 l) else .bad 24 [])
     cases hmx:P.follows .mixedOrders with
     | false=>trivial
     | true =>
       simp only [cond_true]
       split
       · rename_i p hp
         have H1:=H (.reg l p [] n E h nx)
         generalize ih (.reg l p [] n E h nx)=q at H1
         cases q with
         | bad=>trivial
         | ret v h' nx'=>exact H1.elim
         | ok x E' h' nx' =>
           obtain ⟨rfl,H1⟩:=H1
           obtain ⟨hns,hnd,hpl,hlen⟩:=planQ_ok hp
           intro r ρ w0 a w hR hf hn hrr Q hQ
           have hR':Rel ρ w0 n E h nx a w.drew:=by
            obtain ⟨os,hR⟩:=hR
            exact ⟨os,hR.slots,hR.defers,⟨hR.mem.upd.drew,hR.mem.own,hR.mem.one,hR.mem.imm,hR.mem.nod,hR.mem.kept⟩,hR.mks,hR.ss⟩
           have hg:=H1 ρ ρ w0 a w.drew w.drew h nx (Array.replicate l.length false) (Array.replicate l.length false) [] [] [] p.length ⟨hR',⟨rfl,fun j=>⟨.inl,fun h=>h.elim (fun q=>q) fun ⟨_,h,_⟩=>by cases h⟩,fun e he=>by cases he⟩,(fun j o hj hl=>by
            rw [(LM.start l).2,Nat.zero_testBit] at hl;cases hl),(fun e he=>by cases he),List.nodup_nil,List.nodup_nil,(fun e he=>by cases he),(fun x hx=>by cases hx),hR'.mem,Nx.refl hf⟩ hf hn hns hpl rfl (Q .normal) fun ρ' a' w' e1 e2=>hQ ρ' a' w' ⟨e1.le,e1.fit,e1.ext,⟨e1.old.old,e1.old.fr,e1.old.nw,e1.old.sz⟩⟩ e2
           rw [hlen] at hg
           have:=gm_sound (r:=r) (n:=0) (by simpa using hnd) _ _ _ _ hg
           exact wpIn_region_any hmx (by simpa using this)
       · trivial
   | false =>
     show Does1 P Φ _ (bif l.all notDefer then ih (.ops l l n E h nx) else .bad 2 [])
     cases hd:l.all notDefer with
     | false=>trivial
     | true =>
       show Does1 P Φ _ (ih (.ops l l n E h nx))
       have H1:=H (.ops l l n E h nx)
       generalize ih (.ops l l n E h nx)=q at H1
       cases q with
       | bad=>trivial
       | ret v h' nx'=>exact H1.elim
       | ok x E' h' nx' =>
         obtain ⟨rfl,H1⟩:=H1
         intro r ρ w0 a w hR hf hn hrr Q hQ
         exact wpIn_region_lit (lstWp_sound l a w hd (H1 ρ w0 a w hR hf hn _ hQ))
 | scope c =>
   show Does1 P Φ _ (match ih (.code c n E h nx) with
    | .ok x E h nx=>(match x with
      | .normal=>.ok .normal E h nx
      | .ret=>.ok .ret E h nx
      | .exit id=>.ok (.exit id) E h nx
      | _=>.bad 22 [])
    | r=>r)
   have H1:=H (.code c n E h nx)
   generalize ih (.code c n E h nx)=q at H1
   cases q with
   | bad=>trivial
   | ret v h' nx'=>exact H1.elim
   | ok x E' h' nx' =>
     have go:(∀ Q:Exit→Act→World→Prop,∀ a w,Q x a w→NoGoto Q x a w)→Does1 P Φ (.code (.scope c) n E h nx) (.ok x E' h' nx'):=fun hx r ρ w0 a w hR hf hn hrr Q hQ =>
      wpIn_scope (H1 r ρ w0 a w hR hf hn hrr _ fun ρ' a' w' e1 e2=>hx Q _ _ (hQ ρ' a' w' e1 e2))
     cases x with
     | normal=>exact go fun Q a w hq=>hq
     | ret=>exact go fun Q a w hq=>hq
     | exit id=>exact go fun Q a w hq=>hq
     | _=>trivial
 | loop c =>
   show Does1 P Φ _ (ih (.loop c n E h nx))
   have H1:=H (.loop c n E h nx)
   generalize ih (.loop c n E h nx)=q at H1
   cases q with
   | bad=>trivial
   | ret v h' nx'=>exact H1.elim
   | ok x E' h' nx' =>
     intro r ρ w0 a w hR hf hn hrr Q hQ b k cs hro hb' hr
     obtain ⟨e,a',w',hq,harr⟩:=H1 r ρ w0 a w hR hf hn hrr Q hQ b k cs hro hb' hr
     exact ⟨e,a',w',hq,.of_steps (.one (fenced_calm hb' hr rfl) stepR_loop) harr⟩
 | cond c x y =>
   show Does1 P Φ _ (match evo E c with
    | some (.bool t)=>ih (.code (bif t then x else y) n E h nx)
    | _=>.bad 1 [])
   split
   · rename_i t ht
     have H1:=H (.code (bif t then x else y) n E h nx)
     generalize ih (.code (bif t then x else y) n E h nx)=q at H1
     cases q with
     | bad=>trivial
     | ret v h' nx'=>exact H1.elim
     | ok x' E' h' nx' =>
       intro r ρ w0 a w hR hf hn hrr Q hQ
       obtain ⟨v,e1,g1⟩:=evo_ok hR.slots ht
       have e2:a.eval c=.bool t:=by rw [←DV.bool.1 g1.2];exact ev_a e1
       refine wpIn_cond e2 ?_
       have:=H1 r ρ w0 a w hR hf hn (hrr.imp id fun q=>by have q':(noR x && noR y)=true:=q;rw [Bool.and_eq_true] at q';cases t <;> first | exact q'.1 | exact q'.2) Q hQ
       cases t <;> exact this
   · trivial
 | seq x y =>
   show Does1 P Φ _ (match ih (.code x n E h nx) with
    | .ok x E h nx=>(match x with
      | .normal=>ih (.code y n E h nx)
      | x=>.ok x E h nx)
    | r=>r)
   have H1:=H (.code x n E h nx)
   generalize ih (.code x n E h nx)=q at H1
   cases q with
   | bad=>trivial
   | ret v h' nx'=>exact H1.elim
   | ok x' E' h' nx' =>
     have pass:x'≠.normal→Does1 P Φ (.code (.seq x y) n E h nx) (.ok x' E' h' nx'):=fun hx=>by
      intro r ρ w0 a w hR hf hn hrr Q hQ
      refine wpIn_seq (H1 r ρ w0 a w hR hf hn (hrr.imp id fun q=>(Bool.and_eq_true _ _▸(show (noR x && noR y)=true from q)).1) _ fun ρ' a' w' e1 e2=>?_)
      have:=hQ ρ' a' w' e1 e2
      cases x' <;> first | exact absurd rfl hx | exact this
     cases x' with
     | normal =>
       show Does1 P Φ _ (ih (.code y n E' h' nx'))
       have H2:=H (.code y n E' h' nx')
       generalize ih (.code y n E' h' nx')=q2 at H2
       cases q2 with
       | bad=>trivial
       | ret v h2 nx2=>exact H2.elim
       | ok x2 E2 h2 nx2 =>
         intro r ρ w0 a w hR hf hn hrr Q hQ
         refine wpIn_seq (H1 r ρ w0 a w hR hf hn (hrr.imp id fun q=>(Bool.and_eq_true _ _▸(show (noR x && noR y)=true from q)).1) _ fun ρ' a' w' e1 e2=>?_)
         exact H2 r ρ' w0 a' w' e2 e1.fit hn (hrr.imp id fun q=>(Bool.and_eq_true _ _▸(show (noR x && noR y)=true from q)).2) Q fun ρ2 a2 w2 f1 f2=>hQ ρ2 a2 w2 (e1.trans hR.mem f1) f2
     | _=>exact pass (by intro h;cases h)
 | block id c =>
   show Does1 P Φ _ (match ih (.code c n E h nx) with
    | .ok x E h nx=>(match x with
      | .exit id'=>bif Nat.beq id' id then .ok .normal E h nx else .ok (.exit id') E h nx
      | x=>.ok x E h nx)
    | r=>r)
   have H1:=H (.code c n E h nx)
   generalize ih (.code c n E h nx)=q at H1
   cases q with
   | bad=>trivial
   | ret v h' nx'=>exact H1.elim
   | ok x' E' h' nx' =>
     have go:∀ x2,(∀ (Q:Exit→Act→World→Prop) a w,Q x2 a w→Exit.inBlock id Q x' a w)→Does1 P Φ (.code (.block id c) n E h nx) (.ok x2 E' h' nx'):=fun x2 hx r ρ w0 a w hR hf hn hrr Q hQ =>
      wpIn_block (H1 r ρ w0 a w hR hf hn hrr _ fun ρ' a' w' e1 e2=>hx Q _ _ (hQ ρ' a' w' e1 e2))
     cases x' with
     | exit id' =>
       show Does1 P Φ _ (bif Nat.beq id' id then .ok .normal E' h' nx' else .ok (.exit id') E' h' nx')
       cases hb:Nat.beq id' id with
       | true =>
         have e:=Nat.eq_of_beq_eq_true hb
         exact go .normal fun Q a w hq=>by simp only [Exit.inBlock,e,if_true];exact hq
       | false =>
         have e:=ne_beq hb
         exact go (.exit id') fun Q a w hq=>by simp only [Exit.inBlock,e,if_false];exact hq
     | normal=>exact go _ fun Q a w hq=>hq
     | ret=>exact go _ fun Q a w hq=>hq
     | goto l=>exact go _ fun Q a w hq=>hq
     | panic ch=>exact go _ fun Q a w hq=>hq
     | outgrown=>exact go _ fun Q a w hq=>hq
theorem atLoop_round {r:Option Nat} {c:Code} {Q:Exit→Act→World→Prop} {a:Act} {w:World} (h:c.wpIn (FF r) 0 P (Exit.then (AtLoop r P c Q) Q) a w):AtLoop r P c Q a w:=by
 intro b k cs hro hb' hr
 obtain ⟨x,a₁,w₁,hq,harr⟩:=h b (.inLoop c :: k) cs hro hb' hr
 cases x with
 | normal =>
   obtain ⟨e₂,a₂,w₂,hq₂,harr₂⟩:=hq b k cs hro hb' hr
   exact ⟨e₂,a₂,w₂,hq₂,.of_steps (StepsIn.trans harr (.one (fenced_calm hb' hr rfl) stepR_inLoop)) harr₂⟩
 | exit id=>exact ⟨_,a₁,w₁,hq,.pass (x:=.inLoop c) rfl (fun _ _=>.inl (by simp)) harr⟩
 | goto l=>exact ⟨_,a₁,w₁,hq,.pass (x:=.inLoop c) rfl (fun _ _=>.inl (by simp)) harr⟩
 | ret=>exact ⟨_,a₁,w₁,hq,.pass (x:=.inLoop c) rfl (fun _ _=>.inl (by simp)) harr⟩
 | panic ch=>exact ⟨_,a₁,w₁,hq,.pass (x:=.inLoop c) rfl (fun _ _=>.inl (by simp)) harr⟩
 | outgrown=>exact ⟨_,a₁,w₁,hq,.pass (x:=.inLoop c) rfl (fun _ _=>.inl (by simp)) harr⟩
theorem rd_has {op:Op} {t:Nat} {c:CV} (hr:rdT E op=some t) (hq:qv P E h op=some c):∃ b,h.get t=some b:=by
 unfold rdT at hr
 split at hr
 · rename_i T x
   split at hr
   · rename_i t' o hx
     cases hr
     have hq':(match evo E x with
      | some (.ptr t o)=>match h.get t with
        | some (.cells l _ _ _)=>bif oneB P T then nthR l o else
          (match agQ P T with
          | some k=>bif Nat.beq (lenC (sliceR l o k)) k then some (.agg (sliceR l o k)) else none
          | none=>none)
        | _=>none
      | _=>none)=some c:=hq
     rw [hx] at hq'
     simp only at hq'
     split at hq'
     · rename_i hb;exact ⟨_,hb⟩
     cases hq'
   cases hr
 · rename_i T x i cc
   split at hr
   · rename_i t' hx
     cases hr
     have hq':qvL P E h T x i cc=some c:=hq
     unfold qvL at hq'
     rw [hx] at hq'
     simp only at hq'
     split at hq'
     · split at hq'
       · rename_i l st hb;exact ⟨_,hb⟩
       · rename_i l st hb;exact ⟨_,hb⟩
       cases hq'
     cases hq'
   cases hr
 cases hr
theorem step_loop {ih:Cmd→Res} (H:∀ c,Does1 P Φ c (ih c)) (c:Code) (n:Nat) (E:Tr CV) (h:Tr CB) (nx:Nat):Does1 P Φ (.loop c n E h nx) (step P pr ih (.loop c n E h nx)):=by
 show Does1 P Φ _ (match ih (.code c n E h nx) with
  | .ok x E h nx=>(match x with
    | .normal=>ih (.loop c n E h nx)
    | x=>.ok x E h nx)
  | r=>r)
 have H1:=H (.code c n E h nx)
 generalize ih (.code c n E h nx)=q at H1
 cases q with
 | bad=>trivial
 | ret v h' nx'=>exact H1.elim
 | ok x' E' h' nx' =>
   have pass:x'≠.normal→Does1 P Φ (.loop c n E h nx) (.ok x' E' h' nx'):=fun hx r ρ w0 a w hR hf hn hrr Q hQ=>by
    refine atLoop_round (H1 r ρ w0 a w hR hf hn hrr _ fun ρ' a' w' e1 e2=>?_)
    have:=hQ ρ' a' w' e1 e2
    cases x' <;> first | exact absurd rfl hx | exact this
   cases x' with
   | normal =>
     show Does1 P Φ _ (ih (.loop c n E' h' nx'))
     have H2:=H (.loop c n E' h' nx')
     generalize ih (.loop c n E' h' nx')=q2 at H2
     cases q2 with
     | bad=>trivial
     | ret v h2 nx2=>exact H2.elim
     | ok x2 E2 h2 nx2 =>
       intro r ρ w0 a w hR hf hn hrr Q hQ
       refine atLoop_round (H1 r ρ w0 a w hR hf hn hrr _ fun ρ' a' w' e1 e2=>?_)
       exact H2 r ρ' w0 a' w' e2 e1.fit hn hrr Q fun ρ2 a2 w2 f1 f2=>hQ ρ2 a2 w2 (e1.trans hR.mem f1) f2
   | _=>exact pass (by intro h;cases h)
theorem step_one {ih:Cmd→Res} (H:∀ c,Does1 P Φ c (ih c)) (o:Oper) (n:Nat) (E:Tr CV) (h:Tr CB) (nx:Nat):Does1 P Φ (.one o n E h nx) (step P pr ih (.one o n E h nx)):=by
 obtain ⟨dst,op,ty,pos,after,g⟩:=o
 show Does1 P Φ _ (match qv P E h op with
  | some c=>(match putE E n dst c with | some E=>.ok .normal E h nx | none=>.bad 7 [])
  | none=>match wm P E h nx op with
    | .val c h nx=>(match putE E n dst c with | some E=>.ok .normal E h nx | none=>.bad 8 [])
    | .unit h nx=>(match dst with | none=>.ok .normal E h nx | some _=>.bad 10 [])
    | .bad=>callQ ih E n h nx dst op)
 split
 · rename_i c hq
   split
   · rename_i E' hp
     refine ⟨rfl,fun ρ w0 a w hR hf hn K hK=>?_⟩
     obtain ⟨ob,hob⟩:∃ ob:Nat→Obj,∀ t b,h.get t=some b→w.heap[(ρ t).1]?=some (ob t)∧DB nx ρ (ρ t).2 b (ob t):=by
      refine ⟨fun t=>(w.heap[(ρ t).1]?).getD default,fun t b hb=>?_⟩
      obtain ⟨_,_,_,o,h1,h2⟩:=hR.mem.own t b hb
      exact ⟨by show _=some ((w.heap[(ρ t).1]?).getD default);rw [h1];rfl,by show DB _ _ _ _ ((w.heap[(ρ t).1]?).getD default);rw [h1];exact h2⟩
     obtain ⟨v,k1,k2⟩:=qv_ok (ob:=ob) hR.slots (fun t b _ hb=>(hob t b hb).2) hq
     have hr:(execOp a.eval ⟨dst,op,ty,pos,after,g⟩).run P w=.ok (.value v) w:=by
      refine k2 w (fun t ht=>?_) dst ty pos after g
      obtain ⟨b,hb⟩:=rd_has ht hq
      exact (hob t b hb).1
     unfold opWp
     rw [hr]
     exact hK ρ _ w (Nx.refl hf) (hR.put (put_slots hR.slots hn hp k1)) (Kept.put _ _ _)
   trivial
 have hw:∀ (ρ:Pl) (w0:Bas Φ) (a:Act) (w:World),Slots ρ E nx n a→Mem ρ w0 h nx w→nx≤Fit→Wd P op ρ w0 h nx a w (wm P E h nx op):=fun ρ w0 a w hR hm hf=>wm_ok hR hm hf
 revert hw
 generalize wm P E h nx op=q
 intro hw
 cases q with
 | val c h' nx' =>
   show Does1 P Φ _ (match putE E n dst c with | some E=>.ok .normal E h' nx' | none=>.bad 8 [])
   split
   · rename_i E' hp
     refine ⟨rfl,fun ρ w0 a w hR hf hn K hK=>?_⟩
     obtain ⟨os,hR⟩:=hR
     obtain ⟨k1,v,w',ρ',e1,e2,e3,e4,e5,e6⟩:=hw ρ (w0.plus os) a w hR.slots hR.mem hf
     unfold opWp
     rw [e6 dst ty pos after g]
     exact hK ρ' _ w' ⟨k1,e4,e1,e5⟩ ⟨os,put_slots (hR.slots.up k1 e1) hn hp e2,(put_defers _ _ _).trans hR.defers,e3,hR.mks,Nat.le_trans hR.ss e5.sz⟩ (Kept.put _ _ _)
   · trivial
 | unit h' nx' =>
   show Does1 P Φ _ (match dst with | none=>.ok .normal E h' nx' | some _=>.bad 10 [])
   cases dst with
   | some d=>trivial
   | none =>
     refine ⟨rfl,fun ρ w0 a w hR hf hn K hK=>?_⟩
     obtain ⟨os,hR⟩:=hR
     obtain ⟨k1,w',ρ',e1,e3,e4,e5,e6⟩:=hw ρ (w0.plus os) a w hR.slots hR.mem hf
     unfold opWp
     rw [e6 ty pos after g]
     exact hK ρ' _ w' ⟨k1,e4,e1,e5⟩ ⟨os,hR.slots.up k1 e1,hR.defers,e3,hR.mks,Nat.le_trans hR.ss e5.sz⟩ (Kept.refl _ _)
 | bad =>
   show Does1 P Φ _ (callQ ih E n h nx dst op)
   unfold callQ
   split
   · rename_i f args ats _
     split
     · rename_i g' fst cap hfv
       split
       · rename_i l hl
         have H1:=H (.call g' (appC fst (appC l cap)) h nx)
         generalize ih (.call g' (appC fst (appC l cap)) h nx)=q at H1
         cases q with
         | bad=>trivial
         | ok _ _ _ _=>trivial
         | ret v h' nx' =>
           show Does1 P Φ _ (match putE E n dst v with | some E=>.ok .normal E h' nx' | none=>.bad 11 [])
           split
           · rename_i E' hp
             obtain ⟨⟨fn,f1,f2,f3⟩,H1⟩:=H1
             refine ⟨rfl,fun ρ w0 a w hR hf hn K hK=>?_⟩
             obtain ⟨os,hR⟩:=hR
             obtain ⟨fv,e1,k1⟩:=evo_ok hR.slots hfv
             obtain ⟨xs,ys,k2,k3,rfl⟩:=kn_fn_inv k1
             obtain ⟨vs,e2,k4⟩:=evos_ok hR.slots hl
             have hC:=H1 ρ (w0.plus os) w (xs++vs++ys) hR.mem (by rw [List.append_assoc];exact appC_ok k2 (appC_ok k4 k3)) hf
             have hrun:(execOp a.eval ⟨dst,.call ⟨.value f,⟨args⟩,ats⟩,ty,pos,after,g⟩).run P w=.ok (.enter g' (xs++vs++ys).toArray) w:=by
              have hargs:(args.map a.eval)=vs:=(lookN a w).evals e2
              simp [execOp,resolve,Deferred.ofValue,invoke,ev_a e1,hargs,run_callFunc w _ f1 f2 f3]
             unfold opWp
             rw [hrun]
             refine hC.mono fun e w' ⟨u,ρ',q1,q2,q3,q4⟩=>⟨u,q1,?_⟩
             exact hK ρ' _ w' q2 ⟨os,put_slots (hR.slots.up q2.le q2.ext) hn hp q3,(put_defers _ _ _).trans hR.defers,q4,hR.mks,Nat.le_trans hR.ss q2.old.sz⟩ (Kept.put _ _ _)
           trivial
       trivial
     · rename_i t hfv
       split
       · rename_i l hl
         have H1:=H (.round t l h nx)
         generalize ih (.round t l h nx)=q at H1
         cases q with
         | bad=>trivial
         | ok _ _ _ _=>trivial
         | ret v h' nx' =>
           show Does1 P Φ _ (match putE E n dst v with | some E=>.ok .normal E h' nx' | none=>.bad 51 [])
           split
           · rename_i E' hp
             refine ⟨rfl,fun ρ w0 a w hR hf hn K hK=>?_⟩
             obtain ⟨os,hR⟩:=hR
             obtain ⟨fv,e1,k1⟩:=evo_ok hR.slots hfv
             have e3:fv=.func (.yield (ρ t).1) #[] #[]:=k1.2
             subst e3
             obtain ⟨vs,e2,k4⟩:=evos_ok hR.slots hl
             obtain ⟨f',tmps,assign,body,hy,hC⟩:=H1 ρ (w0.plus os) w vs hR.mem k4 hf
             have hrun:(execOp a.eval ⟨dst,.call ⟨.value f,⟨args⟩,ats⟩,ty,pos,after,g⟩).run P w=.ok (.round (ρ t).1 f' tmps assign body) w:=by
              have hargs:(args.map a.eval)=vs:=(lookN a w).evals e2
              simp [execOp,resolve,Deferred.ofValue,invoke,ev_a e1,hargs,hy]
             unfold opWp
             rw [hrun]
             refine hC.mono fun e w' ⟨u,ρ',q1,q2,q3,q4⟩=>⟨u,q1,?_⟩
             exact hK ρ' _ w' q2 ⟨os,put_slots (hR.slots.up q2.le q2.ext) hn hp q3,(put_defers _ _ _).trans hR.defers,q4,hR.mks,Nat.le_trans hR.ss q2.old.sz⟩ (Kept.put _ _ _)
           trivial
       trivial
     trivial
   trivial
end
end Go.Sl.Ev
namespace Go.Sl.Ev
open Go Go.Sl
section
variable {P:Program} {Φ:Imm→Prop} {pr:Prims}
theorem psE_ok {nx n:Nat} {ρ:Pl} (hn:n≤100000):∀ {ps:List Nat} {args:CV} {vs:List Value} {E E1:Tr CV} {tmps:Array Value},KL nx ρ args vs→psE n ps args E=some E1→tmps.size=n→(∀ i x,E.get i=some x→∃ v,tmps[i]?=some v∧Kn nx ρ x v)→
 ps.length=vs.length∧((ps.zip vs).foldl (fun t (p:Nat×Value)=>t.setIfInBounds p.1 p.2) tmps).size=n∧∀ i x,E1.get i=some x→∃ v,((ps.zip vs).foldl (fun t (p:Nat×Value)=>t.setIfInBounds p.1 p.2) tmps)[i]?=some v∧Kn nx ρ x v:=by
 intro ps
 induction ps with
 | nil =>
   intro args vs E E1 tmps hk hp hs he
   cases args with
   | nil =>
     have hp':some E=some E1:=hp
     cases hp'
     have:vs=[]:=hk.2
     subst this
     exact ⟨rfl,by simpa using hs,by simpa using he⟩
   | _=>exact absurd (show none=some E1 from hp) (by simp)
 | cons p ps ih =>
   intro args vs E E1 tmps hk hp hs he
   cases args with
   | cons a b =>
     have hp':(bif Nat.ble (Nat.succ p) n then psE n ps b (E.set (some a) Fit p) else none)=some E1:=hp
     rcases bif_cases hp' with ⟨h1,h2⟩ | ⟨_,h2⟩
     · have hpn:p<n:=Nat.le_of_ble_eq_true h1
       obtain ⟨⟨b1,b2⟩,v,r,rfl,k1,k2⟩:=hk
       obtain ⟨q1,q2,q3⟩:=ih (E:=E.set (some a) Fit p) (tmps:=tmps.setIfInBounds p v) ⟨b2,k2⟩ h2 (by simpa using hs) (fun i x hx=>by
        rw [Tr.get_set (some a) Fit E p i (by rw [fit_eq];omega)] at hx
        by_cases e:i=p
        · subst e
          rw [if_pos rfl] at hx
          cases hx
          exact ⟨v,by simp [hs,hpn],b1,k1⟩
        rw [if_neg e] at hx
        obtain ⟨u,g1,g2⟩:=he i x hx
        exact ⟨u,by rw [Array.getElem?_setIfInBounds_ne (Ne.symm e)];exact g1,g2⟩)
       exact ⟨by simp [q1],by simpa using q2,by simpa using q3⟩
     · cases h2
   | _=>exact absurd (show none=some E1 from hp) (by simp)
theorem round_end {ρ:Pl} {w0:Bas Φ} {h:Tr CB} {nx t n4 stm:Nat} {w:World} {E4:Tr CV} {ps4:List Nat} {as4 body4:Code} {st:LoopState} {p:Option Code} (hm:Mem ρ w0 h nx w) (hlp:h.get t=some (.lp E4 n4 ps4 as4 body4 st p stm)) (hfit:Nat.ble (Nat.succ nx) Fit=true) (c:Option Code) :
 ∃ w',(Instr.endRound (ρ t).1 c).run P w=.ok (.bool c.isNone) w'∧Nx ρ h nx w ρ (h.set (some (.lp E4 n4 ps4 as4 body4 (rst c) c nx)) Fit t) (Nat.succ nx) w'∧Mem ρ w0 (h.set (some (.lp E4 n4 ps4 as4 body4 (rst c) c nx)) Fit t) (Nat.succ nx) w':=by
 obtain ⟨_,_,_,o,ho,q,rfl,g1,g2,g3,g4,g5,g6,g7⟩:=hm.own t _ hlp
 have hf:=le_ble hfit
 have hlt:=(Array.getElem?_eq_some_iff.1 ho).1
 obtain ⟨m3,o3⟩:=hm.write (b':=.lp E4 n4 ps4 as4 body4 (rst c) c nx) (o:=.loop { q with state:=if c.isNone then .ready else .done,pending:=c }) (w':=w.putObj (ρ t).1 (.loop { q with state:=if c.isNone then .ready else .done,pending:=c })) (by omega) rfl hlp
  (putObj_upd w _ _) (World.putObj_heap_same hlt) ⟨_,rfl,by cases c <;> rfl,rfl,g3,g4,g5,g6,fun i x hx=>g7 i x hx⟩
 exact ⟨_,run_endRound c ho,⟨Nat.le_succ _,hf,Ext.refl _ _,o3⟩,m3⟩
theorem step_round {ih:Cmd→Res} (H:∀ c,Does1 P Φ c (ih c)) (t:Nat) (args:CV) (h:Tr CB) (nx:Nat):Does1 P Φ (.round t args h nx) (step P pr ih (.round t args h nx)):=by
 show Does1 P Φ _ (match h.get t with
  | some (.lp E n ps asg body st _ _)=>bif isRdy st && (noR asg && (noR body && Nat.ble n 100000)) then
    (match psE n ps args E with
    | some E1=>match ih (.code asg n E1 h nx) with
      | .ok .normal E2 h2 nx2=>(match h2.get t with
        | some (.lp E0 n0 ps0 as0 body0 st0 p0 _)=>bif isRdy st0 && Nat.ble (Nat.succ nx2) Fit then
          (match ih (.code body n E2 (h2.set (some (.lp E0 n0 ps0 as0 body0 .busy p0 nx2)) Fit t) (Nat.succ nx2)) with
          | .ok x _ h3 nx3=>(match h3.get t with
            | some (.lp E4 n4 ps4 as4 body4 _ _ _)=>bif Nat.ble (Nat.succ nx3) Fit then
              (match endX x with
              | some none=>.ret (.bool true) (h3.set (some (.lp E4 n4 ps4 as4 body4 .ready none nx3)) Fit t) (Nat.succ nx3)
              | some (some c)=>.ret (.bool false) (h3.set (some (.lp E4 n4 ps4 as4 body4 .done (some c) nx3)) Fit t) (Nat.succ nx3)
              | none=>.bad 46 []) else .bad 47 []
            | _=>.bad 48 [])
          | .ret _ _ _=>.bad 49 []
          | r=>r) else .bad 50 []
        | _=>.bad 54 [])
      | .ok _ _ _ _=>.bad 55 []
      | .ret _ _ _=>.bad 56 []
      | r=>r
    | none=>.bad 57 []) else .bad 58 []
  | _=>.bad 59 [])
 split
 · rename_i E n ps asg body st p stm hlp
   refine bif_val (Does1 P Φ _) (fun hb=>?_) fun _=>trivial
   simp only [Bool.and_eq_true] at hb
   obtain ⟨hb1,hb2,hb3,hb4⟩:=hb
   have hn:=le_ble hb4
   split
   · rename_i E1 hps
     have H1:=H (.code asg n E1 h nx)
     generalize ih (.code asg n E1 h nx)=q at H1
     cases q with
     | bad=>trivial
     | ret _ _ _=>trivial
     | ok x E2 h2 nx2 =>
       cases x with
       | normal =>
         show Does1 P Φ _ (match h2.get t with
          | some (.lp E0 n0 ps0 as0 body0 st0 p0 _)=>bif isRdy st0 && Nat.ble (Nat.succ nx2) Fit then
            (match ih (.code body n E2 (h2.set (some (.lp E0 n0 ps0 as0 body0 .busy p0 nx2)) Fit t) (Nat.succ nx2)) with
            | .ok x _ h3 nx3=>(match h3.get t with
              | some (.lp E4 n4 ps4 as4 body4 _ _ _)=>bif Nat.ble (Nat.succ nx3) Fit then
                (match endX x with
                | some none=>.ret (.bool true) (h3.set (some (.lp E4 n4 ps4 as4 body4 .ready none nx3)) Fit t) (Nat.succ nx3)
                | some (some c)=>.ret (.bool false) (h3.set (some (.lp E4 n4 ps4 as4 body4 .done (some c) nx3)) Fit t) (Nat.succ nx3)
                | none=>.bad 46 []) else .bad 47 []
              | _=>.bad 48 [])
            | .ret _ _ _=>.bad 49 []
            | r=>r) else .bad 50 []
          | _=>.bad 54 [])
         split
         · rename_i E0 n0 ps0 as0 body0 st0 p0 stm0 hlp0
           refine bif_val (Does1 P Φ _) (fun hb=>?_) fun _=>trivial
           rw [Bool.and_eq_true] at hb
           obtain ⟨hb5,hb6⟩:=hb
           have hf6:=le_ble hb6
           have H2:=H (.code body n E2 (h2.set (some (.lp E0 n0 ps0 as0 body0 .busy p0 nx2)) Fit t) (Nat.succ nx2))
           generalize ih (.code body n E2 (h2.set (some (.lp E0 n0 ps0 as0 body0 .busy p0 nx2)) Fit t) (Nat.succ nx2))=q2 at H2
           cases q2 with
           | bad=>trivial
           | ret _ _ _=>trivial
           | ok x3 E3 h3 nx3 =>
             show Does1 P Φ _ (match h3.get t with
              | some (.lp E4 n4 ps4 as4 body4 _ _ _)=>bif Nat.ble (Nat.succ nx3) Fit then
                (match endX x3 with
                | some none=>.ret (.bool true) (h3.set (some (.lp E4 n4 ps4 as4 body4 .ready none nx3)) Fit t) (Nat.succ nx3)
                | some (some c)=>.ret (.bool false) (h3.set (some (.lp E4 n4 ps4 as4 body4 .done (some c) nx3)) Fit t) (Nat.succ nx3)
                | none=>.bad 46 []) else .bad 47 []
              | _=>.bad 48 [])
             split
             · rename_i E4 n4 ps4 as4 body4 st4 p4 stm4 hlp4
               refine bif_val (Does1 P Φ _) (fun hb7=>?_) fun _=>trivial
               have go:∀ (c:Option Code),endX x3=some c→∀ (ρ:Pl) (w0:Bas Φ) (w:World) (vs:List Value),Mem ρ w0 h nx w→KL nx ρ args vs→nx≤Fit→
                ∃ f tmps assign body,(Instr.yield (ρ t).1 vs.toArray).run P w=.ok (.round (ρ t).1 f tmps assign body) w∧
                 RoundIn Fence.wide 0 P (ρ t).1 f tmps assign body w (fun e w'=>∃ u ρ',e=.returned u∧Nx ρ h nx w ρ' (h3.set (some (.lp E4 n4 ps4 as4 body4 (rst c) c nx3)) Fit t) (Nat.succ nx3) w'∧Kn (Nat.succ nx3) ρ' (.bool c.isNone) u∧Mem ρ' w0 (h3.set (some (.lp E4 n4 ps4 as4 body4 (rst c) c nx3)) Fit t) (Nat.succ nx3) w'):=by
                intro c hc ρ w00 w vs hm hk hf
                obtain ⟨W0,ks0,G0,ok0,s0⟩:=w00
                replace hm:=hm.base (s':=w.heap.size)
                obtain ⟨w0,hw0⟩:∃ w0:Bas Φ,w0=⟨W0,ks0,G0,ok0,w.heap.size⟩:=⟨_,rfl⟩
                rw [←hw0] at hm
                obtain ⟨htn,_,_,o,ho,q,rfl,g1,g2,g3,g4,g5,g6,g7⟩:=hm.own t _ hlp
                obtain ⟨z1,z2,z3⟩:=psE_ok hn hk hps g6 g7
                refine ⟨_,_,_,_,run_yield ho (by rw [g3];simp [z1]),?_⟩
                rw [g4,g5,g3]
                have htm:(ps.toArray.zip vs.toArray).foldl (fun tmps (x:Nat×Value)=>tmps.setIfInBounds x.1 x.2) q.tmps=(ps.zip vs).foldl (fun t (p:Nat×Value)=>t.setIfInBounds p.1 p.2) q.tmps:=by simp
                refine roundIn_of_wpIn (F:=Fence.wide) (n:=0) trivial ?_
                have hR:Rel ρ w0 n E1 h nx { tmps:=(ps.toArray.zip vs.toArray).foldl (fun tmps (x:Nat×Value)=>tmps.setIfInBounds x.1 x.2) q.tmps,defers:=[] } w:=by
                 rw [htm]
                 exact ⟨[],⟨z2,z3⟩,rfl,hm,fun b hb=>(by cases hb),by rw [hw0];exact Nat.le_refl _⟩
                refine H1 (some (ρ t).1) ρ w0 _ w hR hf hn (.inr hb2) _ fun ρ2 a2 w2 e1 e2=>?_
                have m2:=e2.mem
                have e3:ρ2 t=ρ t:=e1.ext t htn
                obtain ⟨_,_,_,o2,ho2,q2,rfl,j1,j2,j3,j4,j5,j6,j7⟩:=m2.own t _ hlp0
                rw [e3] at ho2
                have hlt:=(Array.getElem?_eq_some_iff.1 ho2).1
                refine ⟨_,run_beginRound ho2 (by rw [j1];cases st0 <;> first | rfl | cases hb5),?_⟩
                obtain ⟨os,e2⟩:=e2
                obtain ⟨m3,o3⟩:=e2.mem.write (b':=.lp E0 n0 ps0 as0 body0 .busy p0 nx2) (o:=.loop { q2 with state:=.busy }) (w':=w2.putObj (ρ t).1 (.loop { q2 with state:=.busy })) (by omega) rfl hlp0
                 (by rw [e3];exact putObj_upd w2 _ _) (by rw [e3];exact World.putObj_heap_same hlt) ⟨_,rfl,rfl,j2,j3,j4,j5,j6,fun i x hx=>j7 i x hx⟩
                have a4:Nx ρ2 h2 nx2 w2 ρ2 (h2.set (some (.lp E0 n0 ps0 as0 body0 .busy p0 nx2)) Fit t) (Nat.succ nx2) (w2.putObj (ρ t).1 (.loop { q2 with state:=.busy })):=⟨Nat.le_succ _,hf6,Ext.refl _ _,o3⟩
                have hR2:Rel ρ2 w0 n E2 (h2.set (some (.lp E0 n0 ps0 as0 body0 .busy p0 nx2)) Fit t) (Nat.succ nx2) a2 (w2.putObj (ρ t).1 (.loop { q2 with state:=.busy })):=⟨os,e2.slots.up (Nat.le_succ _) (Ext.refl _ _),e2.defers,m3,e2.mks,Nat.le_trans e2.ss a4.old.sz⟩
                refine H2 (some (ρ t).1) ρ2 w0 _ _ hR2 hf6 hn (.inr hb3) _ fun ρ3 a3 w3 f1 f2=>?_
                have htn2:t<nx2:=Nat.lt_of_lt_of_le htn e1.le
                have e5:ρ3 t=ρ t:=(f1.ext t (Nat.lt_succ_of_lt htn2)).trans e3
                obtain ⟨w4,k1,k2,k3⟩:=round_end (P:=P) f2.mem hlp4 hb7 c
                rw [e5] at k1
                have hnx:=(((e1.trans hm a4).trans hm f1).trans hm k2)
                have fin:∃ v w',(Instr.endRound (ρ t).1 c).run P w3=.ok v w'∧∃ u ρ',Ending.returned v=.returned u∧Nx ρ h nx w ρ' (h3.set (some (.lp E4 n4 ps4 as4 body4 (rst c) c nx3)) Fit t) (Nat.succ nx3) w'∧Kn (Nat.succ nx3) ρ' (.bool c.isNone) u∧Mem ρ' ⟨W0,ks0,G0,ok0,s0⟩ (h3.set (some (.lp E4 n4 ps4 as4 body4 (rst c) c nx3)) Fit t) (Nat.succ nx3) w':=
                 ⟨_,w4,k1,_,ρ3,rfl,hnx,kn_bool,by rw [hw0] at k3;exact k3.base⟩
                cases x3 with
                | normal=>cases hc;exact fin
                | ret=>cases hc;exact fin
                | exit id=>cases hc;exact fin
                | goto l=>cases hc
                | panic ch=>cases hc
                | outgrown=>cases hc
               cases hx:endX x3 with
               | none=>trivial
               | some c =>
                 cases c with
                 | none=>exact go none hx
                 | some c=>exact go (some c) hx
             trivial
         · trivial
       | _=>trivial
   trivial
 trivial
end
end Go.Sl.Ev
namespace Go.Sl.Ev
open Go Go.Sl
section
variable {P:Program} {Φ:Imm→Prop} {pr:Prims}
theorem ops_one {ih:Cmd→Res} (H:∀ c,Does1 P Φ c (ih c)) {all rest:List Oper} {o:Oper} {n:Nat} {E:Tr CV} {h:Tr CB} {nx:Nat}
 (hw:∀ (ρ:Pl) (w0:Bas Φ) (a:Act) (w:World),Rel ρ w0 n E h nx a w→Region.wanted o (yielded all.toArray a.tmps)=true) :
 Does1 P Φ (.ops all (o :: rest) n E h nx) (match ih (.one o n E h nx) with | .ok x E h nx=>ih (.ops all rest n E h nx) | r=>r):=by
 have H1:=H (.one o n E h nx)
 generalize ih (.one o n E h nx)=q at H1
 cases q with
 | bad=>trivial
 | ret v h' nx'=>exact H1.elim
 | ok x E' h' nx' =>
   obtain ⟨rfl,H1⟩:=H1
   show Does1 P Φ _ (ih (.ops all rest n E' h' nx'))
   have H2:=H (.ops all rest n E' h' nx')
   generalize ih (.ops all rest n E' h' nx')=q2 at H2
   cases q2 with
   | bad=>trivial
   | ret v h2 nx2=>exact H2.elim
   | ok x2 E2 h2 nx2 =>
     obtain ⟨rfl,H2⟩:=H2
     refine ⟨rfl,fun ρ w0 a w hR hf hn K hK=>?_⟩
     unfold lstWp
     rw [if_pos (hw ρ w0 a w hR)]
     exact H1 ρ w0 a w hR hf hn _ fun ρ' a' w' e1 e2 _=>H2 ρ' w0 a' w' e2 e1.fit hn K fun ρ2 a2 w2 f1 f2=>hK ρ2 a2 w2 (e1.trans hR.mem f1) f2
theorem ops_not {ih:Cmd→Res} (H:∀ c,Does1 P Φ c (ih c)) {all rest:List Oper} {o:Oper} {n:Nat} {E:Tr CV} {h:Tr CB} {nx:Nat}
 (hw:∀ (ρ:Pl) (w0:Bas Φ) (a:Act) (w:World),Rel ρ w0 n E h nx a w→Region.wanted o (yielded all.toArray a.tmps)=false) :
 Does1 P Φ (.ops all (o :: rest) n E h nx) (match putE E n o.dst (.tup .nil) with | some E=>ih (.ops all rest n E h nx) | none=>.bad 4 []):=by
 split
 · rename_i E' hp
   have H2:=H (.ops all rest n E' h nx)
   generalize ih (.ops all rest n E' h nx)=q2 at H2
   cases q2 with
   | bad=>trivial
   | ret v h2 nx2=>exact H2.elim
   | ok x2 E2 h2 nx2 =>
     obtain ⟨rfl,H2⟩:=H2
     refine ⟨rfl,fun ρ w0 a w hR hf hn K hK=>?_⟩
     unfold lstWp
     rw [if_neg (by rw [hw ρ w0 a w hR];simp)]
     exact H2 ρ w0 _ w (hR.put (put_slots hR.slots hn hp undef_kn)) hf hn K hK
 trivial
theorem step_ops {ih:Cmd→Res} (H:∀ c,Does1 P Φ c (ih c)) (all l:List Oper) (n:Nat) (E:Tr CV) (h:Tr CB) (nx:Nat):Does1 P Φ (.ops all l n E h nx) (step P pr ih (.ops all l n E h nx)):=by
 cases l with
 | nil=>exact ⟨rfl,fun ρ w0 a w hR hf hn K hK=>hK ρ a w (Nx.refl hf) hR⟩
 | cons o rest =>
   show Does1 P Φ _ (match o.guard with
    | none=>(match ih (.one o n E h nx) with
      | .ok x E h nx=>ih (.ops all rest n E h nx)
      | r=>r)
    | some (j,want)=>(match dstN all j with
      | some t=>(match E.get t with
        | some (.bool b)=>bif eqB b want then
         (match ih (.one o n E h nx) with
         | .ok x E h nx=>ih (.ops all rest n E h nx)
         | r=>r)
          else (match putE E n o.dst (.tup .nil) with | some E=>ih (.ops all rest n E h nx) | none=>.bad 4 [])
        | some (.tup .nil)=>(match putE E n o.dst (.tup .nil) with | some E=>ih (.ops all rest n E h nx) | none=>.bad 4 [])
        | _=>.bad 5 [])
      | none=>.bad 6 []))
   split
   · rename_i hg
     exact ops_one H fun ρ w0 a w hR=>by simp [Region.wanted,hg]
   rename_i j want hg
   split
   · rename_i t ht
     split
     · rename_i b hb
       cases hx:eqB b want with
       | true =>
         have e:b=want:=by cases b <;> cases want <;> first | rfl | cases hx
         exact ops_one H fun ρ w0 a w hR=>by simp [Region.wanted,hg,yielded_ok hR.slots ht hb,e]
       | false =>
         have e:b≠want:=by cases b <;> cases want <;> first | (cases hx;done) | exact (by decide)
         exact ops_not H fun ρ w0 a w hR=>by simp [Region.wanted,hg,yielded_ok hR.slots ht hb,e]
     · rename_i hb
       exact ops_not H fun ρ w0 a w hR=>by simp [Region.wanted,hg,yielded_no hR.slots ht hb]
     trivial
   trivial
theorem argE_ok {nx:Nat} {ρ:Pl} {l:CV} {vs:List Value} (hk:KL nx ρ l vs):∀ (i:Nat) (E:Tr CV),i+vs.length≤100000→∀ (j:Nat) (x:CV),(argE l i E).get j=some x→(i≤j∧∃ v,vs[j - i]?=some v∧Kn nx ρ x v)∨E.get j=some x:=by
 refine KL.induct (motive:=fun l vs=>∀ (i:Nat) (E:Tr CV),i+vs.length≤100000→∀ (j:Nat) (x:CV),(argE l i E).get j=some x→(i≤j∧∃ v,vs[j - i]?=some v∧Kn nx ρ x v)∨E.get j=some x) ?_ ?_ hk
 · intro i E _ j x hx;exact .inr hx
 intro a b v vs hv hvs ih i E hi j x hx
 have hx':(argE b (Nat.succ i) (E.set (some a) Fit i)).get j=some x:=hx
 rw [List.length_cons] at hi
 rcases ih (i+1) _ (by omega) j x hx' with ⟨h1,u,h2,h3⟩ | h1
 · refine .inl ⟨by omega,u,?_,h3⟩
   rw [show j - i=(j - (i+1))+1 by omega]
   simpa using h2
 rw [Tr.get_set (some a) Fit E i j (by rw [fit_eq];omega)] at h1
 by_cases e:j=i
 · rw [if_pos e] at h1
   cases h1
   exact .inl ⟨by omega,v,by subst e;simp,hv⟩
 rw [if_neg e] at h1;exact .inr h1
section
variable {nx n:Nat} {ρ:Pl} {w0:Bas Φ} {w:World} {E:Tr CV} {h:Tr CB} {a:Act}
theorem resC_ok (hR:Rel ρ w0 n E h nx a w) {x:ResultVar} {c:CV} (hc:resC P E h x=some c):∃ v,Kn nx ρ c v∧(resOne a.tmps x).run P w=.ok v w:=by
 cases x with
 | tmp t =>
   obtain ⟨v,h1,h2⟩:=hR.slots.2 t c hc
   exact ⟨v,h2,by simp [resOne,h1]⟩
 | cell t T =>
   have hc':qv P E h (.load T (.tmp t))=some c:=hc
   obtain ⟨ob,hob⟩:∃ ob:Nat→Obj,∀ t b,h.get t=some b→w.heap[(ρ t).1]?=some (ob t)∧DB nx ρ (ρ t).2 b (ob t):=by
    refine ⟨fun t=>(w.heap[(ρ t).1]?).getD default,fun t b hb=>?_⟩
    obtain ⟨_,_,_,o,h1,h2⟩:=hR.mem.own t b hb
    exact ⟨by show _=some ((w.heap[(ρ t).1]?).getD default);rw [h1];rfl,by show DB _ _ _ _ ((w.heap[(ρ t).1]?).getD default);rw [h1];exact h2⟩
   obtain ⟨v,k1,k2⟩:=qv_ok (ob:=ob) hR.slots (fun t b _ hb=>(hob t b hb).2) hc'
   have hr:=k2 w (fun t ht=>by
    obtain ⟨b,hb⟩:=rd_has ht hc'
    exact (hob t b hb).1) none 0 "" #[] none
   refine ⟨v,k1,?_⟩
   have hp:∃ ad,a.eval (.tmp t)=.pointer (some ad):=by
    have hx:∃ tt o,evo E (.tmp t)=some (.ptr tt o):=by
     have hq':(match evo E (.tmp t) with
      | some (.ptr t o)=>match h.get t with
        | some (.cells l _ _ _)=>bif oneB P T then nthR l o else
          (match agQ P T with
          | some k=>bif Nat.beq (lenC (sliceR l o k)) k then some (.agg (sliceR l o k)) else none
          | none=>none)
        | _=>none
      | _=>none)=some c:=hc'
     split at hq'
     · rename_i tt o hx;exact ⟨tt,o,hx⟩
     cases hq'
    obtain ⟨tt,o,hx⟩:=hx
    obtain ⟨u,e1,g1⟩:=evo_ok hR.slots hx
    have:=DV.ptr.1 g1.2
    subst this
    exact ⟨_,ev_a e1⟩
   obtain ⟨ad,had⟩:=hp
   have had':a.tmps.getD t undef=.pointer (some ad):=had
   simp only [resOne,had',asAddr]
   simp only [execOp,had,Instr.loadAt,Instr.sureAddr] at hr
   simp only [Sem.run_bind,Sem.run_pure,Result.andThen_ok] at hr ⊢
   generalize (loadVar T ad).run P w=q at hr ⊢
   cases q with
   | ok u w'=>simp only [Result.andThen_ok,Sem.run_pure,Result.ok.injEq,Next.value.injEq] at hr;obtain ⟨rfl,rfl⟩:=hr;rfl
   | halt x w'=>cases hr
theorem resL_ok (hR:Rel ρ w0 n E h nx a w):∀ {l:List ResultVar} {c:CV},resL P E h l=some c→∃ vs,KL nx ρ c vs∧(l.mapM (resOne a.tmps)).run P w=.ok vs w:=by
 intro l
 induction l with
 | nil=>intro c hc;cases hc;exact ⟨[],KL.nil,by simp⟩
 | cons x l ih =>
   intro c hc
   have hc':(match resC P E h x with | some a=>(match resL P E h l with | some b=>some (.cons a b) | none=>none) | none=>none)=some c:=hc
   split at hc'
   · rename_i c1 h1
     split at hc'
     · rename_i c2 h2
       cases hc'
       obtain ⟨v,k1,r1⟩:=resC_ok hR h1
       obtain ⟨vs,k2,r2⟩:=ih h2
       exact ⟨v :: vs,KL.cons k1 k2,by simp [List.mapM_cons,r1,r2]⟩
     cases hc'
   cases hc'
theorem resQ_ok (hR:Rel ρ w0 n E h nx a w) {fn:Func} {c:CV} (hc:resQ P E h fn.results.toList=some c):∃ v,Kn nx ρ c v∧(results fn a.tmps).run P w=.ok v w:=by
 unfold resQ at hc
 have key:∀ vs,(fn.results.toList.mapM (resOne a.tmps)).run P w=.ok vs w→(results fn a.tmps).run P w=.ok (if h:vs.toArray.size=1 then vs.toArray[0] else .tuple vs.toArray) w:=fun vs hvs=>by
  rw [results_eq]
  have e1:fn.results.mapM (resOne a.tmps)=List.toArray <$> (fn.results.toList.mapM (resOne a.tmps)):=by rw [Array.mapM_eq_mapM_toList]
  rw [e1,map_eq_pure_bind]
  simp only [Sem.run_bind,hvs,Result.andThen_ok,Sem.run_pure]
 split at hc
 · rename_i c1 h1
   cases hc
   obtain ⟨vs,k1,r1⟩:=resL_ok hR h1
   obtain ⟨v,vs',rfl,k2,k3⟩:=k1.inv_cons
   rw [k3.inv_nil] at r1
   exact ⟨v,k2,by rw [key _ r1];simp⟩
 · rename_i c1 hne h1
   cases hc
   obtain ⟨vs,k1,r1⟩:=resL_ok hR h1
   refine ⟨.tuple vs.toArray,⟨k1.1,DV.tup.2 ⟨vs,k1.2,rfl⟩⟩,?_⟩
   rw [key _ r1]
   have:¬vs.toArray.size=1:=fun hs=>by
    have hl:vs.length=1:=by simpa using hs
    rw [←lenC_ok k1] at hl
    revert k1 hl hne
    cases c1 <;> first | (intro hne k1 hl;cases hl;done) | skip
    rename_i x y
    intro hne k1 hl
    obtain ⟨v,vs',rfl,k2,k3⟩:=k1.inv_cons
    have hy:lenC y=0:=Nat.succ.inj hl
    cases y <;> first | exact absurd rfl (hne _) | (exact absurd k3.2 id) | (cases hy)
   rw [dif_neg this]
 cases hc
end
end
end Go.Sl.Ev
namespace Go.Sl.Ev
open Go Go.Sl
section
variable {P:Program} {Φ:Imm→Prop} {pr:Prims}
theorem gm_weaken {ops:Array Oper} {K:Act→World→Prop} {C C':Array Bool→World→Prop} (hC:∀ L w,C' L w→C L w):∀ (f:Nat) (L:Array Bool) (a:Act) (w:World),gm P ops K C' f L a w→gm P ops K C f L a w
 | 0,_,_,_,h=>⟨hC _ _ h.1,h.2⟩
 | f+1,_,_,_,h=>⟨hC _ _ h.1,h.2.1,fun i hi=>stp_mono (fun a w h=>gm_weaken hC f _ a w h) (h.2.2 i hi)⟩
theorem gd_ok {n nx:Nat} {ρ:Pl} {E:Tr CV} {a:Act} {l:List Oper} {o:Oper} {g:Bool} (hs:Slots ρ E nx n a) (h:gdQ l E o=some g):Region.wanted o (yielded l.toArray a.tmps)=g:=by
 unfold gdQ at h
 split at h
 · rename_i hg;cases h;simp [Region.wanted,hg]
 rename_i j want hg
 split at h
 · rename_i t ht
   split at h
   · rename_i b hb
     cases h
     have:=yielded_ok hs ht hb
     simp only [Region.wanted,hg,this]
     cases b <;> cases want <;> rfl
   · rename_i hb
     cases h
     have:=yielded_no hs ht hb
     simp [Region.wanted,hg,this]
   cases h
 cases h
theorem down_set {l:List Oper} {L:Array Bool} {i:Nat} (hd:Down l L) (hi:i∈Region.ready .any l.toArray L):Down l (L.setIfInBounds i true):=fun j o hj hl e he hb=>by
 by_cases hji:i=j
 · subst hji
   obtain ⟨_,o',ho',h2⟩:=mem_ready.1 hi
   have ho:l.toArray[i]?=some o:=by simpa using hj
   rw [ho] at ho';cases ho'
   exact getD_set_true (h2 e he hb)
 rw [getD_set_ne false hji] at hl
 exact getD_set_true (hd j o hj hl e he hb)
theorem wr_unlisted {l:List Oper} {L:Array Bool} {i j:Nat} (hd:Down l L) (hi:i∈Region.ready .any l.toArray L) (hw:WrOf l i j):L.getD j false=false:=by
 obtain ⟨o,ho,_,he⟩:=hw
 obtain ⟨e,he1,he2,he3⟩:=hasE_iff.1 he
 cases hl:L.getD j false with
 | false=>rfl
 | true =>
   have h1:=hd j o ho hl e he1 he2
   rw [he3] at h1
   obtain ⟨h0,o',ho',_⟩:=mem_ready.1 hi
   have hlt:i<l.toArray.size:=(Array.getElem?_eq_some_iff.1 ho').1
   rcases Nat.lt_or_ge i L.size with hs | hs
   · simp [hs] at h0 h1;rw [h0] at h1;cases h1
   simp [Array.getElem?_eq_none hs] at h1
theorem dropP_mem {o:Oper}:∀ {pend:List (Nat×Nat×Nat)} {x:Nat×Nat×Nat},x∈pend→(not (lookK o.op) && hasE o x.2.1)=false→x∈dropP o pend:=by
 intro pend
 induction pend with
 | nil=>intro x h _;cases h
 | cons y pend ih =>
   intro x h hx
   show x∈(bif not (lookK o.op) && hasE o y.2.1 then dropP o pend else y :: dropP o pend)
   rcases List.mem_cons.1 h with rfl | h
   · rw [hx];exact List.mem_cons_self
   cases (not (lookK o.op) && hasE o y.2.1) with
   | true=>exact ih h hx
   | false=>exact List.mem_cons_of_mem _ (ih h hx)
theorem getD_tf {A:Array Bool} {j:Nat}:A.getD j true=false↔j<A.size∧A.getD j false=false:=by
 rcases Nat.lt_or_ge j A.size with h | h
 · simp [h]
 simp [Array.getElem?_eq_none h];omega
theorem setA_get {R:List Nat} {L:Array Bool} {k:Nat}:(setA R L).size=L.size∧((setA R L).getD k false=true↔L.getD k false=true∨(k∈R∧k<L.size)):=by
 induction R with
 | nil=>exact ⟨rfl,fun h=>.inl h,fun h=>h.elim (fun q=>q) fun q=>by cases q.1⟩
 | cons j R ih =>
   obtain ⟨h1,h2⟩:=ih
   refine ⟨by show ((setA R L).setIfInBounds j true).size=_;simp [h1],?_⟩
   show ((setA R L).setIfInBounds j true).getD k false=true↔_
   by_cases e:j=k
   · subst e
     rcases Nat.lt_or_ge j L.size with h | h
     · have:j<(setA R L).size:=by rw [h1];exact h
       simp [this,h]
     have h3:¬j<(setA R L).size:=by rw [h1];omega
     have h4:((setA R L).setIfInBounds j true).getD j false=(setA R L).getD j false:=by
      rw [Array.getD_eq_getD_getElem?,Array.getD_eq_getD_getElem?,Array.getElem?_eq_none (by simp;omega),Array.getElem?_eq_none (by omega)]
     rw [h4,h2]
     constructor
     · rintro (h5 | h5)
       · exact .inl h5
       omega
     rintro (h5 | h5)
     · exact .inl h5
     omega
   rw [getD_set_ne false e,h2]
   constructor
   · rintro (h5 | h5)
     · exact .inl h5
     exact .inr ⟨List.mem_cons_of_mem _ h5.1,h5.2⟩
   rintro (h5 | h5)
   · exact .inl h5
   rcases List.mem_cons.1 h5.1 with h6 | h6
   · exact absurd h6.symm e
   exact .inr ⟨h6,h5.2⟩
section lists
variable {l:List Oper} {L Lm:Array Bool} {S:List Early} {i:Nat}
theorem LR.unl (h:LR L S Lm) {j:Nat} (hj:Lm.getD j true=false):L.getD j true=false∧∀ e∈S,e.j≠j:=by
 obtain ⟨h1,h2⟩:=getD_tf.1 hj
 refine ⟨getD_tf.2 ⟨by rw [←h.size];exact h1,?_⟩,fun e he hej=>?_⟩
 · cases hl:L.getD j false with
   | false=>rfl
   | true=>rw [(h.iff j).2 (.inl hl)] at h2;cases h2
 rw [(h.iff j).2 (.inr ⟨e,he,hej⟩)] at h2;cases h2
theorem LR.up (h:LR L S Lm) (hi:i∈Region.ready .any l.toArray L) (hn:∀ e∈S,e.j≠i):i∈Region.ready .any l.toArray Lm:=by
 obtain ⟨h1,o,ho,h2⟩:=mem_ready.1 hi
 obtain ⟨h3,h4⟩:=getD_tf.1 h1
 refine mem_ready.2 ⟨getD_tf.2 ⟨by rw [h.size];exact h3,?_⟩,o,ho,fun e he hb=>(h.iff _).2 (.inl (h2 e he hb))⟩
 cases hl:Lm.getD i false with
 | false=>rfl
 | true =>
   rcases (h.iff i).1 hl with h5 | ⟨e,h5,h6⟩
   · rw [h4] at h5;cases h5
   exact absurd h6 (hn e h5)
theorem LR.set (h:LR L S Lm) (hi:i<L.size) (hn:∀ e∈S,e.j≠i):LR (L.setIfInBounds i true) S (Lm.setIfInBounds i true):=by
 refine ⟨by simp [h.size],fun j=>?_,fun e he=>?_⟩
 · by_cases e:i=j
   · subst e
     have h1:i<Lm.size:=by rw [h.size];exact hi
     simp [hi,h1]
   rw [getD_set_ne false e,getD_set_ne false e];exact h.iff j
 rw [getD_set_ne true (fun e2=>hn e he e2.symm)];exact h.un e he
theorem LR.nil (h:LR L [] Lm) {j:Nat} (hj:j∈Region.ready .any l.toArray Lm):j∈Region.ready .any l.toArray L:=by
 obtain ⟨h1,o,ho,h2⟩:=mem_ready.1 hj
 refine mem_ready.2 ⟨(h.unl h1).1,o,ho,fun e he hb=>?_⟩
 rcases (h.iff _).1 (h2 e he hb) with h3 | ⟨x,h3,_⟩
 · exact h3
 cases h3
theorem LR.early (h:LR L S Lm) {j p:Nat} {o:Obj} {V:Nat→Value} (hj:Lm.getD j true=false):LR L (⟨j,p,o,V⟩ :: S) (Lm.setIfInBounds j true):=by
 obtain ⟨h1,h2⟩:=getD_tf.1 hj
 refine ⟨by simp [h.size],fun k=>?_,fun e he=>?_⟩
 · by_cases e:j=k
   · subst e
     simp [h1]
   rw [getD_set_ne false e,h.iff k]
   constructor
   · rintro (h5 | ⟨x,h5,h6⟩)
     · exact .inl h5
     exact .inr ⟨x,List.mem_cons_of_mem _ h5,h6⟩
   rintro (h5 | ⟨x,h5,h6⟩)
   · exact .inl h5
   rcases List.mem_cons.1 h5 with rfl | h5
   · exact absurd h6 e
   exact .inr ⟨x,h5,h6⟩
 rcases List.mem_cons.1 he with rfl | he
 · exact (h.unl hj).1
 exact h.un e he
theorem mem_split {e:Early} (he:e∈S):∃ A B,S=A++e :: B:=List.append_of_mem he
theorem LR.adopt {A B:List Early} {e:Early} (h:LR L (A++e :: B) Lm) (hnd:((A++e :: B).map (·.j)).Nodup):LR (L.setIfInBounds e.j true) (A++B) Lm:=by
 have hu:=(getD_tf.1 (h.un e (by simp))).1
 have hne:∀ x,x∈A++B→x.j≠e.j:=fun x hx hxe=>by
  rw [List.map_append,List.map_cons] at hnd
  have h1:=List.nodup_append.1 hnd
  have h2:=List.nodup_cons.1 h1.2.1
  rcases List.mem_append.1 hx with h3 | h3
  · exact h1.2.2 x.j (List.mem_map.2 ⟨x,h3,rfl⟩) e.j (List.mem_cons_self ..) hxe
  exact h2.1 (List.mem_map.2 ⟨x,h3,hxe⟩)
 refine ⟨by simp [h.size],fun k=>?_,fun x hx=>?_⟩
 · rw [h.iff k]
   by_cases e2:e.j=k
   · subst e2
     simp [hu]
     exact .inr ⟨e,.inr (.inl rfl),rfl⟩
   rw [getD_set_ne false e2]
   constructor
   · rintro (h5 | ⟨x,h5,h6⟩)
     · exact .inl h5
     rcases List.mem_append.1 h5 with h7 | h7
     · exact .inr ⟨x,List.mem_append_left _ h7,h6⟩
     rcases List.mem_cons.1 h7 with rfl | h7
     · exact absurd h6 e2
     exact .inr ⟨x,List.mem_append_right _ h7,h6⟩
   rintro (h5 | ⟨x,h5,h6⟩)
   · exact .inl h5
   rcases List.mem_append.1 h5 with h7 | h7
   · exact .inr ⟨x,List.mem_append_left _ h7,h6⟩
   exact .inr ⟨x,List.mem_append_right _ (List.mem_cons_of_mem _ h7),h6⟩
 rw [getD_set_ne true (fun e2=>hne x hx e2.symm)]
 refine h.un x ?_
 rcases List.mem_append.1 hx with h3 | h3
 · exact List.mem_append_left _ h3
 exact List.mem_append_right _ (List.mem_cons_of_mem _ h3)
theorem race_ready {Rc R:List Nat} (h:LR L S Lm) (hr:RaceOk l L Rc i R) (hs:∀ e∈S,e.j∈Rc) (hn:∀ e∈S,e.j≠i) {j:Nat} (hj:j∈Region.ready .any l.toArray Lm):j=i∨j∈R:=by
 by_cases hR:j∈R
 · exact .inr hR
 refine .inl (hr.only j ?_)
 obtain ⟨h1,o,ho,h2⟩:=mem_ready.1 hj
 obtain ⟨h3,h4⟩:=getD_tf.1 (h.unl h1).1
 refine mem_ready.2 ⟨getD_tf.2 ⟨by rw [(setA_get (k:=0)).1];exact h3,?_⟩,o,ho,fun e he hb=>setA_get.2.2 ?_⟩
 · cases hl:(setA R L).getD j false with
   | false=>rfl
   | true =>
     rcases setA_get.2.1 hl with h5 | h5
     · rw [h4] at h5;cases h5
     exact absurd h5.1 hR
 rcases (h.iff _).1 (h2 e he hb) with h5 | ⟨x,h5,h6⟩
 · exact .inl h5
 rw [←h6]
 refine .inr ⟨?_,(getD_tf.1 (h.un x h5)).1⟩
 rcases hr.sub x.j (hs x h5) with h7 | h7
 · exact absurd h7 (hn x h5)
 exact h7
theorem nodup_le:∀ {xs ys:List Nat},xs.Nodup→(∀ x∈xs,x∈ys)→xs.length≤ys.length
 | [],_,_,_=>Nat.zero_le _
 | x :: xs,ys,hn,h=>by
   obtain ⟨h1,h2⟩:=List.nodup_cons.1 hn
   have hx:=h x (List.mem_cons_self ..)
   have:=nodup_le (ys:=ys.erase x) h2 fun y hy=>(List.mem_erase_of_ne (fun e=>h1 (by rw [←e];exact hy))).2 (h y (List.mem_cons_of_mem _ hy))
   rw [List.length_erase_of_mem hx] at this
   have:0<ys.length:=List.length_pos_of_mem hx
   rw [List.length_cons];omega
theorem PlanOk.cover:∀ {p:List (Nat×Pk)} {L:Array Bool} {Rc:List Nat},PlanOk l L Rc p→∀ k∈Rc,k∈p.map (·.1)
 | [],_,_,h,k,hk=>by rw [h.2] at hk;cases hk
 | (i,.look) :: p,_,_,h,k,hk=>List.mem_cons_of_mem _ (PlanOk.cover h.2 k hk)
 | (i,.only) :: p,_,_,h,k,hk=>by rw [h.1] at hk;cases hk
 | (i,.race R) :: p,_,_,h,k,hk=>by
   rcases h.1.sub k hk with rfl | h2
   · exact List.mem_cons_self ..
   · exact List.mem_cons_of_mem _ (PlanOk.cover h.2.2 k h2)
 | (i,.make R) :: p,_,_,h,k,hk=>by
   rcases h.1.sub k hk with rfl | h2
   · exact List.mem_cons_self ..
   exact List.mem_cons_of_mem _ (PlanOk.cover h.2.2 k h2)
theorem early_le {p:List (Nat×Pk)} {Rc:List Nat} (hp:PlanOk l L Rc p) (hs:∀ e∈S,e.j∈Rc) (hn:(S.map (·.j)).Nodup):S.length≤p.length:=by
 have:=nodup_le hn (ys:=p.map (·.1)) fun x hx=>by
  obtain ⟨e,he,rfl⟩:=List.mem_map.1 hx
  exact hp.cover _ (hs e he)
 simpa using this
end lists
section
variable {l:List Oper} {ρ ρ':Pl} {h h':Tr CB} {nx nx' n:Nat} {a a':Act} {w w' ws:World} {e:Early} {E:Tr CV} {w0:Bas Φ}
theorem mk_nosel {o:Oper} (h:isMk o=true):(∀ cs b,o.op≠.select cs b)∧lookK o.op=false∧o.guard=none∧(∃ xs,mkrK o.op=some xs)∧mkrB o.op=true∧∀ d,o.dst=some d→∀ x∈o.op.operands,x≠.tmp d:=by
 unfold isMk at h
 rw [Bool.and_eq_true] at h
 obtain ⟨h1,h2⟩:=h
 have hg:o.guard=none:=by
  split at h2
  · assumption
  cases h2
 have hd:∀ d,o.dst=some d→∀ x∈o.op.operands,x≠.tmp d:=fun d hd x hx hxd=>by
  rw [hg,hd] at h2
  simp only [Bool.not_eq_true'] at h2
  have h3:anyB (isT d) o.op.operands.toList=true:=anyB_iff.2 ⟨x,by simpa using hx,by rw [hxd];show Nat.beq d d=true;simp⟩
  rw [h3] at h2;cases h2
 obtain ⟨dst,op,ty,pos,after,g⟩:=o
 refine ⟨fun cs b e=>?_,?_,hg,?_,h1,hd⟩
 · have e':op=.select cs b:=e
   subst e';cases h1
 · cases op <;> first | rfl | cases h1
 cases op <;> first | exact ⟨_,rfl⟩ | skip
 case makeMap T x=>cases x <;> first | exact ⟨_,rfl⟩ | cases h1
 all_goals cases h1
theorem eval_kept {dst:Option Nat} (hk:Kept dst a a') {x:Operand} (hx:∀ d,dst=some d→x≠.tmp d):a'.eval x=a.eval x:=by
 cases x with
 | tmp t =>
   show a'.tmps.getD t undef=a.tmps.getD t undef
   rw [Array.getD_eq_getD_getElem?,Array.getD_eq_getD_getElem?,hk t (fun e=>hx t e rfl)]
 | _=>rfl
theorem EOk.keep (he:EOk P l ρ h a w ws e) {o:Oper} (hk:Kept o.dst a a') (hap:∀ oj,l[e.j]?=some oj→oj.apart l.toArray o=true) (hfr:Old ρ h nx w ρ' h' w'):EOk P l ρ' h' a' w' ws e:=by
 obtain ⟨⟨oj,d,h1,h2,h3,h4,h5⟩,g1,g2,g3,g4⟩:=he
 obtain ⟨q1,q2,q3⟩:=Oper.apart_spec (hap oj h1)
 refine ⟨⟨oj,d,h1,h2,h3,?_,fun w2=>?_⟩,Nat.lt_of_lt_of_le g1 hfr.sz,(hfr.fr _ g1 g4 id).trans g2,g3,fun t b ht e2=>?_⟩
 · rw [hk d (fun e2=>q2 d h3 e2)];exact h4
 · rw [←h5 w2,execOp_congr oj (mk_nosel h2).1 fun x hx=>eval_kept hk fun d' hd hxd=>?_]
   subst hxd
   exact q3 d' hd (List.mem_append_left _ (List.mem_filterMap.2 ⟨.tmp d',by simpa using hx,rfl⟩))
 rcases hfr.nw t b ht with h6 | ⟨t',b',h6,h7⟩
 · omega
 exact g4 t' b' h6 (h7.trans e2)
theorem put_unknown (hs:Slots ρ E nx n a) {d:Nat} (hd:E.get d=none) (v:Value):Slots ρ E nx n (a.put (some d) v):=by
 refine ⟨by show (a.tmps.setIfInBounds d v).size=n;simp [hs.1],fun i x hx=>?_⟩
 obtain ⟨u,h1,h2⟩:=hs.2 i x hx
 refine ⟨u,?_,h2⟩
 show (a.tmps.setIfInBounds d v)[i]?=some u
 rw [Array.getElem?_setIfInBounds_ne (fun e=>by subst e;rw [hd] at hx;cases hx)];exact h1
theorem killE_sub {R:List Nat} (hR:∀ j∈R,∀ d,dstN l j=some d→d<Fit):∀ i x,(killE l R E).get i=some x→E.get i=some x:=by
 induction R with
 | nil=>exact fun i x h=>h
 | cons j R ih =>
   intro i x hx
   have hx':(match dstN l j with | some d=>(killE l R E).set none Fit d | none=>killE l R E).get i=some x:=hx
   have ih':=ih fun k hk=>hR k (List.mem_cons_of_mem _ hk)
   split at hx'
   · rename_i d hd
     rw [Tr.get_set _ _ _ _ _ (hR j (List.mem_cons_self ..) d hd)] at hx'
     split at hx'
     · cases hx'
     exact ih' i x hx'
   exact ih' i x hx'
theorem killE_none {R:List Nat} (hR:∀ j∈R,∀ d,dstN l j=some d→d<Fit) {j d:Nat} (hj:j∈R) (hd:dstN l j=some d):(killE l R E).get d=none:=by
 induction R with
 | nil=>cases hj
 | cons k R ih =>
   show (match dstN l k with | some d=>(killE l R E).set none Fit d | none=>killE l R E).get d=none
   have hR':∀ j∈R,∀ d,dstN l j=some d→d<Fit:=fun k hk=>hR k (List.mem_cons_of_mem _ hk)
   rcases List.mem_cons.1 hj with rfl | hj
   · rw [hd]
     simp only
     rw [Tr.get_set _ _ _ _ _ (hR _ (List.mem_cons_self ..) d hd),if_pos rfl]
   have:=ih hR' hj
   split
   · rename_i d' hd'
     rw [Tr.get_set _ _ _ _ _ (hR k (List.mem_cons_self ..) d' hd')]
     split
     · rfl
     exact this
   exact this
theorem Rel.less {E':Tr CV} (hR:Rel ρ w0 n E h nx a w) (hE:∀ i x,E'.get i=some x→E.get i=some x):Rel ρ w0 n E' h nx a w:=by
 obtain ⟨os,hR⟩:=hR
 exact ⟨os,⟨hR.slots.1,fun i x hx=>hR.slots.2 i x (hE i x hx)⟩,hR.defers,hR.mem,hR.mks,hR.ss⟩
end
theorem pend_grow {l:List Oper} {Lm:Array Bool} {ρ ρ':Pl} {w w':World} {nx nx':Nat} {pend pend':List (Nat×Nat×Nat)} {cs:List (Nat×Nat×Obj)} {i:Nat} (hp:PendOk l Lm ρ w nx pend cs) (hn:nx≤nx') (he:Ext nx ρ ρ') (hw:∀ (b:Nat) (o:Obj),w.heap[b]?=some o→w'.heap[b]?=some o)
 (hpe:∀ t k b,(t,k,b)∈pend→(t,k,b)∈pend'∨(WrOf l k i∧(Lm.setIfInBounds i true).getD i false=true)):PendOk l (Lm.setIfInBounds i true) ρ' w' nx' pend' cs:=fun x hx=>by
 rcases hp x hx with ⟨k,h1,h2⟩ | ⟨t,b,h1,h2,h3,h4,h5⟩
 · exact .inl ⟨k,h1,getD_set_true h2⟩
 rcases hpe _ _ _ h1 with h6 | h6
 · exact .inr ⟨t,b,h6,Nat.lt_of_lt_of_le h2 hn,by rw [he t h2];exact h3,Nat.le_trans h4 hn,hw _ _ h5⟩
 exact .inl ⟨i,h6.1,h6.2⟩
theorem set_at {A:Array Bool} {i:Nat} (h:A.getD i true=false):(A.setIfInBounds i true).getD i false=true:=by
 have:=(getD_tf.1 h).1
 simp [this]
theorem alloc_old {w:World} {o:Obj}:∀ (b:Nat) (x:Obj),w.heap[b]?=some x→(w.alloc o).heap[b]?=some x:=fun b x h=>by
 rw [(alloc_upd w o).same b (Array.getElem?_eq_some_iff.1 h).1 id];exact h
theorem race_go {l:List Oper} {R Rc:List Nat} {n i nx pl:Nat} {E:Tr CV} {h:Tr CB} {pend:List (Nat×Nat×Nat)} {ρ ρs:Pl} {w0:Bas Φ} {ws:World} {hs:Tr CB} {nxs:Nat} {L:Array Bool} {cs:List (Nat×Nat×Obj)} {K:Act→World→Prop}
 (hf:nx≤Fit) (hn:n≤100000) (hro:RaceOk l L Rc i R) (hkill:∀ j∈R,∀ d,dstN l j=some d→E.get d=none) (hrq:raceQ P l R n E h nx=true) (hcov:∀ (S:List Early),(∀ e∈S,e.j∈Rc∨e.j∈R)→(∀ e∈S,e.j≠i)→(S.map (·.j)).Nodup→S.length≤pl)
 (go:∀ (a:Act) (w:World) (Lm:Array Bool) (S:List Early) (f:Nat),RI P l n E h nx pend ρ ρs w0 a w ws hs nxs L Lm (Rc++R) S cs→(∀ e∈S,e.j≠i)→pl=f+S.length→i∈Region.ready .any l.toArray Lm→stp P l.toArray i (gm P l.toArray K (CP l cs) f (Lm.setIfInBounds i true)) a w) :
 ∀ (f:Nat) (a:Act) (w:World) (Lm:Array Bool) (S:List Early),RI P l n E h nx pend ρ ρs w0 a w ws hs nxs L Lm (Rc++R) S cs→(∀ e∈S,e.j≠i)→pl+1=f+S.length→gm P l.toArray K (CP l cs) f Lm a w:=by
 intro f
 induction f with
 | zero =>
   intro a w Lm S hI hni hl
   have:=hcov S (fun e he=>List.mem_append.1 (hI.sub e he)) hni hI.ndj
   omega
 | succ f ih =>
   intro a w Lm S hI hni hl
   have hir:=hI.lr.up hro.rd hni
   have hsub:∀ e∈S,e.j=i∨e.j∈R:=fun e he=>by
    rcases List.mem_append.1 (hI.sub e he) with h1 | h1
    · exact hro.sub _ h1
    exact .inr h1
   refine ⟨hI.pend.cp,fun he=>(by rw [he] at hir;cases hir),fun j hj=>?_⟩
   have hro':RaceOk l L (Rc++R) i R:=⟨hro.rd,fun k hk=>(List.mem_append.1 hk).elim (hro.sub k) .inr,hro.ni,hro.mks,hro.only⟩
   rcases race_ready hI.lr hro' hI.sub hni hj with rfl | hjR
   · exact go a w Lm S f hI hni (by omega) hj
   obtain ⟨oj,e1,e2,e3,e4,e5⟩:=hro.mks j hjR
   have e1':l.toArray[j]?=some oj:=by simpa using e1
   obtain ⟨s1,s2,s3,⟨xs,s4⟩,_,s6⟩:=mk_nosel e2
   have hq:=allB_iff.1 hrq j hjR
   obtain ⟨oj',e6,e7⟩:=nthB_ok hq
   rw [e1] at e6;cases e6
   rw [Bool.and_eq_true] at e7
   obtain ⟨e7,e8⟩:=e7
   obtain ⟨dst,op,ty,pos,after,g⟩:=oj
   cases dst with
   | none=>cases e7
   | some d =>
     have hdn:d<n:=le_ble e7
     have hEd:E.get d=none:=hkill j hjR d (by rw [dstN_eq,e1];rfl)
     split at e8
     · rename_i c h' nx' hw
       obtain ⟨b,s,o,V,_,_,_,_,_,_,hex⟩:=mk_ok hI.rel.slots s4 hw
       obtain ⟨m1,o1⟩:=hI.rel.mem.grow (alloc_upd w o)
       have hji:j≠i:=fun e=>hro.ni (by rw [←e];exact hjR)
       have hjun:=(mem_ready.1 hj).1
       have hjS:=(hI.lr.unl hjun).2
       have hstp:∀ Q:Act→World→Prop,Q (a.put (some d) (V w.heap.size)) (w.alloc o)→stp P l.toArray j Q a w:=fun Q hQ=>by
        unfold stp
        simp only [e1']
        have hg:g=none:=s3
        subst hg
        simp only [Region.wanted,if_true]
        unfold opWp
        rw [hex w (some d) ty pos after none]
        exact hQ
       refine hstp _ (ih (a.put (some d) (V w.heap.size)) (w.alloc o) (Lm.setIfInBounds j true) (⟨j,w.heap.size,o,V⟩ :: S) ?_ ?_ (by rw [List.length_cons];omega))
       · refine ⟨?_,hI.lr.early hjun,down_set hI.down hj,?_,?_,?_,?_,?_,hI.ms,hI.nxb.trans hI.ms ⟨Nat.le_refl _,hf,Ext.refl _ _,o1⟩⟩
         · obtain ⟨os,hR⟩:=hI.rel
           obtain ⟨m2,_⟩:=hR.mem.grow (alloc_upd w o)
           exact ⟨os,put_unknown hR.slots hEd _,(put_defers _ _ _).trans hR.defers,m2,hR.mks,Nat.le_trans hR.ss o1.sz⟩
         · intro e he
           rcases List.mem_cons.1 he with rfl | he
           · exact List.mem_append_right _ hjR
           exact hI.sub e he
         · rw [List.map_cons]
           exact List.nodup_cons.2 ⟨fun h=>by obtain ⟨e,he,h⟩:=List.mem_map.1 h;exact hjS e he h,hI.ndj⟩
         · rw [List.map_cons]
           refine List.nodup_cons.2 ⟨fun h=>?_,hI.ndp⟩
           obtain ⟨e,he,h⟩:=List.mem_map.1 h
           have:=(hI.eok e he).lt
           simp only at h
           omega
         · intro e he
           rcases List.mem_cons.1 he with rfl | he
           · refine ⟨⟨_,d,e1,e2,rfl,?_,fun w2=>?_⟩,?_,alloc_new w o,Nat.le_trans hI.nxb.old.sz (Nat.le_refl _),fun t b ht=>?_⟩
             · have hsz:d<a.tmps.size:=by rw [hI.rel.slots.1];exact hdn
               show (a.tmps.setIfInBounds d _)[d]?=_
               simp [hsz]
             · rw [←hex w2 (some d) ty pos after g]
               rw [execOp_congr (ρ:=(a.put (some d) (V w.heap.size)).eval) (ρ':=a.eval) _ s1 fun x hx=>eval_kept (Kept.put a (some d) _) fun d' hd' hxd=>s6 d' hd' x hx hxd]
             · show w.heap.size<_;rw [alloc_size];omega
             have:=hI.rel.mem.lt ht
             show (ρ t).1≠w.heap.size
             omega
           refine (hI.eok e he).keep (o:=⟨some d,op,ty,pos,after,g⟩) (Kept.put _ _ _) (fun ok hok=>?_) o1
           obtain ⟨ok',f1,f2,f3,f4,f5⟩:=hro.mks e.j ((hsub e he).resolve_left (hni e he))
           rw [hok] at f1;cases f1
           exact f5 j hjR (fun e2=>hjS e he e2.symm) _ e1
         exact pend_grow hI.pend (Nat.le_refl _) (Ext.refl _ _) alloc_old fun t k b h=>.inl h
       intro e he
       rcases List.mem_cons.1 he with rfl | he
       · exact hji
       exact hni e he
     cases e8
theorem race_kill {l:List Oper} {R:List Nat} {n nx:Nat} {E:Tr CV} {h:Tr CB} (hn:n≤100000) (hrq:raceQ P l R n E h nx=true):∀ j∈R,∀ d,dstN l j=some d→d<Fit:=fun j hj d hd=>by
 obtain ⟨o,h1,h2⟩:=nthB_ok (allB_iff.1 hrq j hj)
 rw [dstN_eq,h1] at hd
 have hd':o.dst=some d:=hd
 rw [Bool.and_eq_true,hd'] at h2
 have h3:d+1≤n:=le_ble h2.1
 rw [fit_eq];omega
theorem reg_look_ok {ih:Cmd→Res} (H:∀ c,Does1 P Φ c (ih c)) (l:List Oper) (i:Nat) (plan:List (Nat×Pk)) (pend:List (Nat×Nat×Nat)) (n:Nat) (E:Tr CV) (h:Tr CB) (nx:Nat):Does1 P Φ (.reg l ((i,.look) :: plan) pend n E h nx) (step P pr ih (.reg l ((i,.look) :: plan) pend n E h nx)):=by
 show Does1 P Φ _ (match nth l i with
  | some o=>(match gdQ l E o with
    | some g=>(bif g then (match qv P E h o.op with
     | some c=>(match putE E n o.dst c with
       | some E'=>ih (.reg l plan (match rdT E o.op with | some t=>(t,i,nx) :: pend | none=>pend) n E' h nx)
       | none=>.bad 25 [o])
     | none=>.bad 26 [o])
     else (match putE E n o.dst (.tup .nil) with | some E=>ih (.reg l plan pend n E h nx) | none=>.bad 27 [o]))
    | none=>.bad 30 [o])
  | none=>.bad 31 [])
 split
 · rename_i o ho
   rw [nth_eq] at ho
   have ho':l.toArray[i]?=some o:=by simpa using ho
   split
   · rename_i g hg
     -- what an operation that only looks comes to
     have first:∀ {E':Tr CV} {pend':List (Nat×Nat×Nat)} (cs':Pl→World→List (Nat×Nat×Obj)→List (Nat×Nat×Obj)),
      (∀ (ρ:Pl) (w0:Bas Φ) (a:Act) (w:World) (cs:List (Nat×Nat×Obj)),Rel ρ w0 n E h nx a w→n≤100000→∃ (v:Value) (Cq:World→Prop),yl P l.toArray o a Cq v∧Slots ρ E' nx n (a.put o.dst v)∧
       (∀ L w',(∀ j,WrOf l i j→L.getD j false=false)→CP l (cs' ρ w cs) L w'→Cq w')∧(∀ L w',CP l (cs' ρ w cs) L w'→CP l cs L w')∧(∀ L,PendOk l L ρ w nx pend cs→PendOk l L ρ w nx pend' (cs' ρ w cs)))→
      Does1 P Φ (.reg l ((i,.look) :: plan) pend n E h nx) (ih (.reg l plan pend' n E' h nx)):=fun {E' pend'} cs' hlook=>by
      have H2:=H (.reg l plan pend' n E' h nx)
      generalize ih (.reg l plan pend' n E' h nx)=q2 at H2
      cases q2 with
      | bad=>trivial
      | ret v h2 nx2=>exact H2.elim
      | ok x2 E2 h2 nx2 =>
        obtain ⟨rfl,H2⟩:=H2
        refine ⟨rfl,fun ρ ρs w0 a w ws hs nxs L Lm Rc S cs f hI hf hn hns hpl hlen K hK=>?_⟩
        obtain ⟨⟨o',ho2,hlk,hrd,hfree⟩,hpl2⟩:=hpl
        rw [ho] at ho2;cases ho2
        obtain ⟨v,Cq,hy,hsl,hc1,hc2,hc3⟩:=hlook ρ w0 a w cs hI.rel hn
        have hle:=early_le hpl2 hI.sub hI.ndj
        rw [List.length_cons] at hlen
        obtain ⟨f,rfl⟩:∃ f',f=f'+1:=⟨f - 1,by omega⟩
        have hSi:∀ e∈S,e.j≠i:=fun e he hei=>by
         obtain ⟨oj,d,h1,h2,_⟩:=(hI.eok e he).ex
         rw [hei,ho] at h1;cases h1
         rw [(mk_nosel h2).2.1] at hlk;cases hlk
        have hrdm:=hI.lr.up hrd hSi
        refine gm_weaken hc2 _ _ _ _ ?_
        have hdn2:=down_set hI.down hrdm
        have hset:∀ L w',CP l (cs' ρ w cs) (L.setIfInBounds i true) w'→CP l (cs' ρ w cs) L w':=fun L w' hcp x hx hw=>hcp x hx fun j hj=>by
         have hne:i≠j:=fun e=>by
          subst e
          obtain ⟨o2,h1,h2,_⟩:=hj
          rw [ho] at h1;cases h1
          rw [hlk] at h2;cases h2
         rw [getD_set_ne false hne];exact hw j hj
        have hnoi:∀ e∈S,∀ oj,l[e.j]?=some oj→o.apart l.toArray oj=true:=fun e he oj hoj=>by
         refine hfree e.j oj (by simpa using hoj) (hSi e he) (hI.lr.un e he) fun x hx hb hxi=>?_
         have h1:=hI.down e.j oj hoj ((hI.lr.iff e.j).2 (.inr ⟨e,he,rfl⟩)) x hx hb
         rw [hxi] at h1
         rw [(getD_tf.1 (mem_ready.1 hrdm).1).2] at h1;cases h1
        have hg2:gm P l.toArray K (CP l (cs' ρ w cs)) f (Lm.setIfInBounds i true) (a.put o.dst v) w:=by
         refine H2 ρ ρs w0 (a.put o.dst v) w ws hs nxs _ _ Rc S _ f ⟨hI.rel.put hsl,hI.lr.set (getD_tf.1 (mem_ready.1 hrd).1).1 hSi,hdn2,hI.sub,hI.ndj,hI.ndp,fun e he=>?_,?_,hI.ms,hI.nxb⟩ hf hn hns hpl2 (by omega) K hK
         · refine (hI.eok e he).keep (nx:=nx) (o:=o) (Kept.put a o.dst v) (fun oj hoj=>?_) OldX.refl
           obtain ⟨q1,q2,q3⟩:=Oper.apart_spec (hnoi e he oj hoj)
           unfold Oper.apart
           rw [Bool.and_eq_true]
           constructor
           · cases hd:oj.dst with
             | none=>rfl
             | some d =>
               simp only [Bool.and_eq_true,Bool.not_eq_true',bne_iff_ne]
               refine ⟨?_,fun e2=>q2 d e2 hd⟩
               have:=q3 d hd
               simpa using this
           cases hd:o.dst with
           | none=>rfl
           | some d =>
             have:=q1 d hd
             simpa using this
         intro x hx
         rcases hc3 Lm hI.pend x hx with ⟨j,h1,h2⟩ | h1
         · exact .inl ⟨j,h1,getD_set_true h2⟩
         exact .inr h1
        refine gm_first (Wr:=(List.range l.length).filter fun j=>match l[j]? with | some oj=>!lookK oj.op && hasE oj i | none=>false) (Cq:=Cq) ho' hns ?_ hset ?_ f Lm a w (fun j oj hj hne hun hno=>hfree j oj hj hne (hI.lr.unl hun).1 hno) ?_ hrdm hy hg2
        · intro L' w' hL hcp
          refine hc1 L' w' (fun j hj=>hL j ?_) hcp
          obtain ⟨o2,h1,h2,h3⟩:=hj
          refine List.mem_filter.2 ⟨List.mem_range.2 (List.getElem?_eq_some_iff.1 h1).1,?_⟩
          simp [h1,h2,h3]
        · intro j hj oj hoj
          obtain ⟨_,h2⟩:=List.mem_filter.1 hj
          have h1:l[j]?=some oj:=by simpa using hoj
          simp only [h1,Bool.and_eq_true] at h2
          exact hasE_iff.1 h2.2
        intro j hj
        obtain ⟨h1,h2⟩:=List.mem_filter.1 hj
        have hlt:=List.mem_range.1 h1
        rw [List.getElem?_eq_getElem hlt] at h2
        simp only [Bool.and_eq_true,Bool.not_eq_true'] at h2
        exact wr_unlisted hI.down hrdm ⟨_,List.getElem?_eq_getElem hlt,h2.1,h2.2⟩
     cases g with
     | false =>
       simp only [cond_false]
       split
       · rename_i E' hp
         refine first (fun _ _ cs=>cs) fun ρ w0 a w cs hR hn=>⟨undef,fun _=>True,.inr ⟨gd_ok hR.slots hg,rfl⟩,put_slots hR.slots hn hp undef_kn,fun _ _ _ _=>trivial,fun _ _ h=>h,fun _ h=>h⟩
       · trivial
     | true =>
       simp only [cond_true]
       split
       · rename_i c hq
         split
         · rename_i E' hp
           cases hrd:rdT E o.op with
           | none =>
             refine first (fun _ _ cs=>cs) fun ρ w0 a w cs hR hn=>?_
             obtain ⟨v,k1,k2⟩:=qv_ok (ob:=fun _=>default) hR.slots (fun t b ht _=>by rw [hrd] at ht;cases ht) hq
             exact ⟨v,fun _=>True,.inl ⟨gd_ok hR.slots hg,fun w' _=>k2 w' (fun t ht=>by rw [hrd] at ht;cases ht) o.dst o.type o.pos o.after o.guard⟩,put_slots hR.slots hn hp k1,fun _ _ _ _=>trivial,fun _ _ h=>h,fun _ h=>h⟩
           | some t =>
             refine first (fun ρ w cs=>(i,(ρ t).1,(w.heap[(ρ t).1]?).getD default) :: cs) fun ρ w0 a w cs hR hn=>?_
             obtain ⟨b,hb⟩:=rd_has hrd hq
             obtain ⟨htn,_,_,ob,hob,hdb⟩:=hR.mem.own t b hb
             have hget:(w.heap[(ρ t).1]?).getD default=ob:=by rw [hob];rfl
             obtain ⟨v,k1,k2⟩:=qv_ok (ob:=fun _=>ob) hR.slots (fun t' b' ht hb'=>by rw [hrd] at ht;cases ht;rw [hb] at hb';cases hb';exact hdb) hq
             refine ⟨v,fun w'=>w'.heap[(ρ t).1]?=some ob,.inl ⟨gd_ok hR.slots hg,fun w' hw'=>k2 w' (fun t' ht=>by rw [hrd] at ht;cases ht;exact hw') o.dst o.type o.pos o.after o.guard⟩,put_slots hR.slots hn hp k1,?_,?_,?_⟩
             · intro L w' hL hcp
               have:=hcp _ List.mem_cons_self hL
               rw [this,hget]
             · intro L w' hcp x hx;exact hcp x (List.mem_cons_of_mem _ hx)
             intro L hpo x hx
             rcases List.mem_cons.1 hx with rfl | hx
             · exact .inr ⟨t,nx,List.mem_cons_self,htn,rfl,Nat.le_refl _,by rw [hget];exact hob⟩
             rcases hpo x hx with h1 | ⟨t',b',h1,h2⟩
             · exact .inl h1
             exact .inr ⟨t',b',List.mem_cons_of_mem _ h1,h2⟩
         trivial
       trivial
   trivial
 trivial
theorem pend_step {l:List Oper} {Lm:Array Bool} {ρ ρ':Pl} {h h':Tr CB} {nx nx':Nat} {w w':World} {pend:List (Nat×Nat×Nat)} {cs:List (Nat×Nat×Obj)} {j:Nat} {o:Oper} (ho:l[j]?=some o) (hrd:Lm.getD j true=false) (hpo:PendOk l Lm ρ w nx pend cs)
 (e1:Nx ρ h nx w ρ' h' nx' w') (hkp:keepP h' (dropP o pend)=true):PendOk l (Lm.setIfInBounds j true) ρ' w' nx' (dropP o pend) cs:=by
 intro x hx
 rcases hpo x hx with ⟨k,h1,h2⟩ | ⟨t',b',h1,h2,h3,h4,h5⟩
 · exact .inl ⟨k,h1,getD_set_true h2⟩
 cases hE:(not (lookK o.op) && hasE o x.1) with
 | false =>
   have hmem:=dropP_mem h1 hE
   have hk:=(allB_iff.1 hkp) _ hmem
   simp only at hk
   split at hk
   · rename_i bb hbb
     have hst:stB bb<b':=le_ble hk
     obtain ⟨_,g2⟩:=e1.old.old t' bb hbb (by omega)
     exact .inr ⟨t',b',hmem,Nat.lt_of_lt_of_le h2 e1.le,by rw [e1.ext t' h2];exact h3,Nat.le_trans h4 e1.le,by rw [←h3,g2,h3];exact h5⟩
   · cases hk
 | true =>
   rw [Bool.and_eq_true,Bool.not_eq_true'] at hE
   exact .inl ⟨j,⟨o,ho,hE.1,hE.2⟩,set_at hrd⟩
theorem drop_grow {l:List Oper} {Lm:Array Bool} {pend:List (Nat×Nat×Nat)} {j:Nat} {o:Oper} (ho:l[j]?=some o) (hl:Lm.getD j false=true):∀ t k b,(t,k,b)∈pend→(t,k,b)∈dropP o pend∨(WrOf l k j∧Lm.getD j false=true):=fun t k b hm=>by
 cases hE:(not (lookK o.op) && hasE o k) with
 | false=>exact .inl (dropP_mem hm hE)
 | true =>
   rw [Bool.and_eq_true,Bool.not_eq_true'] at hE
   exact .inr ⟨⟨o,ho,hE.1,hE.2⟩,hl⟩
theorem reg_only_ok {ih:Cmd→Res} (H:∀ c,Does1 P Φ c (ih c)) (l:List Oper) (i:Nat) (plan:List (Nat×Pk)) (pend:List (Nat×Nat×Nat)) (n:Nat) (E:Tr CV) (h:Tr CB) (nx:Nat):Does1 P Φ (.reg l ((i,.only) :: plan) pend n E h nx) (step P pr ih (.reg l ((i,.only) :: plan) pend n E h nx)):=by
 show Does1 P Φ _ (match nth l i with
  | some o=>(match gdQ l E o with
    | some g=>(bif g then (match ih (.one o n E h nx) with
     | .ok _ E h nx=>bif keepP h (dropP o pend) then ih (.reg l plan (dropP o pend) n E h nx) else .bad 28 [o]
     | r=>r)
     else (match putE E n o.dst (.tup .nil) with | some E=>ih (.reg l plan (dropP o pend) n E h nx) | none=>.bad 29 [o]))
    | none=>.bad 30 [o])
  | none=>.bad 31 [])
 split
 · rename_i o ho
   rw [nth_eq] at ho
   have ho':l.toArray[i]?=some o:=by simpa using ho
   split
   · rename_i g hg
     cases g with
     | false =>
       simp only [cond_false]
       split
       · rename_i E' hp
         have H2:=H (.reg l plan (dropP o pend) n E' h nx)
         generalize ih (.reg l plan (dropP o pend) n E' h nx)=q2 at H2
         cases q2 with
         | bad=>trivial
         | ret v h2 nx2=>exact H2.elim
         | ok x2 E2 h2 nx2 =>
           obtain ⟨rfl,H2⟩:=H2
           refine ⟨rfl,fun ρ ρs w0 a w ws hs nxs L Lm Rc S cs f hI hf hn hns hpl hlen K hK=>?_⟩
           obtain ⟨rfl,⟨o',ho2,hrd,honly⟩,hpl2⟩:=hpl
           have hS:S=[]:=List.eq_nil_iff_forall_not_mem.2 fun e he=>by cases hI.sub e he
           subst hS
           have hrdm:=hI.lr.up hrd (fun e he=>by cases he)
           rw [List.length_cons] at hlen
           obtain ⟨f,rfl⟩:∃ f',f=f'+1:=⟨f - 1,by simp only [List.length_nil] at hlen;omega⟩
           refine ⟨hI.pend.cp,fun he=>(by rw [he] at hrdm;cases hrdm),fun j hj=>?_⟩
           have e:=honly j (hI.lr.nil hj)
           subst e
           unfold stp
           simp only [ho']
           rw [gd_ok hI.rel.slots hg]
           simp only [Bool.false_eq_true,if_false]
           have hjun:=(mem_ready.1 hj).1
           refine H2 ρ ρs w0 _ w ws hs nxs _ _ [] [] cs f ⟨hI.rel.put (put_slots hI.rel.slots hn hp undef_kn),hI.lr.set (getD_tf.1 (mem_ready.1 hrd).1).1 (fun e he=>by cases he),down_set hI.down hj,(fun e he=>by cases he),List.nodup_nil,List.nodup_nil,(fun e he=>by cases he),?_,hI.ms,hI.nxb⟩ hf hn hns hpl2 (by simpa using hlen) K hK
           exact pend_grow hI.pend (Nat.le_refl _) (Ext.refl _ _) (fun b x h=>h) (drop_grow (Lm:=Lm.setIfInBounds j true) ho (set_at hjun))
       · trivial
     | true =>
       simp only [cond_true]
       have H1:=H (.one o n E h nx)
       generalize ih (.one o n E h nx)=q1 at H1
       cases q1 with
       | bad=>trivial
       | ret v h' nx'=>exact H1.elim
       | ok x E' h' nx' =>
         obtain ⟨rfl,H1⟩:=H1
         show Does1 P Φ _ (bif keepP h' (dropP o pend) then ih (.reg l plan (dropP o pend) n E' h' nx') else .bad 28 [o])
         cases hkp:keepP h' (dropP o pend) with
         | false=>trivial
         | true =>
           simp only [cond_true]
           have H2:=H (.reg l plan (dropP o pend) n E' h' nx')
           generalize ih (.reg l plan (dropP o pend) n E' h' nx')=q2 at H2
           cases q2 with
           | bad=>trivial
           | ret v h2 nx2=>exact H2.elim
           | ok x2 E2 h2 nx2 =>
             obtain ⟨rfl,H2⟩:=H2
             refine ⟨rfl,fun ρ ρs w0 a w ws hs nxs L Lm Rc S cs f hI hf hn hns hpl hlen K hK=>?_⟩
             obtain ⟨rfl,⟨o',ho2,hrd,honly⟩,hpl2⟩:=hpl
             have hS:S=[]:=List.eq_nil_iff_forall_not_mem.2 fun e he=>by cases hI.sub e he
             subst hS
             have hrdm:=hI.lr.up hrd (fun e he=>by cases he)
             rw [List.length_cons] at hlen
             obtain ⟨f,rfl⟩:∃ f',f=f'+1:=⟨f - 1,by simp only [List.length_nil] at hlen;omega⟩
             refine ⟨hI.pend.cp,fun he=>(by rw [he] at hrdm;cases hrdm),fun j hj=>?_⟩
             have e:=honly j (hI.lr.nil hj)
             subst e
             unfold stp
             simp only [ho']
             rw [gd_ok hI.rel.slots hg]
             simp only [if_true]
             refine H1 ρ w0 a w hI.rel hf hn _ fun ρ' a' w' e1 e2 _=>?_
             exact H2 ρ' ρs w0 a' w' ws hs nxs _ _ [] [] cs f ⟨e2,hI.lr.set (getD_tf.1 (mem_ready.1 hrd).1).1 (fun e he=>by cases he),down_set hI.down hj,(fun e he=>by cases he),List.nodup_nil,List.nodup_nil,(fun e he=>by cases he),pend_step ho (mem_ready.1 hj).1 hI.pend e1 hkp,hI.ms,hI.nxb.trans hI.ms e1⟩ e1.fit hn hns hpl2 (by simpa using hlen) K hK
   trivial
 trivial
theorem nodup_drop {A B:List Early} {e:Early} (g:Early→Nat) (h:((A++e :: B).map g).Nodup):((A++B).map g).Nodup∧∀ x∈A++B,g x≠g e:=by
 rw [List.map_append,List.map_cons] at h
 obtain ⟨h1,h2,h3⟩:=List.nodup_append.1 h
 obtain ⟨h4,h5⟩:=List.nodup_cons.1 h2
 refine ⟨by rw [List.map_append];exact List.nodup_append.2 ⟨h1,h5,fun a ha b hb=>h3 a ha b (List.mem_cons_of_mem _ hb)⟩,fun x hx=>?_⟩
 rcases List.mem_append.1 hx with h6 | h6
 · exact h3 _ (List.mem_map.2 ⟨x,h6,rfl⟩) _ (List.mem_cons_self ..)
 exact fun e2=>h4 (List.mem_map.2 ⟨x,h6,e2⟩)
theorem reg_race_ok {ih:Cmd→Res} (H:∀ c,Does1 P Φ c (ih c)) (l:List Oper) (i:Nat) (R:List Nat) (plan:List (Nat×Pk)) (pend:List (Nat×Nat×Nat)) (n:Nat) (E:Tr CV) (h:Tr CB) (nx:Nat):Does1 P Φ (.reg l ((i,.race R) :: plan) pend n E h nx) (step P pr ih (.reg l ((i,.race R) :: plan) pend n E h nx)):=by
 show Does1 P Φ _ (match nth l i with
  | some o=>bif raceQ P l R n (killE l R E) h nx then (match ih (.one o n (killE l R E) h nx) with
   | .ok _ E h nx=>bif keepP h (dropP o pend) then ih (.reg l plan (dropP o pend) n E h nx) else .bad 28 [o]
   | r=>r) else .bad 32 [o]
  | none=>.bad 31 [])
 split
 · rename_i o ho
   rw [nth_eq] at ho
   have ho':l.toArray[i]?=some o:=by simpa using ho
   refine bif_val (Does1 P Φ _) (fun hrq=>?_) fun _=>trivial
   have H1:=H (.one o n (killE l R E) h nx)
   generalize ih (.one o n (killE l R E) h nx)=q1 at H1
   cases q1 with
   | bad=>trivial
   | ret v h' nx'=>exact H1.elim
   | ok x E' h' nx' =>
     obtain ⟨rfl,H1⟩:=H1
     show Does1 P Φ _ (bif keepP h' (dropP o pend) then ih (.reg l plan (dropP o pend) n E' h' nx') else .bad 28 [o])
     refine bif_val (Does1 P Φ _) (fun hkp=>?_) fun _=>trivial
     have H2:=H (.reg l plan (dropP o pend) n E' h' nx')
     generalize ih (.reg l plan (dropP o pend) n E' h' nx')=q2 at H2
     cases q2 with
     | bad=>trivial
     | ret v h2 nx2=>exact H2.elim
     | ok x2 E2 h2 nx2 =>
       obtain ⟨rfl,H2⟩:=H2
       refine ⟨rfl,fun ρ ρs w0 a w ws hs nxs L Lm Rc S cs f hI hf hn hns hpl hlen K hK=>?_⟩
       obtain ⟨hro,⟨o',ho2,hgd,hnm⟩,hpl2⟩:=hpl
       rw [ho] at ho2;cases ho2
       have hlt:=race_kill hn hrq
       have hSi:∀ e∈S,e.j≠i:=fun e he hei=>by
        obtain ⟨oj,d,h1,h2,_⟩:=(hI.eok e he).ex
        rw [hei,ho] at h1;cases h1
        rw [(mk_nosel h2).2.2.2.2.1] at hnm;cases hnm
       refine race_go (E:=killE l R E) (pl:=plan.length) hf hn hro (fun j hj d hd=>killE_none hlt hj hd) hrq ?_ ?_ f a w Lm S ⟨hI.rel.less (killE_sub hlt),hI.lr,hI.down,fun e he=>List.mem_append_left _ (hI.sub e he),hI.ndj,hI.ndp,hI.eok,hI.pend,hI.ms,hI.nxb⟩ hSi (by rw [←hlen,List.length_cons])
       · intro S hs hni hnd
         exact early_le hpl2 (fun e he=>(hs e he).elim (fun h=>(hro.sub _ h).resolve_left (hni e he)) id) hnd
       intro a w Lm S f hI hSi hlen hir
       have hsR:∀ e∈S,e.j∈R:=fun e he=>(List.mem_append.1 (hI.sub e he)).elim (fun h=>(hro.sub _ h).resolve_left (hSi e he)) id
       unfold stp
       simp only [ho',Region.wanted,hgd,if_true]
       refine H1 ρ w0 a w hI.rel hf hn _ fun ρ' a' w' e1 e2 e3=>?_
       refine H2 ρ' ρs w0 a' w' ws hs nxs _ _ R S cs f ⟨e2,hI.lr.set (getD_tf.1 (mem_ready.1 hro.rd).1).1 hSi,down_set hI.down hir,hsR,hI.ndj,hI.ndp,fun e he=>?_,pend_step ho (mem_ready.1 hir).1 hI.pend e1 hkp,hI.ms,hI.nxb.trans hI.ms e1⟩ e1.fit hn hns hpl2 hlen K hK
       refine (hI.eok e he).keep e3 (fun oj hoj=>?_) e1.old
       obtain ⟨ok',f1,f2,f3,f4,f5⟩:=hro.mks e.j (hsR e he)
       rw [hoj] at f1;cases f1
       exact f4 o ho
 trivial
theorem not_deferred {nx:Nat} {ρ:Pl} {s:Nat} {b:CB} {o:Obj} (h:DB nx ρ s b o):∀ x,o≠.deferred x:=fun x e=>by
 subst e
 cases b with
 | cells l ty op st=>obtain ⟨vs,junk,_,h2,_⟩:=h;cases h2
 | ro l ty st=>obtain ⟨vs,fz,_,h2⟩:=h;cases h2
 | mapI l st=>exact absurd (show Obj.deferred x=mapObj l from h) (by unfold mapObj;intro h;cases h)
 | mapK l st=>exact absurd (show Obj.deferred x=mapObj l from h) (by unfold mapObj;intro h;cases h)
 | lp E n ps asg body q p st=>obtain ⟨q,h1,_⟩:=h;cases h1
theorem Mem.adopt {ρ:Pl} {w0:Bas Φ} {h:Tr CB} {nx:Nat} {w:World} (hm:Mem ρ w0 h nx w) (hf:nx<Fit) {b:CB} {o:Obj} {s p:Nat} (hst:stB b=nx) (hp:w0.w.heap.size≤p) (ho:w.heap[p]?=some o) (hun:∀ t b,h.get t=some b→(ρ t).1≠p) (hb:DB nx ρ s b o) :
 ∃ ρ',Ext nx ρ ρ'∧ρ' nx=(p,s)∧Mem ρ' w0 (h.set (some b) Fit nx) (nx+1) w:=by
 have hext:Ext nx ρ (fun t=>if t=nx then (p,s) else ρ t):=fun t ht=>by simp [Nat.ne_of_lt ht]
 have get:=fun j=>Tr.get_set (some b) Fit h nx j hf
 refine ⟨fun t=>if t=nx then (p,s) else ρ t,hext,by simp,⟨hm.upd,?_,?_,hm.imm,hm.nod,fun c hc=>?_⟩⟩
 · intro t b' ht
   rw [get] at ht
   by_cases e:t=nx
   · subst e
     rw [if_pos rfl] at ht
     cases ht
     simp only [if_true]
     exact ⟨by omega,by omega,hp,o,ho,hb.up (Nat.le_succ _) hext⟩
   rw [if_neg e] at ht
   obtain ⟨h1,hs1,h2,o',h3,h4⟩:=hm.own t b' ht
   simp only [e,if_false]
   exact ⟨by omega,by omega,h2,o',h3,h4.up (Nat.le_succ _) hext⟩
 · intro t t' b1 b2 h1 h2 he
   rw [get] at h1 h2
   by_cases e:t=nx <;> by_cases e':t'=nx
   · rw [e,e']
   · rw [if_neg e'] at h2
     simp only [e,e',if_true,if_false] at he
     exact absurd he.symm (hun _ _ h2)
   · rw [if_neg e] at h1
     simp only [e,e',if_true,if_false] at he
     exact absurd he (hun _ _ h1)
   rw [if_neg e] at h1
   rw [if_neg e'] at h2
   simp only [e,e',if_false] at he
   exact hm.one t t' b1 b2 h1 h2 he
 obtain ⟨k1,k2,k3⟩:=hm.kept c hc
 refine ⟨k1,k2,fun t b' ht=>?_⟩
 rw [get] at ht
 by_cases e:t=nx
 · simp only [e,if_true]
   intro e2
   rw [e2,k2] at ho
   cases ho
   exact not_deferred hb _ rfl
 rw [if_neg e] at ht
 simp only [e,if_false]
 exact k3 t b' ht
theorem Nx.adopt {ρs ρ ρ':Pl} {hs h:Tr CB} {nxs nx p s:Nat} {ws w:World} {b:CB} (hn:Nx ρs hs nxs ws ρ h nx w) (hf:nx<Fit) (hst:stB b=nx) (he:Ext nx ρ ρ') (hp:ρ' nx=(p,s)) (hge:ws.heap.size≤p) (hlt:∀ t c,h.get t=some c→t<nx):Nx ρs hs nxs ws ρ' (h.set (some b) Fit nx) (nx+1) w:=by
 have get:=fun j=>Tr.get_set (some b) Fit h nx j hf
 refine ⟨Nat.le_succ_of_le hn.le,hf,hn.ext.trans he hn.le,⟨fun t c ht hst'=>?_,hn.old.fr,fun t c ht=>?_,hn.old.sz⟩⟩
 · rw [get] at ht
   by_cases e:t=nx
   · rw [if_pos e] at ht;cases ht
     have:=hn.le
     omega
   rw [if_neg e] at ht
   exact hn.old.old t c ht hst'
 rw [get] at ht
 by_cases e:t=nx
 · rw [e,hp];exact .inl hge
 rw [if_neg e] at ht
 rw [he t (hlt t c ht)]
 exact hn.old.nw t c ht
theorem reg_make_ok {ih:Cmd→Res} (H:∀ c,Does1 P Φ c (ih c)) (l:List Oper) (i:Nat) (R:List Nat) (plan:List (Nat×Pk)) (pend:List (Nat×Nat×Nat)) (n:Nat) (E:Tr CV) (h:Tr CB) (nx:Nat):Does1 P Φ (.reg l ((i,.make R) :: plan) pend n E h nx) (step P pr ih (.reg l ((i,.make R) :: plan) pend n E h nx)):=by
 show Does1 P Φ _ (match nth l i with
  | some o=>bif raceQ P l R n (killE l R E) h nx then (match wm P (killE l R E) h nx o.op with
   | .val c h nx=>(match putE (killE l R E) n o.dst c with | some E=>ih (.reg l plan (dropP o pend) n E h nx) | none=>.bad 33 [o])
   | _=>.bad 34 [o]) else .bad 35 [o]
  | none=>.bad 31 [])
 split
 · rename_i o ho
   rw [nth_eq] at ho
   have ho':l.toArray[i]?=some o:=by simpa using ho
   refine bif_val (Does1 P Φ _) (fun hrq=>?_) fun _=>trivial
   split
   · rename_i c h' nx' hw
     split
     · rename_i E' hp
       have H2:=H (.reg l plan (dropP o pend) n E' h' nx')
       generalize ih (.reg l plan (dropP o pend) n E' h' nx')=q2 at H2
       cases q2 with
       | bad=>trivial
       | ret v h2 nx2=>exact H2.elim
       | ok x2 E2 h2 nx2 =>
         obtain ⟨rfl,H2⟩:=H2
         refine ⟨rfl,fun ρ ρs w0 a w ws hs nxs L Lm Rc S cs f hI hf hn hns hpl hlen K hK=>?_⟩
         obtain ⟨hro,⟨o',ho2,hmk⟩,hpl2⟩:=hpl
         rw [ho] at ho2;cases ho2
         obtain ⟨s1,s2,s3,⟨xs,s4⟩,_,s6⟩:=mk_nosel hmk
         have hlt:=race_kill hn hrq
         have hI':=hI.rel.less (killE_sub (E:=E) hlt)
         by_cases hin:∃ e∈S,e.j=i
         · -- it was run ahead
           obtain ⟨e,he,hei⟩:=hin
           obtain ⟨A,B,rfl⟩:=mem_split he
           obtain ⟨b,s,ob,V,rfl,rfl,hft,hstb,hdb,hkn,hex⟩:=mk_ok hI'.slots s4 hw
           obtain ⟨⟨oj,d,h1,h2,h3,h4,h5⟩,g1,g2,g3,g4⟩:=hI.eok e he
           rw [hei,ho] at h1;cases h1
           obtain ⟨dst,op,ty,pos,after,g⟩:=o
           have hsame:∀ w2:World,e.V w2.heap.size=V w2.heap.size∧w2.alloc e.o=w2.alloc ob:=fun w2=>by
            have q1:=h5 w2
            rw [hex w2 dst ty pos after g] at q1
            simp only [Result.ok.injEq,Next.value.injEq] at q1
            exact ⟨q1.1.symm,q1.2.symm⟩
           have hV:∀ k:Nat,e.V k=V k:=fun k=>by
            have:=(hsame { w with heap:=Array.replicate k default }).1
            simpa using this
           have hob:e.o=ob:=by
            have h9:=(hsame w).2
            have h10:(w.alloc e.o).heap[w.heap.size]?=(w.alloc ob).heap[w.heap.size]?:=by rw [h9]
            rw [alloc_new,alloc_new] at h10
            exact Option.some.inj h10
           have hm:=hI.rel.mem
           obtain ⟨os,hR⟩:=hI'
           obtain ⟨ρ',x1,x2,m2⟩:=hR.mem.adopt (s:=s) (p:=e.p) (o:=ob) hft hstb (Nat.le_trans (show (w0.plus os).w.heap.size≤ws.heap.size from hI.ms.upd.size) g3) (by rw [←hob];exact g2) g4 hdb
           obtain ⟨nd1,nd2⟩:=nodup_drop (·.j) hI.ndj
           obtain ⟨nd3,nd4⟩:=nodup_drop (·.p) hI.ndp
           have hsub:∀ x∈A++B,x∈A++e :: B:=fun x hx=>(List.mem_append.1 hx).elim (fun h=>List.mem_append_left _ h) fun h=>List.mem_append_right _ (List.mem_cons_of_mem _ h)
           have hdn:∃ E1,E1=E'∧Slots ρ' E1 (nx+1) n a:=by
            have hd':dst=some d:=h3
            subst hd'
            have hp':(bif Nat.ble (Nat.succ d) n then some ((killE l R E).set (some c) Fit d) else none)=some E':=hp
            rcases bif_cases hp' with ⟨q1,q2⟩ | ⟨_,q2⟩
            · cases q2
              have hsl:=hR.slots.up (Nat.le_succ _) x1
              refine ⟨_,rfl,hsl.1,fun k x hx=>?_⟩
              have hdn:=le_ble q1
              rw [Tr.get_set (some c) Fit _ d k (by rw [fit_eq];omega)] at hx
              by_cases e2:k=d
              · subst e2
                rw [if_pos rfl] at hx
                cases hx
                exact ⟨_,h4,by rw [hV];exact hkn ρ' e.p x2⟩
              rw [if_neg e2] at hx
              exact hsl.2 k x hx
            cases q2
           obtain ⟨E1,rfl,hsl⟩:=hdn
           refine H2 ρ' ρs w0 a w ws hs nxs _ Lm R (A++B) cs f ⟨⟨os,hsl,hR.defers,m2,hR.mks,hR.ss⟩,?_,hI.down,?_,nd1,nd3,fun x hx=>?_,?_,hI.ms,hI.nxb.adopt hft hstb x1 x2 g3 fun t c ht=>(hm.own t c ht).1⟩ hft hn hns hpl2 ?_ K hK
           · have:=hI.lr.adopt hI.ndj
             rw [hei] at this;exact this
           · intro x hx
             exact (hro.sub _ (hI.sub x (hsub x hx))).resolve_left (fun e2=>nd2 x hx (e2.trans hei.symm))
           · obtain ⟨f1,f2,f3,f4,f5⟩:=hI.eok x (hsub x hx)
             refine ⟨f1,f2,f3,f4,fun t b' ht=>?_⟩
             rw [Tr.get_set (some b) Fit h nx t hft] at ht
             by_cases e2:t=nx
             · rw [e2,x2];exact fun e3=>nd4 x hx e3.symm
             rw [if_neg e2] at ht
             rw [x1 t (hm.own t b' ht).1];exact f5 t b' ht
           · intro x hx
             rcases hI.pend x hx with h6 | ⟨t,b',h6,h7,h8,h9,h10⟩
             · exact .inl h6
             rcases drop_grow (Lm:=Lm) ho ((hI.lr.iff i).2 (.inr ⟨e,he,hei⟩)) _ _ _ h6 with h11 | h11
             · exact .inr ⟨t,b',h11,Nat.lt_succ_of_lt h7,by rw [x1 t h7];exact h8,Nat.le_succ_of_le h9,h10⟩
             exact .inl ⟨i,h11.1,h11.2⟩
           simp only [List.length_append,List.length_cons] at hlen ⊢;omega
         -- it is run now
         have hSi:∀ e∈S,e.j≠i:=fun e he hei=>hin ⟨e,he,hei⟩
         refine race_go (E:=killE l R E) (pl:=plan.length) hf hn hro (fun j hj d hd=>killE_none hlt hj hd) hrq ?_ ?_ f a w Lm S ⟨hI',hI.lr,hI.down,fun e he=>List.mem_append_left _ (hI.sub e he),hI.ndj,hI.ndp,hI.eok,hI.pend,hI.ms,hI.nxb⟩ hSi (by rw [←hlen,List.length_cons])
         · intro S hs hni hnd
           exact early_le hpl2 (fun e he=>(hs e he).elim (fun h=>(hro.sub _ h).resolve_left (hni e he)) id) hnd
         intro a w Lm S f hI hSi hlen hir
         have hsR:∀ e∈S,e.j∈R:=fun e he=>(List.mem_append.1 (hI.sub e he)).elim (fun h=>(hro.sub _ h).resolve_left (hSi e he)) id
         obtain ⟨b,s,ob,V,rfl,rfl,hft,hstb,hdb,hkn,hex⟩:=mk_ok hI.rel.slots s4 hw
         obtain ⟨dst,op,ty,pos,after,g⟩:=o
         obtain ⟨os,hR⟩:=hI.rel
         obtain ⟨ρ',x1,x2,m2,o2⟩:=hR.mem.new (s:=s) hft hstb (alloc_upd w ob) (alloc_size w ob) (alloc_new w ob) hdb
         have hg:g=none:=s3
         subst hg
         unfold stp
         simp only [ho',Region.wanted,if_true]
         unfold opWp
         rw [hex w dst ty pos after none]
         have e1:Nx ρ h nx w ρ' (h.set (some b) Fit nx) (nx+1) (w.alloc ob):=⟨Nat.le_succ _,hft,x1,o2⟩
         refine H2 ρ' ρs w0 _ _ ws hs nxs _ _ R S cs f ⟨⟨os,put_slots (hR.slots.up (Nat.le_succ _) x1) hn hp (hkn ρ' _ x2),(put_defers _ _ _).trans hR.defers,m2,hR.mks,Nat.le_trans hR.ss o2.sz⟩,hI.lr.set (getD_tf.1 (mem_ready.1 hro.rd).1).1 hSi,down_set hI.down hir,hsR,hI.ndj,hI.ndp,fun e he=>?_,?_,hI.ms,hI.nxb.trans hI.ms e1⟩ hft hn hns hpl2 hlen K hK
         · refine (hI.eok e he).keep (o:=⟨dst,op,ty,pos,after,none⟩) (Kept.put _ _ _) (fun oj hoj=>?_) o2
           obtain ⟨ok',f1,f2,f3,f4,f5⟩:=hro.mks e.j (hsR e he)
           rw [hoj] at f1;cases f1
           exact f4 _ ho
         exact pend_grow hI.pend (Nat.le_succ _) x1 alloc_old (drop_grow (Lm:=Lm.setIfInBounds i true) ho (set_at (mem_ready.1 hir).1))
     trivial
   trivial
 trivial
theorem step_reg {ih:Cmd→Res} (H:∀ c,Does1 P Φ c (ih c)) (l:List Oper) (plan:List (Nat×Pk)) (pend:List (Nat×Nat×Nat)) (n:Nat) (E:Tr CV) (h:Tr CB) (nx:Nat):Does1 P Φ (.reg l plan pend n E h nx) (step P pr ih (.reg l plan pend n E h nx)):=by
 cases plan with
 | nil =>
   refine ⟨rfl,fun ρ ρs w0 a w ws hs nxs L Lm Rc S cs f hI hf hn hns hpl hlen K hK=>?_⟩
   obtain ⟨h1,rfl⟩:=hpl
   have hS:S=[]:=List.eq_nil_iff_forall_not_mem.2 fun e he=>by cases hI.sub e he
   subst hS
   have hf0:f=0:=by simpa using hlen.symm
   subst hf0
   have hnil:Region.ready .any l.toArray Lm=[]:=List.eq_nil_iff_forall_not_mem.2 fun j hj=>by
    have h3:=hI.lr.nil hj
    rw [h1] at h3
    cases h3
   exact ⟨hI.pend.cp,hnil,hK ρ a w hI.nxb hI.rel⟩
 | cons q plan =>
   obtain ⟨i,k⟩:=q
   cases k with
   | look=>exact reg_look_ok H l i plan pend n E h nx
   | only=>exact reg_only_ok H l i plan pend n E h nx
   | race R=>exact reg_race_ok H l i R plan pend n E h nx
   | make R=>exact reg_make_ok H l i R plan pend n E h nx
end
end Go.Sl.Ev
namespace Go.Sl.Ev
open Go Go.Sl
section
variable {P:Program} {Φ:Imm→Prop} {pr:Prims}
def PrimOk (P:Program) (Φ:Imm→Prop) (pr:Prims):Prop:=∀ f g,prQ pr f=some g→isFn P f∧∀ args v,g args=some v→∀ G,Φ G→∀ nx ρ vs,KL nx ρ args vs→∃ u,Kn nx ρ v u∧Does P f vs G [] (fun x G' Ho=>x=u∧G'=G∧Ho=[])
theorem leaves_ok {fn:Func} {n nx':Nat} {ρ':Pl} {w0:Bas Φ} {E':Tr CV} {h':Tr CB} {a:Act} {v:CV} {R:Ending→World→Prop} (hs:Slots ρ' E' nx' n a) (hv:resQ P E' h' fn.results.toList=some v) :
 ∀ (os:List Nat) (w:World),w0.s≤w.heap.size→Mem ρ' (w0.plus os) h' nx' w→(∀ w' u,Kn nx' ρ' v u→Mem ρ' w0 h' nx' w'→OldX (·∈os) ρ' h' nx' w ρ' h' w'→R (.returned u) w')→LeavesInM (FF none) 0 P fn a.tmps R (os.map mark) .returning w
 | [],w,hss,hm,hK=>by
   have hR:Rel ρ' w0 n E' h' nx' { a with defers:=[] } w:=⟨[],hs,rfl,hm,fun b hb=>(by cases hb),hss⟩
   obtain ⟨u,k1,k2⟩:=resQ_ok hR hv
   exact ⟨u,k2,hK w u k1 hm OldX.refl⟩
 | b :: os,w,hss,hm,hK=>by
   have hb:=(hm.kept b (List.mem_cons_self ..)).2.1
   obtain ⟨m2,o2⟩:=hm.shut
   refine ⟨by simp,.inl ⟨b,_,rfl,run_takeDeferred hb,leaves_ok hs hv os _ (Nat.le_trans hss o2.sz) m2 fun w' u q1 q2 q3=>hK w' u q1 q2 ?_⟩⟩
   exact ⟨fun t c hc hst=>⟨(q3.old t c hc hst).1,(q3.old t c hc hst).2.trans (o2.old t c (q3.old t c hc hst).1 hst).2⟩,fun p hp hu hx=>(q3.fr p (Nat.lt_of_lt_of_le hp o2.sz) hu (fun e=>hx (List.mem_cons_of_mem _ e))).trans (o2.fr p hp hu (fun e=>hx (by rw [e];exact List.mem_cons_self ..))),fun t b' hb'=>.inr ⟨t,b',hb',rfl⟩,Nat.le_trans o2.sz q3.sz⟩
theorem step_call {ih:Cmd→Res} (hpr:PrimOk P Φ pr) (H:∀ c,Does1 P Φ c (ih c)) (f:Nat) (args:CV) (h:Tr CB) (nx:Nat):Does1 P Φ (.call f args h nx) (step P pr ih (.call f args h nx)):=by
 show Does1 P Φ _ (match prQ pr f with
  | some g=>(match g args with | some v=>.ret v h nx | none=>.bad 60 [])
  | none=>match fnQ P f with
  | some fn=>(match fn.body with
    | some c=>bif Nat.ble (lenC args) fn.ntmps && Nat.ble fn.ntmps 100000 then (match ih (.code c fn.ntmps (argE args 0 .e) h nx) with
      | .ok x E h nx=>(match x with
        | .normal=>(match resQ P E h fn.results.toList with | some v=>.ret v h nx | none=>.bad 16 [])
        | .ret=>(match resQ P E h fn.results.toList with | some v=>.ret v h nx | none=>.bad 16 [])
        | _=>.bad 17 [])
      | .ret _ _ _=>.bad 18 []
      | r=>r) else .bad 19 []
    | none=>.bad 20 [])
  | none=>.bad 21 [])
 split
 · rename_i g hg
   split
   · rename_i v hv
     obtain ⟨p1,p2⟩:=hpr f g hg
     refine ⟨p1,fun ρ w0 w vs hm hk hfit=>?_⟩
     obtain ⟨u,k1,k2⟩:=p2 args v hv w0.G w0.ok nx ρ vs hk
     have hw:HoldH [] w0.G w:=⟨fun t b o ht=>(by cases ht),fun t t' b o o' ht=>(by cases ht),fun b o hb=>(hm.upd.same b (Array.getElem?_eq_some_iff.1 (hm.imm b o hb)).1 id).trans (hm.imm b o hb),fun t b o ht=>(by cases ht)⟩
     refine (k2 w hw).mono fun x w' ⟨v',G',Ho,h1,h2,h3,h4,h5,h6,h7⟩=>?_
     obtain ⟨rfl,_,_⟩:=h7
     have hu:Upd (fun _=>False) w w':=h4.mono fun k hk hx=>by obtain ⟨t,o,ht⟩:=hx;cases ht
     obtain ⟨m1,o1⟩:=hm.grow hu
     exact ⟨v',ρ,h1,⟨Nat.le_refl _,hfit,Ext.refl _ _,o1⟩,k1,m1⟩
   trivial
 split
 · rename_i fn hfn
   obtain ⟨hf,hname⟩:=fnQ_ok hfn
   split
   · rename_i c hb
     cases hl:Nat.ble (lenC args) fn.ntmps && Nat.ble fn.ntmps 100000 with
     | false=>trivial
     | true =>
       simp only [Bool.and_eq_true] at hl
       have hl1:=le_ble hl.1
       have hl2:=le_ble hl.2
       simp only [cond_true]
       have H1:=H (.code c fn.ntmps (argE args 0 .e) h nx)
       generalize ih (.code c fn.ntmps (argE args 0 .e) h nx)=q at H1
       cases q with
       | bad=>trivial
       | ret _ _ _=>trivial
       | ok x E' h' nx' =>
         have go:(x=.normal∨x=.ret)→Does1 P Φ (.call f args h nx) (match resQ P E' h' fn.results.toList with | some v=>.ret v h' nx' | none=>.bad 16 []):=fun hx=>by
          split
          · rename_i v hv
            refine ⟨⟨fn,hf,by rw [hb];rfl,hname⟩,fun ρ w00 w vs hm hk hfit=>?_⟩
            obtain ⟨W0,ks0,G0,ok0,s0⟩:=w00
            replace hm:=hm.base (s':=w.heap.size)
            obtain ⟨w0,hw0⟩:∃ w0:Bas Φ,w0=⟨W0,ks0,G0,ok0,w.heap.size⟩:=⟨_,rfl⟩
            rw [←hw0] at hm
            have hlen:=lenC_ok hk
            have hR:Rel ρ w0 fn.ntmps (argE args 0 .e) h nx { tmps:=vs.toArray++Array.replicate (fn.ntmps - vs.toArray.size) undef,defers:=[] } w:=by
             refine ⟨[],⟨by simp;omega,fun i y hy=>?_⟩,rfl,hm,fun b hb=>(by cases hb),by rw [hw0];exact Nat.le_refl _⟩
             rcases argE_ok hk 0 .e (by omega) i y hy with ⟨_,u,h1,h2⟩ | h1
             · refine ⟨u,?_,h2⟩
               have h1':vs[i]?=some u:=by simpa using h1
               have hlt:i<vs.length:=(List.getElem?_eq_some_iff.1 h1').1
               show (vs.toArray++Array.replicate (fn.ntmps - vs.toArray.size) undef)[i]?=some u
               rw [Array.getElem?_append_left (by simpa using hlt)]
               simpa using h1'
             cases h1
            refine callsIn_FF.1 (callsIn_of_wp_marks (F:=FF none) (n:=0) hf hb trivial (H1 none ρ w0 _ w hR hfit hl2 (.inl rfl) _ fun ρ' a' w' e1 e2=>?_))
            obtain ⟨os,e2⟩:=e2
            have key:LeavesInM (FF none) 0 P fn a'.tmps (fun e w'=>∃ u ρ',e=.returned u∧Nx ρ h nx w ρ' h' nx' w'∧Kn nx' ρ' v u∧Mem ρ' ⟨W0,ks0,G0,ok0,s0⟩ h' nx' w') a'.defers .returning w':=by
             rw [e2.defers]
             exact leaves_ok e2.slots hv os w' e2.ss e2.mem fun w2 u q1 q2 q3=>⟨u,ρ',rfl,⟨e1.le,e1.fit,e1.ext,OldX.transX hm e1.old q3 (fun p hp=>by have:=e2.mks p hp;rw [hw0] at this;exact this) e1.le e1.ext⟩,q1,by rw [hw0] at q2;exact q2.base⟩
            rcases hx with rfl | rfl <;> exact key
          trivial
         cases x with
         | normal=>exact go (.inl rfl)
         | ret=>exact go (.inr rfl)
         | _=>trivial
   trivial
 trivial
theorem run_ok (hpr:PrimOk P Φ pr) (fuel:Nat):∀ c,Does1 P Φ c (run P pr fuel c):=by
 induction fuel with
 | zero=>intro c;show Does1 P Φ c (.bad 0 []);cases c <;> trivial
 | succ fuel ih =>
   intro c
   show Does1 P Φ c (step P pr (run P pr fuel) c)
   cases c with
   | code c n E h nx=>exact step_code ih c n E h nx
   | loop c n E h nx=>exact step_loop ih c n E h nx
   | ops all l n E h nx=>exact step_ops ih all l n E h nx
   | one o n E h nx=>exact step_one ih o n E h nx
   | call f args h nx=>exact step_call hpr ih f args h nx
   | round t args h nx=>exact step_round ih t args h nx
   | reg l plan pend n E h nx=>exact step_reg ih l plan pend n E h nx
noncomputable def isTrue (r:Res):Bool:=match r with | .ret (.bool b) _ _=>b | _=>false
theorem true_does {f:Nat} {q:Res} (H:Does1 P Φ (.call f .nil .e 0) q) (h:isTrue q=true) (G:Imm) (hG:Φ G):Does P f [] G [] (fun v G' Ho=>v=.bool true∧G'=G∧Ho=[]):=by
 intro w hw
 cases q with
 | bad=>cases h
 | ok _ _ _ _=>cases h
 | ret v h' nx' =>
   cases v with
   | bool b =>
     have hb:b=true:=h
     subst hb
     have hm:Mem (fun _=>(0,0)) (⟨w,[],G,hG,0⟩:Bas Φ) .e 0 w:=⟨Upd.refl _ _,fun t b ht=>(by cases ht),fun t t' b b' ht=>(by cases ht),fun b o hb=>hw.imm b o hb,List.nodup_nil,fun b hb=>by cases hb⟩
     refine (H.2 (fun _=>(0,0)) ⟨w,[],G,hG,0⟩ w [] hm KL.nil (Nat.zero_le _)).mono fun e w' ⟨u,ρ',h1,h2,h3,h4⟩=>?_
     have h5:=DV.bool.1 h3.2
     subst h5
     refine ⟨.bool true,G,[],h1,⟨fun t b o ht=>(by cases ht),fun t t' b o o' ht=>(by cases ht),fun b o hb=>?_,fun t b o ht=>(by cases ht)⟩,Imm.le_refl _,h4.upd.mono fun k hk hx=>hx.elim,fun b h0 h1=>absurd h1 h0,fun t b o ht=>(by cases ht),rfl,rfl,rfl⟩
     rw [h4.upd.same b (hw.ltG hb) id];exact hw.imm b o hb
   | _=>cases h
end
end Go.Sl.Ev
namespace Go.Sl.Ev
open Go Go.Sl
structure Gt where
 run:Tr CV→Option CV
structure St where
 run:CV→Tr CV→Tr CV
noncomputable def gt (f:Nat):Nat→Gt:=
 Nat.rec (motive:=fun _=>Nat→Gt) (fun _=>⟨fun _=>none⟩) (fun _ ih k=>Nat.rec (motive:=fun _=>Gt) ⟨fun E=>Tr.rec (motive:=fun _=>Option CV) none (fun x _ _ _ _ _ _ _ _=>x) E⟩
  (fun m _=>s4 (⟨fun E=>Tr.rec (motive:=fun _=>Option CV) none (fun _ a _ _ _ _ _ _ _=>(ih (Nat.div m 4)).run a) E⟩:Gt) ⟨fun E=>Tr.rec (motive:=fun _=>Option CV) none (fun _ _ b _ _ _ _ _ _=>(ih (Nat.div m 4)).run b) E⟩
   ⟨fun E=>Tr.rec (motive:=fun _=>Option CV) none (fun _ _ _ c _ _ _ _ _=>(ih (Nat.div m 4)).run c) E⟩ ⟨fun E=>Tr.rec (motive:=fun _=>Option CV) none (fun _ _ _ _ d _ _ _ _=>(ih (Nat.div m 4)).run d) E⟩ (Nat.mod m 4)) k) f
noncomputable def st (f:Nat):Nat→St:=
 Nat.rec (motive:=fun _=>Nat→St) (fun _=>⟨fun _ E=>E⟩) (fun _ ih k=>Nat.rec (motive:=fun _=>St) ⟨fun v E=>Tr.rec (motive:=fun _=>Tr CV) (.n (some v) .e .e .e .e) (fun _ a b c d _ _ _ _=>.n (some v) a b c d) E⟩
  (fun m _=>s4 (⟨fun v E=>Tr.rec (motive:=fun _=>Tr CV) (.n none ((ih (Nat.div m 4)).run v .e) .e .e .e) (fun x a b c d _ _ _ _=>.n x ((ih (Nat.div m 4)).run v a) b c d) E⟩:St)
   ⟨fun v E=>Tr.rec (motive:=fun _=>Tr CV) (.n none .e ((ih (Nat.div m 4)).run v .e) .e .e) (fun x a b c d _ _ _ _=>.n x a ((ih (Nat.div m 4)).run v b) c d) E⟩
   ⟨fun v E=>Tr.rec (motive:=fun _=>Tr CV) (.n none .e .e ((ih (Nat.div m 4)).run v .e) .e) (fun x a b c d _ _ _ _=>.n x a b ((ih (Nat.div m 4)).run v c) d) E⟩
   ⟨fun v E=>Tr.rec (motive:=fun _=>Tr CV) (.n none .e .e .e ((ih (Nat.div m 4)).run v .e)) (fun x a b c d _ _ _ _=>.n x a b c ((ih (Nat.div m 4)).run v d)) E⟩ (Nat.mod m 4)) k) f
theorem gt_eq:∀ (f k:Nat) (E:Tr CV),k<f→(gt f k).run E=E.get k:=by
 intro f
 induction f with
 | zero=>intro k E h;omega
 | succ f ih =>
   intro k E h
   cases k with
   | zero=>cases E <;> rfl
   | succ m =>
     have hm:Nat.div m 4<f:=by show m / 4<f;omega
     show (s4 (⟨fun E=>Tr.rec (motive:=fun _=>Option CV) none (fun _ a _ _ _ _ _ _ _=>(gt f (Nat.div m 4)).run a) E⟩:Gt) ⟨fun E=>Tr.rec (motive:=fun _=>Option CV) none (fun _ _ b _ _ _ _ _ _=>(gt f (Nat.div m 4)).run b) E⟩
      ⟨fun E=>Tr.rec (motive:=fun _=>Option CV) none (fun _ _ _ c _ _ _ _ _=>(gt f (Nat.div m 4)).run c) E⟩ ⟨fun E=>Tr.rec (motive:=fun _=>Option CV) none (fun _ _ _ _ d _ _ _ _=>(gt f (Nat.div m 4)).run d) E⟩ (Nat.mod m 4)).run E=_
     rcases four m with h1 | h1 | h1 | h1 <;> rw [h1] <;> cases E with
      | e=>rfl
      | n x a b c d=>rw [Tr.get_s,h1];exact ih _ _ hm
theorem st_eq (v:CV):∀ (f k:Nat) (E:Tr CV),(st f k).run v E=E.set (some v) f k:=by
 intro f
 induction f with
 | zero=>intro k E;rfl
 | succ f ih =>
   intro k E
   cases k with
   | zero=>cases E <;> rfl
   | succ m =>
     show (s4 (⟨fun v E=>Tr.rec (motive:=fun _=>Tr CV) (.n none ((st f (Nat.div m 4)).run v .e) .e .e .e) (fun x a b c d _ _ _ _=>.n x ((st f (Nat.div m 4)).run v a) b c d) E⟩:St)
      ⟨fun v E=>Tr.rec (motive:=fun _=>Tr CV) (.n none .e ((st f (Nat.div m 4)).run v .e) .e .e) (fun x a b c d _ _ _ _=>.n x a ((st f (Nat.div m 4)).run v b) c d) E⟩
      ⟨fun v E=>Tr.rec (motive:=fun _=>Tr CV) (.n none .e .e ((st f (Nat.div m 4)).run v .e) .e) (fun x a b c d _ _ _ _=>.n x a b ((st f (Nat.div m 4)).run v c) d) E⟩
      ⟨fun v E=>Tr.rec (motive:=fun _=>Tr CV) (.n none .e .e .e ((st f (Nat.div m 4)).run v .e)) (fun x a b c d _ _ _ _=>.n x a b c ((st f (Nat.div m 4)).run v d)) E⟩ (Nat.mod m 4)).run v E=_
     cases E with
     | e=>rw [Tr.set_e,Tr.set_s];rcases four m with h1 | h1 | h1 | h1 <;> rw [h1] <;> simp only [s4_0,s4_1,s4_2,s4_3,ih]
     | n x a b c d=>rw [Tr.set_s];rcases four m with h1 | h1 | h1 | h1 <;> rw [h1] <;> simp only [s4_0,s4_1,s4_2,s4_3,ih]
abbrev Kt:=Tr CV→Tr CB→Nat→Res
abbrev Kx:=Exit→Tr CV→Tr CB→Nat→Res
def TotO (run:Kt→Res) (S:Tr CV→Tr CB→Nat→Prop):Prop:=(∃ why o,∀ k,run k=.bad why o)∨∃ E' h' nx',(∀ k,run k=k E' h' nx')∧S E' h' nx'
def TotX (run:Kx→Res) (S:Exit→Tr CV→Tr CB→Nat→Prop):Prop:=(∃ why o,∀ k,run k=.bad why o)∨∃ x E' h' nx',(∀ k,run k=k x E' h' nx')∧S x E' h' nx'
structure Co where
 run:(Cmd→Res)→Tr CV→Tr CB→Nat→Kt→Res
structure Cd where
 run:(Cmd→Res)→Tr CV→Tr CB→Nat→Kx→Res
section
variable (P:Program) (Φ:Imm→Prop)
def Tru (ih:Cmd→Res):Prop:=∀ c,Does1 P Φ c (ih c)
def CoOk (co:Co) (o:Oper) (n:Nat):Prop:=∀ ih,Tru P Φ ih→∀ E h nx,TotO (co.run ih E h nx) (fun E' h' nx'=>Does1 P Φ (.one o n E h nx) (.ok .normal E' h' nx'))
def CdOk (cd:Cd) (c:Code) (n:Nat):Prop:=∀ ih,Tru P Φ ih→∀ E h nx,TotX (cd.run ih E h nx) (fun x E' h' nx'=>Does1 P Φ (.code c n E h nx) (.ok x E' h' nx'))
end
noncomputable def gen (P:Program) (pr:Prims) (o:Oper) (n:Nat):Co:=⟨fun ih E h nx k=>match step P pr ih (.one o n E h nx) with
 | .ok _ E h nx=>k E h nx
 | .ret _ _ _=>.bad 70 []
 | .bad w a=>.bad w a⟩
noncomputable def inner (c:Cmd):Bool:=match c with | .ops ..=>true | .one ..=>true | .reg ..=>true | .code ..=>true | .loop ..=>true | _=>false
noncomputable def runG (P:Program) (pr:Prims) (ih:Cmd→Res) (F:Nat):Cmd→Res:=Nat.rec (motive:=fun _=>Cmd→Res) (fun _=>.bad 71 []) (fun _ r c=>step P pr (fun c=>bif inner c then r c else ih c) c) F
noncomputable def genC (P:Program) (pr:Prims) (c:Code) (n:Nat):Cd:=⟨fun ih E h nx k=>match runG P pr ih 10000 (.code c n E h nx) with
 | .ok x E h nx=>k x E h nx
 | .ret _ _ _=>.bad 72 []
 | .bad w a=>.bad w a⟩
section
variable {P:Program} {Φ:Imm→Prop} {pr:Prims}
theorem step_tru (hpr:PrimOk P Φ pr) {ih:Cmd→Res} (H:Tru P Φ ih):Tru P Φ (step P pr ih):=fun c=>by
 cases c with
 | code c n E h nx=>exact step_code H c n E h nx
 | loop c n E h nx=>exact step_loop H c n E h nx
 | ops all l n E h nx=>exact step_ops H all l n E h nx
 | one o n E h nx=>exact step_one H o n E h nx
 | call f args h nx=>exact step_call hpr H f args h nx
 | round t args h nx=>exact step_round H t args h nx
 | reg l plan pend n E h nx=>exact step_reg H l plan pend n E h nx
theorem bad_tru:Tru P Φ (fun _=>.bad 0 []):=fun c=>by cases c <;> trivial
theorem does_bad (c:Cmd) (w:Nat) (a:List Oper):Does1 P Φ c (.bad w a):=by cases c <;> trivial
theorem gen_ok (o:Oper) (n:Nat):CoOk P Φ (gen P pr o n) o n:=fun ih H E h nx=>by
 have H1:=step_one (pr:=pr) H o n E h nx
 show TotO (fun k=>match step P pr ih (.one o n E h nx) with | .ok _ E h nx=>k E h nx | .ret _ _ _=>.bad 70 [] | .bad w a=>.bad w a) _
 generalize step P pr ih (.one o n E h nx)=q at H1
 cases q with
 | bad w a=>exact .inl ⟨w,a,fun k=>rfl⟩
 | ret v h' nx'=>exact .inl ⟨70,[],fun k=>rfl⟩
 | ok x E' h' nx' =>
   have hx:x=.normal:=H1.1
   subst hx
   exact .inr ⟨E',h',nx',fun k=>rfl,H1⟩
theorem runG_tru (hpr:PrimOk P Φ pr) {ih:Cmd→Res} (H:Tru P Φ ih) (F:Nat):Tru P Φ (runG P pr ih F):=by
 induction F with
 | zero=>intro c;exact does_bad c 71 []
 | succ F r =>
   refine step_tru hpr fun c=>?_
   show Does1 P Φ c (bif inner c then runG P pr ih F c else ih c)
   cases inner c with
   | true=>exact r c
   | false=>exact H c
theorem genC_ok (hpr:PrimOk P Φ pr) (c:Code) (n:Nat):CdOk P Φ (genC P pr c n) c n:=fun ih H E h nx=>by
 have H1:=runG_tru hpr H 10000 (.code c n E h nx)
 show TotX (fun k=>match runG P pr ih 10000 (.code c n E h nx) with | .ok x E h nx=>k x E h nx | .ret _ _ _=>.bad 72 [] | .bad w a=>.bad w a) _
 generalize runG P pr ih 10000 (.code c n E h nx)=q at H1
 cases q with
 | bad w a=>exact .inl ⟨w,a,fun k=>rfl⟩
 | ret v h' nx'=>exact .inl ⟨72,[],fun k=>rfl⟩
 | ok x E' h' nx'=>exact .inr ⟨x,E',h',nx',fun k=>rfl,H1⟩
end
end Go.Sl.Ev
namespace Go.Sl.Ev
open Go Go.Sl
noncomputable def rdo:Operand→Gt
 | .tmp t=>gt (Nat.succ t) t
 | .const v=>Option.rec (motive:=fun _=>Gt) ⟨fun _=>none⟩ (fun c=>⟨fun _=>some c⟩) (ofV v)
 | .func f=>⟨fun _=>some (.fn f .nil .nil)⟩
 | .global _=>⟨fun _=>none⟩
theorem rdo_eq (x:Operand) (E:Tr CV):(rdo x).run E=evo E x:=by
 cases x with
 | tmp t=>exact gt_eq _ _ _ (Nat.lt_succ_self t)
 | const v =>
   show (Option.rec (motive:=fun _=>Gt) ⟨fun _=>none⟩ (fun c=>⟨fun _=>some c⟩) (ofV v):Gt).run E=ofV v
   cases ofV v <;> rfl
 | func f=>rfl
 | global g=>rfl
noncomputable def puto (n:Nat):Option Nat→Option St
 | none=>some ⟨fun _ E=>E⟩
 | some d=>bif Nat.ble (Nat.succ d) n then some (st Fit d) else none
theorem puto_eq {n:Nat} {d:Option Nat} {p:St} (h:puto n d=some p) (E:Tr CV) (v:CV):putE E n d v=some (p.run v E):=by
 cases d with
 | none=>cases h;rfl
 | some d =>
   have h':(bif Nat.ble (Nat.succ d) n then some (st Fit d) else none)=some p:=h
   rcases bif_cases h' with ⟨h1,h2⟩ | ⟨_,h2⟩
   · cases h2
     show (bif Nat.ble (Nat.succ d) n then some (E.set (some v) Fit d) else none)=_
     rw [h1,st_eq];rfl
   cases h2
structure Bi where
 run:IntKind→Int→Int→Option CV
noncomputable def bsel:BinOp→Bi
 | .add=>⟨fun k m n=>bo .add k m n⟩
 | o=>⟨fun k m n=>bo o k m n⟩
noncomputable def quick (P:Program) (pr:Prims) (o:Oper) (n:Nat) (p:St) (f:Tr CV→Tr CB→Option CV):Co:=
 ⟨fun ih E h nx k=>Option.rec (motive:=fun _=>Res) ((gen P pr o n).run ih E h nx k) (fun c=>k (p.run c E) h nx) (f E h)⟩
noncomputable def quickW (P:Program) (pr:Prims) (o:Oper) (n:Nat) (p:St) (f:Tr CV→Tr CB→Nat→Ro):Co:=
 ⟨fun ih E h nx k=>Ro.rec (motive:=fun _=>Res) ((gen P pr o n).run ih E h nx k) (fun c h nx=>k (p.run c E) h nx) (fun h nx=>match o.dst with | none=>k E h nx | some _=>.bad 10 []) (f E h nx)⟩
noncomputable def quickC (o:Oper) (n:Nat):Co:=
 ⟨fun ih E h nx k=>match callQ ih E n h nx o.dst o.op with | .ok _ E h nx=>k E h nx | .ret _ _ _=>.bad 70 [] | .bad w a=>.bad w a⟩
noncomputable def withI (a b:Option CV) (f:IntKind→Int→Int→Option CV):Option CV:=
 Option.rec (motive:=fun _=>Option CV) none (fun a=>match a with
  | .int k m=>Option.rec (motive:=fun _=>Option CV) none (fun b=>match b with | .int k' n=>bif ikB k k' then f k m n else none | _=>none) b
  | _=>none) a
noncomputable def cop (P:Program) (pr:Prims) (o:Oper) (n:Nat):Co:=match puto n o.dst with
 | some p=>match o.op with
   | .move x=>quick P pr o n p (fun E _=>(rdo x).run E)
   | .assign x=>quick P pr o n p (fun E _=>(rdo x).run E)
   | .extract x i=>quick P pr o n p (fun E _=>match (rdo x).run E with | some (.tup l)=>nthC l i | _=>none)
   | .nilCheck x=>quick P pr o n p (fun E _=>match (rdo x).run E with | some (.ptr t o)=>some (.ptr t o) | _=>none)
   | .fieldAddr s x f=>(match foQ P s f with
     | some j=>quick P pr o n p (fun E _=>match (rdo x).run E with | some (.ptr t o)=>some (.ptr t (Nat.add o j)) | _=>none)
     | none=>gen P pr o n)
   | .load T x=>bif oneB P T then quick P pr o n p (fun E h=>match (rdo x).run E with | some (.ptr t o)=>(match h.get t with | some (.cells l _ _ _)=>nthR l o | _=>none) | _=>none) else gen P pr o n
   | .pick c x y=>quick P pr o n p (fun E _=>match (rdo c).run E with | some (.bool b)=>Bool.rec (motive:=fun _=>Option CV) ((rdo y).run E) ((rdo x).run E) b | _=>none)
   | .unOp .not _ x=>quick P pr o n p (fun E _=>match (rdo x).run E with | some (.bool b)=>some (.bool (not b)) | _=>none)
   | .convert s t x=>(match P.underlying t with
     | some (.int k')=>(match P.underlying s with
       | some _=>quick P pr o n p (fun E _=>match (rdo x).run E with | some (.int _ m)=>some (.int k' (wr k' m)) | _=>none)
       | none=>gen P pr o n)
     | _=>gen P pr o n)
   | .indexAddr T x i=>(match slQ P T with
     | some (_,sz')=>quick P pr o n p (fun E _=>match (rdo i).run E with
       | some (.int _ m)=>(match (rdo x).run E with | some (.sl t o n sz _)=>bif Nat.beq sz sz' && (ile 0 m && not (ile n m)) then some (.ptr t (Nat.add o (Nat.mul m.toNat sz'))) else none | _=>none)
       | _=>none)
     | none=>gen P pr o n)
   | .call ⟨.builtin .len,⟨[x]⟩,⟨[T]⟩⟩=>(match slQ P T with
     | some _=>quick P pr o n p (fun E _=>match (rdo x).run E with | some (.sl _ _ n _ _)=>some (.int .i64 n) | some .nils=>some (.int .i64 0) | _=>none)
     | none=>gen P pr o n)
   | .alloc T=>quickW P pr o n p (fun E h nx=>wv0 P E h nx T)
   | .box T x=>quickW P pr o n p (fun E h nx=>wv1 P E h nx T x)
   | .store T x y=>quickW P pr o n p (fun E h nx=>wv2 P E h nx T x y)
   | .buildSlice T m ⟨parts⟩=>quickW P pr o n p (fun E h nx=>wv3 P E h nx T m parts)
   | .makeSlice T x y=>quickW P pr o n p (fun E h nx=>wv4 P E h nx T x y)
   | .call ⟨.builtin .append,⟨[s,x]⟩,⟨[T,tx]⟩⟩=>quickW P pr o n p (fun E h nx=>apC P E h nx T tx s x)
   | .call ⟨.value f,args,ats⟩=>quickC o n
   | .binOp b t x y _=>(match b with
     | .shl=>gen P pr o n
     | .shr=>gen P pr o n
     | b=>quick P pr o n p (fun E _=>withI ((rdo x).run E) ((rdo y).run E) (bsel b).run))
   | _=>gen P pr o n
 | none=>gen P pr o n
section
variable {P:Program} {Φ:Imm→Prop} {pr:Prims}
theorem one_quiet {o:Oper} {n:Nat} {E:Tr CV} {h:Tr CB} {nx:Nat} {c:CV} {E':Tr CV} (hq:qv P E h o.op=some c) (hp:putE E n o.dst c=some E'):Does1 P Φ (.one o n E h nx) (.ok .normal E' h nx):=by
 have H:=step_one (pr:=[]) (bad_tru (P:=P) (Φ:=Φ)) o n E h nx
 have e:step P [] (fun _=>.bad 0 []) (.one o n E h nx)=Res.ok .normal E' h nx:=by
  show step3 P [] _ o n E h nx=_
  unfold step3
  simp only [hq,hp]
 rw [e] at H
 exact H
theorem quick_ok {o:Oper} {n:Nat} {p:St} {f:Tr CV→Tr CB→Option CV} (hp:puto n o.dst=some p) (hf:∀ E h c,f E h=some c→qv P E h o.op=some c):CoOk P Φ (quick P pr o n p f) o n:=fun ih H E h nx=>by
 show TotO (fun k=>Option.rec (motive:=fun _=>Res) ((gen P pr o n).run ih E h nx k) (fun c=>k (p.run c E) h nx) (f E h)) _
 cases hc:f E h with
 | none=>exact gen_ok o n ih H E h nx
 | some c=>exact .inr ⟨p.run c E,h,nx,fun k=>rfl,one_quiet (hf E h c hc) (puto_eq hp E c)⟩
theorem quickW_ok {o:Oper} {n:Nat} {p:St} {f:Tr CV→Tr CB→Nat→Ro} (hp:puto n o.dst=some p) (hq:∀ E h,qv P E h o.op=none) (hw:∀ E h nx,wv P E h nx o.op=f E h nx):CoOk P Φ (quickW P pr o n p f) o n:=fun ih H E h nx=>by
 show TotO (fun k=>Ro.rec (motive:=fun _=>Res) ((gen P pr o n).run ih E h nx k) (fun c h nx=>k (p.run c E) h nx) (fun h nx=>match o.dst with | none=>k E h nx | some _=>.bad 10 []) (f E h nx)) _
 have hs:=step_one (pr:=[]) (bad_tru (P:=P) (Φ:=Φ)) o n E h nx
 have hwm:f E h nx≠.bad→wm P E h nx o.op=f E h nx:=fun hb=>by
  unfold wm
  rw [hw]
  cases hf:f E h nx with
  | bad=>exact absurd hf hb
  | val c h' nx'=>rfl
  | unit h' nx'=>rfl
 cases hf:f E h nx with
 | bad=>exact gen_ok o n ih H E h nx
 | val c h' nx' =>
   have e:=hwm (by rw [hf];intro h;cases h)
   rw [hf] at e
   have e2:step P [] (fun _=>.bad 0 []) (.one o n E h nx)=Res.ok .normal (p.run c E) h' nx':=by
    show step3 P [] _ o n E h nx=_
    unfold step3
    simp only [hq,e,puto_eq hp]
   rw [e2] at hs
   exact .inr ⟨p.run c E,h',nx',fun k=>rfl,hs⟩
 | unit h' nx' =>
   have e:=hwm (by rw [hf];intro h;cases h)
   rw [hf] at e
   cases hd:o.dst with
   | some d=>exact .inl ⟨10,[],fun k=>by simp only [hd]⟩
   | none =>
     have e2:step P [] (fun _=>.bad 0 []) (.one o n E h nx)=Res.ok .normal E h' nx':=by
      show step3 P [] _ o n E h nx=_
      unfold step3
      simp only [hq,e,hd]
     rw [e2] at hs
     exact .inr ⟨E,h',nx',fun k=>by simp only [hd],hs⟩
theorem quickC_ok {o:Oper} {n:Nat} (hq:∀ E h,qv P E h o.op=none) (hw:∀ E h nx,wm P E h nx o.op=.bad):CoOk P Φ (quickC o n) o n:=fun ih H E h nx=>by
 have hs:=step_one (pr:=[]) H o n E h nx
 have e2:step P [] ih (.one o n E h nx)=callQ ih E n h nx o.dst o.op:=by
  show step3 P [] _ o n E h nx=_
  unfold step3
  simp only [hq,hw]
 rw [e2] at hs
 show TotO (fun k=>match callQ ih E n h nx o.dst o.op with | .ok _ E h nx=>k E h nx | .ret _ _ _=>.bad 70 [] | .bad w a=>.bad w a) _
 generalize callQ ih E n h nx o.dst o.op=q at hs
 cases q with
 | bad w a=>exact .inl ⟨w,a,fun k=>rfl⟩
 | ret v h' nx'=>exact .inl ⟨70,[],fun k=>rfl⟩
 | ok x E' h' nx' =>
   have hx:x=.normal:=hs.1
   subst hx
   exact .inr ⟨E',h',nx',fun k=>rfl,hs⟩
theorem bsel_eq (b:BinOp) (k:IntKind) (m n:Int):(bsel b).run k m n=bo b k m n:=by cases b <;> rfl
theorem withI_ok {a b:Option CV} {f:IntKind→Int→Int→Option CV} {c:CV} (h:withI a b f=some c):∃ k m n,a=some (.int k m)∧∃ k',b=some (.int k' n)∧ikB k k'=true∧f k m n=some c:=by
 cases a with
 | none=>cases h
 | some a =>
   cases a with
   | int k m =>
     cases b with
     | none=>cases h
     | some b =>
       cases b with
       | int k' n =>
         have h':(bif ikB k k' then f k m n else none)=some c:=h
         rcases bif_cases h' with ⟨h1,h2⟩ | ⟨_,h2⟩
         · exact ⟨k,m,n,rfl,k',rfl,h1,h2⟩
         · cases h2
       | _=>cases h
   | _=>cases h
theorem cop_ok (o:Oper) (n:Nat):CoOk P Φ (cop P pr o n) o n:=by
 unfold cop
 split
 · rename_i p hp
   split
   · rename_i x hop
     exact quick_ok hp fun E h c hc=>by rw [hop];rw [rdo_eq] at hc;exact hc
   · rename_i x hop
     exact quick_ok hp fun E h c hc=>by rw [hop];rw [rdo_eq] at hc;exact hc
   · rename_i x i hop
     exact quick_ok hp fun E h c hc=>by rw [hop];rw [rdo_eq] at hc;exact hc
   · rename_i x hop
     refine quick_ok hp fun E h c hc=>?_
     rw [hop]
     rw [rdo_eq] at hc
     split at hc
     · rename_i t o' hx
       cases hc
       show qv8 P E h x=_
       unfold qv8
       rw [hx]
     cases hc
   · rename_i s x f hop
     split
     · rename_i j hj
       refine quick_ok hp fun E h c hc=>?_
       rw [hop]
       rw [rdo_eq] at hc
       split at hc
       · rename_i t o' hx
         cases hc
         show qv9 P E h s x f=_
         unfold qv9
         rw [hx]
         simp only [hj]
       cases hc
     exact gen_ok o n
   · rename_i T x hop
     refine bif_val (fun c=>CoOk P Φ c o n) (fun h1=>?_) fun _=>gen_ok o n
     refine quick_ok hp fun E h c hc=>?_
     rw [hop]
     rw [rdo_eq] at hc
     split at hc
     · rename_i t o' hx
       split at hc
       · rename_i l ty op st hb
         show qv11 P E h T x=_
         unfold qv11
         rw [hx]
         simp only [hb,h1,cond_true]
         exact hc
       cases hc
     cases hc
   · rename_i c x y hop
     refine quick_ok hp fun E h c' hc=>?_
     rw [hop]
     simp only [rdo_eq] at hc
     split at hc
     · rename_i b hb
       show qv2 P E h c x y=_
       unfold qv2
       rw [hb]
       cases b <;> exact hc
     cases hc
   · rename_i tt x hop
     refine quick_ok hp fun E h c hc=>?_
     rw [hop]
     rw [rdo_eq] at hc
     exact hc
   · rename_i s t x hop
     split
     · rename_i k' ht
       split
       · rename_i d hd
         refine quick_ok hp fun E h c hc=>?_
         rw [hop]
         rw [rdo_eq] at hc
         show qv6 P E h s t x=_
         unfold qv6
         rw [ht]
         simp only [hd]
         exact hc
       exact gen_ok o n
     exact gen_ok o n
   · rename_i T x i hop
     split
     · rename_i e' sz' hT
       refine quick_ok hp fun E h c hc=>?_
       rw [hop]
       simp only [rdo_eq] at hc
       split at hc
       · rename_i k m hi
         split at hc
         · rename_i t o' N sz cc hx
           show qv13 P E h T x i=_
           unfold qv13
           rw [hi]
           simp only [hx,hT]
           exact hc
         cases hc
       cases hc
     exact gen_ok o n
   · rename_i x T hop
     split
     · rename_i e' hT
       refine quick_ok hp fun E h c hc=>?_
       rw [hop]
       rw [rdo_eq] at hc
       split at hc
       · rename_i t o' N sz cc hx
         show qv18 P E h x T=_
         unfold qv18
         rw [hx]
         simp only [hT]
         exact hc
       · rename_i hx
         show qv18 P E h x T=_
         unfold qv18
         rw [hx]
         simp only [hT]
         exact hc
       cases hc
     exact gen_ok o n
   · rename_i T hop
     exact quickW_ok hp (fun E h=>by rw [hop];rfl) fun E h nx=>by rw [hop];rfl
   · rename_i T x hop
     exact quickW_ok hp (fun E h=>by rw [hop];rfl) fun E h nx=>by rw [hop];rfl
   · rename_i T x y hop
     exact quickW_ok hp (fun E h=>by rw [hop];rfl) fun E h nx=>by rw [hop];rfl
   · rename_i T m parts hop
     exact quickW_ok hp (fun E h=>by rw [hop];rfl) fun E h nx=>by rw [hop];rfl
   · rename_i T x y hop
     exact quickW_ok hp (fun E h=>by rw [hop];rfl) fun E h nx=>by rw [hop];rfl
   · rename_i s x T tx hop
     exact quickW_ok hp (fun E h=>by rw [hop];rfl) fun E h nx=>by rw [hop];rfl
   · rename_i f args ats hop
     exact quickC_ok (fun E h=>by rw [hop];rfl) fun E h nx=>by rw [hop];rfl
   · rename_i b t x y tt hop
     split
     · exact gen_ok o n
     · exact gen_ok o n
     rename_i hb1 hb2
     refine quick_ok hp fun E h c hc=>?_
     rw [hop]
     rw [rdo_eq,rdo_eq] at hc
     obtain ⟨k,m,m',e1,k',e2,e3,e4⟩:=withI_ok hc
     rw [bsel_eq] at e4
     show qv5 P E h b t x y=_
     unfold qv5
     rw [e1]
     simp only [e2]
     have e5:sh b k m m'=none:=by
      cases b <;> first | rfl | exact absurd rfl hb1 | exact absurd rfl hb2
     rw [e5]
     simp only [e3,cond_true]
     exact e4
   exact gen_ok o n
 exact gen_ok o n
noncomputable def rops (l:List Co):(Cmd→Res)→Tr CV→Tr CB→Nat→Kt→Res:=
 List.rec (motive:=fun _=>(Cmd→Res)→Tr CV→Tr CB→Nat→Kt→Res) (fun _ E h nx k=>k E h nx) (fun a _ r ih E h nx k=>a.run ih E h nx (fun E h nx=>r ih E h nx k)) l
noncomputable def cops (P:Program) (pr:Prims) (n:Nat) (l:List Oper):List Co:=List.rec (motive:=fun _=>List Co) [] (fun o _ ih=>cop P pr o n :: ih) l
noncomputable def plainL (l:List Oper):Bool:=List.rec (motive:=fun _=>Bool) true (fun o _ ih=>(match o.guard with | none=>true | some _=>false) && ih) l
noncomputable def orc1 (c1:Cmd) (r1:Res):Cmd→Res:=fun c=>open Classical in if c=c1 then r1 else .bad 0 []
theorem orc1_tru {c1:Cmd} {r1:Res} (H:Does1 P Φ c1 r1):Tru P Φ (orc1 c1 r1):=fun c=>by
 unfold orc1
 split
 · rename_i e;subst e;exact H
 exact does_bad c 0 []
theorem orc1_eq (c1:Cmd) (r1:Res):orc1 c1 r1 c1=r1:=by unfold orc1;rw [if_pos rfl]
noncomputable def orc2 (c1:Cmd) (r1:Res) (c2:Cmd) (r2:Res):Cmd→Res:=fun c=>open Classical in if c=c1 then r1 else if c=c2 then r2 else .bad 0 []
theorem orc2_tru {c1 c2:Cmd} {r1 r2:Res} (H1:Does1 P Φ c1 r1) (H2:Does1 P Φ c2 r2):Tru P Φ (orc2 c1 r1 c2 r2):=fun c=>by
 unfold orc2
 split
 · rename_i e;subst e;exact H1
 split
 · rename_i e;subst e;exact H2
 exact does_bad c 0 []
theorem orc2_1 (c1:Cmd) (r1:Res) (c2:Cmd) (r2:Res):orc2 c1 r1 c2 r2 c1=r1:=by unfold orc2;rw [if_pos rfl]
theorem orc2_2 {c1 c2:Cmd} (h:c2≠c1) (r1 r2:Res):orc2 c1 r1 c2 r2 c2=r2:=by unfold orc2;rw [if_neg h,if_pos rfl]
theorem ops_rule {all rest:List Oper} {o:Oper} {n:Nat} {E E1 E2:Tr CV} {h h1 h2:Tr CB} {nx nx1 nx2:Nat} (hg:o.guard=none) (H1:Does1 P Φ (.one o n E h nx) (.ok .normal E1 h1 nx1)) (H2:Does1 P Φ (.ops all rest n E1 h1 nx1) (.ok .normal E2 h2 nx2)):Does1 P Φ (.ops all (o :: rest) n E h nx) (.ok .normal E2 h2 nx2):=by
 have H:=step_ops (pr:=[]) (orc2_tru H1 H2) all (o :: rest) n E h nx
 have e:step P [] (orc2 (.one o n E h nx) (.ok .normal E1 h1 nx1) (.ops all rest n E1 h1 nx1) (.ok .normal E2 h2 nx2)) (.ops all (o :: rest) n E h nx)=Res.ok .normal E2 h2 nx2:=by
  show step2 P [] _ all (o :: rest) n E h nx=_
  unfold step2
  simp only [hg,orc2_1]
  exact orc2_2 (by intro h;cases h) _ _
 rw [e] at H
 exact H
theorem ops_nil (all:List Oper) (n:Nat) (E:Tr CV) (h:Tr CB) (nx:Nat):Does1 P Φ (.ops all [] n E h nx) (.ok .normal E h nx):=step_ops (pr:=[]) (bad_tru (P:=P) (Φ:=Φ)) all [] n E h nx
theorem rops_ok {ih:Cmd→Res} (H:Tru P Φ ih) (all:List Oper) (n:Nat):∀ (l:List Oper) (E:Tr CV) (h:Tr CB) (nx:Nat),plainL l=true→TotO (rops (cops P pr n l) ih E h nx) (fun E' h' nx'=>Does1 P Φ (.ops all l n E h nx) (.ok .normal E' h' nx'))
 | [],E,h,nx,_=>.inr ⟨E,h,nx,fun k=>rfl,ops_nil all n E h nx⟩
 | o :: l,E,h,nx,hl=>by
   have hl':((match o.guard with | none=>true | some _=>false) && plainL l)=true:=hl
   rw [Bool.and_eq_true] at hl'
   have hg:o.guard=none:=by cases hgg:o.guard with | none=>rfl | some x=>rw [hgg] at hl';cases hl'.1
   have H1:=cop_ok (pr:=pr) o n ih H E h nx
   show TotO (fun k=>(cop P pr o n).run ih E h nx (fun E h nx=>rops (cops P pr n l) ih E h nx k)) _
   rcases H1 with ⟨w,a,hb⟩ | ⟨E1,h1,nx1,hk,hd⟩
   · exact .inl ⟨w,a,fun k=>hb _⟩
   rcases rops_ok H all n l E1 h1 nx1 hl'.2 with ⟨w,a,hb⟩ | ⟨E2,h2,nx2,hk2,hd2⟩
   · exact .inl ⟨w,a,fun k=>(hk _).trans (hb k)⟩
   exact .inr ⟨E2,h2,nx2,fun k=>(hk _).trans (hk2 k),ops_rule hg hd hd2⟩
end
end Go.Sl.Ev
namespace Go.Sl.Ev
open Go Go.Sl
abbrev Pd:=List (Nat×Nat×Nat)
structure Cr where
 run:(Cmd→Res)→Pd→Tr CV→Tr CB→Nat→Kt→Res
noncomputable def pendL (o:Oper) (i nx:Nat) (E:Tr CV) (pend:Pd):Pd:=match rdT E o.op with | some t=>(t,i,nx) :: pend | none=>pend
noncomputable def creg (P:Program) (pr:Prims) (n:Nat) (l:List Oper) (plan:List (Nat×Pk)):Cr:=List.rec (motive:=fun _=>Cr) ⟨fun _ _ E h nx k=>k E h nx⟩ (fun x _ r=>match nth l x.1 with
 | some o=>(match o.guard with
   | none=>(match puto n o.dst with
     | some p=>(match x.2 with
       | .look=>⟨fun ih pend E h nx k=>Option.rec (motive:=fun _=>Res) (.bad 26 [o]) (fun c=>r.run ih (pendL o x.1 nx E pend) (p.run c E) h nx k) (qv P E h o.op)⟩
       | .only=>⟨fun ih pend E h nx k=>(cop P pr o n).run ih E h nx (fun E h nx=>bif keepP h (dropP o pend) then r.run ih (dropP o pend) E h nx k else .bad 28 [o])⟩
       | .race R=>⟨fun ih pend E h nx k=>bif raceQ P l R n (killE l R E) h nx then (cop P pr o n).run ih (killE l R E) h nx (fun E h nx=>bif keepP h (dropP o pend) then r.run ih (dropP o pend) E h nx k else .bad 28 [o]) else .bad 32 [o]⟩
       | .make R=>⟨fun ih pend E h nx k=>bif raceQ P l R n (killE l R E) h nx then (match wm P (killE l R E) h nx o.op with | .val c h nx=>r.run ih (dropP o pend) (p.run c (killE l R E)) h nx k | _=>.bad 34 [o]) else .bad 35 [o]⟩)
     | none=>⟨fun _ _ _ _ _ _=>.bad 25 [o]⟩)
   | some _=>⟨fun _ _ _ _ _ _=>.bad 30 [o]⟩)
 | none=>⟨fun _ _ _ _ _ _=>.bad 31 []⟩) plan
section
variable {P:Program} {Φ:Imm→Prop} {pr:Prims}
theorem reg_orc {c':Cmd} {r r':Res} (H:Does1 P Φ c' r) (l:List Oper) (plan:List (Nat×Pk)) (pend:Pd) (n:Nat) (E:Tr CV) (h:Tr CB) (nx:Nat) (e:step P [] (orc1 c' r) (.reg l plan pend n E h nx)=r'):Does1 P Φ (.reg l plan pend n E h nx) r':=by
 rw [←e];exact step_reg (orc1_tru H) l plan pend n E h nx
theorem gd_none {l:List Oper} {E:Tr CV} {o:Oper} (h:o.guard=none):gdQ l E o=some true:=by unfold gdQ;rw [h]
theorem reg_look {l:List Oper} {plan:List (Nat×Pk)} {pend:Pd} {n i:Nat} {E E':Tr CV} {h:Tr CB} {nx:Nat} {o:Oper} {c:CV} {r:Res} (hl:nth l i=some o) (hg:o.guard=none) (hq:qv P E h o.op=some c) (hp:putE E n o.dst c=some E')
 (H:Does1 P Φ (.reg l plan (pendL o i nx E pend) n E' h nx) r):Does1 P Φ (.reg l ((i,.look) :: plan) pend n E h nx) r:=by
 refine reg_orc H l _ pend n E h nx ?_
 show step4 P [] _ l ((i,.look) :: plan) pend n E h nx=_
 unfold step4
 simp only [hl,gd_none hg,cond_true,hq,hp]
 exact orc1_eq _ _
theorem reg_write {l:List Oper} {plan:List (Nat×Pk)} {pend:Pd} {n i:Nat} {E E':Tr CV} {h h':Tr CB} {nx nx':Nat} {o:Oper} {r:Res} (hl:nth l i=some o) (hg:o.guard=none) (H1:Does1 P Φ (.one o n E h nx) (.ok .normal E' h' nx')) (hk:keepP h' (dropP o pend)=true)
 (H2:Does1 P Φ (.reg l plan (dropP o pend) n E' h' nx') r):Does1 P Φ (.reg l ((i,.only) :: plan) pend n E h nx) r:=by
 have H:=step_reg (pr:=[]) (orc2_tru H1 H2) l ((i,.only) :: plan) pend n E h nx
 have e:step P [] (orc2 (.one o n E h nx) (.ok .normal E' h' nx') (.reg l plan (dropP o pend) n E' h' nx') r) (.reg l ((i,.only) :: plan) pend n E h nx)=r:=by
  show step4 P [] _ l ((i,.only) :: plan) pend n E h nx=_
  unfold step4
  simp only [hl,gd_none hg,cond_true,cond_false,orc2_1,hk]
  exact orc2_2 (by intro h;cases h) _ _
 rw [e] at H
 exact H
theorem reg_race {l:List Oper} {plan:List (Nat×Pk)} {R:List Nat} {pend:Pd} {n i:Nat} {E E':Tr CV} {h h':Tr CB} {nx nx':Nat} {o:Oper} {r:Res} (hl:nth l i=some o) (hq:raceQ P l R n (killE l R E) h nx=true) (H1:Does1 P Φ (.one o n (killE l R E) h nx) (.ok .normal E' h' nx')) (hk:keepP h' (dropP o pend)=true)
 (H2:Does1 P Φ (.reg l plan (dropP o pend) n E' h' nx') r):Does1 P Φ (.reg l ((i,.race R) :: plan) pend n E h nx) r:=by
 have H:=step_reg (pr:=[]) (orc2_tru H1 H2) l ((i,.race R) :: plan) pend n E h nx
 have e:step P [] (orc2 (.one o n (killE l R E) h nx) (.ok .normal E' h' nx') (.reg l plan (dropP o pend) n E' h' nx') r) (.reg l ((i,.race R) :: plan) pend n E h nx)=r:=by
  show step4 P [] _ l ((i,.race R) :: plan) pend n E h nx=_
  unfold step4
  simp only [hl,hq,cond_true,orc2_1,hk]
  exact orc2_2 (by intro h;cases h) _ _
 rw [e] at H
 exact H
theorem reg_make {l:List Oper} {plan:List (Nat×Pk)} {R:List Nat} {pend:Pd} {n i:Nat} {E E':Tr CV} {h h':Tr CB} {nx nx':Nat} {o:Oper} {c:CV} {r:Res} (hl:nth l i=some o) (hq:raceQ P l R n (killE l R E) h nx=true) (hw:wm P (killE l R E) h nx o.op=.val c h' nx') (hp:putE (killE l R E) n o.dst c=some E')
 (H:Does1 P Φ (.reg l plan (dropP o pend) n E' h' nx') r):Does1 P Φ (.reg l ((i,.make R) :: plan) pend n E h nx) r:=by
 refine reg_orc H l _ pend n E h nx ?_
 show step4 P [] _ l ((i,.make R) :: plan) pend n E h nx=_
 unfold step4
 simp only [hl,hq,cond_true,hw,hp]
 exact orc1_eq _ _
theorem creg_ok {ih:Cmd→Res} (H:Tru P Φ ih) (l:List Oper) (n:Nat):∀ (plan:List (Nat×Pk)) (pend:Pd) (E:Tr CV) (h:Tr CB) (nx:Nat),TotO ((creg P pr n l plan).run ih pend E h nx) (fun E' h' nx'=>Does1 P Φ (.reg l plan pend n E h nx) (.ok .normal E' h' nx'))
 | [],pend,E,h,nx=>.inr ⟨E,h,nx,fun k=>rfl,step_reg (pr:=[]) (bad_tru (P:=P) (Φ:=Φ)) l [] pend n E h nx⟩
 | (i,lk) :: plan,pend,E,h,nx=>by
   show TotO ((match nth l i with
    | some o=>(match o.guard with
      | none=>(match puto n o.dst with
        | some p=>((match lk with
          | .look=>⟨fun ih pend E h nx k=>Option.rec (motive:=fun _=>Res) (.bad 26 [o]) (fun c=>(creg P pr n l plan).run ih (pendL o i nx E pend) (p.run c E) h nx k) (qv P E h o.op)⟩
          | .only=>⟨fun ih pend E h nx k=>(cop P pr o n).run ih E h nx (fun E h nx=>bif keepP h (dropP o pend) then (creg P pr n l plan).run ih (dropP o pend) E h nx k else .bad 28 [o])⟩
          | .race R=>⟨fun ih pend E h nx k=>bif raceQ P l R n (killE l R E) h nx then (cop P pr o n).run ih (killE l R E) h nx (fun E h nx=>bif keepP h (dropP o pend) then (creg P pr n l plan).run ih (dropP o pend) E h nx k else .bad 28 [o]) else .bad 32 [o]⟩
          | .make R=>⟨fun ih pend E h nx k=>bif raceQ P l R n (killE l R E) h nx then (match wm P (killE l R E) h nx o.op with | .val c h nx=>(creg P pr n l plan).run ih (dropP o pend) (p.run c (killE l R E)) h nx k | _=>.bad 34 [o]) else .bad 35 [o]⟩):Cr)
        | none=>⟨fun _ _ _ _ _ _=>.bad 25 [o]⟩)
      | some _=>⟨fun _ _ _ _ _ _=>.bad 30 [o]⟩)
    | none=>⟨fun _ _ _ _ _ _=>.bad 31 []⟩).run ih pend E h nx) _
   cases hl:nth l i with
   | none=>exact .inl ⟨31,[],fun k=>rfl⟩
   | some o =>
     simp only
     cases hg:o.guard with
     | some g=>exact .inl ⟨30,[o],fun k=>rfl⟩
     | none =>
       simp only
       cases hp:puto n o.dst with
       | none=>exact .inl ⟨25,[o],fun k=>rfl⟩
       | some p =>
         simp only
         cases lk with
         | look =>
           show TotO (fun k=>Option.rec (motive:=fun _=>Res) (.bad 26 [o]) (fun c=>(creg P pr n l plan).run ih (pendL o i nx E pend) (p.run c E) h nx k) (qv P E h o.op)) _
           cases hq:qv P E h o.op with
           | none=>exact .inl ⟨26,[o],fun k=>rfl⟩
           | some c =>
             rcases creg_ok H l n plan (pendL o i nx E pend) (p.run c E) h nx with ⟨w,a,hb⟩ | ⟨E2,h2,nx2,hk,hd⟩
             · exact .inl ⟨w,a,fun k=>hb k⟩
             · exact .inr ⟨E2,h2,nx2,fun k=>hk k,reg_look hl hg hq (puto_eq hp E c) hd⟩
         | only =>
           show TotO (fun k=>(cop P pr o n).run ih E h nx (fun E h nx=>bif keepP h (dropP o pend) then (creg P pr n l plan).run ih (dropP o pend) E h nx k else .bad 28 [o])) _
           rcases cop_ok (pr:=pr) o n ih H E h nx with ⟨w,a,hb⟩ | ⟨E1,h1,nx1,hk1,hd1⟩
           · exact .inl ⟨w,a,fun k=>hb _⟩
           · cases hkp:keepP h1 (dropP o pend) with
             | false=>exact .inl ⟨28,[o],fun k=>(hk1 _).trans (by rw [hkp];rfl)⟩
             | true =>
               rcases creg_ok H l n plan (dropP o pend) E1 h1 nx1 with ⟨w,a,hb⟩ | ⟨E2,h2,nx2,hk,hd⟩
               · exact .inl ⟨w,a,fun k=>(hk1 _).trans (by rw [hkp];exact hb k)⟩
               · exact .inr ⟨E2,h2,nx2,fun k=>(hk1 _).trans (by rw [hkp];exact hk k),reg_write hl hg hd1 hkp hd⟩
         | race R =>
           show TotO (fun k=>bif raceQ P l R n (killE l R E) h nx then (cop P pr o n).run ih (killE l R E) h nx (fun E h nx=>bif keepP h (dropP o pend) then (creg P pr n l plan).run ih (dropP o pend) E h nx k else .bad 28 [o]) else .bad 32 [o]) _
           cases hq:raceQ P l R n (killE l R E) h nx with
           | false=>exact .inl ⟨32,[o],fun k=>rfl⟩
           | true =>
             simp only [cond_true]
             rcases cop_ok (pr:=pr) o n ih H (killE l R E) h nx with ⟨w,a,hb⟩ | ⟨E1,h1,nx1,hk1,hd1⟩
             · exact .inl ⟨w,a,fun k=>hb _⟩
             · cases hkp:keepP h1 (dropP o pend) with
               | false=>exact .inl ⟨28,[o],fun k=>(hk1 _).trans (by rw [hkp];rfl)⟩
               | true =>
                 rcases creg_ok H l n plan (dropP o pend) E1 h1 nx1 with ⟨w,a,hb⟩ | ⟨E2,h2,nx2,hk,hd⟩
                 · exact .inl ⟨w,a,fun k=>(hk1 _).trans (by rw [hkp];exact hb k)⟩
                 · exact .inr ⟨E2,h2,nx2,fun k=>(hk1 _).trans (by rw [hkp];exact hk k),reg_race hl hq hd1 hkp hd⟩
         | make R =>
           show TotO (fun k=>bif raceQ P l R n (killE l R E) h nx then (match wm P (killE l R E) h nx o.op with | .val c h nx=>(creg P pr n l plan).run ih (dropP o pend) (p.run c (killE l R E)) h nx k | _=>.bad 34 [o]) else .bad 35 [o]) _
           cases hq:raceQ P l R n (killE l R E) h nx with
           | false=>exact .inl ⟨35,[o],fun k=>rfl⟩
           | true =>
             simp only [cond_true]
             cases hw:wm P (killE l R E) h nx o.op with
             | bad=>exact .inl ⟨34,[o],fun k=>rfl⟩
             | unit _ _=>exact .inl ⟨34,[o],fun k=>rfl⟩
             | val c h1 nx1 =>
               rcases creg_ok H l n plan (dropP o pend) (p.run c (killE l R E)) h1 nx1 with ⟨w,a,hb⟩ | ⟨E2,h2,nx2,hk,hd⟩
               · exact .inl ⟨w,a,fun k=>hb k⟩
               exact .inr ⟨E2,h2,nx2,fun k=>hk k,reg_make hl hq hw (puto_eq hp _ c) hd⟩
end
end Go.Sl.Ev
