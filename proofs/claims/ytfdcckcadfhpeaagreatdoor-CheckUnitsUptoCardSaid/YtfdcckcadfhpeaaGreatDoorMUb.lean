/- Parts of the proof (part 2): what the rows' text needs of the texts that lead to it. -/
import Derived.Test.YtfdcckcadfhpeaaGreatDoorMUa
set_option linter.unusedVariables false
set_option linter.unusedSimpArgs false
set_option linter.unusedSectionVars false
namespace Go.Sl
open Go Go.ChangeShapes Go.WideShapes Go.RowKit
def heapG (W:World):Imm:=fun b=>W.heap[b]?
theorem holdG (W:World):HoldH [] (heapG W) W:=
 ⟨fun t b o h=>by simp [Hp.get] at h,fun t t' b o o' h=>by simp [Hp.get] at h,fun b o h=>h,fun t b o h=>by simp [Hp.get] at h⟩
theorem upd_below {W W':World} (h:Upd (Hp.has []) W W'):Below W.heap.size W W':=
 ⟨h.os,h.tape,h.output,h.size,fun k hk=>h.same k hk (fun ⟨t,o,hx⟩=>by simp [Hp.get] at hx)⟩
section
variable {H:Type} {enc:TypeId×Value→H} {P:Program}
theorem trodAll_stays (hl:laidOutB P=true) {W W':World} {sp':Nat→Bool}:∀ {ts:List TypeId} {vs:List Value} {ds:List (DataW H)} {ps:List MemPlace},(ts.all fun t=>P.readableRec t && decide (t<P.types.size))=true→
 DataW.TrodAll enc P W 0 (fun _=>true) true ts vs ds ps→(∀ p∈ps,W.sameAt W' p)→(∀ p∈ps,sp' p.block=true)→DataW.TrodAll enc P W' 0 sp' true ts vs ds ps
 | [],_,_,_,_,h,_,_=>by
   obtain ⟨rfl,rfl,rfl⟩:=trodAll_nil h
   exact trodAll_mk0
 | t :: ts,_,_,_,hr,h,hs,hp=>by
   obtain ⟨v,vs,d,ds,p,q,rfl,rfl,rfl,h1,h2⟩:=trodAll_cons h
   simp only [List.all_cons,Bool.and_eq_true,decide_eq_true_eq] at hr
   exact ⟨p,q,WideElems.Trod_stays hl hr.1.1 hr.1.2 h1 (fun x hx=>hs x (by simp [hx])) (fun x hx=>hp x (by simp [hx])),
    trodAll_stays hl hr.2 h2 (fun x hx=>hs x (by simp [hx])) (fun x hx=>hp x (by simp [hx])),rfl⟩
theorem trodAll_len {w:World} {base:Nat} {sp:Nat→Bool} {hd:Bool}:∀ {ts:List TypeId} {vs:List Value} {ds:List (DataW H)} {ps:List MemPlace},DataW.TrodAll enc P w base sp hd ts vs ds ps→ds.length=ts.length
 | [],_,_,_,h=>by obtain ⟨rfl,rfl,rfl⟩:=trodAll_nil h;rfl
 | t :: ts,_,_,_,h=>by
   obtain ⟨v,vs,d,ds,p,q,rfl,rfl,rfl,h1,h2⟩:=trodAll_cons h
   simp [trodAll_len h2]
theorem law_calls {f:Func} {n:FuncId} {s:ChangeSpec} {tb:TypeId} {apart fresh handsOn again:Bool} (hl:laidOutB P=true) (hr:(f.params.toList.all fun t=>P.readableRec t && decide (t<P.types.size))=true) (hres:f.resultTypes=#[tb]) (hb:P.underlying tb=some .bool)
 (hv:s.vars=[]) (hs:∀ ds:List (DataW H),ds.length=f.params.toList.length→s.fn H ds={ results:=[.lit (.bool true)],args:=ds }) {W:World} {args:Array Value} {ds gs:List (DataW H)} {before:List MemPlace}
 (hW:DataW.Whole enc P f.params.toList s.vars apart W args.toList ds gs before) (hd:Does P n args.toList (heapG W) [] (fun v _ _=>v=.bool true)) :
 Calls P n args W fun e W'=>∃ v,e=.returned v∧s.post enc P f apart fresh handsOn again W args v W':=by
 refine (hd W (holdG W)).mono fun e W' ⟨v,G',Ho,he,q1,q2,q3,q4,q5,hvv⟩=>⟨v,he,?_⟩
 subst hvv
 have hbel:=upd_below q3
 have hW':=hW
 have hlt:=hW.lt
 obtain ⟨p,q,hA,hV,rfl,hz,hn⟩:=hW
 rw [hv] at hV
 obtain ⟨rfl,rfl⟩:=trodVars_none hV
 simp only [List.append_nil] at hW' hlt hz hn
 have hlen:=trodAll_len hA
 have hspec:=hs ds hlen
 have hres':∀ (b:Nat) (sp:Nat→Bool) (hd:Bool),DataW.TrodAll enc P W' b sp hd f.resultTypes.toList ((Value.bool true).resultList f.resultTypes.size) (s.fn H (ds++[])).results []:=fun b sp hd=>by
  rw [List.append_nil,hspec,hres]
  exact ⟨[],[],shut_bool hb _,trodAll_mk0,rfl⟩
 have hargs:∀ sp:Nat→Bool,(∀ x∈p,sp x.block=true)→DataW.TrodAll enc P W' 0 sp true f.params.toList args.toList (s.fn H (ds++[])).args p:=fun sp hsp=>by
  rw [List.append_nil,hspec]
  exact trodAll_stays hl hr hA (fun x hx=>hbel.same (hlt x hx)) hsp
 have hvars:∀ sp:Nat→Bool,DataW.TrodVars enc P W' sp s.vars (s.fn H (ds++[])).vars []:=fun sp=>by
  rw [List.append_nil,hspec,hv];exact rfl
 have hold:∀ x∈p,(fun b=>decide (b<W.heap.size)) x.block=true:=fun x hx=>by simpa using hlt x hx
 refine ⟨ds,[],p,[],p,[],by simpa using hW',hres' _ _ _,hargs _ hold,hvars _,World.keptBut_mono (fun x hx=>⟨hx,.inr (by simpa using hx)⟩) (hbel.frame _),fun _=>?_⟩
 refine ⟨ok_one hres rfl (okWide_bool_mk hb _),_,_,([]++p)++[],⟨[]++p,[],trodAll_append (hargs _ (fun _ _=>rfl)) (hres' _ _ _),hvars _,rfl,?_,?_⟩,?_⟩
 · intro b off hp
   have hp':MemPlace.cell b off∈p:=by simpa using hp
   rw [hbel.frozen (by exact hlt _ hp')]
   exact hz b off hp'
 · intro ha
   simpa using hn ha
 intro x hx _
 simpa using hx
end
theorem cell_heapG {W:World} {b o:Nat} {v:Value} (h:W.cell? ⟨b,o,none⟩=some v):(heapG W).cell b o=some v:=by
 unfold World.cell? at h
 unfold Imm.cell heapG
 split at h
 · rename_i c t fz hb
   rw [show W.heap[b]?=some (.cells c t fz) from hb]
   exact h
 cases h
theorem cell_spot {W:World} {a:Addr} {v:Value} (h:W.cell? a=some v):a.spot=none:=by
 unfold World.cell? at h
 split at h
 · cases hs:a.spot with
   | none=>rfl
   | some x=>simp [hs] at h
 cases h
theorem add_spot {a:Addr} {i:Nat} (h:(a.add i).spot=none) (ha:i=0∨True):a.add i=⟨a.block,a.off+i,none⟩:=by
 unfold Addr.add at h ⊢
 split
 · rename_i h0
   subst h0
   rw [if_pos rfl] at h
   cases a
   simp_all
 rfl
section
variable {H:Type} {enc:TypeId×Value→H} {P:Program} {α:Type} [Cells α] [Inhabited α]
def Dec (enc:TypeId×Value→H) (P:Program) (W:World) (E:TypeId) (Good:α→DataW H→Prop):Prop:=
 ∀ (n:Nat) (cs:List Value) (x:DataW H×List MemPlace),DataW.trod enc P W 0 (fun _=>true) true n E cs=some x→∃ y:α,cs=Cells.enc y∧Good y x.1
theorem row_of_cells {W:World} {b o:Nat} {xs:List α} (h:∀ i,i<xs.length→∀ j,j<Cells.sz α→W.cell? ⟨b,o+(i*Cells.sz α+j),none⟩=(Cells.enc (xs[i]?.getD default))[j]?) (h0:0<Cells.sz α):(heapG W).row b o (flat xs):=by
 intro q v hq
 have hlt:q<(flat xs).length:=(List.getElem?_eq_some_iff.1 hq).1
 rw [flat_length] at hlt
 have h1:q=(q / Cells.sz α)*Cells.sz α+q % Cells.sz α:=by rw [Nat.mul_comm];exact (Nat.div_add_mod q _).symm
 have h2:q % Cells.sz α<Cells.sz α:=Nat.mod_lt _ h0
 have h3:q / Cells.sz α<xs.length:=(Nat.div_lt_iff_lt_mul h0).2 hlt
 have h4:=flat_get xs _ _ h3 h2
 rw [←h1,hq] at h4
 have h5:=h _ h3 _ h2
 rw [←h1,←h4] at h5
 exact cell_heapG h5
theorem open_arr {W:World} {T E:TypeId} {Good:α→DataW H→Prop} {fuel:Nat} {cs:List Value} {x:DataW H×List MemPlace} (ht:P.underlying T=some (.slice E)) (hsz:P.cellsOf E=Cells.sz α) (h0:0<Cells.sz α)
 (dec:Dec (α:=α) enc P W E Good) (h:DataW.trod enc P W 0 (fun _=>true) true fuel T cs=some x) :
 ∃ (a:Option Addr) (cap:Nat) (xs:List α),cs=[.slice a xs.length cap]∧Arr (heapG W) a xs∧xs.length≤cap∧
  ((x.1=.nil∧xs=[])∨∃ l r,x.1=.slice l r∧l.length=xs.length∧∀ i,i<xs.length→∃ d,l[i]?=some d∧Good (xs[i]?.getD default) d):=by
 rcases Deep.open_slice ht h with ⟨rfl,rfl⟩ | ⟨a,len,cap,m,n,D,Pl,rfl,hb,hlc,hm,hmm,rfl,hx⟩
 · exact ⟨none,0,[],rfl,Arr.nil _,Nat.le_refl _,.inl ⟨rfl,rfl⟩⟩
 have hml:m=cap:=by rw [hmm];simp
 have hel:∀ i,i<len→∃ y:α,W.cells? 0 (a.add (i*Cells.sz α)) (Cells.sz α)=some (Cells.enc y)∧Good y (D i):=fun i hi=>by
  obtain ⟨cs',h1,h2⟩:=hx i (by omega)
  obtain ⟨y,rfl,hg⟩:=dec _ _ _ h2
  rw [hsz] at h1
  exact ⟨y,h1,hg⟩
 obtain ⟨Y,hY⟩:=Deep.choose_lt hel
 have hlen:((List.range len).map Y).length=len:=by simp
 have hget:∀ i,i<len→((List.range len).map Y)[i]?.getD default=Y i:=fun i hi=>by simp [hi]
 refine ⟨some a,cap,(List.range len).map Y,by rw [hlen],⟨flat_length _,?_⟩,by rw [hlen];exact hlc,.inr ⟨_,_,rfl,by simp,fun i hi=>?_⟩⟩
 · rw [hlen]
   rcases Nat.eq_zero_or_pos len with h00 | hpos
   · exact .inl h00
   refine .inr ⟨a.block,a.off,?_,?_⟩
   · have h1:=(World.cells?_some (hY 0 hpos).1).2.2 0 h0
     rw [Nat.zero_mul] at h1
     have h2:∃ v,(Cells.enc (Y 0))[0]?=some v:=⟨_,List.getElem?_eq_getElem (by rw [Cells.len];exact h0)⟩
     obtain ⟨v,hv⟩:=h2
     rw [hv] at h1
     have h3:=cell_spot h1
     cases a
     simp only [Addr.add] at h3
     simp_all
   refine row_of_cells (fun i hi j hj=>?_) h0
   rw [hlen] at hi
   rw [hget i hi]
   have h1:=(World.cells?_some (hY i hi).1).2.2 j hj
   have h2:∃ v,(Cells.enc (Y i))[j]?=some v:=⟨_,List.getElem?_eq_getElem (by rw [Cells.len];exact hj)⟩
   obtain ⟨v,hv⟩:=h2
   rw [hv] at h1 ⊢
   rw [Deep.add_add] at h1
   have h3:=cell_spot h1
   rw [add_spot h3 (.inr trivial)] at h1
   exact h1
 rw [hlen] at hi
 rw [hget i hi]
 exact ⟨D i,by simp [hi],(hY i hi).2⟩
theorem dec_int {W:World} {E:TypeId} (he:P.underlying E=some (.int .i64)):Dec (α:=Int) enc P W E (fun y d=>d=.lit (.int .i64 y)∧(Lit.int .i64 y).wf=true):=fun n cs x h=>by
 obtain ⟨k,rfl,rfl,hw⟩:=DataW.trod_int he h
 exact ⟨k,rfl,rfl,hw⟩
theorem dec_instr {W:World} {E Ti:TypeId} {f0 f1 f2 f3 f4:Field} (hi:P.underlying Ti=some (.int .i64)) (hs:P.underlying E=some (.struct #[f0,f1,f2,f3,f4]))
 (h0:f0.type=Ti∧f0.offset=0) (h1:f1.type=Ti∧f1.offset=1) (h2:f2.type=Ti∧f2.offset=2) (h3:f3.type=Ti∧f3.offset=3) (h4:f4.type=Ti∧f4.offset=4) (hc:P.cellsOf Ti=1) (hcE:P.cellsOf E=5) :
 Dec (α:=Instr) enc P W E (fun _ _=>True):=fun n cs x h=>by
 obtain ⟨xs,m,_,_,hl,hxl,hf⟩:=DataW.trod_struct hs h
 rw [hcE] at hl
 match cs,hl with
 | [v0,v1,v2,v3,v4],_ =>
   have hxl':xs.length=5:=hxl
   match xs,hxl' with
   | [y0,y1,y2,y3,y4],_ =>
     have k0:=hf 0 f0 rfl;have k1:=hf 1 f1 rfl;have k2:=hf 2 f2 rfl;have k3:=hf 3 f3 rfl;have k4:=hf 4 f4 rfl
     rw [h0.1,h0.2,hc] at k0;rw [h1.1,h1.2,hc] at k1;rw [h2.1,h2.2,hc] at k2;rw [h3.1,h3.2,hc] at k3;rw [h4.1,h4.2,hc] at k4
     obtain ⟨a0,e0,_,_⟩:=DataW.trod_int hi k0
     obtain ⟨a1,e1,_,_⟩:=DataW.trod_int hi k1
     obtain ⟨a2,e2,_,_⟩:=DataW.trod_int hi k2
     obtain ⟨a3,e3,_,_⟩:=DataW.trod_int hi k3
     obtain ⟨a4,e4,_,_⟩:=DataW.trod_int hi k4
     simp at e0 e1 e2 e3 e4
     exact ⟨⟨a0,a1,a2,a3,a4⟩,by rw [e0,e1,e2,e3,e4];rfl,trivial⟩
end
end Go.Sl
namespace Go.Proofs.YtfdcckcadfhpeaaGreatDoor
open Go Go.Sl Go.ChangeShapes Go.WideShapes Go.RowKit Go.Joins
set_option maxRecDepth 100000
abbrev laidL : List (String × DataW Unit) := [("math/bits.deBruijn32tab", Rows.laid_math_bits_deBruijn32tab), ("math/bits.deBruijn64tab", Rows.laid_math_bits_deBruijn64tab)]
def nums64:List Int:=[0,1,56,2,57,49,28,3,61,58,42,50,38,29,17,4,62,47,59,36,45,43,51,22,53,39,33,30,24,18,12,5,63,55,48,27,60,41,37,16,46,35,44,21,52,32,23,11,54,26,40,15,34,20,31,10,25,14,19,9,13,8,7,6]
theorem und4:Tryz.prog.underlying 4=some .bool:=by kernel_rfl
theorem laidOut:laidOutB Tryz.prog=true:=by kernel_rfl
theorem own:ownKnob Tryz.prog.godebug=none:=by kernel_rfl
theorem gTab : Tryz.prog.globalNamed "math/bits.deBruijn64tab" = some 1 := by kernel_rfl
theorem gTabType:(Tryz.prog.globals[1]?).map (·.type)=some 296:=by kernel_rfl
theorem und139:Tryz.prog.underlying 296=some (.array 64 5):=by kernel_rfl
theorem und5:Tryz.prog.underlying 5=some (.int .u8):=by kernel_rfl
theorem cells139:Tryz.prog.cellsOf 296=64:=by kernel_rfl
theorem cells5:Tryz.prog.cellsOf 5=1:=by kernel_rfl
theorem table {W : World} (h : laidMetH Tryz.prog laidL W) : Lib.TabIs Tryz.prog W "math/bits.deBruijn64tab" .u8 nums64 := by
 have h1 := h.filter (fun x => x.1 == "math/bits.deBruijn64tab")
 have e : laidL.filter (fun x => x.1 == "math/bits.deBruijn64tab") = [("math/bits.deBruijn64tab", Rows.laid_math_bits_deBruijn64tab)] := by kernel_rfl
 rw [e] at h1
 exact Lib.tabIs_of_head (rest:=[]) gTab gTabType und139 und5 cells5 cells139 h1
theorem tab_ok {W:World} (h:laidMetH Tryz.prog laidL W):TabOk (heapG W):=fun k v hv=>by
 have hk:k<nums64.length:=by
  have:=(List.getElem?_eq_some_iff.1 hv).1
  simpa [tab64,nums64] using this
 have h1:=(table h).cell gTab k hk
 have h2:=cell_heapG h1
 rw [h2]
 have e:tab64=nums64.map fun n=>.int .u8 n:=rfl
 rw [e,List.getElem?_map,List.getElem?_eq_getElem hk] at hv
 rw [←hv,List.getD_eq_getElem?_getD,List.getElem?_eq_getElem hk];rfl
def refill (cs:Array Value):Obj→Obj
 | .cells _ t frozen=>.cells cs t frozen
 | o=>o
noncomputable def laidWorld (os:Os):World:=
 { World.holding Tryz.prog os ⟨#[],#[],[]⟩ with heap:=((World.holding Tryz.prog os ⟨#[],#[],[]⟩).heap.modify 0 (refill #[.int .u8 0,.int .u8 1,.int .u8 28,.int .u8 2,.int .u8 29,.int .u8 14,.int .u8 24,.int .u8 3,.int .u8 30,.int .u8 22,.int .u8 20,.int .u8 15,.int .u8 25,.int .u8 17,.int .u8 4,.int .u8 8,.int .u8 31,.int .u8 27,.int .u8 13,.int .u8 23,.int .u8 21,.int .u8 19,.int .u8 16,.int .u8 7,.int .u8 26,.int .u8 12,.int .u8 18,.int .u8 6,.int .u8 11,.int .u8 5,.int .u8 10,.int .u8 9])).modify 1 (refill tab64.toArray) }
end Go.Proofs.YtfdcckcadfhpeaaGreatDoor
namespace Go.Sl
open Go
def AllFa (P:Program):List (Nat×Nat×Nat)→Prop
 | []=>True
 | x :: l=>FieldAt P x.1 x.2.1 x.2.2∧AllFa P l
def AllSl (P:Program):List Nat→Prop
 | []=>True
 | x :: l=>(∃ E sz,isSlice P x E sz)∧AllSl P l
def AllOne (P:Program):List Nat→Prop
 | []=>True
 | x :: l=>oneB P x=true∧AllOne P l
def AllAgg (P:Program):List (Nat×Nat)→Prop
 | []=>True
 | x :: l=>(aggB P x.1 x.2=true∧(P.info? x.1).map (·.size)=some x.2)∧AllAgg P l
def AllFn (P:Program):List Nat→Prop
 | []=>True
 | x :: l=>isFn P x∧AllFn P l
class Tab (P:Program) where
 fn:List Nat
 fnP:AllFn P fn
 one:List Nat
 agg:List (Nat×Nat)
 sl:List Nat
 fa:List (Nat×Nat×Nat)
 oneP:AllOne P one
 aggP:AllAgg P agg
 slP:AllSl P sl
 faP:AllFa P fa
def memN:List Nat→Nat→Bool
 | [],_=>false
 | x :: l,t=>bif Nat.beq x t then true else memN l t
def lookN:List (Nat×Nat)→Nat→Option Nat
 | [],_=>none
 | (x,y) :: l,t=>bif Nat.beq x t then some y else lookN l t
def lookF:List (Nat×Nat×Nat)→Nat→Nat→Option Nat
 | [],_,_=>none
 | (x,y,z) :: l,s,f=>bif Nat.beq x s && Nat.beq y f then some z else lookF l s f
theorem bif_cases {α:Type} {b:Bool} {x y z:α} (h:(bif b then x else y)=z):(b=true∧x=z)∨(b=false∧y=z):=by cases b <;> simp_all
theorem memN_one {P:Program}:∀ {l:List Nat} {t:Nat},AllOne P l→memN l t=true→oneB P t=true
 | [],t,_,h=>by cases h
 | x :: l,t,ha,h=>by
   rcases bif_cases h with ⟨h1,_⟩ | ⟨_,h2⟩
   · have:=Nat.eq_of_beq_eq_true h1;subst this;exact ha.1
   exact memN_one ha.2 h2
theorem memN_fn {P:Program}:∀ {l:List Nat} {t:Nat},AllFn P l→memN l t=true→isFn P t
 | [],t,_,h=>by cases h
 | x :: l,t,ha,h=>by
   rcases bif_cases h with ⟨h1,_⟩ | ⟨_,h2⟩
   · have:=Nat.eq_of_beq_eq_true h1;subst this;exact ha.1
   exact memN_fn ha.2 h2
theorem memN_sl {P:Program}:∀ {l:List Nat} {t:Nat},AllSl P l→memN l t=true→∃ E sz,isSlice P t E sz
 | [],t,_,h=>by cases h
 | x :: l,t,ha,h=>by
   rcases bif_cases h with ⟨h1,_⟩ | ⟨_,h2⟩
   · have:=Nat.eq_of_beq_eq_true h1;subst this;exact ha.1
   exact memN_sl ha.2 h2
theorem lookN_agg {P:Program}:∀ {l:List (Nat×Nat)} {t k:Nat},AllAgg P l→lookN l t=some k→aggB P t k=true∧(P.info? t).map (·.size)=some k
 | [],t,k,_,h=>by cases h
 | (x,y) :: l,t,k,ha,h=>by
   rcases bif_cases h with ⟨h1,h2⟩ | ⟨_,h2⟩
   · have:=Nat.eq_of_beq_eq_true h1;subst this;cases h2;exact ha.1
   exact lookN_agg ha.2 h2
theorem lookF_fa {P:Program}:∀ {l:List (Nat×Nat×Nat)} {s f k:Nat},AllFa P l→lookF l s f=some k→FieldAt P s f k
 | [],s,f,k,_,h=>by cases h
 | (x,y,z) :: l,s,f,k,ha,h=>by
   rcases bif_cases h with ⟨h1,h2⟩ | ⟨_,h2⟩
   · simp only [Bool.and_eq_true] at h1
     have h3:=Nat.eq_of_beq_eq_true h1.1
     have h4:=Nat.eq_of_beq_eq_true h1.2
     subst h3;subst h4;cases h2;exact ha.1
   exact lookF_fa ha.2 h2
def ikB:IntKind→IntKind→Bool
 | .i8,.i8 | .i16,.i16 | .i32,.i32 | .i64,.i64 | .u8,.u8 | .u16,.u16 | .u32,.u32 | .u64,.u64=>true
 | _,_=>false
theorem ikB_eq {a b:IntKind} (h:ikB a b=true):a=b:=by cases a <;> cases b <;> first | rfl | cases h
def nth {α:Type}:List α→Nat→Option α
 | [],_=>none
 | x :: l,n=>bif Nat.beq n 0 then some x else nth l (Nat.pred n)
theorem nth_eq {α:Type}:∀ (l:List α) (n:Nat),nth l n=l[n]?
 | [],n=>by simp [nth]
 | x :: l,n=>by
   unfold nth
   cases n with
   | zero=>rfl
   | succ n=>simp only [Nat.beq,cond_false,Nat.pred_succ,nth_eq l n,List.getElem?_cons_succ]
abbrev Rz:=Value×List Nat×Prop
inductive IOp | eql | neq | lss | leq | gtr | geq | add | sub
def iop:BinOp→Option IOp
 | .eql=>some .eql | .neq=>some .neq | .lss=>some .lss | .leq=>some .leq | .gtr=>some .gtr | .geq=>some .geq | .add=>some .add | .sub=>some .sub
 | _=>none
def iev (o:IOp) (k:IntKind) (m n:Int) (hs:List Nat):Option Rz:=
 match o with
 | .eql=>some (.bool (decide (m=n)),hs,True)
 | .neq=>some (.bool (decide (m≠n)),hs,True)
 | .lss=>some (.bool (decide (m<n)),hs,True)
 | .leq=>some (.bool (decide (m≤n)),hs,True)
 | .gtr=>some (.bool (decide (n<m)),hs,True)
 | .geq=>some (.bool (decide (n≤m)),hs,True)
 | .add=>bif ikB k .i64 then some (.int .i64 (m+n),hs,-9223372036854775808≤m+n∧m+n≤9223372036854775807) else none
 | .sub=>bif ikB k .i64 then some (.int .i64 (m - n),hs,-9223372036854775808≤m - n∧m - n≤9223372036854775807) else none
def qev (P:Program) [Tab P] (e:Env) (H:Hp) (hs:List Nat):Op→Option Rz
 | .move x=>match e.ev x with | some v=>some (v,hs,True) | none=>none
 | .assign x=>match e.ev x with | some v=>some (v,hs,True) | none=>none
 | .pick c x y=>match e.ev c with
   | some (.bool b)=>match e.ev (bif b then x else y) with | some v=>some (v,hs,True) | none=>none
   | _=>none
 | .unOp .not _ x=>match e.ev x with | some (.bool b)=>some (.bool (!b),hs,True) | _=>none
 | .binOp o _ x y _=>match iop o with
   | some o=>match e.ev x with
     | some (.int k m)=>match e.ev y with
       | some (.int k' n)=>bif ikB k k' then iev o k m n hs else none
       | _=>none
     | _=>none
   | none=>none
 | .extract x i=>match e.ev x with
   | some (.tuple ⟨vs⟩)=>match nth vs i with | some v=>some (v,hs,True) | none=>none
   | _=>none
 | .nilCheck x=>match e.ev x with
   | some (.pointer (some ad))=>some (.pointer (some ad),hs,True)
   | _=>none
 | .fieldAddr s x f=>match lookF (Tab.fa P) s f with
   | some k=>match e.ev x with
     | some (.pointer (some ⟨b,o,none⟩))=>some (.pointer (some ⟨b,o+k,none⟩),hs,True)
     | _=>none
   | none=>none
 | .load T x=>match hs with
   | t :: hs=>match e.ev x with
     | some (.pointer (some ⟨b,off,none⟩))=>match H.get t with
       | some (some b',.cells ⟨cs⟩ _ _)=>match memN (Tab.one P) T with
         | true=>match nth cs off with | some v=>some (v,hs,b=b') | none=>none
         | false=>match lookN (Tab.agg P) T with
           | some k=>bif Nat.beq off 0 && Nat.beq cs.length k then some (.agg cs.toArray,hs,b=b') else none
           | none=>none
       | _=>none
     | _=>none
   | []=>none
 | .call ⟨.builtin .len,⟨[x]⟩,⟨[T]⟩⟩=>match memN (Tab.sl P) T with
   | true=>match e.ev x with | some (.slice _ n _)=>some (.int .i64 n,hs,True) | _=>none
   | false=>none
 | _=>none
theorem iev_ok {P:Program} {e:Env} {H:Hp} {G:Imm} {ty t t':TypeId} {hs hs':List Nat} {bo:BinOp} {o:IOp} {x y:Operand} {k:IntKind} {m n:Int} {v:Value} {ob:Prop} (ho:iop bo=some o) (hx:e.ev x=some (.int k m)) (hy:e.ev y=some (.int k n))
 (h:iev o k m n hs=some (v,hs',ob)) (hob:ob):Qy P (.binOp bo t x y t') ty e H G v:=by
 cases bo <;> first | (cases ho;done) | skip
 all_goals
  cases ho
  unfold iev at h
  first
   | (cases h;first | exact Qy.eql hx hy | exact Qy.neq hx hy | exact Qy.lss hx hy | exact Qy.leq hx hy | exact Qy.gtr hx hy | exact Qy.geq hx hy)
   | (rcases bif_cases h with ⟨hk,h⟩ | ⟨_,h⟩
      · have:=ikB_eq hk
        subst this
        cases h
        first | exact Qy.add hx hy hob | exact Qy.sub hx hy hob
      cases h)
theorem qev_ok {P:Program} [T:Tab P] {e:Env} {H:Hp} {G:Imm} {ty:TypeId} {hs hs':List Nat} {o:Op} {v:Value} {ob:Prop} (h:qev P e H hs o=some (v,hs',ob)) (hob:ob):Qy P o ty e H G v:=by
 unfold qev at h
 split at h
 · split at h
   · rename_i hx;cases h;exact Qy.move hx
   cases h
 · split at h
   · rename_i hx;cases h;exact Qy.assign hx
   cases h
 · split at h
   · rename_i hc
     split at h
     · rename_i hv;cases h;exact Qy.pick hc hv
     cases h
   cases h
 · split at h
   · rename_i hx;cases h;exact Qy.not hx
   cases h
 · split at h
   · rename_i o' ho
     split at h
     · rename_i k m hx
       split at h
       · rename_i k' n hy
         rcases bif_cases h with ⟨hk,h9⟩ | ⟨_,h9⟩
         · have h8:=ikB_eq hk
           subst h8
           exact iev_ok ho hx hy h9 hob
         cases h9
       cases h
     cases h
   cases h
 · split at h
   · rename_i hx
     split at h
     · rename_i hv;cases h;rw [nth_eq] at hv;exact Qy.extract hx hv
     cases h
   cases h
 · split at h
   · rename_i hx;cases h;exact Qy.nilCheck hx
   cases h
 · split at h
   · rename_i k hk
     split at h
     · rename_i hx;cases h;exact Qy.fieldAddr (lookF_fa T.faP hk) hx
     cases h
   cases h
 · split at h
   · split at h
     · rename_i hx
       split at h
       · rename_i hH
         split at h
         · rename_i h1
           split at h
           · rename_i hv
             cases h
             subst hob
             rw [nth_eq] at hv
             exact Qy.load _ (memN_one T.oneP h1) hx hH hv
           cases h
         split at h
         · rename_i k hk
           rcases bif_cases h with ⟨hc,h⟩ | ⟨_,h⟩
           · cases h
             subst hob
             simp only [Bool.and_eq_true] at hc
             have h0:=Nat.eq_of_beq_eq_true hc.1
             subst h0
             exact Qy.loadAll _ (lookN_agg T.aggP hk).1 hx hH (Nat.eq_of_beq_eq_true hc.2)
           cases h
         cases h
       cases h
     cases h
   cases h
 · split at h
   · rename_i h1
     split at h
     · rename_i hx
       cases h
       obtain ⟨E,sz,hT⟩:=memN_sl T.slP h1
       exact Qy.len hT hx
     cases h
   cases h
 cases h
inductive Fr where
 | seq (y:Code)
 | thn (K:Act→World→Prop)
 | blk (id:Nat)
def den (P:Program) (r:Option Nat) (Q0:Exit→Act→World→Prop):List Fr→Exit→Act→World→Prop
 | []=>Q0
 | .seq y :: k=>Exit.then (y.wpIn (FF r) 0 P (den P r Q0 k)) (den P r Q0 k)
 | .thn K :: k=>Exit.then K (den P r Q0 k)
 | .blk id :: k=>Exit.inBlock id (den P r Q0 k)
def Reify (P:Program) (r:Option Nat) (Q:Exit→Act→World→Prop) (k:List Fr) (Q0:Exit→Act→World→Prop):Prop:=Q=den P r Q0 k
theorem Reify.seq {P:Program} {r:Option Nat} {Q Q0:Exit→Act→World→Prop} {k:List Fr} {y:Code} (h:Reify P r Q k Q0):Reify P r (Exit.then (y.wpIn (FF r) 0 P Q) Q) (.seq y :: k) Q0:=by
 unfold Reify at *;subst h;rfl
theorem Reify.thn {P:Program} {r:Option Nat} {Q Q0:Exit→Act→World→Prop} {k:List Fr} {K:Act→World→Prop} (h:Reify P r Q k Q0):Reify P r (Exit.then K Q) (.thn K :: k) Q0:=by
 unfold Reify at *;subst h;rfl
theorem Reify.blk {P:Program} {r:Option Nat} {Q Q0:Exit→Act→World→Prop} {k:List Fr} {id:Nat} (h:Reify P r Q k Q0):Reify P r (Exit.inBlock id Q) (.blk id :: k) Q0:=by
 unfold Reify at *;subst h;rfl
theorem Reify.dnil {P:Program} {r r':Option Nat} {Q0 Q1:Exit→Act→World→Prop} {k:List Fr} (h:Reify P r Q0 k Q1):Reify P r (den P r' Q0 []) k Q1:=h
theorem Reify.dseq {P:Program} {r:Option Nat} {Q0 Q1:Exit→Act→World→Prop} {k k':List Fr} {y:Code} (h:Reify P r (den P r Q0 k) k' Q1):Reify P r (den P r Q0 (.seq y :: k)) (.seq y :: k') Q1:=Reify.seq h
theorem Reify.dthn {P:Program} {r:Option Nat} {Q0 Q1:Exit→Act→World→Prop} {k k':List Fr} {K:Act→World→Prop} (h:Reify P r (den P r Q0 k) k' Q1):Reify P r (den P r Q0 (.thn K :: k)) (.thn K :: k') Q1:=Reify.thn h
theorem Reify.dblk {P:Program} {r:Option Nat} {Q0 Q1:Exit→Act→World→Prop} {k k':List Fr} {id:Nat} (h:Reify P r (den P r Q0 k) k' Q1):Reify P r (den P r Q0 (.blk id :: k)) (.blk id :: k') Q1:=Reify.blk h
theorem Reify.none {P:Program} {Q:Exit→Act→World→Prop}:Reify P .none Q [] Q:=rfl
theorem Reify.any {P:Program} {r:Option Nat} {Q:Exit→Act→World→Prop}:Reify P r Q [] Q:=rfl
inductive Fo where
 | c (c:Code)
 | l (ops:Array Oper) (l:List Oper)
 | a (x:Exit)
def dstN:List Oper→Nat→Option Nat
 | [],_=>none
 | x :: l,n=>bif Nat.beq n 0 then x.dst else dstN l (Nat.pred n)
theorem dstN_eq:∀ (l:List Oper) (n:Nat),dstN l n=(l[n]?).bind (·.dst)
 | [],n=>by simp [dstN]
 | x :: l,n=>by
   unfold dstN
   cases n with
   | zero=>rfl
   | succ n=>simp only [Nat.beq,cond_false,Nat.pred_succ,dstN_eq l n,List.getElem?_cons_succ]
abbrev Cf:=Fo×List Fr×Env×Hp×List Nat
def opStp (P:Program) [Tab P] (n:Nat) (ops:Array Oper) (k:List Fr) (e:Env) (H:Hp) (hs:List Nat) (rest:List Oper):Oper→Option (Cf×Prop)
 | ⟨some d,o,_,_,_,none⟩=>match Nat.ble (d+1) n with
   | true=>match qev P e H hs o with
     | some (v,hs,ob)=>some ((.l ops rest,k,(d,v) :: e,H,hs),ob)
     | none=>none
   | false=>none
 | ⟨none,.store T x y,_,_,_,none⟩=>match hs with
   | t :: hs=>match e.ev x with
     | some (.pointer (some ⟨b,off,none⟩))=>match H.get t with
       | some (some b',.cells ⟨cs⟩ bt (0,0))=>match e.ev y with
         | some v=>match memN (Tab.one P) T with
           | true=>bif v.oneCell' && Nat.ble (off+1) cs.length then some ((.l ops rest,k,e,(t,some b',.cells (cs.set off v).toArray bt (0,0)) :: H,hs),b=b') else none
           | false=>match lookN (Tab.agg P) T with
             | some m=>match v with
               | .agg ⟨vs⟩=>bif Nat.beq off 0 && (Nat.beq vs.length m && (Nat.beq vs.length cs.length && vs.all (·.oneCell'))) then some ((.l ops rest,k,e,(t,some b',.cells vs.toArray bt (0,0)) :: H,hs),b=b') else none
               | _=>none
             | none=>none
         | none=>none
       | _=>none
     | _=>none
   | []=>none
 | ⟨dst,o,ty,pos,after,some (j,w)⟩=>match dstN ops.toList j with
   | some t=>match e.get t with
     | some (.bool b)=>bif (match b,w with | true,true=>true | false,false=>true | _,_=>false) then some ((.l ops (⟨dst,o,ty,pos,after,none⟩ :: rest),k,e,H,hs),True)
       else match dst with
        | some d=>bif Nat.ble (d+1) n then some ((.l ops rest,k,(d,undef) :: e,H,hs),True) else none
        | none=>none
     | _=>none
   | none=>none
 | _=>none
def stq (P:Program) [Tab P] (n:Nat):Fo→List Fr→Env→Hp→List Nat→Option (Cf×Prop)
 | .c (.seq x y),k,e,H,hs=>some ((.c x,.seq y :: k,e,H,hs),True)
 | .c .skip,k,e,H,hs=>some ((.a .normal,k,e,H,hs),True)
 | .c (.label _),k,e,H,hs=>some ((.a .normal,k,e,H,hs),True)
 | .c (.exit id),k,e,H,hs=>some ((.a (.exit id),k,e,H,hs),True)
 | .c .ret,k,e,H,hs=>some ((.a .ret,k,e,H,hs),True)
 | .c (.block id c),k,e,H,hs=>some ((.c c,.blk id :: k,e,H,hs),True)
 | .c (.region _ ⟨l⟩ false),k,e,H,hs=>bif l.all notDefer then some ((.l l.toArray l,k,e,H,hs),True) else none
 | .c (.cond c x y),k,e,H,h :: hs=>match e.ev c with
   | some (.bool b)=>bif Nat.beq h 1 then some ((.c x,k,e,H,hs),b=true) else some ((.c y,k,e,H,hs),b=false)
   | _=>none
 | .a .normal,.seq y :: k,e,H,hs=>some ((.c y,k,e,H,hs),True)
 | .a .normal,.blk _ :: k,e,H,hs=>some ((.a .normal,k,e,H,hs),True)
 | .a (.exit id),.blk j :: k,e,H,hs=>bif Nat.beq id j then some ((.a .normal,k,e,H,hs),True) else some ((.a (.exit id),k,e,H,hs),True)
 | .a (.exit id),_ :: k,e,H,hs=>some ((.a (.exit id),k,e,H,hs),True)
 | .a .ret,_ :: k,e,H,hs=>some ((.a .ret,k,e,H,hs),True)
 | .l _ [],k,e,H,hs=>some ((.a .normal,k,e,H,hs),True)
 | .l ops (o :: rest),k,e,H,hs=>opStp P n ops k e H hs rest o
 | _,_,_,_,_=>none
def run (P:Program) [Tab P] (n:Nat):Nat→Fo→List Fr→Env→Hp→List Nat→Option (Cf×Prop)
 | 0,f,k,e,H,hs=>some ((f,k,e,H,hs),True)
 | m+1,f,k,e,H,hs=>match stq P n f k e H hs with
   | some ((f,k,e,H,hs),ob)=>match run P n m f k e H hs with
     | some (c,obs)=>some (c,ob∧obs)
     | none=>none
   | none=>none
section
variable {P:Program} {r:Option Nat} {B:Bs} {D:List Deferred} {G:Imm} {Q0:Exit→Act→World→Prop}
def Cf.goal (P:Program) (r:Option Nat) (B:Bs) (D:List Deferred) (G:Imm) (Q0:Exit→Act→World→Prop):Cf→Prop
 | (.c c,k,e,H,_)=>Wc r P c B ⟨e,D,H,G⟩ (den P r Q0 k)
 | (.l ops l,k,e,H,_)=>Wl P ops l B ⟨e,D,H,G⟩ (den P r Q0 k .normal)
 | (.a x,k,e,H,_)=>Ar (den P r Q0 k) x B ⟨e,D,H,G⟩
theorem opStp_ok [T:Tab P] {ops:Array Oper} {k:List Fr} {e:Env} {H:Hp} {hs:List Nat} {rest:List Oper} {o:Oper} {c:Cf} {ob:Prop} (h:opStp P B.n ops k e H hs rest o=some (c,ob)) (hob:ob) (hg:Cf.goal P r B D G Q0 c) :
 Cf.goal P r B D G Q0 (.l ops (o :: rest),k,e,H,hs):=by
 unfold opStp at h
 split at h
 · split at h
   · rename_i hn
     split at h
     · rename_i hq;cases h;exact Wl.q hn (qev_ok hq hob) hg
     cases h
   cases h
 · split at h
   · split at h
     · rename_i hx
       split at h
       · rename_i hH
         split at h
         · rename_i v hy
           split at h
           · rename_i h1
             rcases bif_cases h with ⟨hc,h⟩ | ⟨_,h⟩
             · cases h
               subst hob
               simp only [Bool.and_eq_true] at hc
               exact Wl.store _ (memN_one T.oneP h1) hx hy hc.1 hH hc.2 hg
             cases h
           split at h
           · rename_i m hm
             split at h
             · rename_i vs
               rcases bif_cases h with ⟨hc,h⟩ | ⟨_,h⟩
               · cases h
                 subst hob
                 simp only [Bool.and_eq_true] at hc
                 have h0:=Nat.eq_of_beq_eq_true hc.1
                 subst h0
                 exact Wl.storeAll _ (lookN_agg T.aggP hm).2 hx hy (Nat.eq_of_beq_eq_true hc.2.1) hc.2.2.2 hH hc.2.2.1 hg
               cases h
             cases h
           cases h
         cases h
       cases h
     cases h
   cases h
 · split at h
   · rename_i t ht
     rw [dstN_eq] at ht
     split at h
     · rename_i b hb
       rcases bif_cases h with ⟨hw,h⟩ | ⟨hw,h⟩
       · cases h
         refine Wl.want (t:=t) (by simpa using ht) (hb.trans ?_) hg
         split at hw <;> first | rfl | cases hw
       split at h
       · rcases bif_cases h with ⟨hn,h⟩ | ⟨_,h⟩
         · cases h
           refine Wl.pass (t:=t) (by simpa using ht) (hb.trans ?_) hn hg
           rename_i w _ _ _ _ _
           cases b <;> cases w <;> first | rfl | cases hw
         cases h
       cases h
     cases h
   cases h
 cases h
theorem stq_ok [T:Tab P] {f:Fo} {k:List Fr} {e:Env} {H:Hp} {hs:List Nat} {c:Cf} {ob:Prop} (h:stq P B.n f k e H hs=some (c,ob)) (hob:ob) (hg:Cf.goal P r B D G Q0 c) :
 Cf.goal P r B D G Q0 (f,k,e,H,hs):=by
 unfold stq at h
 split at h
 · cases h;exact Wc.seq hg
 · cases h;exact Wc.skip hg
 · cases h;exact Wc.label hg
 · cases h;exact Wc.exit hg
 · cases h;exact Wc.ret hg
 · cases h;exact Wc.block hg
 · rcases bif_cases h with ⟨hd,h⟩ | ⟨_,h⟩
   · cases h;exact Wc.region hd hg
   cases h
 · split at h
   · rename_i b hb
     rcases bif_cases h with ⟨_,h⟩ | ⟨_,h⟩
     · cases h;subst hob;exact Wc.condT hb hg
     cases h;subst hob;exact Wc.condF hb hg
   cases h
 · cases h;exact Ar.next hg
 · cases h;exact Ar.outNormal hg
 · rcases bif_cases h with ⟨hd,h9⟩ | ⟨hd,h9⟩
   · have h8:=Nat.eq_of_beq_eq_true hd
     subst h8
     cases h9;exact Ar.here hg
   cases h9;exact Ar.outExit hd hg
 · rename_i id fr k hne
   cases h
   cases fr with
   | seq y=>exact Ar.passExit hg
   | thn K=>exact Ar.passExit hg
   | blk j=>exact (hne j rfl).elim
 · rename_i fr k
   cases h
   cases fr with
   | seq y=>exact Ar.passRet hg
   | thn K=>exact Ar.passRet hg
   | blk j=>exact Ar.outRet hg
 · cases h;exact Wl.done hg
 · exact opStp_ok h hob hg
 cases h
theorem run_ok [T:Tab P]:∀ {m:Nat} {f:Fo} {k:List Fr} {e:Env} {H:Hp} {hs:List Nat} {c:Cf} {ob:Prop},run P B.n m f k e H hs=some (c,ob)→ob→Cf.goal P r B D G Q0 c→Cf.goal P r B D G Q0 (f,k,e,H,hs)
 | 0,f,k,e,H,hs,c,ob,h,hob,hg=>by cases h;exact hg
 | m+1,f,k,e,H,hs,c,ob,h,hob,hg=>by
   unfold run at h
   split at h
   · rename_i h1
     split at h
     · rename_i h2
       cases h
       exact stq_ok h1 hob.1 (run_ok h2 hob.2 hg)
     cases h
   cases h
end
section
variable {P:Program} [Tab P] {r:Option Nat} {B:Bs} {D:List Deferred} {G:Imm} {Q Q0:Exit→Act→World→Prop} {k k':List Fr} {e e':Env} {H H':Hp} {hs':List Nat} {ob:Prop} {c c':Code} {l l':List Oper} {ops ops':Array Oper} {x x':Exit}
theorem Wc.gc (n:Nat) (hs:List Nat) (hg:Wc r P c' B ⟨e',D,H',G⟩ (den P r Q0 k')) (hr:Reify P r Q k Q0:=by (repeat with_reducible (first | apply Reify.dnil | apply Reify.dseq | apply Reify.dblk | apply Reify.dthn | apply Reify.seq | apply Reify.blk | apply Reify.thn));first | exact Reify.none | exact Reify.any) (h:run P B.n n (.c c) k e H hs=some ((.c c',k',e',H',hs'),ob):=by exact rfl) (hob:ob:=by (repeat refine And.intro (by first | exact trivial | with_reducible rfl | assumption | exact decide_eq_true (by first | assumption | omega) | exact decide_eq_false (by first | assumption | omega) | omega | rfl) ?_);exact trivial):Wc r P c B ⟨e,D,H,G⟩ Q:=by
 unfold Reify at hr;subst hr
 exact run_ok h hob hg
theorem Wc.gl (n:Nat) (hs:List Nat) (hg:Wl P ops' l' B ⟨e',D,H',G⟩ (den P r Q0 k' .normal)) (hr:Reify P r Q k Q0:=by (repeat with_reducible (first | apply Reify.dnil | apply Reify.dseq | apply Reify.dblk | apply Reify.dthn | apply Reify.seq | apply Reify.blk | apply Reify.thn));first | exact Reify.none | exact Reify.any) (h:run P B.n n (.c c) k e H hs=some ((.l ops' l',k',e',H',hs'),ob):=by exact rfl) (hob:ob:=by (repeat refine And.intro (by first | exact trivial | with_reducible rfl | assumption | exact decide_eq_true (by first | assumption | omega) | exact decide_eq_false (by first | assumption | omega) | omega | rfl) ?_);exact trivial):Wc r P c B ⟨e,D,H,G⟩ Q:=by
 unfold Reify at hr;subst hr
 exact run_ok h hob hg
theorem Wc.ga (n:Nat) (hs:List Nat) (hg:Ar (den P r Q0 k') x' B ⟨e',D,H',G⟩) (hr:Reify P r Q k Q0:=by (repeat with_reducible (first | apply Reify.dnil | apply Reify.dseq | apply Reify.dblk | apply Reify.dthn | apply Reify.seq | apply Reify.blk | apply Reify.thn));first | exact Reify.none | exact Reify.any) (h:run P B.n n (.c c) k e H hs=some ((.a x',k',e',H',hs'),ob):=by exact rfl) (hob:ob:=by (repeat refine And.intro (by first | exact trivial | with_reducible rfl | assumption | exact decide_eq_true (by first | assumption | omega) | exact decide_eq_false (by first | assumption | omega) | omega | rfl) ?_);exact trivial):Wc r P c B ⟨e,D,H,G⟩ Q:=by
 unfold Reify at hr;subst hr
 exact run_ok h hob hg
theorem Wl.gc (n:Nat) (hs:List Nat) (hg:Wc r P c' B ⟨e',D,H',G⟩ (den P r Q0 k')) (hr:Reify P r Q k Q0:=by (repeat with_reducible (first | apply Reify.dnil | apply Reify.dseq | apply Reify.dblk | apply Reify.dthn | apply Reify.seq | apply Reify.blk | apply Reify.thn));first | exact Reify.none | exact Reify.any) (h:run P B.n n (.l ops l) k e H hs=some ((.c c',k',e',H',hs'),ob):=by exact rfl) (hob:ob:=by (repeat refine And.intro (by first | exact trivial | with_reducible rfl | assumption | exact decide_eq_true (by first | assumption | omega) | exact decide_eq_false (by first | assumption | omega) | omega | rfl) ?_);exact trivial):Wl P ops l B ⟨e,D,H,G⟩ (Q .normal):=by
 unfold Reify at hr;subst hr
 exact run_ok h hob hg
theorem Wl.gl (n:Nat) (hs:List Nat) (hg:Wl P ops' l' B ⟨e',D,H',G⟩ (den P r Q0 k' .normal)) (hr:Reify P r Q k Q0:=by (repeat with_reducible (first | apply Reify.dnil | apply Reify.dseq | apply Reify.dblk | apply Reify.dthn | apply Reify.seq | apply Reify.blk | apply Reify.thn));first | exact Reify.none | exact Reify.any) (h:run P B.n n (.l ops l) k e H hs=some ((.l ops' l',k',e',H',hs'),ob):=by exact rfl) (hob:ob:=by (repeat refine And.intro (by first | exact trivial | with_reducible rfl | assumption | exact decide_eq_true (by first | assumption | omega) | exact decide_eq_false (by first | assumption | omega) | omega | rfl) ?_);exact trivial):Wl P ops l B ⟨e,D,H,G⟩ (Q .normal):=by
 unfold Reify at hr;subst hr
 exact run_ok h hob hg
theorem Wl.ga (n:Nat) (hs:List Nat) (hg:Ar (den P r Q0 k') x' B ⟨e',D,H',G⟩) (hr:Reify P r Q k Q0:=by (repeat with_reducible (first | apply Reify.dnil | apply Reify.dseq | apply Reify.dblk | apply Reify.dthn | apply Reify.seq | apply Reify.blk | apply Reify.thn));first | exact Reify.none | exact Reify.any) (h:run P B.n n (.l ops l) k e H hs=some ((.a x',k',e',H',hs'),ob):=by exact rfl) (hob:ob:=by (repeat refine And.intro (by first | exact trivial | with_reducible rfl | assumption | exact decide_eq_true (by first | assumption | omega) | exact decide_eq_false (by first | assumption | omega) | omega | rfl) ?_);exact trivial):Wl P ops l B ⟨e,D,H,G⟩ (Q .normal):=by
 unfold Reify at hr;subst hr
 exact run_ok h hob hg
theorem Ar.gc (n:Nat) (hs:List Nat) (hg:Wc r P c' B ⟨e',D,H',G⟩ (den P r Q0 k')) (hr:Reify P r Q k Q0:=by (repeat with_reducible (first | apply Reify.dnil | apply Reify.dseq | apply Reify.dblk | apply Reify.dthn | apply Reify.seq | apply Reify.blk | apply Reify.thn));first | exact Reify.none | exact Reify.any) (h:run P B.n n (.a x) k e H hs=some ((.c c',k',e',H',hs'),ob):=by exact rfl) (hob:ob:=by (repeat refine And.intro (by first | exact trivial | with_reducible rfl | assumption | exact decide_eq_true (by first | assumption | omega) | exact decide_eq_false (by first | assumption | omega) | omega | rfl) ?_);exact trivial):Ar Q x B ⟨e,D,H,G⟩:=by
 unfold Reify at hr;subst hr
 exact run_ok h hob hg
theorem Ar.gl (n:Nat) (hs:List Nat) (hg:Wl P ops' l' B ⟨e',D,H',G⟩ (den P r Q0 k' .normal)) (hr:Reify P r Q k Q0:=by (repeat with_reducible (first | apply Reify.dnil | apply Reify.dseq | apply Reify.dblk | apply Reify.dthn | apply Reify.seq | apply Reify.blk | apply Reify.thn));first | exact Reify.none | exact Reify.any) (h:run P B.n n (.a x) k e H hs=some ((.l ops' l',k',e',H',hs'),ob):=by exact rfl) (hob:ob:=by (repeat refine And.intro (by first | exact trivial | with_reducible rfl | assumption | exact decide_eq_true (by first | assumption | omega) | exact decide_eq_false (by first | assumption | omega) | omega | rfl) ?_);exact trivial):Ar Q x B ⟨e,D,H,G⟩:=by
 unfold Reify at hr;subst hr
 exact run_ok h hob hg
theorem Ar.ga (n:Nat) (hs:List Nat) (hg:Ar (den P r Q0 k') x' B ⟨e',D,H',G⟩) (hr:Reify P r Q k Q0:=by (repeat with_reducible (first | apply Reify.dnil | apply Reify.dseq | apply Reify.dblk | apply Reify.dthn | apply Reify.seq | apply Reify.blk | apply Reify.thn));first | exact Reify.none | exact Reify.any) (h:run P B.n n (.a x) k e H hs=some ((.a x',k',e',H',hs'),ob):=by exact rfl) (hob:ob:=by (repeat refine And.intro (by first | exact trivial | with_reducible rfl | assumption | exact decide_eq_true (by first | assumption | omega) | exact decide_eq_false (by first | assumption | omega) | omega | rfl) ?_);exact trivial):Ar Q x B ⟨e,D,H,G⟩:=by
 unfold Reify at hr;subst hr
 exact run_ok h hob hg
theorem Wl.ll0 {K:Act→World→Prop} (n:Nat) (hs:List Nat) (hg:Wl P ops' l' B ⟨e',D,H',G⟩ K) (h:run P B.n n (.l ops l) [] e H hs=some ((.l ops' l',[],e',H',hs'),ob):=by exact rfl) (hob:ob:=by (repeat refine And.intro (by first | exact trivial | with_reducible rfl | assumption | exact decide_eq_true (by first | assumption | omega) | exact decide_eq_false (by first | assumption | omega) | omega | rfl) ?_);exact trivial):Wl P ops l B ⟨e,D,H,G⟩ K:=
 run_ok (r:=none) (Q0:=fun _=>K) h hob hg
end
section
variable {P:Program} {B:Bs} {e:Env} {D:List Deferred} {H H0:Hp} {G G0:Imm} {K:Act→World→Prop} {ops:Array Oper} {l rest:List Oper} {f:Nat} {listed:Array Bool} {wr:List (Nat×Nat)} {ty:TypeId} {pos:String} {after:Array Edge} {d:Nat}
theorem Gm.o1 {o:Oper} (i:Nat) (h:Wl P l.toArray [o] B ⟨e,D,H,G⟩ (gmOn P l.toArray f (listed.setIfInBounds i true) wr H0 G0 K)) (hH:H.sub (H0.live wr listed):=by repeat (first | exact trivial | refine ⟨rfl,?_⟩)) (hG:G0.le G:=by first | exact Imm.le_refl _ | repeat (first | assumption | refine Imm.le_trans ?_ (by assumption))) (hr:Region.ready .any l.toArray listed=[i]:=by kernel_rfl) (ho:l[i]?=some o:=by exact rfl) :
 Gm P l.toArray (f+1) listed wr H0 G0 B ⟨e,D,H,G⟩ K:=Gm.one i hH hG hr ho h
theorem Gm.o2 {o1 o2:Oper} (i j:Nat) (g1:Wl P l.toArray [o1] B ⟨e,D,H,G⟩ (gmOn P l.toArray f (listed.setIfInBounds i true) wr H0 G0 K)) (g2:Wl P l.toArray [o2] B ⟨e,D,H,G⟩ (gmOn P l.toArray f (listed.setIfInBounds j true) wr H0 G0 K))
 (hH:H.sub (H0.live wr listed):=by repeat (first | exact trivial | refine ⟨rfl,?_⟩)) (hG:G0.le G:=by first | exact Imm.le_refl _ | repeat (first | assumption | refine Imm.le_trans ?_ (by assumption))) (hr:Region.ready .any l.toArray listed=[i,j]:=by kernel_rfl) (h1:l[i]?=some o1:=by exact rfl) (h2:l[j]?=some o2:=by exact rfl) :
 Gm P l.toArray (f+1) listed wr H0 G0 B ⟨e,D,H,G⟩ K:=Gm.two i j hH hG hr h1 h2 g1 g2
theorem Gm.o3 {o1 o2 o3:Oper} (i j k:Nat) (g1:Wl P l.toArray [o1] B ⟨e,D,H,G⟩ (gmOn P l.toArray f (listed.setIfInBounds i true) wr H0 G0 K)) (g2:Wl P l.toArray [o2] B ⟨e,D,H,G⟩ (gmOn P l.toArray f (listed.setIfInBounds j true) wr H0 G0 K)) (g3:Wl P l.toArray [o3] B ⟨e,D,H,G⟩ (gmOn P l.toArray f (listed.setIfInBounds k true) wr H0 G0 K))
 (hH:H.sub (H0.live wr listed):=by repeat (first | exact trivial | refine ⟨rfl,?_⟩)) (hG:G0.le G:=by first | exact Imm.le_refl _ | repeat (first | assumption | refine Imm.le_trans ?_ (by assumption))) (hr:Region.ready .any l.toArray listed=[i,j,k]:=by kernel_rfl) (h1:l[i]?=some o1:=by exact rfl) (h2:l[j]?=some o2:=by exact rfl) (h3:l[k]?=some o3:=by exact rfl) :
 Gm P l.toArray (f+1) listed wr H0 G0 B ⟨e,D,H,G⟩ K:=Gm.three i j k hH hG hr h1 h2 h3 g1 g2 g3
theorem Gm.fin {Q:Exit→Act→World→Prop} {x:Exit} (h:Ar Q x B ⟨e,D,H,G⟩) (hr:Region.ready .any ops listed=[]:=by kernel_rfl) (hH:H.sub (H0.live wr listed):=by repeat (first | exact trivial | refine ⟨rfl,?_⟩)) (hG:G0.le G:=by first | exact Imm.le_refl _ | repeat (first | assumption | refine Imm.le_trans ?_ (by assumption))):Gm P ops 0 listed wr H0 G0 B ⟨e,D,H,G⟩ (Q x):=
 Gm.doneA hr hH hG h
theorem Gm.c [T:Tab P] {o:Op} {v:Value} {hs':List Nat} {ob:Prop} (i:Nat) (ts hs:List Nat) (h:Gm P l.toArray f (listed.setIfInBounds i true) wr H0 G0 B ⟨(d,v) :: e,D,H,G⟩ K) (ho:l[i]?=some ⟨some d,o,ty,pos,after,none⟩:=by exact rfl) (hv:qev P e (H0.only ts) hs o=some (v,hs',ob):=by exact rfl)
 (hob:ob:=by first | exact trivial | with_reducible rfl | assumption | omega | rfl) (hn:Nat.ble (d+1) B.n=true:=by exact rfl) (hB:firstB l.toArray listed wr i ts=true:=by kernel_rfl):Gm P l.toArray (f+1) listed wr H0 G0 B ⟨e,D,H,G⟩ K:=
 Gm.q i ts hB ho hn (qev_ok hv hob) h
theorem Gm.u {o:Op} {v:Value} (i:Nat) (ts:List Nat) (ho:l[i]?=some ⟨some d,o,ty,pos,after,none⟩) (hq:Qy P o ty e (H0.only ts) G0 v) (h:Gm P l.toArray f (listed.setIfInBounds i true) wr H0 G0 B ⟨(d,v) :: e,D,H,G⟩ K)
 (hn:Nat.ble (d+1) B.n=true:=by exact rfl) (hB:firstB l.toArray listed wr i ts=true:=by kernel_rfl):Gm P l.toArray (f+1) listed wr H0 G0 B ⟨e,D,H,G⟩ K:=
 Gm.q i ts hB ho hn hq h
theorem Wl.k [T:Tab P] {f:FuncId} {xs:Array Operand} {ats:Array TypeId} {vs:List Value} {Hi:Hp} {post:Value→Imm→Hp→Prop} (k:Nat) (hx:e.evs xs.toList=some vs) (hF:Does P f vs G Hi post) (h:∀ v G' Ho,G.le G'→post v G' Ho→Wl P ops rest B ⟨(d,v) :: e,D,Ho.shift k++(Hi.kill k++H),G'⟩ K)
 (hn:Nat.ble (d+1) B.n=true:=by exact rfl) (hf:memN (Tab.fn P) f=true:=by exact rfl) (hHi:∀ t x,Hi.get t=some x→H.get (k+t)=some x:=by first | exact tags_of trivial | exact tags_of ⟨rfl,trivial⟩ | exact tags_of ⟨rfl,rfl,trivial⟩ | exact tags_of ⟨rfl,rfl,rfl,trivial⟩) :
 Wl P ops (⟨some d,.call { callee:=.value (.func f),args:=xs,argTypes:=ats },ty,pos,after,none⟩ :: rest) B ⟨e,D,H,G⟩ K:=Wl.call k hn (memN_fn T.fnP hf) hx hF hHi h
theorem Wl.k0 [T:Tab P] {f:FuncId} {xs:Array Operand} {ats:Array TypeId} {vs:List Value} {r:Value} (hx:e.evs xs.toList=some vs) (hF:Does P f vs G [] (fun v G' Ho=>v=r∧G'=G∧Ho=[])) (h:Wl P ops rest B ⟨(d,r) :: e,D,H,G⟩ K)
 (hn:Nat.ble (d+1) B.n=true:=by exact rfl) (hf:memN (Tab.fn P) f=true:=by exact rfl) :
 Wl P ops (⟨some d,.call { callee:=.value (.func f),args:=xs,argTypes:=ats },ty,pos,after,none⟩ :: rest) B ⟨e,D,H,G⟩ K:=Wl.call0 hn (memN_fn T.fnP hf) hx hF h
end
section
variable {P:Program} {fn:Func} {G0:Imm} {Hi:Hp} {w0:World} {post:Value→Imm→Hp→Prop} {n:Nat} {e:Env} {H:Hp} {G:Imm} {x:Exit} {t1 t2 t3:Nat} {v1 v2 v3:Value}
theorem Ar.e1 (hp:post v1 G (H.only [])) (hx:x=.normal∨x=.ret:=by exact .inr rfl) (hres:fn.results=#[.tmp t1]:=by exact rfl) (h1:e.get t1=some v1:=by exact rfl):Ar (Out P fn G0 Hi w0 post) x ⟨n,w0,Hi.has,G0⟩ ⟨e,[],H,G⟩:=
 Ar.out1 hx hres (.tmp h1) (Hp.sub_only _ _) hp
theorem Ar.e2 (hp:post (.tuple #[v1,v2]) G (H.only [])) (hx:x=.normal∨x=.ret:=by exact .inr rfl) (hres:fn.results=#[.tmp t1,.tmp t2]:=by exact rfl) (h1:e.get t1=some v1:=by exact rfl) (h2:e.get t2=some v2:=by exact rfl):Ar (Out P fn G0 Hi w0 post) x ⟨n,w0,Hi.has,G0⟩ ⟨e,[],H,G⟩:=
 Ar.out2 hx hres (.tmp h1) (.tmp h2) (Hp.sub_only _ _) hp
theorem Ar.e3 (hp:post (.tuple #[v1,v2,v3]) G (H.only [])) (hx:x=.normal∨x=.ret:=by exact .inr rfl) (hres:fn.results=#[.tmp t1,.tmp t2,.tmp t3]:=by exact rfl) (h1:e.get t1=some v1:=by exact rfl) (h2:e.get t2=some v2:=by exact rfl) (h3:e.get t3=some v3:=by exact rfl) :
 Ar (Out P fn G0 Hi w0 post) x ⟨n,w0,Hi.has,G0⟩ ⟨e,[],H,G⟩:=Ar.out3 hx hres (.tmp h1) (.tmp h2) (.tmp h3) (Hp.sub_only _ _) hp
end
section
variable {P:Program} {B:Bs} {e:Env} {D:List Deferred} {H:Hp} {G:Imm}
end
end Go.Sl
set_option maxRecDepth 100000
namespace Go.Proofs.YtfdcckcadfhpeaaGreatDoor
open Go Go.Sl
instance:Tab Tryz.prog where
 fn:=[10,11,12,13,14,15,33,35,52,53,54,55,56,57,58,59,60,69,70,71,72,75,78,83,87,103,104,105,106,108,111,112,113,114,115,116,117,118,119,120,127,128,129,133,134,137,138,139,144,153,154,155,156,157,158,159,160,161,162,163,164,165,166,167,168,176,177,179,180,181,182,183,184,185,201,202,203,204,206,207,208,209,210,211,212,213,214,215,216,221,222,223,227,235,238,240,243,244,245,246,247,248,249,250,251,252,264,265,266,267,268,269,277,278,279,280,281,283,284,285]
 fnP:=⟨T.fn10,T.fn11,T.fn12,T.fn13,T.fn14,T.fn15,T.fn33,T.fn35,T.fn52,T.fn53,T.fn54,T.fn55,T.fn56,T.fn57,T.fn58,T.fn59,T.fn60,T.fn69,T.fn70,T.fn71,T.fn72,T.fn75,T.fn78,T.fn83,T.fn87,T.fn103,T.fn104,T.fn105,T.fn106,T.fn108,T.fn111,T.fn112,T.fn113,T.fn114,T.fn115,T.fn116,T.fn117,T.fn118,T.fn119,T.fn120,T.fn127,T.fn128,T.fn129,T.fn133,T.fn134,T.fn137,T.fn138,T.fn139,T.fn144,T.fn153,T.fn154,T.fn155,T.fn156,T.fn157,T.fn158,T.fn159,T.fn160,T.fn161,T.fn162,T.fn163,T.fn164,T.fn165,T.fn166,T.fn167,T.fn168,T.fn176,T.fn177,T.fn179,T.fn180,T.fn181,T.fn182,T.fn183,T.fn184,T.fn185,T.fn201,T.fn202,T.fn203,T.fn204,T.fn206,T.fn207,T.fn208,T.fn209,T.fn210,T.fn211,T.fn212,T.fn213,T.fn214,T.fn215,T.fn216,T.fn221,T.fn222,T.fn223,T.fn227,T.fn235,T.fn238,T.fn240,T.fn243,T.fn244,T.fn245,T.fn246,T.fn247,T.fn248,T.fn249,T.fn250,T.fn251,T.fn252,T.fn264,T.fn265,T.fn266,T.fn267,T.fn268,T.fn269,T.fn277,T.fn278,T.fn279,T.fn280,T.fn281,T.fn283,T.fn284,T.fn285,trivial⟩
 one:=[3,4,22,23,24,68,98,123,128,277,278,279]
 agg:=[(26,4),(28,15),(52,2),(91,5),(100,5),(125,2),(190,2),(281,5)]
 sl:=[22,23,24,68,74,86,96,123,182,191,237]
 fa:=[(26,0,0),(26,1,1),(26,2,2),(26,3,3),(28,0,0),(28,1,1),(28,2,2),(28,3,3),(28,4,7),(28,5,11),(52,0,0),(52,1,1),(62,0,0),(62,1,1),(62,2,2),(91,0,0),(91,1,1),(91,2,2),(91,3,3),(91,4,4),(100,0,0),(100,1,4),(125,0,0),(125,1,1),(190,0,0),(190,1,1),(281,0,0),(281,1,1),(281,2,2),(281,3,3),(281,4,4)]
 oneP:=⟨T.one3,T.one4,T.one22,T.one23,T.one24,T.one68,T.one98,T.one123,T.one128,T.one277,T.one278,T.one279,trivial⟩
 aggP:=⟨⟨T.agg26,T.size26⟩,⟨T.agg28,T.size28⟩,⟨T.agg52,T.size52⟩,⟨T.agg91,T.size91⟩,⟨T.agg100,T.size100⟩,⟨T.agg125,T.size125⟩,⟨T.agg190,T.size190⟩,⟨T.agg281,T.size281⟩,trivial⟩
 slP:=⟨⟨_,_,T.sl22⟩,⟨_,_,T.sl23⟩,⟨_,_,T.sl24⟩,⟨_,_,T.sl68⟩,⟨_,_,T.sl74⟩,⟨_,_,T.sl86⟩,⟨_,_,T.sl96⟩,⟨_,_,T.sl123⟩,⟨_,_,T.sl182⟩,⟨_,_,T.sl191⟩,⟨_,_,T.sl237⟩,trivial⟩
 faP:=⟨T.fa26_0,T.fa26_1,T.fa26_2,T.fa26_3,T.fa28_0,T.fa28_1,T.fa28_2,T.fa28_3,T.fa28_4,T.fa28_5,T.fa52_0,T.fa52_1,T.fa62_0,T.fa62_1,T.fa62_2,T.fa91_0,T.fa91_1,T.fa91_2,T.fa91_3,T.fa91_4,T.fa100_0,T.fa100_1,T.fa125_0,T.fa125_1,T.fa190_0,T.fa190_1,T.fa281_0,T.fa281_1,T.fa281_2,T.fa281_3,T.fa281_4,trivial⟩
end Go.Proofs.YtfdcckcadfhpeaaGreatDoor
namespace Go.Sl
open Go
section
variable {P:Program} {e:Env} {H:Hp} {G:Imm} {ty:TypeId} {t t':TypeId} {x y:Operand} {m n:Int}
theorem Qy.uadd32 (hx:e.ev x=some (.int .u32 m)) (hy:e.ev y=some (.int .u32 n)) (hb:0≤m+n∧m+n≤4294967295):Qy P (.binOp .add t x y t') ty e H G (.int .u32 (m+n)):=by
 have:=Qy.addW (P:=P) (H:=H) (G:=G) (ty:=ty) (t:=t) (t':=t') hx hy;rwa [IntWalk.u32_in _ hb] at this
theorem Qy.uadd64 (hx:e.ev x=some (.int .u64 m)) (hy:e.ev y=some (.int .u64 n)) (hb:0≤m+n∧m+n≤18446744073709551615):Qy P (.binOp .add t x y t') ty e H G (.int .u64 (m+n)):=by
 have:=Qy.addW (P:=P) (H:=H) (G:=G) (ty:=ty) (t:=t) (t':=t') hx hy;rwa [IntWalk.u64_in _ hb] at this
theorem Qy.usub32 (hx:e.ev x=some (.int .u32 m)) (hy:e.ev y=some (.int .u32 n)) (hb:0≤m - n∧m - n≤4294967295):Qy P (.binOp .sub t x y t') ty e H G (.int .u32 (m - n)):=by
 have:=Qy.subW (P:=P) (H:=H) (G:=G) (ty:=ty) (t:=t) (t':=t') hx hy;rwa [IntWalk.u32_in _ hb] at this
theorem Qy.usub64 (hx:e.ev x=some (.int .u64 m)) (hy:e.ev y=some (.int .u64 n)) (hb:0≤m - n∧m - n≤18446744073709551615):Qy P (.binOp .sub t x y t') ty e H G (.int .u64 (m - n)):=by
 have:=Qy.subW (P:=P) (H:=H) (G:=G) (ty:=ty) (t:=t) (t':=t') hx hy;rwa [IntWalk.u64_in _ hb] at this
theorem Qy.umul32 (hx:e.ev x=some (.int .u32 m)) (hy:e.ev y=some (.int .u32 n)) (hb:0≤m*n∧m*n≤4294967295):Qy P (.binOp .mul t x y t') ty e H G (.int .u32 (m*n)):=by
 have:=Qy.mulW (P:=P) (H:=H) (G:=G) (ty:=ty) (t:=t) (t':=t') hx hy;rwa [IntWalk.u32_in _ hb] at this
theorem Qy.umul64 (hx:e.ev x=some (.int .u64 m)) (hy:e.ev y=some (.int .u64 n)) (hb:0≤m*n∧m*n≤18446744073709551615):Qy P (.binOp .mul t x y t') ty e H G (.int .u64 (m*n)):=by
 have:=Qy.mulW (P:=P) (H:=H) (G:=G) (ty:=ty) (t:=t) (t':=t') hx hy;rwa [IntWalk.u64_in _ hb] at this
theorem tdiv_pos {m n:Int} (h:0≤m):m.tdiv n=m / n:=Int.tdiv_eq_ediv_of_nonneg h
theorem tmod_pos {m n:Int} (h:0≤m):m.tmod n=m % n:=Int.tmod_eq_emod_of_nonneg h
theorem div_le {m n:Int} (h:0≤m) (hn:0<n):0≤m / n∧m / n≤m:=⟨Int.ediv_nonneg h (Int.le_of_lt hn),Int.ediv_le_self _ h⟩
theorem Qy.uquo32 (hx:e.ev x=some (.int .u32 m)) (hy:e.ev y=some (.int .u32 n)) (hb:0≤m∧m≤4294967295∧0<n):Qy P (.binOp .quo t x y t') ty e H G (.int .u32 (m / n)):=by
 have:=Qy.quoW (P:=P) (H:=H) (G:=G) (ty:=ty) (t:=t) (t':=t') hx hy (by omega)
 have h1:=div_le hb.1 hb.2.2
 rwa [tdiv_pos hb.1,IntWalk.u32_in _ ⟨h1.1,Int.le_trans h1.2 hb.2.1⟩] at this
theorem Qy.uquo64 (hx:e.ev x=some (.int .u64 m)) (hy:e.ev y=some (.int .u64 n)) (hb:0≤m∧m≤18446744073709551615∧0<n):Qy P (.binOp .quo t x y t') ty e H G (.int .u64 (m / n)):=by
 have:=Qy.quoW (P:=P) (H:=H) (G:=G) (ty:=ty) (t:=t) (t':=t') hx hy (by omega)
 have h1:=div_le hb.1 hb.2.2
 rwa [tdiv_pos hb.1,IntWalk.u64_in _ ⟨h1.1,Int.le_trans h1.2 hb.2.1⟩] at this
theorem Qy.quoP (hx:e.ev x=some (.int .i64 m)) (hy:e.ev y=some (.int .i64 n)) (hb:0≤m∧m≤9223372036854775807∧0<n):Qy P (.binOp .quo t x y t') ty e H G (.int .i64 (m / n)):=by
 have h1:=div_le hb.1 hb.2.2
 have h2:m.tdiv n=m / n:=tdiv_pos hb.1
 have:=Qy.quo (P:=P) (H:=H) (G:=G) (ty:=ty) (t:=t) (t':=t') hx hy (by omega) (by rw [h2];exact ⟨by omega,by omega⟩)
 rwa [h2] at this
theorem Qy.urem {k:IntKind} (hx:e.ev x=some (.int k m)) (hy:e.ev y=some (.int k n)) (hb:0≤m∧0<n):Qy P (.binOp .rem t x y t') ty e H G (.int k (m % n)):=by
 have:=Qy.rem (P:=P) (H:=H) (G:=G) (ty:=ty) (t:=t) (t':=t') hx hy (by omega)
 rwa [tmod_pos hb.1] at this
theorem Qy.conv32 {s:TypeId} {k:IntKind} (hs:(P.underlying s).isSome=true) (ht:P.underlying t=some (.int .u32)) (hx:e.ev x=some (.int k m)) (hb:0≤m∧m≤4294967295):Qy P (.convert s t x) ty e H G (.int .u32 m):=by
 have:=Qy.conv (P:=P) (H:=H) (G:=G) (ty:=ty) hs ht hx
 rwa [IntWalk.u32_in _ hb] at this
theorem Qy.conv64 {s:TypeId} {k:IntKind} (hs:(P.underlying s).isSome=true) (ht:P.underlying t=some (.int .u64)) (hx:e.ev x=some (.int k m)) (hb:0≤m∧m≤18446744073709551615):Qy P (.convert s t x) ty e H G (.int .u64 m):=by
 have:=Qy.conv (P:=P) (H:=H) (G:=G) (ty:=ty) hs ht hx
 rwa [IntWalk.u64_in _ hb] at this
end
theorem Qy.fieldR {P:Program} {e:Env} {H:Hp} {G:Imm} {ty T:TypeId} {x:Operand} {i:Nat} {v0 v1 v:Value} (h:∀ (w:World) (v0 v1:Value),(Instr.field T (.agg #[v0,v1]) i).run P w=.ok (#[v0,v1][i]?.getD undef) w)
 (hx:e.ev x=some (.agg #[v0,v1])) (hv:#[v0,v1][i]?.getD undef=v):Qy P (.field T x i) ty e H G v:=fun a w _ _ _ _ hh=>by
 subst hv
 simp [execOp,hh.eval hx,h]
theorem bits_and_u32_nat (a b:Nat) (ha:a<4294967296) (hb:b<4294967296):bits .and .u32 (a:Int) (b:Int)=((a &&& b:Nat):Int):=by
 have hx:a &&& b<2 ^ 32:=Nat.and_lt_two_pow _ (by omega)
 have h1:(BitVec.ofInt 32 (a:Int)).toNat=a:=by
  rw [BitVec.ofInt_natCast,BitVec.toNat_ofNat];exact Nat.mod_eq_of_lt (by omega)
 have h2:(BitVec.ofInt 32 (b:Int)).toNat=b:=by
  rw [BitVec.ofInt_natCast,BitVec.toNat_ofNat];exact Nat.mod_eq_of_lt (by omega)
 show IntKind.u32.wrap ((BitVec.ofInt 32 (a:Int) &&& BitVec.ofInt 32 (b:Int)).toNat:Int)=_
 rw [BitVec.toNat_and,h1,h2,IntKind.wrap_u32]
 omega
theorem bits_or_u32_nat (a b:Nat) (ha:a<4294967296) (hb:b<4294967296):bits .or .u32 (a:Int) (b:Int)=((a ||| b:Nat):Int):=by
 have hx:a ||| b<2 ^ 32:=Nat.or_lt_two_pow (by omega) (by omega)
 have h1:(BitVec.ofInt 32 (a:Int)).toNat=a:=by
  rw [BitVec.ofInt_natCast,BitVec.toNat_ofNat];exact Nat.mod_eq_of_lt (by omega)
 have h2:(BitVec.ofInt 32 (b:Int)).toNat=b:=by
  rw [BitVec.ofInt_natCast,BitVec.toNat_ofNat];exact Nat.mod_eq_of_lt (by omega)
 show IntKind.u32.wrap ((BitVec.ofInt 32 (a:Int) ||| BitVec.ofInt 32 (b:Int)).toNat:Int)=_
 rw [BitVec.toNat_or,h1,h2,IntKind.wrap_u32]
 omega
theorem and_one_u32 (x:Int) (h:0≤x∧x<4294967296):bits .and .u32 x 1=x % 2:=by
 have h1:=bits_and_u32_nat x.toNat 1 (by omega) (by omega)
 rw [Nat.and_one_is_mod,Int.toNat_of_nonneg h.1] at h1
 have h2:((x.toNat % 2:Nat):Int)=x % 2:=by omega
 exact h1.trans h2
theorem or_bit_u32 (x:Int) (s:Nat) (hx:0≤x∧x<65536) (hs:s<16) (hz:x % ((2 ^ (s+1):Nat):Int)=0):bits .or .u32 x ((2 ^ s:Nat):Int)=x+((2 ^ s:Nat):Int):=by
 have hp:2 ^ s<4294967296:=Nat.lt_of_lt_of_le (Nat.pow_lt_pow_right (by decide) hs) (by decide)
 have h1:=bits_or_u32_nat x.toNat (2 ^ s) (by omega) hp
 rw [Int.toNat_of_nonneg hx.1] at h1
 rw [h1]
 have hz':x.toNat % 2 ^ (s+1)=0:=by
  have h2:((x.toNat % 2 ^ (s+1):Nat):Int)=0:=by rw [Int.natCast_emod,Int.toNat_of_nonneg hx.1];exact hz
  exact Int.ofNat_eq_zero.1 h2
 have h3:=Nat.div_add_mod x.toNat (2 ^ (s+1))
 rw [hz',Nat.add_zero] at h3
 have h4:=Nat.two_pow_add_eq_or_of_lt (b:=2 ^ s) (i:=s+1) (Nat.pow_lt_pow_right (by decide) (Nat.lt_succ_self s)) (x.toNat / 2 ^ (s+1))
 rw [h3] at h4
 rw [←h4,Int.natCast_add,Int.toNat_of_nonneg hx.1]
structure IV where
 neg:Bool
 a:Option Addr
 n:Nat
 c:Nat
instance:Inhabited IV:=⟨⟨false,none,0,0⟩⟩
instance:Cells IV:=⟨2,fun x=>[.bool x.neg,.slice x.a x.n x.c],fun _=>rfl,fun _=>rfl⟩
structure SV where
 a:Option Addr
 n:Nat
 c:Nat
instance:Inhabited SV:=⟨⟨none,0,0⟩⟩
instance:Cells SV:=⟨1,fun x=>[.slice x.a x.n x.c],fun _=>rfl,fun _=>rfl⟩
end Go.Sl
namespace Go.Sl
open Go
def Digs (l:List U32):Prop:=∀ d∈l,0≤d.v∧d.v<65536
def valL:List U32→Int
 | []=>0
 | d :: l=>d.v+65536*valL l
def pw (n:Nat):Int:=((65536 ^ n:Nat):Int)
theorem pw_zero:pw 0=1:=rfl
theorem pw_succ (n:Nat):pw (n+1)=65536*pw n:=by unfold pw;rw [Nat.pow_succ,Nat.mul_comm,Int.natCast_mul];rfl
theorem pw_pos (n:Nat):0<pw n:=by unfold pw;exact Int.ofNat_lt.2 (Nat.pow_pos (by decide))
theorem pw_add (m n:Nat):pw (m+n)=pw m*pw n:=by unfold pw;rw [Nat.pow_add,Int.natCast_mul]
theorem pw_le {m n:Nat} (h:m≤n):pw m≤pw n:=by unfold pw;exact Int.ofNat_le.2 (Nat.pow_le_pow_right (by decide) h)
theorem valL_nil:valL []=0:=rfl
theorem valL_cons (d:U32) (l:List U32):valL (d :: l)=d.v+65536*valL l:=rfl
theorem Digs.nil:Digs []:=fun d h=>by simp at h
theorem Digs.tail {d:U32} {l:List U32} (h:Digs (d :: l)):Digs l:=fun x hx=>h x (List.mem_cons_of_mem _ hx)
theorem Digs.head {d:U32} {l:List U32} (h:Digs (d :: l)):0≤d.v∧d.v<65536:=h d List.mem_cons_self
theorem Digs.append {l m:List U32} (h:Digs l) (h':Digs m):Digs (l++m):=fun x hx=>by
 rcases List.mem_append.1 hx with h1 | h1
 · exact h x h1
 exact h' x h1
theorem Digs.one {d:Int} (h:0≤d∧d<65536):Digs [⟨d⟩]:=fun x hx=>by
 have:x=⟨d⟩:=by simpa using hx
 subst this;exact h
theorem Digs.take {l:List U32} (h:Digs l) (n:Nat):Digs (l.take n):=fun x hx=>h x (List.mem_of_mem_take hx)
theorem Digs.at {l:List U32} (h:Digs l) {m:Int} (hm:0≤m∧m<l.length):0≤(l[m.toNat]?.getD default).v∧(l[m.toNat]?.getD default).v<65536:=by
 have hl:m.toNat<l.length:=by omega
 rw [List.getElem?_eq_getElem hl];exact h _ (List.getElem_mem hl)
theorem valL_nonneg:∀ {l:List U32},Digs l→0≤valL l
 | [],_=>Int.le_refl 0
 | d :: l,h=>by
   have h1:=valL_nonneg h.tail
   have h2:=h.head
   rw [valL_cons];omega
theorem valL_lt:∀ {l:List U32},Digs l→valL l<pw l.length
 | [],_=>by decide
 | d :: l,h=>by
   have h1:=valL_lt h.tail
   have h2:=h.head
   rw [valL_cons,List.length_cons,pw_succ];omega
theorem valL_append:∀ (l m:List U32),valL (l++m)=valL l+pw l.length*valL m
 | [],m=>by rw [List.nil_append,valL_nil,List.length_nil,pw_zero];omega
 | d :: l,m=>by
   rw [List.cons_append,valL_cons,valL_cons,valL_append l m,List.length_cons,pw_succ,Int.mul_add,←Int.mul_assoc];omega
theorem valL_one (d:U32):valL [d]=d.v:=by rw [valL_cons,valL_nil];omega
theorem valL_snoc (l:List U32) (d:U32):valL (l++[d])=valL l+pw l.length*d.v:=by rw [valL_append,valL_one]
theorem valL_take_succ {l:List U32} {k:Nat} (h:k<l.length):valL (l.take (k+1))=valL (l.take k)+pw k*(l[((k:Nat):Int).toNat]?.getD default).v:=by
 rw [List.take_add_one,Int.toNat_natCast,List.getElem?_eq_getElem h]
 simp only [Option.toList_some,Option.getD_some]
 rw [valL_snoc,List.length_take,Nat.min_eq_left (Nat.le_of_lt h)]
theorem take_all {α:Type} {l:List α} {k:Nat} (h:l.length≤k):l.take k=l:=List.take_of_length_le h
theorem valL_replicate (n:Nat):valL (List.replicate n ⟨0⟩)=0:=by
 induction n with
 | zero=>rfl
 | succ n ih=>rw [List.replicate_succ,valL_cons,ih];rfl
theorem Digs.zeros (n:Nat):Digs (List.replicate n ⟨0⟩):=fun x hx=>by
 have:=List.eq_of_mem_replicate hx
 subst this;exact ⟨by decide,by decide⟩
theorem valL_trim {l:List U32} {n:Nat} (h:∀ j,n≤j→j<l.length→(l[j]?.getD default).v=0):valL (l.take n)=valL l:=by
 rcases Nat.lt_or_ge n l.length with hn | hn
 · have e:l=l.take n++l.drop n:=(List.take_append_drop n l).symm
   have hz:∀ (m:List U32),(∀ j,j<m.length→(m[j]?.getD default).v=0)→valL m=0:=by
    intro m
    induction m with
    | nil=>intro _;rfl
    | cons d m ih =>
      intro h0
      have h1:=h0 0 (by simp)
      simp only [List.getElem?_cons_zero,Option.getD_some] at h1
      rw [valL_cons,h1,ih fun j hj=>by have:=h0 (j+1) (by simpa using hj);simpa using this];rfl
   have h2:valL (l.drop n)=0:=hz _ fun j hj=>by
    rw [List.getElem?_drop]
    exact h (n+j) (by omega) (by rw [List.length_drop] at hj;omega)
   have h3:valL l=valL (l.take n++l.drop n):=by rw [List.take_append_drop]
   rw [h3,valL_append,h2];omega
 rw [take_all hn]
def Top (l:List U32):Prop:=l=[]∨(l[l.length - 1]?.getD default).v≠0
theorem Top.nil:Top []:=.inl rfl
theorem top_ge {l:List U32} (hd:Digs l) (ht:Top l) (h0:l≠[]):pw (l.length - 1)≤valL l:=by
 have hl:0<l.length:=List.length_pos_iff.2 h0
 have h1:(l[l.length - 1]?.getD default).v≠0:=by
  rcases ht with h | h
  · exact absurd h h0
  exact h
 have h2:=valL_take_succ (l:=l) (k:=l.length - 1) (by omega)
 rw [Nat.sub_add_cancel hl,take_all (Nat.le_refl _),Int.toNat_natCast] at h2
 have h3:=valL_nonneg (hd.take (l.length - 1))
 have h4:(1:Int)≤(l[l.length - 1]?.getD default).v:=by
  have:=hd.at (m:=((l.length - 1:Nat):Int)) (by omega)
  rw [Int.toNat_natCast] at this
  omega
 have h5:=Int.mul_le_mul_of_nonneg_left h4 (Int.le_of_lt (pw_pos (l.length - 1)))
 omega
theorem top_len {l:List U32} (hd:Digs l) (ht:Top l) {m:Nat} (h:valL l<pw m):l.length≤m:=by
 by_cases h0:l=[]
 · subst h0;exact Nat.zero_le _
 have h1:=top_ge hd ht h0
 rcases Nat.lt_or_ge m l.length with h2 | h2
 · have h3:=pw_le (show m≤l.length - 1 by omega)
   omega
 exact h2
theorem top_pos {l:List U32} (hd:Digs l) (ht:Top l) (h0:l≠[]):0<valL l:=Int.lt_of_lt_of_le (pw_pos _) (top_ge hd ht h0)
theorem top_lt_len {l m:List U32} (hl:Digs l) (hm:Digs m) (tm:Top m) (h:l.length<m.length):valL l<valL m:=by
 have h1:=valL_lt hl
 have h2:=top_ge hm tm (fun e=>by rw [e] at h;simp at h)
 have h3:=pw_le (show l.length≤m.length - 1 by omega)
 omega
structure IsInt (neg:Bool) (l:List U32) (z:Int):Prop where
 digs:Digs l
 top:Top l
 sign:l=[]→neg=false
 val:z=if neg=true then -valL l else valL l
theorem IsInt.abs {neg:Bool} {l:List U32} {z:Int} (h:IsInt neg l z):valL l=z.natAbs:=by
 have h1:=valL_nonneg h.digs
 have h2:=h.val
 split at h2 <;> omega
theorem IsInt.neg_iff {neg:Bool} {l:List U32} {z:Int} (h:IsInt neg l z):neg=decide (z<0):=by
 have h2:=h.val
 by_cases h0:l=[]
 · have h3:=h.sign h0
   subst h0
   rw [h3] at h2 ⊢
   rw [valL_nil] at h2
   have:¬z<0:=by simp at h2;omega
   simp [this]
 have h1:=top_pos h.digs h.top h0
 cases neg with
 | true =>
   rw [if_pos rfl] at h2
   have:z<0:=by omega
   simp [this]
 | false =>
   rw [if_neg (by decide)] at h2
   have:¬z<0:=by omega
   simp [this]
theorem IsInt.zero_iff {neg:Bool} {l:List U32} {z:Int} (h:IsInt neg l z):l.length=0↔z=0:=by
 have h2:=h.val
 constructor
 · intro h0
   have h0:=List.eq_nil_of_length_eq_zero h0
   subst h0
   rw [valL_nil] at h2
   split at h2 <;> omega
 intro hz
 by_cases h0:l=[]
 · rw [h0];rfl
 have h1:=top_pos h.digs h.top h0
 split at h2 <;> omega
theorem IsInt.len {neg:Bool} {l:List U32} {z:Int} (h:IsInt neg l z) {m:Nat} (hz:(z.natAbs:Int)<pw m):l.length≤m:=by
 refine top_len h.digs h.top ?_
 rw [h.abs];exact hz
def Num (G:Imm) (x:IV) (z:Int):Prop:=∃ l:List U32,l.length=x.n∧x.n≤x.c∧Arr G x.a l∧IsInt x.neg l z
theorem Num.up {G G':Imm} {x:IV} {z:Int} (h:Num G x z) (hl:G.le G'):Num G' x z:=by
 obtain ⟨l,h1,h0,h2,h3⟩:=h
 exact ⟨l,h1,h0,h2.up hl,h3⟩
theorem Num.zero (G:Imm):Num G ⟨false,none,0,0⟩ 0:=⟨[],rfl,Nat.le_refl _,Arr.nil G,⟨Digs.nil,Top.nil,fun _=>rfl,rfl⟩⟩
end Go.Sl
namespace Go.Sl
open Go
section
variable {P:Program} {B:Bs} {D:List Deferred}
theorem Wc.loopG {ι:Type} {r:Option Nat} {c:Code} {Q:Exit→Act→World→Prop} {e:Env} {H:Hp} {G:Imm} (I:ι→Env×Hp) (g:ι→Imm) (φ:ι→Prop) (μ:ι→Nat) (i0:ι) (h0:φ i0) (hg:G=g i0)
 (he:e.sub (I i0).1) (hH:H.sub (I i0).2)
 (hb:∀ i,φ i→Wc r P c B ⟨(I i).1,D,(I i).2,g i⟩ (Exit.then (Again B (fun i=>⟨(I i).1,D,(I i).2,g i⟩) φ μ (μ i)) Q)):Wc r P (.loop c) B ⟨e,D,H,G⟩ Q:=
 Wc.loopS (fun i=>⟨(I i).1,D,(I i).2,g i⟩) φ μ i0 h0 (fun _ _ h=>by rw [hg] at h;exact h.sub he hH) hb
end
def Nums (G:Imm) (l:List IV) (zs:List Int):Prop:=l.length=zs.length∧∀ i:Nat,i<l.length→Num G (l[i]?.getD default) (zs[i]?.getD 0)
theorem Nums.up {G G':Imm} {l:List IV} {zs:List Int} (h:Nums G l zs) (hl:G.le G'):Nums G' l zs:=⟨h.1,fun i hi=>(h.2 i hi).up hl⟩
theorem Nums.nil (G:Imm):Nums G [] []:=⟨rfl,fun i hi=>by simp at hi⟩
theorem Nums.at {G:Imm} {l:List IV} {zs:List Int} (h:Nums G l zs) {m:Int} (hm:0≤m∧m<l.length):Num G (l[m.toNat]?.getD default) (zs[m.toNat]?.getD 0):=h.2 _ (by omega)
theorem Nums.snoc {G:Imm} {l:List IV} {zs:List Int} (h:Nums G l zs) {x:IV} {z:Int} (hx:Num G x z):Nums G (l++[x]) (zs++[z]):=by
 refine ⟨by simp [h.1],fun i hi=>?_⟩
 rw [List.length_append,List.length_singleton] at hi
 by_cases hc:i<l.length
 · rw [List.getElem?_append_left hc,List.getElem?_append_left (by rw [←h.1];exact hc)]
   exact h.2 i hc
 have e:i=l.length:=by omega
 subst e
 rw [List.getElem?_concat_length,h.1,List.getElem?_concat_length]
 exact hx
def Below (m:Nat) (zs:List Int):Prop:=∀ z∈zs,(z.natAbs:Int)<pw m
theorem Below.at {m:Nat} {zs:List Int} (h:Below m zs) (i:Nat):((zs[i]?.getD 0).natAbs:Int)<pw m:=by
 cases hx:zs[i]? with
 | none=>exact pw_pos m
 | some z=>exact h z (List.mem_of_getElem? hx)
theorem Below.mono {m k:Nat} {zs:List Int} (h:Below m zs) (hk:m≤k):Below k zs:=fun z hz=>Int.lt_of_lt_of_le (h z hz) (pw_le hk)
end Go.Sl
namespace Go.Sl
open Go
def Lims (l:List U32):Prop:=∀ d∈l,0≤d.v∧d.v<4294967296
def valB:List U32→Int
 | []=>0
 | d :: l=>d.v+4294967296*valB l
def pb (n:Nat):Int:=((4294967296 ^ n:Nat):Int)
theorem pb_zero:pb 0=1:=rfl
theorem pb_succ (n:Nat):pb (n+1)=4294967296*pb n:=by unfold pb;rw [Nat.pow_succ,Nat.mul_comm,Int.natCast_mul];rfl
theorem pb_pos (n:Nat):0<pb n:=by unfold pb;exact Int.ofNat_lt.2 (Nat.pow_pos (by decide))
theorem pb_add (m n:Nat):pb (m+n)=pb m*pb n:=by unfold pb;rw [Nat.pow_add,Int.natCast_mul]
theorem pb_le {m n:Nat} (h:m≤n):pb m≤pb n:=by unfold pb;exact Int.ofNat_le.2 (Nat.pow_le_pow_right (by decide) h)
theorem valB_nil:valB []=0:=rfl
theorem valB_cons (d:U32) (l:List U32):valB (d :: l)=d.v+4294967296*valB l:=rfl
theorem Lims.nil:Lims []:=fun d h=>by simp at h
theorem Lims.tail {d:U32} {l:List U32} (h:Lims (d :: l)):Lims l:=fun x hx=>h x (List.mem_cons_of_mem _ hx)
theorem Lims.head {d:U32} {l:List U32} (h:Lims (d :: l)):0≤d.v∧d.v<4294967296:=h d List.mem_cons_self
theorem Lims.append {l m:List U32} (h:Lims l) (h':Lims m):Lims (l++m):=fun x hx=>by
 rcases List.mem_append.1 hx with h1 | h1
 · exact h x h1
 exact h' x h1
theorem Lims.one {d:Int} (h:0≤d∧d<4294967296):Lims [⟨d⟩]:=fun x hx=>by
 have:x=⟨d⟩:=by simpa using hx
 subst this;exact h
theorem Lims.take {l:List U32} (h:Lims l) (n:Nat):Lims (l.take n):=fun x hx=>h x (List.mem_of_mem_take hx)
theorem Lims.at {l:List U32} (h:Lims l) {m:Int} (hm:0≤m∧m<l.length):0≤(l[m.toNat]?.getD default).v∧(l[m.toNat]?.getD default).v<4294967296:=by
 have hl:m.toNat<l.length:=by omega
 rw [List.getElem?_eq_getElem hl];exact h _ (List.getElem_mem hl)
theorem valB_nonneg:∀ {l:List U32},Lims l→0≤valB l
 | [],_=>Int.le_refl 0
 | d :: l,h=>by
   have h1:=valB_nonneg h.tail
   have h2:=h.head
   rw [valB_cons];omega
theorem valB_lt:∀ {l:List U32},Lims l→valB l<pb l.length
 | [],_=>by decide
 | d :: l,h=>by
   have h1:=valB_lt h.tail
   have h2:=h.head
   rw [valB_cons,List.length_cons,pb_succ];omega
theorem valB_append:∀ (l m:List U32),valB (l++m)=valB l+pb l.length*valB m
 | [],m=>by rw [List.nil_append,valB_nil,List.length_nil,pb_zero];omega
 | d :: l,m=>by
   rw [List.cons_append,valB_cons,valB_cons,valB_append l m,List.length_cons,pb_succ,Int.mul_add,←Int.mul_assoc];omega
theorem valB_one (d:U32):valB [d]=d.v:=by rw [valB_cons,valB_nil];omega
theorem valB_snoc (l:List U32) (d:U32):valB (l++[d])=valB l+pb l.length*d.v:=by rw [valB_append,valB_one]
theorem valB_take_succ {l:List U32} {k:Nat} (h:k<l.length):valB (l.take (k+1))=valB (l.take k)+pb k*(l[((k:Nat):Int).toNat]?.getD default).v:=by
 rw [List.take_add_one,Int.toNat_natCast,List.getElem?_eq_getElem h]
 simp only [Option.toList_some,Option.getD_some]
 rw [valB_snoc,List.length_take,Nat.min_eq_left (Nat.le_of_lt h)]
theorem valB_replicate (n:Nat):valB (List.replicate n ⟨0⟩)=0:=by
 induction n with
 | zero=>rfl
 | succ n ih=>rw [List.replicate_succ,valB_cons,ih];rfl
theorem Lims.zeros (n:Nat):Lims (List.replicate n ⟨0⟩):=fun x hx=>by
 have:=List.eq_of_mem_replicate hx
 subst this;exact ⟨by decide,by decide⟩
theorem valB_trim {l:List U32} {n:Nat} (h:∀ j,n≤j→j<l.length→(l[j]?.getD default).v=0):valB (l.take n)=valB l:=by
 rcases Nat.lt_or_ge n l.length with hn | hn
 · have e:l=l.take n++l.drop n:=(List.take_append_drop n l).symm
   have hz:∀ (m:List U32),(∀ j,j<m.length→(m[j]?.getD default).v=0)→valB m=0:=by
    intro m
    induction m with
    | nil=>intro _;rfl
    | cons d m ih =>
      intro h0
      have h1:=h0 0 (by simp)
      simp only [List.getElem?_cons_zero,Option.getD_some] at h1
      rw [valB_cons,h1,ih fun j hj=>by have:=h0 (j+1) (by simpa using hj);simpa using this];rfl
   have h2:valB (l.drop n)=0:=hz _ fun j hj=>by
    rw [List.getElem?_drop]
    exact h (n+j) (by omega) (by rw [List.length_drop] at hj;omega)
   have h3:valB l=valB (l.take n++l.drop n):=by rw [List.take_append_drop]
   rw [h3,valB_append,h2];omega
 rw [take_all hn]
theorem ltop_ge {l:List U32} (hd:Lims l) (ht:Top l) (h0:l≠[]):pb (l.length - 1)≤valB l:=by
 have hl:0<l.length:=List.length_pos_iff.2 h0
 have h1:(l[l.length - 1]?.getD default).v≠0:=by
  rcases ht with h | h
  · exact absurd h h0
  exact h
 have h2:=valB_take_succ (l:=l) (k:=l.length - 1) (by omega)
 rw [Nat.sub_add_cancel hl,take_all (Nat.le_refl _),Int.toNat_natCast] at h2
 have h3:=valB_nonneg (hd.take (l.length - 1))
 have h4:(1:Int)≤(l[l.length - 1]?.getD default).v:=by
  have:=hd.at (m:=((l.length - 1:Nat):Int)) (by omega)
  rw [Int.toNat_natCast] at this
  omega
 have h5:=Int.mul_le_mul_of_nonneg_left h4 (Int.le_of_lt (pb_pos (l.length - 1)))
 omega
theorem ltop_len {l:List U32} (hd:Lims l) (ht:Top l) {m:Nat} (h:valB l<pb m):l.length≤m:=by
 by_cases h0:l=[]
 · subst h0;exact Nat.zero_le _
 have h1:=ltop_ge hd ht h0
 rcases Nat.lt_or_ge m l.length with h2 | h2
 · have h3:=pb_le (show m≤l.length - 1 by omega)
   omega
 exact h2
theorem ltop_pos {l:List U32} (hd:Lims l) (ht:Top l) (h0:l≠[]):0<valB l:=Int.lt_of_lt_of_le (pb_pos _) (ltop_ge hd ht h0)
theorem ltop_lt_len {l m:List U32} (hl:Lims l) (hm:Lims m) (tm:Top m) (h:l.length<m.length):valB l<valB m:=by
 have h1:=valB_lt hl
 have h2:=ltop_ge hm tm (fun e=>by rw [e] at h;simp at h)
 have h3:=pb_le (show l.length≤m.length - 1 by omega)
 omega
structure IsBig (neg:Bool) (l:List U32) (z:Int):Prop where
 digs:Lims l
 top:Top l
 sign:l=[]→neg=false
 val:z=if neg=true then -valB l else valB l
theorem IsBig.abs {neg:Bool} {l:List U32} {z:Int} (h:IsBig neg l z):valB l=z.natAbs:=by
 have h1:=valB_nonneg h.digs
 have h2:=h.val
 split at h2 <;> omega
theorem IsBig.neg_iff {neg:Bool} {l:List U32} {z:Int} (h:IsBig neg l z):neg=decide (z<0):=by
 have h2:=h.val
 by_cases h0:l=[]
 · have h3:=h.sign h0
   subst h0
   rw [h3] at h2 ⊢
   rw [valB_nil] at h2
   have:¬z<0:=by simp at h2;omega
   simp [this]
 have h1:=ltop_pos h.digs h.top h0
 cases neg with
 | true =>
   rw [if_pos rfl] at h2
   have:z<0:=by omega
   simp [this]
 | false =>
   rw [if_neg (by decide)] at h2
   have:¬z<0:=by omega
   simp [this]
theorem IsBig.zero_iff {neg:Bool} {l:List U32} {z:Int} (h:IsBig neg l z):l.length=0↔z=0:=by
 have h2:=h.val
 constructor
 · intro h0
   have h0:=List.eq_nil_of_length_eq_zero h0
   subst h0
   rw [valB_nil] at h2
   split at h2 <;> omega
 intro hz
 by_cases h0:l=[]
 · rw [h0];rfl
 have h1:=ltop_pos h.digs h.top h0
 split at h2 <;> omega
theorem IsBig.len {neg:Bool} {l:List U32} {z:Int} (h:IsBig neg l z) {m:Nat} (hz:(z.natAbs:Int)<pb m):l.length≤m:=by
 refine ltop_len h.digs h.top ?_
 rw [h.abs];exact hz
def Big (G:Imm) (x:IV) (z:Int):Prop:=∃ l:List U32,l.length=x.n∧x.n≤x.c∧Arr G x.a l∧IsBig x.neg l z
theorem Big.up {G G':Imm} {x:IV} {z:Int} (h:Big G x z) (hl:G.le G'):Big G' x z:=by
 obtain ⟨l,h1,h0,h2,h3⟩:=h
 exact ⟨l,h1,h0,h2.up hl,h3⟩
theorem Big.zero (G:Imm):Big G ⟨false,none,0,0⟩ 0:=⟨[],rfl,Nat.le_refl _,Arr.nil G,⟨Lims.nil,Top.nil,fun _=>rfl,rfl⟩⟩
end Go.Sl
namespace Go.Sl
open Go
theorem bits_and_u64_nat (a b:Nat) (ha:a<18446744073709551616) (hb:b<18446744073709551616):bits .and .u64 (a:Int) (b:Int)=((a &&& b:Nat):Int):=by
 have hx:a &&& b<2 ^ 64:=Nat.and_lt_two_pow _ (by omega)
 have h1:(BitVec.ofInt 64 (a:Int)).toNat=a:=by
  rw [BitVec.ofInt_natCast,BitVec.toNat_ofNat];exact Nat.mod_eq_of_lt (by omega)
 have h2:(BitVec.ofInt 64 (b:Int)).toNat=b:=by
  rw [BitVec.ofInt_natCast,BitVec.toNat_ofNat];exact Nat.mod_eq_of_lt (by omega)
 show IntKind.u64.wrap ((BitVec.ofInt 64 (a:Int) &&& BitVec.ofInt 64 (b:Int)).toNat:Int)=_
 rw [BitVec.toNat_and,h1,h2,IntKind.wrap_u64]
 omega
theorem bits_or_u64_nat (a b:Nat) (ha:a<18446744073709551616) (hb:b<18446744073709551616):bits .or .u64 (a:Int) (b:Int)=((a ||| b:Nat):Int):=by
 have hx:a ||| b<2 ^ 64:=Nat.or_lt_two_pow (by omega) (by omega)
 have h1:(BitVec.ofInt 64 (a:Int)).toNat=a:=by
  rw [BitVec.ofInt_natCast,BitVec.toNat_ofNat];exact Nat.mod_eq_of_lt (by omega)
 have h2:(BitVec.ofInt 64 (b:Int)).toNat=b:=by
  rw [BitVec.ofInt_natCast,BitVec.toNat_ofNat];exact Nat.mod_eq_of_lt (by omega)
 show IntKind.u64.wrap ((BitVec.ofInt 64 (a:Int) ||| BitVec.ofInt 64 (b:Int)).toNat:Int)=_
 rw [BitVec.toNat_or,h1,h2,IntKind.wrap_u64]
 omega
theorem and_one_u64 (x:Int) (h:0≤x∧x<18446744073709551616):bits .and .u64 x 1=x % 2:=by
 have h1:=bits_and_u64_nat x.toNat 1 (by omega) (by omega)
 rw [Nat.and_one_is_mod,Int.toNat_of_nonneg h.1] at h1
 have h2:((x.toNat % 2:Nat):Int)=x % 2:=by omega
 exact h1.trans h2
theorem and_low_u64 (x:Int) (h:0≤x∧x<18446744073709551616):bits .and .u64 x 4294967295=x % 4294967296:=by
 have h1:=bits_and_u64_nat x.toNat 4294967295 (by omega) (by omega)
 rw [show (4294967295:Nat)=2 ^ 32 - 1 by decide,Nat.and_two_pow_sub_one_eq_mod,Int.toNat_of_nonneg h.1] at h1
 have h2:((x.toNat % 2 ^ 32:Nat):Int)=x % 4294967296:=by omega
 exact h1.trans h2
theorem or_low_u64 (x y:Int) (hx:0≤x∧x<4294967296) (hy:0≤y∧y<4294967296):bits .or .u64 (x*4294967296) y=x*4294967296+y:=by
 have h1:=bits_or_u64_nat (2 ^ 32*x.toNat) y.toNat (by omega) (by omega)
 rw [←Nat.two_pow_add_eq_or_of_lt (b:=y.toNat) (i:=32) (by omega) x.toNat] at h1
 have e1:((2 ^ 32*x.toNat:Nat):Int)=x*4294967296:=by omega
 have e2:((2 ^ 32*x.toNat+y.toNat:Nat):Int)=x*4294967296+y:=by omega
 rw [e1,e2,Int.toNat_of_nonneg hy.1] at h1
 exact h1
theorem or_high_u64 (x y:Int) (hx:0≤x∧x<4294967296) (hy:0≤y∧y<4294967296):bits .or .u64 y (x*4294967296)=x*4294967296+y:=by
 have h1:=bits_or_u64_nat y.toNat (2 ^ 32*x.toNat) (by omega) (by omega)
 rw [Nat.or_comm,←Nat.two_pow_add_eq_or_of_lt (b:=y.toNat) (i:=32) (by omega) x.toNat] at h1
 have e1:((2 ^ 32*x.toNat:Nat):Int)=x*4294967296:=by omega
 have e2:((2 ^ 32*x.toNat+y.toNat:Nat):Int)=x*4294967296+y:=by omega
 rw [e1,e2,Int.toNat_of_nonneg hy.1] at h1
 exact h1
theorem or_part_u32 (x y:Int) (s:Nat) (hx:0≤x∧x<((2 ^ s:Nat):Int)) (hy:0≤y∧y<4294967296) (hs:s≤32) (hm:y % ((2 ^ s:Nat):Int)=0):bits .or .u32 x y=x+y:=by
 have hp:2 ^ s≤2 ^ 32:=Nat.pow_le_pow_right (by decide) hs
 have h1:=bits_or_u32_nat x.toNat y.toNat (by omega) (by omega)
 have hm':y.toNat % 2 ^ s=0:=by
  have h2:((y.toNat % 2 ^ s:Nat):Int)=0:=by rw [Int.natCast_emod,Int.toNat_of_nonneg hy.1];exact hm
  exact Int.ofNat_eq_zero.1 h2
 have h3:=Nat.div_add_mod y.toNat (2 ^ s)
 rw [hm',Nat.add_zero] at h3
 have h4:=Nat.two_pow_add_eq_or_of_lt (b:=x.toNat) (i:=s) (by omega) (y.toNat / 2 ^ s)
 rw [h3] at h4
 rw [Nat.or_comm,←h4,Int.toNat_of_nonneg hx.1,Int.toNat_of_nonneg hy.1] at h1
 rw [h1]
 omega
section
variable {P:Program} {e:Env} {H:Hp} {G:Imm} {ty:TypeId} {t t':TypeId} {x y:Operand} {m n:Int} {k:IntKind}
theorem Qy.shr32 (hx:e.ev x=some (.int .u64 m)) (hy:e.ev y=some (.int k 32)) (h0:0≤m):Qy P (.binOp .shr t x y t') ty e H G (.int .u64 (m / 4294967296)):=by
 have h:=Qy.shr (P:=P) (H:=H) (G:=G) (ty:=ty) (t:=t) (t':=t') hx hy (by decide)
 have e1:m.fdiv (2 ^ (Min.min (32:Int).toNat IntKind.u64.bits))=m / 4294967296:=by
  rw [show Min.min (32:Int).toNat IntKind.u64.bits=32 by decide]
  exact Int.fdiv_eq_ediv_of_nonneg _ (by decide)
 rw [e1] at h;exact h
theorem Qy.shl32 (hx:e.ev x=some (.int .u64 m)) (hy:e.ev y=some (.int k 32)) (h0:0≤m∧m<4294967296):Qy P (.binOp .shl t x y t') ty e H G (.int .u64 (m*4294967296)):=by
 have h:=Qy.shl (P:=P) (H:=H) (G:=G) (ty:=ty) (t:=t) (t':=t') hx hy (by decide)
 have e1:IntKind.u64.wrap (m*2 ^ (Min.min (32:Int).toNat IntKind.u64.bits))=m*4294967296:=by
  rw [show Min.min (32:Int).toNat IntKind.u64.bits=32 by decide]
  exact IntWalk.u64_in _ (by omega)
 rw [e1] at h;exact h
theorem Qy.trunc32 {s:TypeId} (hs:(P.underlying s).isSome=true) (ht:P.underlying t=some (.int .u32)) (hx:e.ev x=some (.int .u64 m)):Qy P (.convert s t x) ty e H G (.int .u32 (m % 4294967296)):=by
 have h:=Qy.conv (P:=P) (H:=H) (G:=G) (ty:=ty) hs ht hx
 rw [IntKind.wrap_u32] at h
 exact h
theorem Qy.and1 (hx:e.ev x=some (.int .u64 m)) (hy:e.ev y=some (.int .u64 1)) (h0:0≤m∧m<18446744073709551616):Qy P (.binOp .and t x y t') ty e H G (.int .u64 (m % 2)):=by
 have h:=Qy.andW (P:=P) (H:=H) (G:=G) (ty:=ty) (t:=t) (t':=t') hx hy
 rw [and_one_u64 m h0] at h;exact h
theorem Qy.andLow (hx:e.ev x=some (.int .u64 m)) (hy:e.ev y=some (.int .u64 4294967295)) (h0:0≤m∧m<18446744073709551616):Qy P (.binOp .and t x y t') ty e H G (.int .u64 (m % 4294967296)):=by
 have h:=Qy.andW (P:=P) (H:=H) (G:=G) (ty:=ty) (t:=t) (t':=t') hx hy
 rw [and_low_u64 m h0] at h;exact h
theorem Qy.orLow (hx:e.ev x=some (.int .u64 (m*4294967296))) (hy:e.ev y=some (.int .u64 n)) (h0:0≤m∧m<4294967296) (h1:0≤n∧n<4294967296):Qy P (.binOp .or t x y t') ty e H G (.int .u64 (m*4294967296+n)):=by
 have h:=Qy.orW (P:=P) (H:=H) (G:=G) (ty:=ty) (t:=t) (t':=t') hx hy
 rw [or_low_u64 m n h0 h1] at h;exact h
theorem Qy.orHigh (hx:e.ev x=some (.int .u64 n)) (hy:e.ev y=some (.int .u64 (m*4294967296))) (h0:0≤m∧m<4294967296) (h1:0≤n∧n<4294967296):Qy P (.binOp .or t x y t') ty e H G (.int .u64 (m*4294967296+n)):=by
 have h:=Qy.orW (P:=P) (H:=H) (G:=G) (ty:=ty) (t:=t) (t':=t') hx hy
 rw [or_high_u64 m n h0 h1] at h;exact h
theorem Qy.shlV {s:Nat} (hx:e.ev x=some (.int .u64 m)) (hy:e.ev y=some (.int k (s:Int))) (h0:0≤m∧m<4294967296) (hs:s≤32):Qy P (.binOp .shl t x y t') ty e H G (.int .u64 (m*((2 ^ s:Nat):Int))):=by
 have h:=Qy.shl (P:=P) (H:=H) (G:=G) (ty:=ty) (t:=t) (t':=t') hx hy (by omega)
 have e1:IntKind.u64.wrap (m*2 ^ (Min.min (s:Int).toNat IntKind.u64.bits))=m*((2 ^ s:Nat):Int):=by
  rw [Int.toNat_natCast,Nat.min_eq_left (Nat.le_trans hs (by decide))]
  have e2:(2:Int) ^ s=((2 ^ s:Nat):Int):=by rw [Int.natCast_pow];rfl
  rw [e2]
  have hp:(1:Int)≤((2 ^ s:Nat):Int)∧((2 ^ s:Nat):Int)≤4294967296:=by
   have h1:0<2 ^ s:=Nat.pow_pos (by decide)
   have h2:2 ^ s≤2 ^ 32:=Nat.pow_le_pow_right (by decide) hs
   omega
  have h3:=Int.mul_le_mul_of_nonneg_left hp.2 h0.1
  have h4:=Int.mul_nonneg h0.1 (show (0:Int)≤((2 ^ s:Nat):Int) by omega)
  exact IntWalk.u64_in _ (by omega)
 rw [e1] at h;exact h
theorem Qy.shrV {s:Nat} (hx:e.ev x=some (.int .u64 m)) (hy:e.ev y=some (.int k (s:Int))) (h0:0≤m) (hs:s≤32):Qy P (.binOp .shr t x y t') ty e H G (.int .u64 (m / ((2 ^ s:Nat):Int))):=by
 have h:=Qy.shr (P:=P) (H:=H) (G:=G) (ty:=ty) (t:=t) (t':=t') hx hy (by omega)
 have e1:m.fdiv (2 ^ (Min.min (s:Int).toNat IntKind.u64.bits))=m / ((2 ^ s:Nat):Int):=by
  rw [Int.toNat_natCast,Nat.min_eq_left (Nat.le_trans hs (by decide))]
  have e2:(2:Int) ^ s=((2 ^ s:Nat):Int):=by rw [Int.natCast_pow];rfl
  rw [e2]
  exact Int.fdiv_eq_ediv_of_nonneg _ (Int.natCast_nonneg _)
 rw [e1] at h;exact h
end
end Go.Sl
namespace Go.Sl
open Go
theorem bcarry (P s:Int):P*(s % 4294967296)+4294967296*P*(s / 4294967296)=P*s:=by
 have h:=Int.emod_add_mul_ediv s 4294967296
 have e:4294967296*P*(s / 4294967296)=P*(4294967296*(s / 4294967296)):=by rw [Int.mul_comm 4294967296 P,Int.mul_assoc]
 rw [e,←Int.mul_add,h]
def lg (l:List U32) (i:Nat):Int:=(l[((i:Nat):Int).toNat]?.getD default).v
theorem lg_lt {l:List U32} (h:Lims l) {i:Nat} (hi:i<l.length):0≤lg l i∧lg l i<4294967296:=h.at (by omega)
theorem lg_end {l:List U32} {i:Nat} (hi:l.length≤i):lg l i=0:=by
 unfold lg;rw [Int.toNat_natCast,List.getElem?_eq_none hi];rfl
theorem lg_rng {l:List U32} (h:Lims l) (i:Nat):0≤lg l i∧lg l i<4294967296:=by
 rcases Nat.lt_or_ge i l.length with h1 | h1
 · exact lg_lt h h1
 rw [lg_end h1];decide
theorem lg_set {l:List U32} {i:Nat} (h:i<l.length) (d:Int):lg (l.set i ⟨d⟩) i=d:=by
 unfold lg
 rw [Int.toNat_natCast,List.getElem?_eq_getElem (by rw [List.length_set];exact h),List.getElem_set_self];rfl
theorem lg_set_ne {l:List U32} {i j:Nat} (h:i≠j) (d:U32):lg (l.set i d) j=lg l j:=by
 unfold lg
 rw [Int.toNat_natCast,List.getElem?_set_ne h]
theorem bval_step (l:List U32) (i:Nat):valB (l.take (i+1))=valB (l.take i)+pb i*lg l i:=by
 rcases Nat.lt_or_ge i l.length with h | h
 · exact valB_take_succ h
 rw [take_all h,take_all (by omega),lg_end h,Int.mul_zero,Int.add_zero]
theorem bdrop_step {l:List U32} {i:Nat} (h:i<l.length):valB (l.drop i)=lg l i+4294967296*valB (l.drop (i+1)):=by
 rw [List.drop_eq_getElem_cons h,valB_cons]
 unfold lg
 rw [Int.toNat_natCast,List.getElem?_eq_getElem h];rfl
theorem bval_split (l:List U32) {m:Nat} (h:m≤l.length):valB l=valB (l.take m)+pb m*valB (l.drop m):=by
 have h1:valB l=valB (l.take m++l.drop m):=by rw [List.take_append_drop]
 rw [h1,valB_append,List.length_take,Nat.min_eq_left h]
theorem valB_set:∀ (l:List U32) (k:Nat) (d:U32),k<l.length→valB (l.set k d)=valB l+pb k*(d.v - lg l k)
 | [],k,d,h=>by simp at h
 | x :: l,0,d,_=>by
   rw [List.set_cons_zero,valB_cons,valB_cons,pb_zero]
   show _=_+1*(d.v - x.v)
   omega
 | x :: l,k+1,d,h=>by
   have ih:=valB_set l k d (by simpa using h)
   have e:lg (x :: l) (k+1)=lg l k:=by unfold lg;rw [Int.toNat_natCast,Int.toNat_natCast,List.getElem?_cons_succ]
   rw [List.set_cons_succ,valB_cons,valB_cons,ih,pb_succ,e,Int.mul_add,←Int.mul_assoc]
   omega
theorem lims_set {l:List U32} (h:Lims l) (k:Nat) {s:Int} (hs:0≤s∧s<4294967296):Lims (l.set k ⟨s⟩):=fun d hd=>by
 rcases List.mem_or_eq_of_mem_set hd with h1 | h1
 · exact h d h1
 subst h1;exact hs
theorem mod32 (s:Int):0≤s % 4294967296∧s % 4294967296<4294967296:=⟨Int.emod_nonneg _ (by decide),Int.emod_lt_of_pos _ (by decide)⟩
def Trim (l:List U32) (n:Nat):Prop:=n≤l.length∧(∀ j,n≤j→j<l.length→(l[j]?.getD default).v=0)∧(n=0∨(l[n - 1]?.getD default).v≠0)
theorem Trim.val {l:List U32} {n:Nat} (h:Trim l n):valB (l.take n)=valB l:=valB_trim h.2.1
theorem Trim.top {l:List U32} {n:Nat} (h:Trim l n):Top (l.take n):=by
 obtain ⟨h1,h2,h3⟩:=h
 rcases h3 with h3 | h3
 · subst h3;exact .inl rfl
 by_cases h0:n=0
 · subst h0;exact .inl rfl
 refine .inr ?_
 rw [List.length_take,Nat.min_eq_left h1,List.getElem?_take,if_pos (by omega)]
 exact h3
theorem barr_sub {α:Type} [Cells α] {G:Imm} {a:Option Addr} {c sz:Nat} {l:List α} (h:Arr G a l) (n:Nat):Arr G (subA a c 0 sz) (l.take n):=by
 refine ⟨flat_length _,?_⟩
 rcases h.2 with h0 | ⟨b,o,rfl,hr⟩
 · left;rw [List.length_take];omega
 refine .inr ⟨b,o,?_,fun i v hi=>hr i v ?_⟩
 · unfold subA
   split
   · rfl
   simp [Addr.add]
 have e:flat l=flat (l.take n)++flat (l.drop n):=by rw [←flat_append,List.take_append_drop]
 rw [e,List.getElem?_append_left (List.getElem?_eq_some_iff.1 hi).1];exact hi
theorem add_next {la lb r:List U32} {i:Nat} {cy s:Int} (hi:i<r.length) (hv:valB (la.take i)+valB (lb.take i)=valB (r.take i)+pb i*cy) (hs:s=cy+lg la i+lg lb i) :
 valB (la.take (i+1))+valB (lb.take (i+1))=valB ((r.set i ⟨s % 4294967296⟩).take (i+1))+pb (i+1)*(s / 4294967296):=by
 rw [bval_step,bval_step,bval_step (r.set i _),lg_set hi,List.take_set_of_le (Nat.le_refl i),pb_succ]
 have h:=bcarry (pb i) s
 rw [hs,Int.mul_add,Int.mul_add] at h
 rw [←hs] at h
 omega
theorem sub_next {la lb r:List U32} {i:Nat} {cy cy' s:Int} (hi:i<r.length) (hv:valB (la.take i) - valB (lb.take i)=valB (r.take i) - pb i*cy) (hs:s=lg la i - lg lb i - cy+4294967296*cy') :
 valB (la.take (i+1)) - valB (lb.take (i+1))=valB ((r.set i ⟨s⟩).take (i+1)) - pb (i+1)*cy':=by
 rw [bval_step,bval_step,bval_step (r.set i _),lg_set hi,List.take_set_of_le (Nat.le_refl i),pb_succ]
 have h:pb i*s=pb i*lg la i - pb i*lg lb i - pb i*cy+4294967296*pb i*cy':=by
  rw [hs,Int.mul_add,Int.mul_sub,Int.mul_sub,←Int.mul_assoc,Int.mul_comm (pb i) 4294967296]
 omega
theorem sub_end {la lb r:List U32} {n:Nat} {cy:Int} (hn:n=la.length) (hb:lb.length≤la.length) (hle:valB lb≤valB la) (hri:r.length=n) (hd:Lims r) (hc:0≤cy∧cy≤1) (hv:valB (la.take n) - valB (lb.take n)=valB (r.take n) - pb n*cy):valB r=valB la - valB lb:=by
 rw [take_all (by omega),take_all (by omega),take_all (by omega)] at hv
 have h:=valB_lt hd
 rw [hri] at h
 have hcy:cy=0:=by
  rcases (show cy=0∨cy=1 by omega) with h1 | h1
  · exact h1
  rw [h1,Int.mul_one] at hv;omega
 rw [hcy,Int.mul_zero] at hv
 omega
theorem bmul_next {r lb:List U32} {i j:Nat} {c s x A:Int} (hk:i+j<r.length) (hv:valB r+pb (i+j)*c=A+pb i*(x*valB (lb.take j))) (hs:s=c+(x*lg lb j+lg r (i+j))) :
 valB (r.set (i+j) ⟨s % 4294967296⟩)+pb (i+(j+1))*(s / 4294967296)=A+pb i*(x*valB (lb.take (j+1))):=by
 rw [valB_set r (i+j) ⟨s % 4294967296⟩ hk,bval_step,←Nat.add_assoc,pb_succ]
 have h1:=bcarry (pb (i+j)) s
 have h2:pb (i+j)*s=pb (i+j)*c+(pb (i+j)*(x*lg lb j)+pb (i+j)*lg r (i+j)):=by rw [hs,Int.mul_add,Int.mul_add]
 have h3:pb i*(x*(valB (lb.take j)+pb j*lg lb j))=pb i*(x*valB (lb.take j))+pb (i+j)*(x*lg lb j):=by
  rw [Int.mul_add,Int.mul_add,pb_add]
  congr 1
  rw [Int.mul_assoc,←Int.mul_assoc x,Int.mul_comm x (pb j),Int.mul_assoc]
 have h4:pb (i+j)*(s % 4294967296 - lg r (i+j))=pb (i+j)*(s % 4294967296) - pb (i+j)*lg r (i+j):=Int.mul_sub _ _ _
 show valB r+pb (i+j)*(s % 4294967296 - lg r (i+j))+4294967296*pb (i+j)*(s / 4294967296)=_
 rw [h3,h4]
 omega
theorem bmul_end {la lb r:List U32} {i:Nat} {c:Int} (hk:i+lb.length<r.length) (hz:lg r (i+lb.length)=0) (hv:valB r+pb (i+lb.length)*c=valB (la.take i)*valB lb+pb i*(lg la i*valB (lb.take lb.length))) :
 valB (r.set (i+lb.length) ⟨c⟩)=valB (la.take (i+1))*valB lb:=by
 rw [valB_set r _ _ hk,hz,take_all (Nat.le_refl _)] at *
 show valB r+pb (i+lb.length)*(c - 0)=_
 rw [Int.sub_zero,hv,bval_step,Int.add_mul,Int.mul_assoc]
theorem bmul_small {x y:Int} (hx:0≤x∧x<4294967296) (hy:0≤y∧y<4294967296):0≤x*y∧x*y≤18446744065119617025:=by
 refine ⟨Int.mul_nonneg hx.1 hy.1,?_⟩
 have h1:x*y≤4294967295*y:=Int.mul_le_mul_of_nonneg_right (by omega) hy.1
 omega
theorem bshort_next {la q:List U32} {i:Nat} {r B:Int} (hi:i<la.length) (hq:i<q.length) (hv:valB (la.drop (i+1))=valB (q.drop (i+1))*B+r) :
 valB (la.drop i)=valB ((q.set i ⟨(r*4294967296+lg la i) / B⟩).drop i)*B+(r*4294967296+lg la i) % B:=by
 rw [bdrop_step hi,bdrop_step (l:=q.set i _) (by rw [List.length_set];exact hq),lg_set hq,List.drop_set_of_lt (by omega),hv]
 have h:=Int.emod_add_mul_ediv (r*4294967296+lg la i) B
 rw [Int.add_mul,Int.mul_comm ((r*4294967296+lg la i) / B) B,Int.mul_assoc 4294967296,Int.mul_add]
 omega
theorem bshort_lt {r a B:Int} (hr:0≤r∧r<B) (ha:0≤a∧a<4294967296):0≤(r*4294967296+a) / B∧(r*4294967296+a) / B<4294967296:=by
 refine ⟨Int.ediv_nonneg (by omega) (by omega),Int.ediv_lt_of_lt_mul (by omega) ?_⟩
 have h1:=Int.mul_le_mul_of_nonneg_right (show r+1≤B by omega) (show (0:Int)≤4294967296 by decide)
 rw [Int.mul_comm 4294967296 B]
 omega
theorem bone_val {lb:List U32} (h:lb.length=1):valB lb=lg lb 0:=by
 match lb,h with
 | [d],_=>rw [valB_one];rfl
theorem u32_same {x y:U32} (h:x.v=y.v):x=y:=by cases x;cases y;simp only at h;rw [h]
theorem bdrop_same {la lb:List U32} {k:Nat} (hn:la.length=lb.length) (h:∀ j,k≤j→j<la.length→lg la j=lg lb j):la.drop k=lb.drop k:=by
 refine List.ext_getElem? fun i=>?_
 rw [List.getElem?_drop,List.getElem?_drop]
 rcases Nat.lt_or_ge (k+i) la.length with h1 | h1
 · have h2:=h (k+i) (by omega) h1
   unfold lg at h2
   rw [Int.toNat_natCast] at h2
   rw [List.getElem?_eq_getElem h1,List.getElem?_eq_getElem (by omega)] at h2 ⊢
   exact congrArg some (u32_same h2)
 rw [List.getElem?_eq_none h1,List.getElem?_eq_none (by omega)]
theorem bhigh_lt {la lb:List U32} {k:Nat} (hn:la.length=lb.length) (hk:k<la.length) (da:Lims la) (db:Lims lb) (h:∀ j,k+1≤j→j<la.length→lg la j=lg lb j) (hlt:lg la k<lg lb k):valB la<valB lb:=by
 have e:=bdrop_same hn h
 have h1:=bval_split la (show k+1≤la.length by omega)
 have h2:=bval_split lb (show k+1≤lb.length by omega)
 rw [e] at h1
 rw [bval_step] at h1 h2
 have h3:=valB_lt (da.take k)
 rw [List.length_take,Nat.min_eq_left (by omega)] at h3
 have h4:=valB_nonneg (db.take k)
 have h5:=Int.mul_le_mul_of_nonneg_left (show lg la k+1≤lg lb k by omega) (Int.le_of_lt (pb_pos k))
 rw [Int.mul_add,Int.mul_one] at h5
 omega
end Go.Sl
namespace Go.Sl
open Go
theorem kn_low {p Ul U3 Vl V2 g:Int} (hp:0<p) (hUl:Ul<p) (hVl:0≤Vl) (hg:0≤g) (h:U3<g*V2):Ul+p*U3<g*(Vl+p*V2):=by
 have h1:=Int.mul_le_mul_of_nonneg_left (show U3+1≤g*V2 by omega) (Int.le_of_lt hp)
 have h2:=Int.mul_nonneg hg hVl
 rw [Int.mul_add,Int.mul_one] at h1
 rw [Int.mul_add,Int.mul_left_comm g p]
 omega
theorem kn_high {p Ul U3 Vl V2 g:Int} (hp:0<p) (hUl:0≤Ul) (hVl:0≤Vl∧Vl<p) (hg:0≤g∧g<4294967296) (hV2:4294967296≤V2) (h:g*V2≤U3):(g - 1)*(Vl+p*V2)≤Ul+p*U3:=by
 have h1:=Int.mul_le_mul_of_nonneg_left h (Int.le_of_lt hp)
 have h2:=Int.mul_le_mul_of_nonneg_left (Int.le_of_lt hVl.2) hg.1
 have h3:=Int.mul_le_mul_of_nonneg_right (Int.le_of_lt hg.2) (Int.le_of_lt hp)
 have h4:=Int.mul_le_mul_of_nonneg_left hV2 (Int.le_of_lt hp)
 rw [Int.sub_mul,Int.one_mul,Int.mul_add,Int.mul_left_comm g p]
 rw [Int.mul_comm p 4294967296] at h4
 omega
theorem kn_cmp {g v1 v2 high rest u2:Int} (h:g*v1+rest=high):g*(v2+4294967296*v1) - (u2+4294967296*high)=g*v2 - (rest*4294967296+u2):=by
 rw [Int.mul_add,Int.mul_left_comm g 4294967296,←h]
 omega
theorem kn_break {g v1 high rest:Int} (h:g*v1+rest=high) (hr:4294967296≤rest) (hv:0<v1) (hh:high<v1*4294967296+4294967296):g<4294967296:=by
 rcases Int.lt_or_le g 4294967296 with h1 | h1
 · exact h1
 have h2:=Int.mul_le_mul_of_nonneg_right h1 (Int.le_of_lt hv)
 omega
section
variable {u v:List U32} {m:Nat}
theorem top3 (hu:u.length=m+3):valB u=valB (u.take m)+pb m*(lg u m+4294967296*(lg u (m+2)*4294967296+lg u (m+1))):=by
 have h0:=bval_split u (show m≤u.length by omega)
 rw [bdrop_step (l:=u) (i:=m) (by omega),bdrop_step (l:=u) (i:=m+1) (by omega),bdrop_step (l:=u) (i:=m+1+1) (by omega),List.drop_eq_nil_of_le (show u.length≤m+1+1+1 by omega),valB_nil] at h0
 rw [h0]
 congr 2
 show lg u m+4294967296*(lg u (m+1)+4294967296*(lg u (m+2)+4294967296*0))=_
 omega
theorem top2 (hv:v.length=m+2):valB v=valB (v.take m)+pb m*(lg v m+4294967296*lg v (m+1)):=by
 have h0:=bval_split v (show m≤v.length by omega)
 rw [bdrop_step (l:=v) (i:=m) (by omega),bdrop_step (l:=v) (i:=m+1) (by omega),List.drop_eq_nil_of_le (show v.length≤m+1+1 by omega),valB_nil] at h0
 rw [h0]
 congr 2
 omega
theorem take_rng {l:List U32} (d:Lims l) (h:m≤l.length):0≤valB (l.take m)∧valB (l.take m)<pb m:=by
 have h1:=valB_lt (d.take m)
 rw [List.length_take,Nat.min_eq_left h] at h1
 exact ⟨valB_nonneg (d.take m),h1⟩
variable (hu:u.length=m+3) (hv:v.length=m+2) (du:Lims u) (dv:Lims v)
include hu hv du dv
theorem kn_first {g rest high:Int} (hh:high=lg u (m+2)*4294967296+lg u (m+1)) (h1:0<lg v (m+1)) (hg:g=high / lg v (m+1)) (hr:rest=high % lg v (m+1)) :
 g*lg v (m+1)+rest=high∧0≤g∧0≤rest∧rest<lg v (m+1)∧valB u<(g+1)*valB v:=by
 have a1:=lg_rng du (m+2)
 have a2:=lg_rng du (m+1)
 have a3:=lg_rng du m
 have a4:=lg_rng dv m
 have hn:0≤high:=by omega
 have e1:=Int.emod_add_mul_ediv high (lg v (m+1))
 have e2:=Int.emod_lt_of_pos high h1
 have e3:=Int.emod_nonneg high (show lg v (m+1)≠0 by omega)
 have e4:=Int.ediv_nonneg hn (Int.le_of_lt h1)
 rw [←hg,←hr] at e1
 rw [←hr] at e2 e3
 rw [←hg] at e4
 rw [Int.mul_comm] at e1
 refine ⟨by omega,e4,e3,e2,?_⟩
 rw [top3 hu,top2 hv,←hh]
 refine kn_low (pb_pos m) (take_rng du (by omega)).2 (take_rng dv (by omega)).1 (by omega) ?_
 have e5:(g+1)*lg v (m+1)=g*lg v (m+1)+lg v (m+1):=by rw [Int.add_mul,Int.one_mul]
 have e6:=Int.mul_nonneg (show 0≤g+1 by omega) a4.1
 rw [Int.mul_add,Int.mul_left_comm (g+1) 4294967296,e5]
 omega
theorem kn_dec {g rest high:Int} (hh:high=lg u (m+2)*4294967296+lg u (m+1)) (h:g*lg v (m+1)+rest=high) (hg:0≤g) (hc:rest*4294967296+lg u m<g*lg v m):valB u<g*valB v:=by
 have e:=kn_cmp (v2:=lg v m) (u2:=lg u m) h
 rw [top3 hu,top2 hv,←hh]
 exact kn_low (pb_pos m) (take_rng du (by omega)).2 (take_rng dv (by omega)).1 hg (by omega)
theorem kn_end {g rest high:Int} (hh:high=lg u (m+2)*4294967296+lg u (m+1)) (h:g*lg v (m+1)+rest=high) (hg:0≤g∧g<4294967296) (h1:1≤lg v (m+1)) (hc:g*lg v m≤rest*4294967296+lg u m):(g - 1)*valB v≤valB u:=by
 have e:=kn_cmp (v2:=lg v m) (u2:=lg u m) h
 have a4:=lg_rng dv m
 rw [top3 hu,top2 hv,←hh]
 exact kn_high (pb_pos m) (take_rng du (by omega)).1 (take_rng dv (by omega)) hg (by omega) (by omega)
end
theorem less_next {u v w:List U32} {i:Nat} {t c c' b b' s:Int} (hi:i<w.length) (hv:valB (u.take i) - t*valB (v.take i)=valB (w.take i) - pb i*(b+c)) (hc:c'=c+lg v i*t)
 (hs:s=lg u i - c' % 4294967296 - b+4294967296*b') :
 valB (u.take (i+1)) - t*valB (v.take (i+1))=valB ((w.set i ⟨s⟩).take (i+1)) - pb (i+1)*(b'+c' / 4294967296):=by
 rw [bval_step,bval_step,bval_step (w.set i _),lg_set hi,List.take_set_of_le (Nat.le_refl i),pb_succ]
 have h1:=bcarry (pb i) c'
 have h2:pb i*c'=pb i*c+t*(pb i*lg v i):=by rw [hc,Int.mul_add,Int.mul_comm (lg v i) t,Int.mul_left_comm t]
 have h3:pb i*s=pb i*lg u i - pb i*(c' % 4294967296) - pb i*b+4294967296*pb i*b':=by
  rw [hs,Int.mul_add,Int.mul_sub,Int.mul_sub,←Int.mul_assoc,Int.mul_comm (pb i) 4294967296]
 rw [Int.mul_add] at hv
 rw [Int.mul_add t,Int.mul_add (4294967296*pb i)]
 omega
theorem less_carry {c x t:Int} (hc:0≤c∧c<4294967296) (hx:0≤x∧x<4294967296) (ht:0≤t∧t<4294967296):0≤c+x*t∧c+x*t<18446744073709551616∧0≤(c+x*t) / 4294967296∧(c+x*t) / 4294967296<4294967296∧0≤x*t∧x*t≤18446744065119617025:=by
 have h:=bmul_small hx ht
 omega
theorem back_end {u v w z:List U32} {n:Nat} {g c:Int} (hu:valB w=valB u - g*valB v+pb n) (hlow:(g - 1)*valB v≤valB u) (hup:valB u<g*valB v) (hw:w.length=n) (hz:z.length=n) (hvn:valB v<pb n) (hvl:v.length≤n) (dz:Lims z) (hc:0≤c∧c≤1)
 (hs:valB (w.take n)+valB (v.take n)=valB (z.take n)+pb n*c):valB z=valB u - (g - 1)*valB v:=by
 rw [take_all (by omega),take_all (by omega),take_all (by omega)] at hs
 have h1:=valB_nonneg dz
 have h2:=valB_lt dz
 rw [hz] at h2
 have e:(g - 1)*valB v=g*valB v - valB v:=by rw [Int.sub_mul,Int.one_mul]
 have hc1:c=1:=by
  rcases (show c=0∨c=1 by omega) with h | h
  · rw [h,Int.mul_zero] at hs;omega
  exact h
 rw [hc1,Int.mul_one] at hs
 omega
theorem win_val (p w w' q:List U32) (h:w'.length=w.length):valB (p++(w'++q))=valB (p++(w++q))+pb p.length*(valB w' - valB w):=by
 rw [valB_append,valB_append,valB_append,valB_append,h,Int.mul_add,Int.mul_add,Int.mul_sub]
 omega
theorem quo_next {A V q g:Int} {R R':Int} {l:List U32} {k:Nat} (hk:k<l.length) (hz:lg l k=0) (hA:A=valB l*V+R) (hR:R'=R+pb k*(-(g*V))):A=valB (l.set k ⟨g⟩)*V+R':=by
 rw [valB_set l k _ hk,hz,hA,hR,Int.sub_zero,Int.add_mul,Int.mul_assoc,Int.mul_neg]
 show _=valB l*V+pb k*(g*V)+(R + -(pb k*(g*V)))
 omega
end Go.Sl
namespace Go.Sl
open Go
section
variable {P:Program} {ops:Array Oper} {rest:List Oper} {B:Bs} {e:Env} {D:List Deferred} {H:Hp} {G:Imm} {K:Act→World→Prop}
 {ty:TypeId} {pos:String} {after:Array Edge} {d:Nat}
theorem win_get {p w q:List U32} {m:Int} (hm:0≤m∧m<w.length):(p++(w++q))[((p.length:Int)+m).toNat]?.getD default=w[m.toNat]?.getD default:=by
 have h1:((p.length:Int)+m).toNat=p.length+m.toNat:=by omega
 rw [h1,List.getElem?_append_right (by omega),Nat.add_sub_cancel_left,List.getElem?_append_left (by omega)]
theorem win_set {p w q:List U32} {m:Int} (hm:0≤m∧m<w.length) (z:U32):(p++(w++q)).set ((p.length:Int)+m).toNat z=p++(w.set m.toNat z++q):=by
 have h1:((p.length:Int)+m).toNat=p.length+m.toNat:=by omega
 rw [h1,List.set_append_right _ _ (by omega),Nat.add_sub_cancel_left,List.set_append_left _ _ (by omega)]
theorem win_off {k:Nat} {m:Int} (hm:0≤m):k+m.toNat*1=0+((k:Int)+m).toNat*Cells.sz U32+0:=by
 show k+m.toNat*1=0+((k:Int)+m).toNat*1+0
 omega
theorem Qy.loadW {T:TypeId} {x:Operand} {b:Nat} {E:TypeId} {p w q:List U32} {junk:List Value} {m:Int} (t:Nat) (h1:oneB P T=true) (hx:e.ev x=some (.pointer (some ⟨b,p.length+m.toNat*1,none⟩)))
 (ht:H.get t=some (some b,Row E (p++(w++q)) junk)) (hm:0≤m∧m<w.length):Qy P (.load T x) ty e H G (.int .u32 (w[m.toNat]?.getD default).v):=by
 rw [win_off hm.1] at hx
 refine Qy.loadF (m:=(p.length:Int)+m) t 0 h1 hx ht ⟨by omega,by rw [List.length_append,List.length_append];omega⟩ rfl ?_
 rw [win_get hm];rfl
theorem Wl.setW {T:TypeId} {x y:Operand} {b:Nat} {E:TypeId} {p w q:List U32} {junk:List Value} {m n:Int} (t:Nat) (hs:(P.info? T).map (·.size)=some 1)
 (hx:e.ev x=some (.pointer (some ⟨b,p.length+m.toNat*1,none⟩))) (hy:e.ev y=some (.int .u32 n)) (ht:H.get t=some (some b,Row E (p++(w++q)) junk)) (hm:0≤m∧m<w.length)
 (h:Wl P ops rest B ⟨e,D,(t,some b,Row E (p++(w.set m.toNat ⟨n⟩++q)) junk) :: H,G⟩ K):Wl P ops (⟨none,.store T x y,ty,pos,after,none⟩ :: rest) B ⟨e,D,H,G⟩ K:=by
 rw [win_off hm.1] at hx
 refine Wl.setF (m:=(p.length:Int)+m) (z:=(⟨n⟩:U32)) t hs hx hy rfl ht ⟨by omega,by rw [List.length_append,List.length_append];omega⟩ ?_
 rw [win_set hm];exact h
theorem Qy.cutHM {T:TypeId} {x hi mx:Operand} {a:Option Addr} {n c E sz:Nat} {k k':IntKind} {m m':Int} (hT:isSlice P T E sz) (hx:e.ev x=some (.slice a n c)) (hh:e.ev hi=some (.int k m)) (hh':e.ev mx=some (.int k' m')) (h0:0≤m) (h1:m≤m') (h2:m'≤c) :
 Qy P (.slice T x none (some hi) (some mx)) ty e H G (.slice (subA a m'.toNat 0 sz) m.toNat m'.toNat):=fun ac w _ _ _ _ hk=>by
 have hr:=run_sizeOf (P:=P) w hT.2
 have hu:P.underlying T=some (.slice (P.elem T)):=by simp [Program.elem,hT.1]
 have he:P.elem T=E:=by simp [Program.elem,hT.1]
 have:=run_slice_hm (P:=P) (w:=w) T a n c hu k k' m m' h0 h1 h2
 simp only [execOp,hk.eval hx,Option.map_some,Option.map_none,hk.eval hh,hk.eval hh',Sem.run_bind,run_sliceAt_slice (P:=P) (w:=w) T _ _ _ _ hu,this,he,hr,Result.andThen_ok,Sem.run_pure,sliced,subA,Nat.sub_zero]
end
end Go.Sl
namespace Go.Sl
open Go
section
variable {P:Program} {ops:Array Oper} {rest:List Oper} {B:Bs} {e:Env} {D:List Deferred} {H:Hp} {G:Imm} {K:Act→World→Prop}
 {ty:TypeId} {pos:String} {after:Array Edge} {d:Nat} {α:Type} [Cells α]
theorem run_copyRow {w:World} (hw:HoldH H G w) {T T2 E:Nat} (hT:isSlice P T E (Cells.sz α)) {t b:Nat} {ad:Option Addr} {c c2:Nat} {xs ys:List α} {junk:List Value}
 (ht:H.get t=some (some b,Row E xs junk)) (hsrc:Src H G ad ys) (hle:ys.length≤xs.length) :
 ∃ w',(Builtin.copy_ #[T,T2] ty #[.slice (some ⟨b,0,none⟩) xs.length c,.slice ad ys.length c2]).run P w=.ok (.int .i64 (ys.length:Int)) w'∧Upd (·=b) w w'∧w'.heap[b]?=some (Row E (ys++xs.drop ys.length) junk):=by
 have hb:=hw.own t b _ ht
 have hmin:Nat.min ys.length xs.length=ys.length:=Nat.min_eq_left hle
 cases hq:P.info? E with
 | none=>have:=hT.2;simp [hq] at this
 | some i =>
   have hi:i.size=Cells.sz α:=by have:=hT.2;simpa [hq] using this
   rcases hsrc w hw with ⟨rfl,rfl⟩ | ⟨src,rfl,hsr⟩
   · refine ⟨w,?_,Upd.refl _ _,by simpa using hb⟩
     have hm0:Nat.min (0:Nat) xs.length=0:=Nat.zero_min _
     simp [Builtin.copy_,run_underlying hT.1,Builtin.lenOf,Builtin.firstCells,sizeOf,typeInfo,hq,storeCells,hm0,goInt]
   have hl:=run_loadCells_list (P:=P) w src (flat ys) hsr
   have hfy:(flat ys).length=ys.length*Cells.sz α:=flat_length ys
   have hfx:(flat xs).length=xs.length*Cells.sz α:=flat_length xs
   have hmul:=Nat.mul_le_mul_right (Cells.sz α) hle
   have hfit:0+0+(flat ys).length≤((flat xs++junk).toArray).size:=by
    rw [List.size_toArray,List.length_append];omega
   have hst:=run_storeCells_at P b 0 E (flat ys) 0 (flat xs++junk).toArray w hb hfit (fun v hv=>List.all_eq_true.1 (flat_all ys) v hv)
   refine ⟨_,?_,setRow_upd w b (((flat xs++junk).toArray.toList.take (0+0)++flat ys++(flat xs++junk).toArray.toList.drop (0+0+(flat ys).length)).toArray),?_⟩
   · rw [hfy] at hl
     simp [Builtin.copy_,run_underlying hT.1,Builtin.lenOf,Builtin.firstCells,sizeOf,typeInfo,hq,hi,hmin,hl,hst,goInt]
   rw [setRow_heap w b _ _ E _ hb]
   have hsplit:flat xs=flat (xs.take ys.length)++flat (xs.drop ys.length):=by rw [←flat_append,List.take_append_drop]
   have htl:(flat (xs.take ys.length)).length=(flat ys).length:=by rw [flat_length,flat_length,List.length_take,Nat.min_eq_left hle]
   unfold Row
   rw [flat_append]
   simp only [Nat.add_zero,Nat.zero_add,List.take_zero,List.nil_append]
   rw [hsplit,List.append_assoc,←htl,List.drop_left,List.append_assoc]
theorem Wl.copyRow {x y:Operand} {T T2 E b:Nat} {ad:Option Addr} {c c2:Nat} {xs ys:List α} {junk:List Value} (t:Nat) (hn:Nat.ble (d+1) B.n=true) (hT:isSlice P T E (Cells.sz α))
 (hx:e.ev x=some (.slice (some ⟨b,0,none⟩) xs.length c)) (hy:e.ev y=some (.slice ad ys.length c2)) (ht:H.get t=some (some b,Row E xs junk)) (hsrc:Src H G ad ys) (hle:ys.length≤xs.length)
 (h:Wl P ops rest B ⟨(d,.int .i64 (ys.length:Int)) :: e,D,(t,some b,Row E (ys++xs.drop ys.length) junk) :: H,G⟩ K) :
 Wl P ops (⟨some d,.call { callee:=.builtin .copy,args:=#[x,y],argTypes:=#[T,T2] },ty,pos,after,none⟩ :: rest) B ⟨e,D,H,G⟩ K:=by
 refine Wl.writes (v:=.int .i64 (ys.length:Int)) (x:=.value (.int .i64 (ys.length:Int))) ht (.inr ⟨rfl,d,rfl,hn⟩) (fun a w hh=>?_) h
 obtain ⟨w',hrun,hu,hb⟩:=run_copyRow (c:=c) (c2:=c2) (T2:=T2) (ty:=ty) hh.mem hT ht hsrc hle
 refine ⟨w',?_,hu,hb⟩
 simp only [execOp,resolve,invoke,builtin,Sem.run_bind,Sem.run_pure,Result.andThen_ok,List.map_toArray,List.map_cons,List.map_nil,hh.eval hx,hh.eval hy,hrun]
end
theorem Qy.usubN {P:Program} {e:Env} {H:Hp} {G:Imm} {ty t t':TypeId} {x y:Operand} {m n:Int} (hx:e.ev x=some (.int .u64 m)) (hy:e.ev y=some (.int .u64 n)) (h0:m<n∧0≤m∧n≤18446744073709551615):Qy P (.binOp .sub t x y t') ty e H G (.int .u64 (m - n+18446744073709551616)):=by
 have h:=Qy.subW (P:=P) (H:=H) (G:=G) (ty:=ty) (t:=t) (t':=t') hx hy
 have e1:IntKind.u64.wrap (m - n)=m - n+18446744073709551616:=by rw [IntKind.wrap_u64];omega
 rw [e1] at h;exact h
theorem Does.pureCalls {P:Program} {f:FuncId} {args:List Value} {G:Imm} {u:Value} (h:∀ w,Calls P f args.toArray w fun e w'=>e=.returned u∧w'=w):Does P f args G [] (fun v G' Ho=>v=u∧G'=G∧Ho=[]):=
 fun w hw=>(h w).mono fun e w' he=>by
  obtain ⟨rfl,rfl⟩:=he
  exact ⟨u,G,[],rfl,hw,Imm.le_refl G,Upd.refl _ _,fun b h1 h2=>absurd h2 h1,fun t b o ht=>by simp [Hp.get] at ht,rfl,rfl,rfl⟩
end Go.Sl
namespace Go.Proofs.YtfdcckcadfhpeaaGreatDoor
open Go Go.Sl
set_option maxHeartbeats 4000000
def cmpZ (x y:Int):Int:=if x<y then -1 else if y<x then 1 else 0
theorem cmpZ_lt {x y:Int} (h:x<y):cmpZ x y=-1:=if_pos h
theorem cmpZ_gt {x y:Int} (h:y<x):cmpZ x y=1:=by unfold cmpZ;rw [if_neg (by omega),if_pos h]
theorem cmpZ_eq {x y:Int} (h:x=y):cmpZ x y=0:=by unfold cmpZ;rw [if_neg (by omega),if_neg (by omega)]
theorem cmpZ_congr {x y u v:Int} (h1:x<y↔u<v) (h2:y<x↔v<u):cmpZ x y=cmpZ u v:=by unfold cmpZ;simp only [h1,h2]
theorem trim_val {l m:List U32} (he:m=l.take m.length) (ht:Trim l m.length):valB m=valB l:=by rw [he];exact ht.val
theorem trim_top {l m:List U32} (he:m=l.take m.length) (ht:Trim l m.length):Top m:=by rw [he];exact ht.top
theorem trim_lims {l m:List U32} (he:m=l.take m.length) (hd:Lims l):Lims m:=by rw [he];exact hd.take _
attribute [local irreducible] valB pb cmpZ
theorem c181 (G:Imm) (a:Option Addr) (c:Nat) (l:List U32) (hl:Arr G a l) (hb:l.length≤1099511627776) (hc:l.length≤c) :
 Does Tryz.prog 181 [.slice a l.length c] G [] (fun v G' Ho=>∃ (b:Option Addr) (m:List U32),v=.slice b m.length m.length∧Arr G b m∧m=l.take m.length∧Trim l m.length∧m.length≤l.length∧G'=G∧Ho=[]):=by
 refine Does.enter Tryz.func181 rfl Tryz.ntmps181 rfl (fun w=>?_)
 refine Wc.gc 14 [] ?_
 refine Wc.loop (ι:=Nat) (fun n=>([(3,.int .i64 (n:Int)),(2,.slice none 0 0),(0,.slice a (List.length l) c)],[])) (fun n=>n≤l.length∧(∀ j,n≤j→j<l.length→(l[j]?.getD default).v=0)) (fun n=>n) (l.length) (⟨Nat.le_refl _,fun j h1 h2=>absurd h2 (by omega)⟩) ⟨rfl,rfl,rfl,trivial⟩ trivial (fun n=>fun hk=>?_)
 obtain ⟨hn,hz⟩:=hk
 have done:(n=0∨(l[n - 1]?.getD default).v≠0)→∃ (b:Option Addr) (m:List U32),Value.slice (subA a n 0 1) n n=.slice b m.length m.length∧Arr G b m∧m=l.take m.length∧Trim l m.length∧m.length≤l.length∧G=G∧([]:Hp)=[]:=fun ht=>by
  have e:(l.take n).length=n:=by rw [List.length_take,Nat.min_eq_left hn]
  refine ⟨subA a n 0 1,l.take n,by rw [e],barr_sub hl n,by rw [e],?_,by rw [e];exact hn,rfl,rfl⟩
  rw [e];exact ⟨hn,hz,ht⟩
 refine Wc.gl 6 [] ?_
 apply Wl.joinAnd 7 8 15 rfl
 intro hg1
 refine Wl.ll0 7 [] ?_
 refine Wl.q rfl (Qy.at (α:=U32) T.sl123 rfl rfl (by assumption) (by omega)) ?_
 refine Wl.want rfl rfl ?_
 refine Wl.q rfl (Qy.loadG T.one215 rfl (Arr.cell (by assumption) (by omega) 0 rfl rfl)) ?_
 refine Wl.ll0 3 [] ?_
 exact Wl.back 7 0 rfl rfl rfl rfl rfl
 intro hg1
 refine Wl.ll0 7 [] ?_
 exact Wl.back 7 0 rfl rfl rfl rfl rfl
 refine Wl.gc 2 [] ?_
 refine Wc.cond rfl (fun hc1=>?_) (fun hc1=>?_)
 refine Wc.ga 9 [] ?_
 rotate_left
 refine Wc.gl 10 [] ?_
 refine Wl.q rfl (Qy.cutHM T.sl123 rfl rfl rfl (by omega) (by omega) (by omega)) ?_
 refine Wl.ga 4 [] ?_
 refine Ar.e1 ?_
 rotate_left
 · refine Ar.re 3 rfl (show _=Value.int .i64 ((n - 1:Nat):Int) by congr 1;omega) ?_
   refine Ar.again (n - 1) ?_ ?_ rfl ⟨rfl,rfl,rfl,trivial⟩ trivial
   · refine ⟨by omega,fun j h1 h2=>?_⟩
     rcases Nat.lt_or_ge j n with h3 | h3
     · have e:j=(((n:Nat):Int) - 1).toNat:=by omega
       rw [e];exact hc1.2
     exact hz j h3 h2
   omega
 refine done ?_
 rcases Nat.eq_zero_or_pos n with h | h
 · exact .inl h
 refine .inr fun h2=>hc1 ⟨by omega,?_⟩
 have e:(((n:Nat):Int) - 1).toNat=n - 1:=by omega
 rw [e];exact h2
theorem c182 (G:Imm) (a b:Option Addr) (ca cb:Nat) (la lb:List U32) (ha:Arr G a la) (hb:Arr G b lb) (da:Lims la) (db:Lims lb) (h1:la.length≤1073741824) (h2:lb.length≤1073741824) (h3:la.length≤ca) (h4:lb.length≤cb) :
 Does Tryz.prog 182 [.slice a la.length ca,.slice b lb.length cb] G [] (fun v G' Ho=>v=.int .i64 (cmpZ (valB la) (valB lb))∧G'=G∧Ho=[]):=by
 refine Does.enter Tryz.func182 rfl Tryz.ntmps182 rfl (fun w=>?_)
 refine Wc.gl 8 [] ?_
 refine Wl.k 0 rfl (c181 _ _ _ _ (by assumption) (by omega) (by first | assumption | omega)) (fun v1 G1 Ho1 hle1 hp=>?_)
 obtain ⟨ta1,tm1,rfl,hta1,hte1,htr1,htl1,rfl,rfl⟩:=hp
 refine Wl.q rfl (Qy.move rfl) ?_
 refine Wl.k 0 rfl (c181 _ _ _ _ (by assumption) (by omega) (by first | assumption | omega)) (fun v2 G2 Ho2 hle2 hp=>?_)
 obtain ⟨ta2,tm2,rfl,hta2,hte2,htr2,htl2,rfl,rfl⟩:=hp
 refine Wl.gc 16 [] ?_
 refine Wc.cond rfl (fun hc1=>?_) (fun hc1=>?_)
 refine Wc.ga 8 [] ?_
 refine Ar.e1 ?_
 rotate_left
 refine Wc.gc 10 [] ?_
 refine Wc.cond rfl (fun hc2=>?_) (fun hc2=>?_)
 refine Wc.ga 8 [] ?_
 refine Ar.e1 ?_
 rotate_left
 refine Wc.gc 13 [] ?_
 rotate_left
 · rw [←trim_val hte1 htr1,←trim_val hte2 htr2]
   exact ⟨by rw [cmpZ_lt (ltop_lt_len (trim_lims hte1 da) (trim_lims hte2 db) (trim_top hte2 htr2) (by omega))],rfl,rfl⟩
 · rw [←trim_val hte1 htr1,←trim_val hte2 htr2]
   exact ⟨by rw [cmpZ_gt (ltop_lt_len (trim_lims hte2 db) (trim_lims hte1 da) (trim_top hte1 htr1) (by omega))],rfl,rfl⟩
 rw [←trim_val hte1 htr1,←trim_val hte2 htr2]
 have dma:=trim_lims hte1 da
 have dmb:=trim_lims hte2 db
 have l1:=htr1.1
 have l2:=htr2.1
 have hn:tm1.length=tm2.length:=by omega
 refine Wc.loop (ι:=Nat) (fun k=>([(5,.int .i64 ((k:Int) - 1)),(1,.slice ta2 (List.length tm2) (List.length tm2)),(0,.slice ta1 (List.length tm1) (List.length tm1))],[])) (fun k=>k≤tm1.length∧∀ j,k≤j→j<tm1.length→lg tm1 j=lg tm2 j) (fun k=>k) (tm1.length) (⟨Nat.le_refl _,fun j h1 h2=>absurd h2 (by omega)⟩) ⟨rfl,rfl,rfl,trivial⟩ trivial (fun k=>fun hk=>?_)
 obtain ⟨hk1,hz⟩:=hk
 rcases Nat.eq_zero_or_pos k with rfl | hpos
 · refine Wc.ga 19 [0] ?_
   refine Ar.e1 ?_
   have e:tm1=tm2:=by
    have:=bdrop_same (k:=0) hn hz
    simpa using this
   exact ⟨by rw [e,cmpZ_eq rfl],rfl,rfl⟩
 have e1:(tm1[(((k:Nat):Int) - 1).toNat]?.getD default).v=lg tm1 (k - 1):=by
  unfold lg;rw [show (((k:Nat):Int) - 1).toNat=((k - 1:Nat):Int).toNat by omega]
 have e2:(tm2[(((k:Nat):Int) - 1).toNat]?.getD default).v=lg tm2 (k - 1):=by
  unfold lg;rw [show (((k:Nat):Int) - 1).toNat=((k - 1:Nat):Int).toNat by omega]
 have hz':∀ j,(k - 1)+1≤j→j<tm1.length→lg tm1 j=lg tm2 j:=fun j h1 h2=>hz j (by omega) h2
 refine Wc.gc 14 [1] ?_
 refine Wc.draw [] [] T.mixed rfl ?_
 refine Gm.c 0 [] [] ?_
 refine Gm.c 1 [] [] ?_
 refine Gm.u 2 [] rfl (Qy.at (α:=U32) T.sl123 rfl rfl (by assumption) (by omega)) ?_
 refine Gm.u 3 [] rfl (Qy.loadG T.one215 rfl (Arr.cell (by assumption) (by omega) 0 rfl rfl)) ?_
 refine Gm.c 4 [] [] ?_
 refine Gm.c 5 [] [] ?_
 refine Gm.u 6 [] rfl (Qy.at (α:=U32) T.sl123 rfl rfl (by assumption) (by omega)) ?_
 refine Gm.u 7 [] rfl (Qy.loadG T.one215 rfl (Arr.cell (by assumption) (by omega) 0 rfl rfl)) ?_
 refine Gm.c 8 [] [] ?_
 refine Gm.c 9 [] [] ?_
 refine Gm.fin ?_
 refine Ar.next ?_
 refine Wc.cond rfl (fun hc3=>?_) (fun hc3=>?_)
 refine Wc.ga 12 [] ?_
 refine Ar.e1 ?_
 rotate_left
 refine Wc.seq ?_
 refine Wc.draw [] [] T.mixed rfl ?_
 refine Gm.c 0 [] [] ?_
 refine Gm.c 1 [] [] ?_
 refine Gm.u 2 [] rfl (Qy.at (α:=U32) T.sl123 rfl rfl (by assumption) (by omega)) ?_
 refine Gm.u 3 [] rfl (Qy.loadG T.one215 rfl (Arr.cell (by assumption) (by omega) 0 rfl rfl)) ?_
 refine Gm.c 4 [] [] ?_
 refine Gm.c 5 [] [] ?_
 refine Gm.u 6 [] rfl (Qy.at (α:=U32) T.sl123 rfl rfl (by assumption) (by omega)) ?_
 refine Gm.u 7 [] rfl (Qy.loadG T.one215 rfl (Arr.cell (by assumption) (by omega) 0 rfl rfl)) ?_
 refine Gm.c 8 [] [] ?_
 refine Gm.c 9 [] [] ?_
 refine Gm.fin ?_
 refine Ar.next ?_
 refine Wc.cond rfl (fun hc4=>?_) (fun hc4=>?_)
 refine Wc.ga 12 [] ?_
 refine Ar.e1 ?_
 rotate_left
 refine Wc.ga 9 [] ?_
 rotate_left
 · exact ⟨by rw [cmpZ_lt (bhigh_lt hn (by omega) dma dmb hz' (by omega))],rfl,rfl⟩
 · exact ⟨by rw [cmpZ_gt (bhigh_lt hn.symm (by omega) dmb dma (fun j h1 h2=>(hz' j h1 (by omega)).symm) (by omega))],rfl,rfl⟩
 refine Ar.re 5 rfl (show _=Value.int .i64 (((k - 1:Nat):Int) - 1) by congr 1;omega) ?_
 refine Ar.again (k - 1) ?_ ?_ rfl ⟨rfl,rfl,rfl,trivial⟩ trivial
 · refine ⟨by omega,fun j h1 h2=>?_⟩
   rcases Nat.lt_or_ge j k with h3 | h3
   · have e:j=k - 1:=by omega
     rw [e];omega
   exact hz j h3 h2
 omega
theorem c185 (G:Imm) (a:Option Addr) (c:Nat) (l:List U32) (hl:Arr G a l) (hb:l.length≤1073741824) (hc:l.length≤c) :
 Does Tryz.prog 185 [.slice a l.length c] G [] (fun v G' Ho=>∃ (b:Option Addr) (m:List U32),v=.slice b m.length m.length∧Arr G' b m∧m=l.take m.length∧Trim l m.length∧m.length≤l.length∧Ho=[]):=by
 refine Does.enter Tryz.func185 rfl Tryz.ntmps185 rfl (fun w=>?_)
 refine Wc.gl 8 [] ?_
 refine Wl.k 0 rfl (c181 _ _ _ _ (by assumption) (by omega) (by first | assumption | omega)) (fun v1 G1 Ho1 hle1 hp=>?_)
 obtain ⟨ta1,tm1,rfl,hta1,hte1,htr1,htl1,rfl,rfl⟩:=hp
 refine Wl.gl 7 [] ?_
 refine Wl.make (α:=U32) 0 rfl T.sl123 T.el215 rfl rfl (by omega) (by omega) (fun b1=>?_)
 refine Wl.gl 7 [] ?_
 refine Wl.copyRow (α:=U32) 0 rfl T.sl123 rfl rfl rfl (Src.arr (by assumption)) (by first | omega | (simp only [List.length_append,List.length_cons,List.length_nil,List.length_replicate];omega)) ?_
 refine Wl.ga 9 [] ?_
 have e1:(List.replicate ((tm1.length:Nat):Int).toNat (default:U32)).length=tm1.length:=by rw [List.length_replicate,Int.toNat_natCast]
 refine Ar.reH 0 (Row 215 tm1 []) rfl (by rw [List.drop_eq_nil_of_le (by rw [e1];exact Nat.le_refl _),List.append_nil]) ?_
 refine Ar.re 2 rfl (show _=Value.slice (some ⟨b1,0,none⟩) tm1.length tm1.length by rw [e1]) ?_
 refine Ar.freezeRow 0 rfl (OwnA.made (xs:=tm1) (by simp only [maxLen];omega)) (fun G9 hle9 hA=>?_)
 refine Ar.out1 (.inr rfl) (Ho:=[]) rfl (.tmp rfl) trivial ?_
 exact ⟨_,tm1,rfl,hA,hte1,htr1,htl1,rfl⟩
end Go.Proofs.YtfdcckcadfhpeaaGreatDoor
namespace Go.Proofs.YtfdcckcadfhpeaaGreatDoor
open Go Go.Sl
set_option maxHeartbeats 4000000
def Nat32 (G:Imm) (v:Value) (z:Int) (n:Nat):Prop:=∃ (b:Option Addr) (m:List U32),v=.slice b m.length m.length∧Arr G b m∧Lims m∧Top m∧valB m=z∧m.length≤n
theorem Nat32.of {G:Imm} {b:Option Addr} {l m:List U32} {z:Int} {n:Nat} (h:Arr G b m) (he:m=l.take m.length) (ht:Trim l m.length) (hd:Lims l) (hz:valB l=z) (hn:m.length≤n):Nat32 G (.slice b m.length m.length) z n:=
 ⟨b,m,rfl,h,trim_lims he hd,trim_top he ht,(trim_val he ht).trans hz,hn⟩
attribute [local irreducible] valB pb cmpZ
theorem c183 (G:Imm) (a b:Option Addr) (ca cb:Nat) (la lb:List U32) (ha:Arr G a la) (hb:Arr G b lb) (da:Lims la) (db:Lims lb) (h1:la.length≤1073741824) (h2:lb.length≤1073741824) :
 Does Tryz.prog 183 [.slice a la.length ca,.slice b lb.length cb] G [] (fun v G' Ho=>Nat32 G' v (valB la+valB lb) (max la.length lb.length+1)∧Ho=[]):=by
 refine Does.enter Tryz.func183 rfl Tryz.ntmps183 rfl (fun w=>?_)
 refine Wc.gc 5 [] ?_
 refine Wc.meet (ι:=Option Addr×Nat×List U32×(Option Addr×Nat×List U32)) (fun (xa,ka,l1,(xb,kb,l2))=>([(0,.slice xa l1.length ka),(1,.slice xb l2.length kb),(4,.slice none 0 0)],[])) (fun (xa,ka,l1,(xb,kb,l2))=>Arr G xa l1∧Arr G xb l2∧Lims l1∧Lims l2∧l2.length≤l1.length∧l1.length≤max la.length lb.length∧valB l1+valB l2=valB la+valB lb) ?_ (fun ⟨xa,ka,l1,(xb,kb,l2)⟩=>fun (hk:Arr G xa l1∧Arr G xb l2∧Lims l1∧Lims l2∧l2.length≤l1.length∧l1.length≤max la.length lb.length∧valB l1+valB l2=valB la+valB lb)=>?_)
 · by_cases hlt:la.length<lb.length
   · refine Wc.ga 16 [1] ?_
     refine Ar.meet ((b,cb,lb,(a,ca,la))) ?_ rfl ⟨rfl,rfl,rfl,trivial⟩ trivial
     exact ⟨hb,ha,db,da,by omega,by omega,Int.add_comm _ _⟩
   refine Wc.ga 11 [0] ?_
   refine Ar.meet ((a,ca,la,(b,cb,lb))) ?_ rfl ⟨rfl,rfl,rfl,trivial⟩ trivial
   exact ⟨ha,hb,da,db,by omega,by omega,rfl⟩
 obtain ⟨ha1,hb1,d1,d2,hl21,hl1,hsum⟩:=hk
 clear ha hb
 refine Wc.gl 5 [] ?_
 refine Wl.make (α:=U32) 0 rfl T.sl123 T.el215 rfl rfl (by omega) (by omega) (fun b1=>?_)
 refine Wl.gc 17 [] ?_
 obtain ⟨N,hN⟩:∃ N,N=l1.length+1:=⟨_,rfl⟩
 have hM:((l1.length:Int)+1).toNat=N:=by omega
 rw [hM]
 have hown:∀ r:List U32,r.length=N→OwnA (some ⟨b1,0,none⟩) N r []:=fun r hr=>.inr ⟨b1,rfl,by rw [hr];rfl,by omega,by simp only [maxLen];omega⟩
 refine Wc.re 5 rfl (show _=Value.slice (some ⟨b1,0,none⟩) (List.replicate N (default:U32)).length N by rw [List.length_replicate]) ?_
 refine Wc.loop (ι:=Nat×Int×List U32) (fun (i,cy,r)=>([(22,.int .i64 (i:Int)),(6,.int .u64 cy),(5,.slice (some ⟨b1,0,none⟩) r.length N),(21,.int .i64 (l1.length:Int)),(20,.slice xa (List.length l1) ka),(0,.slice xa (List.length l1) ka),(1,.slice xb (List.length l2) kb),(4,.slice none 0 0)],[(0,some b1,Row 215 r [])])) (fun (i,cy,r)=>i≤l1.length∧r.length=N∧Lims r∧0≤cy∧cy≤1∧valB (l1.take i)+valB (l2.take i)=valB (r.take i)+pb i*cy) (fun (i,cy,r)=>l1.length - i) ((0,0,List.replicate N (default:U32))) (⟨Nat.zero_le _,List.length_replicate,Lims.zeros N,by decide,by decide,by rw [List.take_zero,List.take_zero,List.take_zero,Int.mul_zero,Int.add_zero,valB_nil];rfl⟩) ⟨rfl,rfl,rfl,rfl,rfl,rfl,rfl,rfl,trivial⟩ ⟨rfl,trivial⟩ (fun ⟨i,cy,r⟩=>fun hk=>?_)
 obtain ⟨hi,hrN,hdr,hc0,hc1,hv⟩:=hk
 have hor:=hown r hrN
 rcases Nat.lt_or_ge i l1.length with hia | hia
 · have r1:0≤(l1[((i:Nat):Int).toNat]?.getD default).v∧(l1[((i:Nat):Int).toNat]?.getD default).v<4294967296:=lg_lt d1 hia
   rcases Nat.lt_or_ge i l2.length with hib | hib
   · have r2:0≤(l2[((i:Nat):Int).toNat]?.getD default).v∧(l2[((i:Nat):Int).toNat]?.getD default).v<4294967296:=lg_lt d2 hib
     refine Wc.gl 14 [1] ?_
     refine Wl.q rfl (Qy.at (α:=U32) T.sl123 rfl rfl (by assumption) (by omega)) ?_
     refine Wl.q rfl (Qy.loadG T.one215 rfl (Arr.cell (by assumption) (by omega) 0 rfl rfl)) ?_
     refine Wl.gl 8 [] ?_
     refine Wl.q rfl (Qy.conv64 rfl T.u214 rfl (by omega)) ?_
     refine Wl.q rfl (Qy.uadd64 rfl rfl (by omega)) ?_
     refine Wl.gl 17 [1] ?_
     refine Wl.q rfl (Qy.at (α:=U32) T.sl123 rfl rfl (by assumption) (by omega)) ?_
     refine Wl.q rfl (Qy.loadG T.one215 rfl (Arr.cell (by assumption) (by omega) 0 rfl rfl)) ?_
     refine Wl.q rfl (Qy.conv64 rfl T.u214 rfl (by omega)) ?_
     refine Wl.q rfl (Qy.uadd64 rfl rfl (by omega)) ?_
     refine Wl.gl 8 [] ?_
     refine Wl.q rfl (Qy.trunc32 rfl T.u215 rfl) ?_
     refine Wl.q rfl (Qy.indexAddrO (α:=U32) T.sl123 rfl rfl (by assumption) (by omega)) ?_
     refine Wl.setO (z:=_) 0 T.size215 rfl rfl rfl (by assumption) (by omega) rfl (fun ho1=>?_)
     refine Wl.gl 4 [] ?_
     refine Wl.q rfl (Qy.shr32 rfl rfl (by omega)) ?_
     refine Wl.ga 8 [] ?_
     refine Ar.reH 0 (Row 215 (r.set i (⟨(cy+(l1[((i:Nat):Int).toNat]?.getD default).v+(l2[((i:Nat):Int).toNat]?.getD default).v) % 4294967296⟩:U32)) []) rfl (by rw [Int.toNat_natCast]) ?_
     refine Ar.re 5 rfl (show _=Value.slice (some ⟨b1,0,none⟩) (r.set i (⟨(cy+(l1[((i:Nat):Int).toNat]?.getD default).v+(l2[((i:Nat):Int).toNat]?.getD default).v) % 4294967296⟩:U32)).length N by rw [List.length_set]) ?_
     refine Ar.again ((i+1,(cy+(l1[((i:Nat):Int).toNat]?.getD default).v+(l2[((i:Nat):Int).toNat]?.getD default).v) / 4294967296,r.set i (⟨(cy+(l1[((i:Nat):Int).toNat]?.getD default).v+(l2[((i:Nat):Int).toNat]?.getD default).v) % 4294967296⟩:U32))) ?_ ?_ rfl ⟨rfl,rfl,rfl,rfl,rfl,rfl,rfl,rfl,trivial⟩ ⟨rfl,trivial⟩
     · exact ⟨by omega,by rw [List.length_set];exact hrN,lims_set hdr _ (mod32 _),by omega,by omega,add_next (by omega) hv rfl⟩
     show l1.length - (i+1)<l1.length - i
     omega
   have z:=lg_end hib
   refine Wc.gl 14 [1] ?_
   refine Wl.q rfl (Qy.at (α:=U32) T.sl123 rfl rfl (by assumption) (by omega)) ?_
   refine Wl.q rfl (Qy.loadG T.one215 rfl (Arr.cell (by assumption) (by omega) 0 rfl rfl)) ?_
   refine Wl.gl 8 [] ?_
   refine Wl.q rfl (Qy.conv64 rfl T.u214 rfl (by omega)) ?_
   refine Wl.q rfl (Qy.uadd64 rfl rfl (by omega)) ?_
   refine Wl.gl 20 [0] ?_
   refine Wl.q rfl (Qy.trunc32 rfl T.u215 rfl) ?_
   refine Wl.q rfl (Qy.indexAddrO (α:=U32) T.sl123 rfl rfl (by assumption) (by omega)) ?_
   refine Wl.setO (z:=_) 0 T.size215 rfl rfl rfl (by assumption) (by omega) rfl (fun ho1=>?_)
   refine Wl.gl 4 [] ?_
   refine Wl.q rfl (Qy.shr32 rfl rfl (by omega)) ?_
   refine Wl.ga 8 [] ?_
   refine Ar.reH 0 (Row 215 (r.set i (⟨(cy+(l1[((i:Nat):Int).toNat]?.getD default).v) % 4294967296⟩:U32)) []) rfl (by rw [Int.toNat_natCast]) ?_
   refine Ar.re 5 rfl (show _=Value.slice (some ⟨b1,0,none⟩) (r.set i (⟨(cy+(l1[((i:Nat):Int).toNat]?.getD default).v) % 4294967296⟩:U32)).length N by rw [List.length_set]) ?_
   refine Ar.again ((i+1,(cy+(l1[((i:Nat):Int).toNat]?.getD default).v) / 4294967296,r.set i (⟨(cy+(l1[((i:Nat):Int).toNat]?.getD default).v) % 4294967296⟩:U32))) ?_ ?_ rfl ⟨rfl,rfl,rfl,rfl,rfl,rfl,rfl,rfl,trivial⟩ ⟨rfl,trivial⟩
   · exact ⟨by omega,by rw [List.length_set];exact hrN,lims_set hdr _ (mod32 _),by omega,by omega,add_next (by omega) hv (by rw [z,Int.add_zero];rfl)⟩
   show l1.length - (i+1)<l1.length - i
   omega
 have hii:i=l1.length:=by omega
 subst hii
 refine Wc.gl 18 [0] ?_
 refine Wl.q rfl (Qy.conv32 rfl T.u215 rfl (by omega)) ?_
 refine Wl.q rfl (Qy.indexAddrO (α:=U32) T.sl123 rfl rfl (by assumption) (by omega)) ?_
 refine Wl.setO (z:=_) 0 T.size215 rfl rfl rfl (by assumption) (by omega) rfl (fun ho1=>?_)
 refine Wl.gl 5 [] ?_
 have hd2:=lims_set hdr l1.length (s:=cy) (by omega)
 have hlen:(r.set l1.length (⟨cy⟩:U32)).length=N:=by rw [List.length_set];exact hrN
 have hval:valB (r.set l1.length (⟨cy⟩:U32))=valB la+valB lb:=by
  rw [take_all (Nat.le_refl _),take_all hl21] at hv
  rw [←hsum,hv]
  have h3:=bval_step (r.set l1.length (⟨cy⟩:U32)) l1.length
  rw [take_all (by omega),List.take_set_of_le (Nat.le_refl _),lg_set (by omega)] at h3
  exact h3
 refine Wl.reH 0 (Row 215 (r.set l1.length (⟨cy⟩:U32)) []) rfl (by rw [Int.toNat_natCast]) ?_
 refine Wl.re 56 rfl (show _=Value.slice (some ⟨b1,0,none⟩) (r.set l1.length (⟨cy⟩:U32)).length N by rw [List.length_set]) ?_
 refine Wl.freezeRow 0 rfl (hown _ hlen) (fun G9 hle9 hA=>?_)
 refine Wl.k 1 rfl (c181 _ _ _ _ (by assumption) (by omega) (by first | assumption | omega)) (fun v1 G1 Ho1 hle1 hp=>?_)
 obtain ⟨ta1,tm1,rfl,hta1,hte1,htr1,htl1,rfl,rfl⟩:=hp
 refine Wl.ga 4 [] ?_
 refine Ar.e1 ?_
 exact ⟨Nat32.of hta1 hte1 htr1 hd2 hval (by omega),rfl⟩
end Go.Proofs.YtfdcckcadfhpeaaGreatDoor
namespace Go.Proofs.YtfdcckcadfhpeaaGreatDoor
open Go Go.Sl
set_option maxHeartbeats 4000000
attribute [local irreducible] valB pb cmpZ
theorem c184 (G:Imm) (a b:Option Addr) (ca cb:Nat) (la lb:List U32) (ha:Arr G a la) (hb:Arr G b lb) (da:Lims la) (db:Lims lb) (h1:la.length≤1073741824) (h2:lb.length≤la.length) (h3:la.length≤ca) (h4:lb.length≤cb) (hle:valB lb≤valB la) :
 Does Tryz.prog 184 [.slice a la.length ca,.slice b lb.length cb] G [] (fun v G' Ho=>∃ r,v=.tuple #[r,.int .i64 0]∧Nat32 G' r (valB la - valB lb) la.length∧Ho=[]):=by
 have hcmp:0≤cmpZ (valB la) (valB lb):=by
  rcases Int.lt_or_eq_of_le hle with h | h
  · rw [cmpZ_gt h];decide
  rw [cmpZ_eq h.symm];decide
 refine Does.enter Tryz.func184 rfl Tryz.ntmps184 rfl (fun w=>?_)
 refine Wc.gl 11 [] ?_
 refine Wl.k0 rfl (c182 _ _ _ _ _ _ _ (by assumption) (by assumption) (by assumption) (by assumption) (by omega) (by omega) (by omega) (by omega)) ?_
 refine Wl.gl 10 [0] ?_
 refine Wl.make (α:=U32) 0 rfl T.sl123 T.el215 rfl rfl (by omega) (by omega) (fun b1=>?_)
 refine Wl.gc 17 [] ?_
 obtain ⟨N,hN⟩:∃ N,N=la.length:=⟨_,rfl⟩
 have hM:(la.length:Int).toNat=N:=by omega
 rw [hM]
 have hown:∀ r:List U32,r.length=N→OwnA (some ⟨b1,0,none⟩) N r []:=fun r hr=>.inr ⟨b1,rfl,by rw [hr];rfl,by omega,by simp only [maxLen];omega⟩
 refine Wc.re 6 rfl (show _=Value.slice (some ⟨b1,0,none⟩) (List.replicate N (default:U32)).length N by rw [List.length_replicate]) ?_
 refine Wc.loop (ι:=Nat×Int×List U32) (fun (i,cy,r)=>([(21,.int .i64 (i:Int)),(7,.int .u64 cy),(6,.slice (some ⟨b1,0,none⟩) r.length N),(20,.int .i64 (la.length:Int)),(19,.slice a (List.length la) ca),(5,.int .i64 0),(4,.slice none 0 0),(1,.slice b (List.length lb) cb)],[(0,some b1,Row 215 r [])])) (fun (i,cy,r)=>i≤la.length∧r.length=N∧Lims r∧0≤cy∧cy≤1∧valB (la.take i) - valB (lb.take i)=valB (r.take i) - pb i*cy) (fun (i,cy,r)=>la.length - i) ((0,0,List.replicate N (default:U32))) (⟨Nat.zero_le _,List.length_replicate,Lims.zeros N,by decide,by decide,by rw [List.take_zero,List.take_zero,List.take_zero,Int.mul_zero,Int.sub_zero,valB_nil];rfl⟩) ⟨rfl,rfl,rfl,rfl,rfl,rfl,rfl,rfl,trivial⟩ ⟨rfl,trivial⟩ (fun ⟨i,cy,r⟩=>fun hk=>?_)
 obtain ⟨hi,hrN,hdr,hc0,hc1,hv⟩:=hk
 have hor:=hown r hrN
 rcases Nat.lt_or_ge i la.length with hia | hia
 · have r1:0≤(la[((i:Nat):Int).toNat]?.getD default).v∧(la[((i:Nat):Int).toNat]?.getD default).v<4294967296:=lg_lt da hia
   have e1:(la[((i:Nat):Int).toNat]?.getD default).v=lg la i:=rfl
   rcases Nat.lt_or_ge i lb.length with hib | hib
   · have r2:0≤(lb[((i:Nat):Int).toNat]?.getD default).v∧(lb[((i:Nat):Int).toNat]?.getD default).v<4294967296:=lg_lt db hib
     have e2:(lb[((i:Nat):Int).toNat]?.getD default).v=lg lb i:=rfl
     by_cases hlt:(la[((i:Nat):Int).toNat]?.getD default).v<cy+(lb[((i:Nat):Int).toNat]?.getD default).v
     · refine Wc.gl 14 [1] ?_
       refine Wl.q rfl (Qy.at (α:=U32) T.sl123 rfl rfl (by assumption) (by omega)) ?_
       refine Wl.q rfl (Qy.loadG T.one215 rfl (Arr.cell (by assumption) (by omega) 0 rfl rfl)) ?_
       refine Wl.gl 24 [1] ?_
       refine Wl.q rfl (Qy.at (α:=U32) T.sl123 rfl rfl (by assumption) (by omega)) ?_
       refine Wl.q rfl (Qy.loadG T.one215 rfl (Arr.cell (by assumption) (by omega) 0 rfl rfl)) ?_
       refine Wl.q rfl (Qy.conv64 rfl T.u214 rfl (by omega)) ?_
       refine Wl.q rfl (Qy.uadd64 rfl rfl (by omega)) ?_
       refine Wl.gl 6 [] ?_
       refine Wl.q rfl (Qy.conv64 rfl T.u214 rfl (by omega)) ?_
       refine Wl.q rfl (Qy.move rfl) ?_
       refine Wl.q rfl (Qy.usubN rfl rfl (by omega)) ?_
       refine Wl.gl 8 [] ?_
       refine Wl.q rfl (Qy.trunc32 rfl T.u215 rfl) ?_
       refine Wl.q rfl (Qy.indexAddrO (α:=U32) T.sl123 rfl rfl (by assumption) (by omega)) ?_
       refine Wl.setO (z:=_) 0 T.size215 rfl rfl rfl (by assumption) (by omega) rfl (fun ho1=>?_)
       refine Wl.gl 4 [] ?_
       refine Wl.q rfl (Qy.shr32 rfl rfl (by omega)) ?_
       refine Wl.q rfl (Qy.and1 rfl rfl (by omega)) ?_
       refine Wl.ga 8 [] ?_
       have es:((la[((i:Nat):Int).toNat]?.getD default).v - (cy+(lb[((i:Nat):Int).toNat]?.getD default).v)+18446744073709551616) % 4294967296=((la[((i:Nat):Int).toNat]?.getD default).v - (cy+(lb[((i:Nat):Int).toNat]?.getD default).v)+4294967296):=by omega
       have ec:((la[((i:Nat):Int).toNat]?.getD default).v - (cy+(lb[((i:Nat):Int).toNat]?.getD default).v)+18446744073709551616) / 4294967296 % 2=1:=by omega
       refine Ar.re 7 rfl (show _=Value.int .u64 1 by rw [ec]) ?_
       refine Ar.reH 0 (Row 215 (r.set i (⟨((la[((i:Nat):Int).toNat]?.getD default).v - (cy+(lb[((i:Nat):Int).toNat]?.getD default).v)+4294967296)⟩:U32)) []) rfl (by rw [es,Int.toNat_natCast]) ?_
       refine Ar.re 6 rfl (show _=Value.slice (some ⟨b1,0,none⟩) (r.set i (⟨((la[((i:Nat):Int).toNat]?.getD default).v - (cy+(lb[((i:Nat):Int).toNat]?.getD default).v)+4294967296)⟩:U32)).length N by rw [List.length_set]) ?_
       refine Ar.again ((i+1,1,r.set i (⟨((la[((i:Nat):Int).toNat]?.getD default).v - (cy+(lb[((i:Nat):Int).toNat]?.getD default).v)+4294967296)⟩:U32))) ?_ ?_ rfl ⟨rfl,rfl,rfl,rfl,rfl,rfl,rfl,rfl,trivial⟩ ⟨rfl,trivial⟩
       · exact ⟨by omega,by rw [List.length_set];exact hrN,lims_set hdr _ (by omega),by decide,by decide,sub_next (cy':=1) (by omega) hv (by rw [←e1,←e2];omega)⟩
       show la.length - (i+1)<la.length - i
       omega
     refine Wc.gl 14 [1] ?_
     refine Wl.q rfl (Qy.at (α:=U32) T.sl123 rfl rfl (by assumption) (by omega)) ?_
     refine Wl.q rfl (Qy.loadG T.one215 rfl (Arr.cell (by assumption) (by omega) 0 rfl rfl)) ?_
     refine Wl.gl 24 [1] ?_
     refine Wl.q rfl (Qy.at (α:=U32) T.sl123 rfl rfl (by assumption) (by omega)) ?_
     refine Wl.q rfl (Qy.loadG T.one215 rfl (Arr.cell (by assumption) (by omega) 0 rfl rfl)) ?_
     refine Wl.q rfl (Qy.conv64 rfl T.u214 rfl (by omega)) ?_
     refine Wl.q rfl (Qy.uadd64 rfl rfl (by omega)) ?_
     refine Wl.gl 6 [] ?_
     refine Wl.q rfl (Qy.conv64 rfl T.u214 rfl (by omega)) ?_
     refine Wl.q rfl (Qy.move rfl) ?_
     refine Wl.q rfl (Qy.usub64 rfl rfl (by omega)) ?_
     refine Wl.gl 8 [] ?_
     refine Wl.q rfl (Qy.conv32 rfl T.u215 rfl (by omega)) ?_
     refine Wl.q rfl (Qy.indexAddrO (α:=U32) T.sl123 rfl rfl (by assumption) (by omega)) ?_
     refine Wl.setO (z:=_) 0 T.size215 rfl rfl rfl (by assumption) (by omega) rfl (fun ho1=>?_)
     refine Wl.gl 4 [] ?_
     refine Wl.q rfl (Qy.shr32 rfl rfl (by omega)) ?_
     refine Wl.q rfl (Qy.and1 rfl rfl (by omega)) ?_
     refine Wl.ga 8 [] ?_
     have es:((la[((i:Nat):Int).toNat]?.getD default).v - (cy+(lb[((i:Nat):Int).toNat]?.getD default).v))=((la[((i:Nat):Int).toNat]?.getD default).v - (cy+(lb[((i:Nat):Int).toNat]?.getD default).v)):=by omega
     have ec:((la[((i:Nat):Int).toNat]?.getD default).v - (cy+(lb[((i:Nat):Int).toNat]?.getD default).v)) / 4294967296 % 2=0:=by omega
     refine Ar.re 7 rfl (show _=Value.int .u64 0 by rw [ec]) ?_
     refine Ar.reH 0 (Row 215 (r.set i (⟨((la[((i:Nat):Int).toNat]?.getD default).v - (cy+(lb[((i:Nat):Int).toNat]?.getD default).v))⟩:U32)) []) rfl (by rw [es,Int.toNat_natCast]) ?_
     refine Ar.re 6 rfl (show _=Value.slice (some ⟨b1,0,none⟩) (r.set i (⟨((la[((i:Nat):Int).toNat]?.getD default).v - (cy+(lb[((i:Nat):Int).toNat]?.getD default).v))⟩:U32)).length N by rw [List.length_set]) ?_
     refine Ar.again ((i+1,0,r.set i (⟨((la[((i:Nat):Int).toNat]?.getD default).v - (cy+(lb[((i:Nat):Int).toNat]?.getD default).v))⟩:U32))) ?_ ?_ rfl ⟨rfl,rfl,rfl,rfl,rfl,rfl,rfl,rfl,trivial⟩ ⟨rfl,trivial⟩
     · exact ⟨by omega,by rw [List.length_set];exact hrN,lims_set hdr _ (by omega),by decide,by decide,sub_next (cy':=0) (by omega) hv (by rw [←e1,←e2];omega)⟩
     show la.length - (i+1)<la.length - i
     omega
   have z:=lg_end hib
   by_cases hlt:(la[((i:Nat):Int).toNat]?.getD default).v<cy
   · refine Wc.gl 14 [1] ?_
     refine Wl.q rfl (Qy.at (α:=U32) T.sl123 rfl rfl (by assumption) (by omega)) ?_
     refine Wl.q rfl (Qy.loadG T.one215 rfl (Arr.cell (by assumption) (by omega) 0 rfl rfl)) ?_
     refine Wl.gl 25 [0] ?_
     refine Wl.q rfl (Qy.conv64 rfl T.u214 rfl (by omega)) ?_
     refine Wl.q rfl (Qy.move rfl) ?_
     refine Wl.q rfl (Qy.usubN rfl rfl (by omega)) ?_
     refine Wl.gl 8 [] ?_
     refine Wl.q rfl (Qy.trunc32 rfl T.u215 rfl) ?_
     refine Wl.q rfl (Qy.indexAddrO (α:=U32) T.sl123 rfl rfl (by assumption) (by omega)) ?_
     refine Wl.setO (z:=_) 0 T.size215 rfl rfl rfl (by assumption) (by omega) rfl (fun ho1=>?_)
     refine Wl.gl 4 [] ?_
     refine Wl.q rfl (Qy.shr32 rfl rfl (by omega)) ?_
     refine Wl.q rfl (Qy.and1 rfl rfl (by omega)) ?_
     refine Wl.ga 8 [] ?_
     have es:((la[((i:Nat):Int).toNat]?.getD default).v - (cy)+18446744073709551616) % 4294967296=((la[((i:Nat):Int).toNat]?.getD default).v - (cy)+4294967296):=by omega
     have ec:((la[((i:Nat):Int).toNat]?.getD default).v - (cy)+18446744073709551616) / 4294967296 % 2=1:=by omega
     refine Ar.re 7 rfl (show _=Value.int .u64 1 by rw [ec]) ?_
     refine Ar.reH 0 (Row 215 (r.set i (⟨((la[((i:Nat):Int).toNat]?.getD default).v - (cy)+4294967296)⟩:U32)) []) rfl (by rw [es,Int.toNat_natCast]) ?_
     refine Ar.re 6 rfl (show _=Value.slice (some ⟨b1,0,none⟩) (r.set i (⟨((la[((i:Nat):Int).toNat]?.getD default).v - (cy)+4294967296)⟩:U32)).length N by rw [List.length_set]) ?_
     refine Ar.again ((i+1,1,r.set i (⟨((la[((i:Nat):Int).toNat]?.getD default).v - (cy)+4294967296)⟩:U32))) ?_ ?_ rfl ⟨rfl,rfl,rfl,rfl,rfl,rfl,rfl,rfl,trivial⟩ ⟨rfl,trivial⟩
     · exact ⟨by omega,by rw [List.length_set];exact hrN,lims_set hdr _ (by omega),by decide,by decide,sub_next (cy':=1) (by omega) hv (by rw [←e1,z];omega)⟩
     show la.length - (i+1)<la.length - i
     omega
   refine Wc.gl 14 [1] ?_
   refine Wl.q rfl (Qy.at (α:=U32) T.sl123 rfl rfl (by assumption) (by omega)) ?_
   refine Wl.q rfl (Qy.loadG T.one215 rfl (Arr.cell (by assumption) (by omega) 0 rfl rfl)) ?_
   refine Wl.gl 25 [0] ?_
   refine Wl.q rfl (Qy.conv64 rfl T.u214 rfl (by omega)) ?_
   refine Wl.q rfl (Qy.move rfl) ?_
   refine Wl.q rfl (Qy.usub64 rfl rfl (by omega)) ?_
   refine Wl.gl 8 [] ?_
   refine Wl.q rfl (Qy.conv32 rfl T.u215 rfl (by omega)) ?_
   refine Wl.q rfl (Qy.indexAddrO (α:=U32) T.sl123 rfl rfl (by assumption) (by omega)) ?_
   refine Wl.setO (z:=_) 0 T.size215 rfl rfl rfl (by assumption) (by omega) rfl (fun ho1=>?_)
   refine Wl.gl 4 [] ?_
   refine Wl.q rfl (Qy.shr32 rfl rfl (by omega)) ?_
   refine Wl.q rfl (Qy.and1 rfl rfl (by omega)) ?_
   refine Wl.ga 8 [] ?_
   have es:((la[((i:Nat):Int).toNat]?.getD default).v - (cy))=((la[((i:Nat):Int).toNat]?.getD default).v - (cy)):=by omega
   have ec:((la[((i:Nat):Int).toNat]?.getD default).v - (cy)) / 4294967296 % 2=0:=by omega
   refine Ar.re 7 rfl (show _=Value.int .u64 0 by rw [ec]) ?_
   refine Ar.reH 0 (Row 215 (r.set i (⟨((la[((i:Nat):Int).toNat]?.getD default).v - (cy))⟩:U32)) []) rfl (by rw [es,Int.toNat_natCast]) ?_
   refine Ar.re 6 rfl (show _=Value.slice (some ⟨b1,0,none⟩) (r.set i (⟨((la[((i:Nat):Int).toNat]?.getD default).v - (cy))⟩:U32)).length N by rw [List.length_set]) ?_
   refine Ar.again ((i+1,0,r.set i (⟨((la[((i:Nat):Int).toNat]?.getD default).v - (cy))⟩:U32))) ?_ ?_ rfl ⟨rfl,rfl,rfl,rfl,rfl,rfl,rfl,rfl,trivial⟩ ⟨rfl,trivial⟩
   · exact ⟨by omega,by rw [List.length_set];exact hrN,lims_set hdr _ (by omega),by decide,by decide,sub_next (cy':=0) (by omega) hv (by rw [←e1,z];omega)⟩
   show la.length - (i+1)<la.length - i
   omega
 have hii:i=la.length:=by omega
 subst hii
 refine Wc.gl 15 [0] ?_
 refine Wl.freezeRow 0 rfl hor (fun G9 hle9 hA=>?_)
 refine Wl.k 1 rfl (c181 _ _ _ _ (by assumption) (by omega) (by first | assumption | omega)) (fun v1 G1 Ho1 hle1 hp=>?_)
 obtain ⟨ta1,tm1,rfl,hta1,hte1,htr1,htl1,rfl,rfl⟩:=hp
 refine Wl.ga 5 [] ?_
 refine Ar.e2 ?_
 exact ⟨_,rfl,Nat32.of hta1 hte1 htr1 hdr (sub_end rfl h2 hle (by omega) hdr ⟨hc0,hc1⟩ hv) (by omega),rfl⟩
end Go.Proofs.YtfdcckcadfhpeaaGreatDoor
namespace Go.Proofs.YtfdcckcadfhpeaaGreatDoor
open Go Go.Sl
set_option maxHeartbeats 4000000
theorem lg_zeros (n k:Nat):lg (List.replicate n (default:U32)) k=0:=by
 unfold lg
 rw [Int.toNat_natCast,List.getElem?_replicate]
 split <;> rfl
attribute [local irreducible] valB pb cmpZ
theorem c134 (G:Imm) (a b:Option Addr) (ca cb:Nat) (la lb:List U32) (ha:Arr G a la) (hb:Arr G b lb) (da:Lims la) (db:Lims lb) (h1:la.length≤536870912) (h2:lb.length≤536870912) :
 Does Tryz.prog 134 [.slice a la.length ca,.slice b lb.length cb] G [] (fun v G' Ho=>Nat32 G' v (valB la*valB lb) (la.length+lb.length)∧Ho=[]):=by
 refine Does.enter Tryz.func134 rfl Tryz.ntmps134 rfl (fun w=>?_)
 refine Wc.gl 12 [] ?_
 refine Wl.make (α:=U32) 0 rfl T.sl123 T.el215 rfl rfl (by omega) (by omega) (fun b1=>?_)
 refine Wl.gc 12 [] ?_
 obtain ⟨N,hN⟩:∃ N,N=la.length+lb.length:=⟨_,rfl⟩
 have hM:((la.length:Int)+(lb.length:Int)).toNat=N:=by omega
 rw [hM]
 have hown:∀ r:List U32,r.length=N→OwnA (some ⟨b1,0,none⟩) N r []:=fun r hr=>.inr ⟨b1,rfl,by rw [hr];rfl,by omega,by simp only [maxLen];omega⟩
 refine Wc.re 5 rfl (show _=Value.slice (some ⟨b1,0,none⟩) (List.replicate N (default:U32)).length N by rw [List.length_replicate]) ?_
 refine Wc.loop (ι:=Nat×List U32) (fun (i,r)=>([(19,.int .i64 (i:Int)),(5,.slice (some ⟨b1,0,none⟩) r.length N),(18,.int .i64 (la.length:Int)),(17,.slice a (List.length la) ca),(4,.slice none 0 0),(1,.slice b (List.length lb) cb)],[(0,some b1,Row 215 r [])])) (fun (i,r)=>i≤la.length∧r.length=N∧Lims r∧valB r=valB (la.take i)*valB lb∧∀ k,i+lb.length≤k→lg r k=0) (fun (i,r)=>la.length - i) ((0,List.replicate N (default:U32))) (⟨Nat.zero_le _,List.length_replicate,Lims.zeros N,by rw [List.take_zero,valB_nil,Int.zero_mul];exact valB_replicate N,fun k _=>lg_zeros N k⟩) ⟨rfl,rfl,rfl,rfl,rfl,rfl,trivial⟩ ⟨rfl,trivial⟩ (fun ⟨i,r⟩=>fun hk=>?_)
 obtain ⟨hi,hrN,hdr,hv,hz⟩:=hk
 rcases Nat.lt_or_ge i la.length with hia | hia
 · have hxi:0≤(la[((i:Nat):Int).toNat]?.getD default).v∧(la[((i:Nat):Int).toNat]?.getD default).v<4294967296:=lg_lt da hia
   refine Wc.gl 14 [1] ?_
   refine Wl.q rfl (Qy.at (α:=U32) T.sl123 rfl rfl (by assumption) (by omega)) ?_
   refine Wl.q rfl (Qy.loadG T.one215 rfl (Arr.cell (by assumption) (by omega) 0 rfl rfl)) ?_
   refine Wl.gc 18 [] ?_
   refine Wc.loop (ι:=Nat×Int×List U32) (fun (j,c,s)=>([(26,.int .i64 (j:Int)),(8,.int .u64 c),(5,.slice (some ⟨b1,0,none⟩) s.length N),(17,.slice a la.length ca),(18,.int .i64 (la.length:Int)),(25,.int .i64 (lb.length:Int)),(24,.slice b (List.length lb) cb),(7,.int .u32 (Go.Sl.U32.v (Option.getD la[Int.toNat (↑i:Int)]? default))),(6,.int .i64 (↑i:Int)),(19,.int .i64 (↑i:Int)),(4,.slice none 0 0),(1,.slice b (List.length lb) cb)],[(0,some b1,Row 215 s [])])) (fun (j,c,s)=>0≤c∧c≤4294967295∧s.length=N∧Lims s∧valB s+pb (i+j)*c=valB (la.take i)*valB lb+pb i*(lg la i*valB (lb.take j))∧j≤lb.length∧∀ k,i+lb.length≤k→lg s k=0) (fun (j,c,s)=>lb.length - j) ((0,0,r)) (⟨by decide,by decide,hrN,hdr,by rw [Int.mul_zero,List.take_zero,valB_nil,Int.mul_zero,Int.mul_zero,Int.add_zero,Int.add_zero];exact hv,Nat.zero_le _,hz⟩) ⟨rfl,rfl,rfl,rfl,rfl,rfl,rfl,rfl,rfl,rfl,rfl,rfl,trivial⟩ ⟨rfl,trivial⟩ (fun ⟨j,c,s⟩=>fun hk=>?_)
   obtain ⟨hc0,hc1,hsN,hds,hvs,hjl,hzs⟩:=hk
   have hos:=hown s hsN
   have ekk:((i:Int)+(j:Int)).toNat=i+j:=by omega
   rcases Nat.lt_or_ge j lb.length with hjb | hjb
   · have hyj:0≤(lb[((j:Nat):Int).toNat]?.getD default).v∧(lb[((j:Nat):Int).toNat]?.getD default).v<4294967296:=lg_lt db hjb
     have hxy:=bmul_small hxi hyj
     have hxy2:0≤(la[((i:Nat):Int).toNat]?.getD default).v*(lb[((j:Nat):Int).toNat]?.getD default).v∧(la[((i:Nat):Int).toNat]?.getD default).v*(lb[((j:Nat):Int).toNat]?.getD default).v≤18446744073709551615:=by omega
     have hsk:0≤(s[((i:Int)+(j:Int)).toNat]?.getD default).v∧(s[((i:Int)+(j:Int)).toNat]?.getD default).v<4294967296:=hds.at (by omega)
     refine Wc.gl 14 [1] ?_
     refine Wl.q rfl (Qy.at (α:=U32) T.sl123 rfl rfl (by assumption) (by omega)) ?_
     refine Wl.q rfl (Qy.loadG T.one215 rfl (Arr.cell (by assumption) (by omega) 0 rfl rfl)) ?_
     refine Wl.gl 8 [] ?_
     refine Wl.q rfl (Qy.conv64 rfl T.u214 rfl (by omega)) ?_
     refine Wl.q rfl (Qy.move rfl) ?_
     refine Wl.q rfl (Qy.conv64 rfl T.u214 rfl (by omega)) ?_
     refine Wl.q rfl (Qy.umul64 rfl rfl (by first | assumption | omega)) ?_
     refine Wl.ll0 4 [] ?_
     refine Wl.q rfl (Qy.indexAddrO (α:=U32) T.sl123 rfl rfl (by assumption) (by omega)) ?_
     refine Wl.q rfl (Qy.loadO 0 0 T.one215 rfl rfl (by assumption) (by omega) rfl rfl) ?_
     refine Wl.q rfl (Qy.conv64 rfl T.u214 rfl (by omega)) ?_
     refine Wl.q rfl (Qy.uadd64 rfl rfl (by omega)) ?_
     refine Wl.q rfl (Qy.uadd64 rfl rfl (by omega)) ?_
     refine Wl.gl 10 [] ?_
     refine Wl.q rfl (Qy.trunc32 rfl T.u215 rfl) ?_
     refine Wl.q rfl (Qy.indexAddrO (α:=U32) T.sl123 rfl rfl (by assumption) (by omega)) ?_
     refine Wl.setO (z:=_) 0 T.size215 rfl rfl rfl (by assumption) (by omega) rfl (fun ho1=>?_)
     refine Wl.gl 4 [] ?_
     refine Wl.q rfl (Qy.shr32 rfl rfl (by omega)) ?_
     refine Wl.ga 8 [] ?_
     rw [ekk] at ⊢ hsk
     refine Ar.re 5 rfl (show _=Value.slice (some ⟨b1,0,none⟩) (s.set (i+j) (⟨(c+((la[((i:Nat):Int).toNat]?.getD default).v*(lb[((j:Nat):Int).toNat]?.getD default).v+(s[i+j]?.getD default).v)) % 4294967296⟩:U32)).length N by rw [List.length_set]) ?_
     refine Ar.again ((j+1,(c+((la[((i:Nat):Int).toNat]?.getD default).v*(lb[((j:Nat):Int).toNat]?.getD default).v+(s[i+j]?.getD default).v)) / 4294967296,s.set (i+j) (⟨(c+((la[((i:Nat):Int).toNat]?.getD default).v*(lb[((j:Nat):Int).toNat]?.getD default).v+(s[i+j]?.getD default).v)) % 4294967296⟩:U32))) ?_ ?_ rfl ⟨rfl,rfl,rfl,rfl,rfl,rfl,rfl,rfl,rfl,rfl,rfl,rfl,trivial⟩ ⟨rfl,trivial⟩
     · exact ⟨by omega,by omega,by rw [List.length_set];exact hsN,lims_set hds _ (mod32 _),bmul_next (by omega) hvs (by simp only [lg,Int.toNat_natCast]),by omega,fun k hk=>by rw [lg_set_ne (by omega)];exact hzs k hk⟩
     show lb.length - (j+1)<lb.length - j
     omega
   have hjj:j=lb.length:=by omega
   subst hjj
   refine Wc.gl 19 [0] ?_
   refine Wl.q rfl (Qy.conv32 rfl T.u215 rfl (by omega)) ?_
   refine Wl.q rfl (Qy.indexAddrO (α:=U32) T.sl123 rfl rfl (by assumption) (by omega)) ?_
   refine Wl.setO (z:=_) 0 T.size215 rfl rfl rfl (by assumption) (by omega) rfl (fun ho1=>?_)
   refine Wl.ga 7 [] ?_
   rw [ekk]
   refine Ar.re 5 rfl (show _=Value.slice (some ⟨b1,0,none⟩) (s.set (i+lb.length) (⟨c⟩:U32)).length N by rw [List.length_set]) ?_
   refine Ar.again ((i+1,s.set (i+lb.length) (⟨c⟩:U32))) ?_ ?_ rfl ⟨rfl,rfl,rfl,rfl,rfl,rfl,trivial⟩ ⟨rfl,trivial⟩
   · exact ⟨by omega,by rw [List.length_set];exact hsN,lims_set hds _ (by omega),bmul_end (by omega) (hzs _ (Nat.le_refl _)) hvs,fun k hk=>by rw [lg_set_ne (by omega)];exact hzs k (by omega)⟩
   show la.length - (i+1)<la.length - i
   omega
 have hor:=hown r hrN
 rw [take_all hia] at hv
 refine Wc.gl 15 [0] ?_
 refine Wl.freezeRow 0 rfl hor (fun G9 hle9 hA=>?_)
 refine Wl.k 1 rfl (c181 _ _ _ _ (by assumption) (by omega) (by first | assumption | omega)) (fun v1 G1 Ho1 hle1 hp=>?_)
 obtain ⟨ta1,tm1,rfl,hta1,hte1,htr1,htl1,rfl,rfl⟩:=hp
 refine Wl.ga 4 [] ?_
 refine Ar.e1 ?_
 exact ⟨Nat32.of hta1 hte1 htr1 hdr hv (by omega),rfl⟩
theorem c248 (G:Imm) (a:Option Addr) (ca:Nat) (la:List U32) (B:Int) (ha:Arr G a la) (da:Lims la) (h1:la.length≤1073741824) (hB:0<B) (hB2:B<4294967296) :
 Does Tryz.prog 248 [.slice a la.length ca,.int .u32 B] G [] (fun v G' Ho=>∃ r q m,v=.tuple #[r,.int .u32 m,.int .i64 0]∧Nat32 G' r q la.length∧valB la=q*B+m∧0≤m∧m<B∧Ho=[]):=by
 refine Does.enter Tryz.func248 rfl Tryz.ntmps248 rfl (fun w=>?_)
 refine Wc.gl 21 [0] ?_
 refine Wl.make (α:=U32) 0 rfl T.sl123 T.el215 rfl rfl (by omega) (by omega) (fun b1=>?_)
 refine Wl.gc 18 [] ?_
 obtain ⟨N,hN⟩:∃ N,N=la.length:=⟨_,rfl⟩
 have hM:(la.length:Int).toNat=N:=by omega
 rw [hM]
 have hown:∀ r:List U32,r.length=N→OwnA (some ⟨b1,0,none⟩) N r []:=fun r hr=>.inr ⟨b1,rfl,by rw [hr];rfl,by omega,by simp only [maxLen];omega⟩
 refine Wc.re 7 rfl (show _=Value.slice (some ⟨b1,0,none⟩) (List.replicate N (default:U32)).length N by rw [List.length_replicate]) ?_
 refine Wc.loop (ι:=Nat×Int×List U32) (fun (k,r,q)=>([(9,.int .i64 ((k:Int) - 1)),(8,.int .u64 r),(7,.slice (some ⟨b1,0,none⟩) q.length N),(6,.int .i64 0),(5,.int .u32 0),(4,.slice none 0 0),(0,.slice a (List.length la) ca),(1,.int .u32 B)],[(0,some b1,Row 215 q [])])) (fun (k,r,q)=>k≤la.length∧q.length=N∧Lims q∧0≤r∧r<B∧valB (la.drop k)=valB (q.drop k)*B+r) (fun (k,r,q)=>k) ((la.length,0,List.replicate N (default:U32))) (⟨Nat.le_refl _,List.length_replicate,Lims.zeros N,by decide,hB,by rw [List.drop_eq_nil_of_le (Nat.le_refl _),List.drop_eq_nil_of_le (by rw [List.length_replicate];omega),valB_nil,Int.zero_mul];rfl⟩) ⟨rfl,rfl,rfl,rfl,rfl,rfl,rfl,rfl,trivial⟩ ⟨rfl,trivial⟩ (fun ⟨k,r,q⟩=>fun hk=>?_)
 obtain ⟨hk1,hqN,hdq,hr0,hr1,hv⟩:=hk
 have hoq:=hown q hqN
 rcases Nat.eq_zero_or_pos k with rfl | hpos
 · rw [List.drop_zero,List.drop_zero] at hv
   refine Wc.gl 16 [0] ?_
   refine Wl.freezeRow 0 rfl hoq (fun G9 hle9 hA=>?_)
   refine Wl.k 1 rfl (c181 _ _ _ _ (by assumption) (by omega) (by first | assumption | omega)) (fun v1 G1 Ho1 hle1 hp=>?_)
   obtain ⟨ta1,tm1,rfl,hta1,hte1,htr1,htl1,rfl,rfl⟩:=hp
   refine Wl.q rfl (Qy.move rfl) ?_
   refine Wl.q rfl (Qy.conv32 rfl T.u215 rfl (by omega)) ?_
   refine Wl.ga 6 [] ?_
   refine Ar.e3 ?_
   exact ⟨_,_,_,rfl,Nat32.of hta1 hte1 htr1 hdq rfl (by omega),hv,hr0,hr1,rfl⟩
 obtain ⟨i,rfl⟩:∃ i,k=i+1:=⟨k - 1,by omega⟩
 have hai:=lg_lt da (show i<la.length by omega)
 have ei:(((i+1:Nat):Int) - 1).toNat=i:=by omega
 have eA:(la[(((i+1:Nat):Int) - 1).toNat]?.getD default).v=lg la i:=by unfold lg;rw [ei,Int.toNat_natCast]
 have hsl:=bshort_lt ⟨hr0,hr1⟩ hai
 have hsl':0≤(r*4294967296+(la[(((i+1:Nat):Int) - 1).toNat]?.getD default).v) / B∧(r*4294967296+(la[(((i+1:Nat):Int) - 1).toNat]?.getD default).v) / B≤4294967295:=by
  rw [eA]
  exact ⟨hsl.1,by have:=hsl.2;omega⟩
 have hrm:0≤(r*4294967296+lg la i) % B∧(r*4294967296+lg la i) % B<B:=⟨Int.emod_nonneg _ (by omega),Int.emod_lt_of_pos _ hB⟩
 refine Wc.gl 15 [1] ?_
 refine Wl.q rfl (Qy.shl32 rfl rfl (by omega)) ?_
 refine Wl.ll0 2 [] ?_
 refine Wl.q rfl (Qy.at (α:=U32) T.sl123 rfl rfl (by assumption) (by omega)) ?_
 refine Wl.q rfl (Qy.loadG T.one215 rfl (Arr.cell (by assumption) (by omega) 0 rfl rfl)) ?_
 refine Wl.q rfl (Qy.conv64 rfl T.u214 rfl (by omega)) ?_
 refine Wl.q rfl (Qy.orLow rfl rfl (by omega) (by omega)) ?_
 refine Wl.gl 9 [] ?_
 refine Wl.q rfl (Qy.conv64 rfl T.u214 rfl (by omega)) ?_
 refine Wl.q rfl (Qy.uquo64 rfl rfl (by omega)) ?_
 refine Wl.q rfl (Qy.conv32 rfl T.u215 rfl (by omega)) ?_
 refine Wl.q rfl (Qy.indexAddrO (α:=U32) T.sl123 rfl rfl (by assumption) (by omega)) ?_
 refine Wl.setO (z:=_) 0 T.size215 rfl rfl rfl (by assumption) (by omega) rfl (fun ho1=>?_)
 refine Wl.gl 5 [] ?_
 refine Wl.q rfl (Qy.conv64 rfl T.u214 rfl (by omega)) ?_
 refine Wl.q rfl (Qy.urem rfl rfl (by omega)) ?_
 refine Wl.ga 9 [] ?_
 rw [eA]
 refine Ar.re 9 rfl (show _=Value.int .i64 ((i:Int) - 1) by congr 1;omega) ?_
 refine Ar.reH 0 (Row 215 (q.set i ⟨(r*4294967296+lg la i) / B⟩) []) rfl (by rw [ei]) ?_
 refine Ar.re 7 rfl (show _=Value.slice (some ⟨b1,0,none⟩) (q.set i ⟨(r*4294967296+lg la i) / B⟩).length N by rw [List.length_set]) ?_
 refine Ar.again ((i,(r*4294967296+lg la i) % B,q.set i ⟨(r*4294967296+lg la i) / B⟩)) ?_ ?_ rfl ⟨rfl,rfl,rfl,rfl,rfl,rfl,rfl,rfl,trivial⟩ ⟨rfl,trivial⟩
 · exact ⟨by omega,by rw [List.length_set];exact hqN,lims_set hdq _ hsl,hrm.1,hrm.2,bshort_next (by omega) (by omega) hv⟩
 show i<i+1
 omega
end Go.Proofs.YtfdcckcadfhpeaaGreatDoor
namespace Go.Proofs.YtfdcckcadfhpeaaGreatDoor
open Go Go.Sl
set_option maxHeartbeats 4000000
theorem lg_drop {r s:List U32} {i:Nat} (h:s.drop i=r.drop i):lg s i=lg r i:=by
 have e:s[i]?=r[i]?:=by
  have:=congrArg (·[0]?) h
  simpa [List.getElem?_drop] using this
 unfold lg;rw [Int.toNat_natCast,e]
theorem bdrop_next {r s:List U32} {i:Nat} (h:s.drop i=r.drop i) (d:U32):(s.set i d).drop (i+1)=r.drop (i+1):=by
 rw [List.drop_set_of_lt (by omega),←List.drop_drop,←List.drop_drop,h]
attribute [local irreducible] valB pb cmpZ
theorem c269 (G:Imm) (b:Nat) (p u q:List U32) (junk:List Value) (cw:Nat) (v:Option Addr) (cv:Nat) (lv:List U32) (t:Int) (hv:Arr G v lv) (du:Lims u) (dv:Lims lv) (h1:u.length≤1073741824) (h2:lv.length<u.length) (ht:0≤t∧t<4294967296) :
 Does Tryz.prog 269 [.slice (some ⟨b,p.length,none⟩) u.length cw,.slice v lv.length cv,.int .u64 t] G [(0,some b,Row 215 (p++(u++q)) junk)] (fun r G' Ho=>∃ (w:List U32) (o:Int),r=.bool (decide (0<o))∧Ho=[(0,some b,Row 215 (p++(w++q)) junk)]∧G'=G∧(o=0∨o=1)∧w.length=u.length∧Lims w∧valB u - t*valB lv=valB w - pb u.length*o):=by
 refine Does.enter Tryz.func269 rfl Tryz.ntmps269 rfl (fun w=>?_)
 refine Wc.gc 20 [] ?_
 refine Wc.loop (ι:=Nat×Int×Int×List U32) (fun (i,c,o,w)=>([(13,.int .i64 (i:Int)),(7,.int .u64 c),(8,.int .u64 o),(12,.int .i64 (u.length:Int)),(6,.bool Bool.false),(0,.slice (some (Addr.mk b (List.length p) none)) (List.length u) cw),(1,.slice v (List.length lv) cv),(2,.int .u64 t)],[(0,some b,Row 215 (p++(w++q)) junk)])) (fun (i,c,o,w)=>i≤u.length∧w.length=u.length∧Lims w∧0≤c∧c<4294967296∧0≤o∧o≤1∧(lv.length<i→c=0)∧w.drop i=u.drop i∧valB (u.take i) - t*valB (lv.take i)=valB (w.take i) - pb i*(o+c)) (fun (i,c,o,w)=>u.length - i) ((0,0,0,u)) (⟨Nat.zero_le _,rfl,du,by decide,by decide,by decide,by decide,fun _=>rfl,rfl,by rw [List.take_zero,List.take_zero,valB_nil,Int.mul_zero,Int.add_zero,Int.mul_zero]⟩) ⟨rfl,rfl,rfl,rfl,rfl,rfl,rfl,rfl,trivial⟩ ⟨rfl,trivial⟩ (fun ⟨i,c,o,w⟩=>fun hk=>?_)
 obtain ⟨hi,hwn,hdw,hc0,hc1,ho0,ho1,hcz,hdrop,hval⟩:=hk
 rcases Nat.lt_or_ge i u.length with hia | hia
 · have hx:0≤(w[((i:Nat):Int).toNat]?.getD default).v∧(w[((i:Nat):Int).toNat]?.getD default).v<4294967296:=lg_lt hdw (by omega)
   have ex:(w[((i:Nat):Int).toNat]?.getD default).v=lg u i:=lg_drop hdrop
   rcases Nat.lt_or_ge i lv.length with hib | hib
   · have hy:0≤(lv[((i:Nat):Int).toNat]?.getD default).v∧(lv[((i:Nat):Int).toNat]?.getD default).v<4294967296:=lg_lt dv hib
     have hca:=less_carry ⟨hc0,hc1⟩ hy ht
     have hm:0≤(lv[((i:Nat):Int).toNat]?.getD default).v*t∧(lv[((i:Nat):Int).toNat]?.getD default).v*t≤18446744073709551615:=by omega
     by_cases hlt:(w[((i:Nat):Int).toNat]?.getD default).v<(c+(lv[((i:Nat):Int).toNat]?.getD default).v*t) % 4294967296
     · refine Wc.gl 31 [1,1] ?_
       refine Wl.q rfl (Qy.at (α:=U32) T.sl123 rfl rfl (by assumption) (by omega)) ?_
       refine Wl.q rfl (Qy.loadG T.one215 rfl (Arr.cell (by assumption) (by omega) 0 rfl rfl)) ?_
       refine Wl.q rfl (Qy.conv64 rfl T.u214 rfl (by omega)) ?_
       refine Wl.q rfl (Qy.move rfl) ?_
       refine Wl.q rfl (Qy.umul64 rfl rfl (by first | assumption | omega)) ?_
       refine Wl.q rfl (Qy.uadd64 rfl rfl (by omega)) ?_
       refine Wl.gl 7 [] ?_
       refine Wl.q rfl (Qy.indexAddr T.sl123 rfl rfl (by omega)) ?_
       refine Wl.q rfl (Qy.loadW 0 T.one215 rfl rfl (by omega)) ?_
       refine Wl.q rfl (Qy.conv64 rfl T.u214 rfl (by omega)) ?_
       refine Wl.q rfl (Qy.move rfl) ?_
       refine Wl.q rfl (Qy.andLow rfl rfl (by omega)) ?_
       refine Wl.q rfl (Qy.usubN rfl rfl (by omega)) ?_
       refine Wl.q rfl (Qy.move rfl) ?_
       refine Wl.q rfl (Qy.usub64 rfl rfl (by omega)) ?_
       refine Wl.gl 6 [] ?_
       refine Wl.q rfl (Qy.shr32 rfl rfl (by omega)) ?_
       refine Wl.gl 8 [] ?_
       refine Wl.q rfl (Qy.trunc32 rfl T.u215 rfl) ?_
       refine Wl.q rfl (Qy.indexAddr T.sl123 rfl rfl (by omega)) ?_
       refine Wl.setW 0 T.size215 rfl rfl rfl (by omega) ?_
       refine Wl.gl 4 [] ?_
       refine Wl.q rfl (Qy.shr32 rfl rfl (by omega)) ?_
       refine Wl.q rfl (Qy.and1 rfl rfl (by omega)) ?_
       refine Wl.ga 8 [] ?_
       have es:((w[((i:Nat):Int).toNat]?.getD default).v - (c+(lv[((i:Nat):Int).toNat]?.getD default).v*t) % 4294967296+18446744073709551616 - o) % 4294967296=((w[((i:Nat):Int).toNat]?.getD default).v - (c+(lv[((i:Nat):Int).toNat]?.getD default).v*t) % 4294967296 - o+4294967296*1):=by omega
       have ec:((w[((i:Nat):Int).toNat]?.getD default).v - (c+(lv[((i:Nat):Int).toNat]?.getD default).v*t) % 4294967296+18446744073709551616 - o) / 4294967296 % 2=1:=by omega
       refine Ar.re 8 rfl (show _=Value.int .u64 1 by rw [ec]) ?_
       refine Ar.reH 0 (Row 215 (p++(w.set i (⟨((w[((i:Nat):Int).toNat]?.getD default).v - (c+(lv[((i:Nat):Int).toNat]?.getD default).v*t) % 4294967296 - o+4294967296*1)⟩:U32)++q)) junk) rfl (by rw [←es,Int.toNat_natCast]) ?_
       refine Ar.again ((i+1,(c+(lv[((i:Nat):Int).toNat]?.getD default).v*t) / 4294967296,1,w.set i (⟨((w[((i:Nat):Int).toNat]?.getD default).v - (c+(lv[((i:Nat):Int).toNat]?.getD default).v*t) % 4294967296 - o+4294967296*1)⟩:U32))) ?_ ?_ rfl ⟨rfl,rfl,rfl,rfl,rfl,rfl,rfl,rfl,trivial⟩ ⟨rfl,trivial⟩
       · exact ⟨by omega,by rw [List.length_set];exact hwn,lims_set hdw _ (by omega),by omega,by omega,by decide,by decide,by omega,bdrop_next hdrop _,less_next (c':=(c+(lv[((i:Nat):Int).toNat]?.getD default).v*t)) (b:=o) (b':=1) (by omega) hval (by rfl) (by rw [←ex])⟩
       show u.length - (i+1)<u.length - i
       omega
     by_cases hlt2:(w[((i:Nat):Int).toNat]?.getD default).v - (c+(lv[((i:Nat):Int).toNat]?.getD default).v*t) % 4294967296<o
     · refine Wc.gl 31 [1,1] ?_
       refine Wl.q rfl (Qy.at (α:=U32) T.sl123 rfl rfl (by assumption) (by omega)) ?_
       refine Wl.q rfl (Qy.loadG T.one215 rfl (Arr.cell (by assumption) (by omega) 0 rfl rfl)) ?_
       refine Wl.q rfl (Qy.conv64 rfl T.u214 rfl (by omega)) ?_
       refine Wl.q rfl (Qy.move rfl) ?_
       refine Wl.q rfl (Qy.umul64 rfl rfl (by first | assumption | omega)) ?_
       refine Wl.q rfl (Qy.uadd64 rfl rfl (by omega)) ?_
       refine Wl.gl 7 [] ?_
       refine Wl.q rfl (Qy.indexAddr T.sl123 rfl rfl (by omega)) ?_
       refine Wl.q rfl (Qy.loadW 0 T.one215 rfl rfl (by omega)) ?_
       refine Wl.q rfl (Qy.conv64 rfl T.u214 rfl (by omega)) ?_
       refine Wl.q rfl (Qy.move rfl) ?_
       refine Wl.q rfl (Qy.andLow rfl rfl (by omega)) ?_
       refine Wl.q rfl (Qy.usub64 rfl rfl (by omega)) ?_
       refine Wl.q rfl (Qy.move rfl) ?_
       refine Wl.q rfl (Qy.usubN rfl rfl (by omega)) ?_
       refine Wl.gl 6 [] ?_
       refine Wl.q rfl (Qy.shr32 rfl rfl (by omega)) ?_
       refine Wl.gl 8 [] ?_
       refine Wl.q rfl (Qy.trunc32 rfl T.u215 rfl) ?_
       refine Wl.q rfl (Qy.indexAddr T.sl123 rfl rfl (by omega)) ?_
       refine Wl.setW 0 T.size215 rfl rfl rfl (by omega) ?_
       refine Wl.gl 4 [] ?_
       refine Wl.q rfl (Qy.shr32 rfl rfl (by omega)) ?_
       refine Wl.q rfl (Qy.and1 rfl rfl (by omega)) ?_
       refine Wl.ga 8 [] ?_
       have es:((w[((i:Nat):Int).toNat]?.getD default).v - (c+(lv[((i:Nat):Int).toNat]?.getD default).v*t) % 4294967296 - o+18446744073709551616) % 4294967296=((w[((i:Nat):Int).toNat]?.getD default).v - (c+(lv[((i:Nat):Int).toNat]?.getD default).v*t) % 4294967296 - o+4294967296*1):=by omega
       have ec:((w[((i:Nat):Int).toNat]?.getD default).v - (c+(lv[((i:Nat):Int).toNat]?.getD default).v*t) % 4294967296 - o+18446744073709551616) / 4294967296 % 2=1:=by omega
       refine Ar.re 8 rfl (show _=Value.int .u64 1 by rw [ec]) ?_
       refine Ar.reH 0 (Row 215 (p++(w.set i (⟨((w[((i:Nat):Int).toNat]?.getD default).v - (c+(lv[((i:Nat):Int).toNat]?.getD default).v*t) % 4294967296 - o+4294967296*1)⟩:U32)++q)) junk) rfl (by rw [←es,Int.toNat_natCast]) ?_
       refine Ar.again ((i+1,(c+(lv[((i:Nat):Int).toNat]?.getD default).v*t) / 4294967296,1,w.set i (⟨((w[((i:Nat):Int).toNat]?.getD default).v - (c+(lv[((i:Nat):Int).toNat]?.getD default).v*t) % 4294967296 - o+4294967296*1)⟩:U32))) ?_ ?_ rfl ⟨rfl,rfl,rfl,rfl,rfl,rfl,rfl,rfl,trivial⟩ ⟨rfl,trivial⟩
       · exact ⟨by omega,by rw [List.length_set];exact hwn,lims_set hdw _ (by omega),by omega,by omega,by decide,by decide,by omega,bdrop_next hdrop _,less_next (c':=(c+(lv[((i:Nat):Int).toNat]?.getD default).v*t)) (b:=o) (b':=1) (by omega) hval (by rfl) (by rw [←ex])⟩
       show u.length - (i+1)<u.length - i
       omega
     refine Wc.gl 31 [1,1] ?_
     refine Wl.q rfl (Qy.at (α:=U32) T.sl123 rfl rfl (by assumption) (by omega)) ?_
     refine Wl.q rfl (Qy.loadG T.one215 rfl (Arr.cell (by assumption) (by omega) 0 rfl rfl)) ?_
     refine Wl.q rfl (Qy.conv64 rfl T.u214 rfl (by omega)) ?_
     refine Wl.q rfl (Qy.move rfl) ?_
     refine Wl.q rfl (Qy.umul64 rfl rfl (by first | assumption | omega)) ?_
     refine Wl.q rfl (Qy.uadd64 rfl rfl (by omega)) ?_
     refine Wl.gl 7 [] ?_
     refine Wl.q rfl (Qy.indexAddr T.sl123 rfl rfl (by omega)) ?_
     refine Wl.q rfl (Qy.loadW 0 T.one215 rfl rfl (by omega)) ?_
     refine Wl.q rfl (Qy.conv64 rfl T.u214 rfl (by omega)) ?_
     refine Wl.q rfl (Qy.move rfl) ?_
     refine Wl.q rfl (Qy.andLow rfl rfl (by omega)) ?_
     refine Wl.q rfl (Qy.usub64 rfl rfl (by omega)) ?_
     refine Wl.q rfl (Qy.move rfl) ?_
     refine Wl.q rfl (Qy.usub64 rfl rfl (by omega)) ?_
     refine Wl.gl 6 [] ?_
     refine Wl.q rfl (Qy.shr32 rfl rfl (by omega)) ?_
     refine Wl.gl 8 [] ?_
     refine Wl.q rfl (Qy.conv32 rfl T.u215 rfl (by omega)) ?_
     refine Wl.q rfl (Qy.indexAddr T.sl123 rfl rfl (by omega)) ?_
     refine Wl.setW 0 T.size215 rfl rfl rfl (by omega) ?_
     refine Wl.gl 4 [] ?_
     refine Wl.q rfl (Qy.shr32 rfl rfl (by omega)) ?_
     refine Wl.q rfl (Qy.and1 rfl rfl (by omega)) ?_
     refine Wl.ga 8 [] ?_
     have es:((w[((i:Nat):Int).toNat]?.getD default).v - (c+(lv[((i:Nat):Int).toNat]?.getD default).v*t) % 4294967296 - o)=((w[((i:Nat):Int).toNat]?.getD default).v - (c+(lv[((i:Nat):Int).toNat]?.getD default).v*t) % 4294967296 - o+4294967296*0):=by omega
     have ec:((w[((i:Nat):Int).toNat]?.getD default).v - (c+(lv[((i:Nat):Int).toNat]?.getD default).v*t) % 4294967296 - o) / 4294967296 % 2=0:=by omega
     refine Ar.re 8 rfl (show _=Value.int .u64 0 by rw [ec]) ?_
     refine Ar.reH 0 (Row 215 (p++(w.set i (⟨((w[((i:Nat):Int).toNat]?.getD default).v - (c+(lv[((i:Nat):Int).toNat]?.getD default).v*t) % 4294967296 - o+4294967296*0)⟩:U32)++q)) junk) rfl (by rw [←es,Int.toNat_natCast]) ?_
     refine Ar.again ((i+1,(c+(lv[((i:Nat):Int).toNat]?.getD default).v*t) / 4294967296,0,w.set i (⟨((w[((i:Nat):Int).toNat]?.getD default).v - (c+(lv[((i:Nat):Int).toNat]?.getD default).v*t) % 4294967296 - o+4294967296*0)⟩:U32))) ?_ ?_ rfl ⟨rfl,rfl,rfl,rfl,rfl,rfl,rfl,rfl,trivial⟩ ⟨rfl,trivial⟩
     · exact ⟨by omega,by rw [List.length_set];exact hwn,lims_set hdw _ (by omega),by omega,by omega,by decide,by decide,by omega,bdrop_next hdrop _,less_next (c':=(c+(lv[((i:Nat):Int).toNat]?.getD default).v*t)) (b:=o) (b':=0) (by omega) hval (by rfl) (by rw [←ex])⟩
     show u.length - (i+1)<u.length - i
     omega
   have z:=lg_end hib
   by_cases hlt:(w[((i:Nat):Int).toNat]?.getD default).v<(c) % 4294967296
   · refine Wc.gl 33 [1,0] ?_
     refine Wl.q rfl (Qy.indexAddr T.sl123 rfl rfl (by omega)) ?_
     refine Wl.q rfl (Qy.loadW 0 T.one215 rfl rfl (by omega)) ?_
     refine Wl.q rfl (Qy.conv64 rfl T.u214 rfl (by omega)) ?_
     refine Wl.q rfl (Qy.move rfl) ?_
     refine Wl.q rfl (Qy.andLow rfl rfl (by omega)) ?_
     refine Wl.q rfl (Qy.usubN rfl rfl (by omega)) ?_
     refine Wl.q rfl (Qy.move rfl) ?_
     refine Wl.q rfl (Qy.usub64 rfl rfl (by omega)) ?_
     refine Wl.gl 6 [] ?_
     refine Wl.q rfl (Qy.shr32 rfl rfl (by omega)) ?_
     refine Wl.gl 8 [] ?_
     refine Wl.q rfl (Qy.trunc32 rfl T.u215 rfl) ?_
     refine Wl.q rfl (Qy.indexAddr T.sl123 rfl rfl (by omega)) ?_
     refine Wl.setW 0 T.size215 rfl rfl rfl (by omega) ?_
     refine Wl.gl 4 [] ?_
     refine Wl.q rfl (Qy.shr32 rfl rfl (by omega)) ?_
     refine Wl.q rfl (Qy.and1 rfl rfl (by omega)) ?_
     refine Wl.ga 8 [] ?_
     have es:((w[((i:Nat):Int).toNat]?.getD default).v - (c) % 4294967296+18446744073709551616 - o) % 4294967296=((w[((i:Nat):Int).toNat]?.getD default).v - (c) % 4294967296 - o+4294967296*1):=by omega
     have ec:((w[((i:Nat):Int).toNat]?.getD default).v - (c) % 4294967296+18446744073709551616 - o) / 4294967296 % 2=1:=by omega
     refine Ar.re 8 rfl (show _=Value.int .u64 1 by rw [ec]) ?_
     refine Ar.reH 0 (Row 215 (p++(w.set i (⟨((w[((i:Nat):Int).toNat]?.getD default).v - (c) % 4294967296 - o+4294967296*1)⟩:U32)++q)) junk) rfl (by rw [←es,Int.toNat_natCast]) ?_
     refine Ar.again ((i+1,(c) / 4294967296,1,w.set i (⟨((w[((i:Nat):Int).toNat]?.getD default).v - (c) % 4294967296 - o+4294967296*1)⟩:U32))) ?_ ?_ rfl ⟨rfl,rfl,rfl,rfl,rfl,rfl,rfl,rfl,trivial⟩ ⟨rfl,trivial⟩
     · exact ⟨by omega,by rw [List.length_set];exact hwn,lims_set hdw _ (by omega),by omega,by omega,by decide,by decide,by intro _;omega,bdrop_next hdrop _,less_next (c':=(c)) (b:=o) (b':=1) (by omega) hval (by rw [z,Int.zero_mul,Int.add_zero]) (by rw [←ex])⟩
     show u.length - (i+1)<u.length - i
     omega
   by_cases hlt2:(w[((i:Nat):Int).toNat]?.getD default).v - (c) % 4294967296<o
   · refine Wc.gl 33 [1,0] ?_
     refine Wl.q rfl (Qy.indexAddr T.sl123 rfl rfl (by omega)) ?_
     refine Wl.q rfl (Qy.loadW 0 T.one215 rfl rfl (by omega)) ?_
     refine Wl.q rfl (Qy.conv64 rfl T.u214 rfl (by omega)) ?_
     refine Wl.q rfl (Qy.move rfl) ?_
     refine Wl.q rfl (Qy.andLow rfl rfl (by omega)) ?_
     refine Wl.q rfl (Qy.usub64 rfl rfl (by omega)) ?_
     refine Wl.q rfl (Qy.move rfl) ?_
     refine Wl.q rfl (Qy.usubN rfl rfl (by omega)) ?_
     refine Wl.gl 6 [] ?_
     refine Wl.q rfl (Qy.shr32 rfl rfl (by omega)) ?_
     refine Wl.gl 8 [] ?_
     refine Wl.q rfl (Qy.trunc32 rfl T.u215 rfl) ?_
     refine Wl.q rfl (Qy.indexAddr T.sl123 rfl rfl (by omega)) ?_
     refine Wl.setW 0 T.size215 rfl rfl rfl (by omega) ?_
     refine Wl.gl 4 [] ?_
     refine Wl.q rfl (Qy.shr32 rfl rfl (by omega)) ?_
     refine Wl.q rfl (Qy.and1 rfl rfl (by omega)) ?_
     refine Wl.ga 8 [] ?_
     have es:((w[((i:Nat):Int).toNat]?.getD default).v - (c) % 4294967296 - o+18446744073709551616) % 4294967296=((w[((i:Nat):Int).toNat]?.getD default).v - (c) % 4294967296 - o+4294967296*1):=by omega
     have ec:((w[((i:Nat):Int).toNat]?.getD default).v - (c) % 4294967296 - o+18446744073709551616) / 4294967296 % 2=1:=by omega
     refine Ar.re 8 rfl (show _=Value.int .u64 1 by rw [ec]) ?_
     refine Ar.reH 0 (Row 215 (p++(w.set i (⟨((w[((i:Nat):Int).toNat]?.getD default).v - (c) % 4294967296 - o+4294967296*1)⟩:U32)++q)) junk) rfl (by rw [←es,Int.toNat_natCast]) ?_
     refine Ar.again ((i+1,(c) / 4294967296,1,w.set i (⟨((w[((i:Nat):Int).toNat]?.getD default).v - (c) % 4294967296 - o+4294967296*1)⟩:U32))) ?_ ?_ rfl ⟨rfl,rfl,rfl,rfl,rfl,rfl,rfl,rfl,trivial⟩ ⟨rfl,trivial⟩
     · exact ⟨by omega,by rw [List.length_set];exact hwn,lims_set hdw _ (by omega),by omega,by omega,by decide,by decide,by intro _;omega,bdrop_next hdrop _,less_next (c':=(c)) (b:=o) (b':=1) (by omega) hval (by rw [z,Int.zero_mul,Int.add_zero]) (by rw [←ex])⟩
     show u.length - (i+1)<u.length - i
     omega
   refine Wc.gl 33 [1,0] ?_
   refine Wl.q rfl (Qy.indexAddr T.sl123 rfl rfl (by omega)) ?_
   refine Wl.q rfl (Qy.loadW 0 T.one215 rfl rfl (by omega)) ?_
   refine Wl.q rfl (Qy.conv64 rfl T.u214 rfl (by omega)) ?_
   refine Wl.q rfl (Qy.move rfl) ?_
   refine Wl.q rfl (Qy.andLow rfl rfl (by omega)) ?_
   refine Wl.q rfl (Qy.usub64 rfl rfl (by omega)) ?_
   refine Wl.q rfl (Qy.move rfl) ?_
   refine Wl.q rfl (Qy.usub64 rfl rfl (by omega)) ?_
   refine Wl.gl 6 [] ?_
   refine Wl.q rfl (Qy.shr32 rfl rfl (by omega)) ?_
   refine Wl.gl 8 [] ?_
   refine Wl.q rfl (Qy.conv32 rfl T.u215 rfl (by omega)) ?_
   refine Wl.q rfl (Qy.indexAddr T.sl123 rfl rfl (by omega)) ?_
   refine Wl.setW 0 T.size215 rfl rfl rfl (by omega) ?_
   refine Wl.gl 4 [] ?_
   refine Wl.q rfl (Qy.shr32 rfl rfl (by omega)) ?_
   refine Wl.q rfl (Qy.and1 rfl rfl (by omega)) ?_
   refine Wl.ga 8 [] ?_
   have es:((w[((i:Nat):Int).toNat]?.getD default).v - (c) % 4294967296 - o)=((w[((i:Nat):Int).toNat]?.getD default).v - (c) % 4294967296 - o+4294967296*0):=by omega
   have ec:((w[((i:Nat):Int).toNat]?.getD default).v - (c) % 4294967296 - o) / 4294967296 % 2=0:=by omega
   refine Ar.re 8 rfl (show _=Value.int .u64 0 by rw [ec]) ?_
   refine Ar.reH 0 (Row 215 (p++(w.set i (⟨((w[((i:Nat):Int).toNat]?.getD default).v - (c) % 4294967296 - o+4294967296*0)⟩:U32)++q)) junk) rfl (by rw [←es,Int.toNat_natCast]) ?_
   refine Ar.again ((i+1,(c) / 4294967296,0,w.set i (⟨((w[((i:Nat):Int).toNat]?.getD default).v - (c) % 4294967296 - o+4294967296*0)⟩:U32))) ?_ ?_ rfl ⟨rfl,rfl,rfl,rfl,rfl,rfl,rfl,rfl,trivial⟩ ⟨rfl,trivial⟩
   · exact ⟨by omega,by rw [List.length_set];exact hwn,lims_set hdw _ (by omega),by omega,by omega,by decide,by decide,by intro _;omega,bdrop_next hdrop _,less_next (c':=(c)) (b:=o) (b':=0) (by omega) hval (by rw [z,Int.zero_mul,Int.add_zero]) (by rw [←ex])⟩
   show u.length - (i+1)<u.length - i
   omega
 have hii:i=u.length:=by omega
 subst hii
 have hc:=hcz (by omega)
 subst hc
 refine Wc.ga 20 [0] ?_
 refine Ar.out1 (.inr rfl) (Ho:=Hp.only _ [0]) rfl (.tmp rfl) (Hp.sub_only _ _) ?_
 rw [take_all (Nat.le_refl _),take_all (by omega),take_all (by omega),Int.add_zero] at hval
 exact ⟨w,o,rfl,rfl,rfl,by omega,hwn,hdw,hval⟩
end Go.Proofs.YtfdcckcadfhpeaaGreatDoor
namespace Go.Proofs.YtfdcckcadfhpeaaGreatDoor
open Go Go.Sl
set_option maxHeartbeats 4000000
theorem kn_bound {u v:List U32} {m:Nat} (hu:u.length=m+3) (hv:v.length=m+2) (du:Lims u) (dv:Lims v) (h:valB u<4294967296*valB v):lg u (m+2)*4294967296+lg u (m+1)<lg v (m+1)*4294967296+4294967296:=by
 have e1:=top3 hu
 have e2:=top2 hv
 have e3:=take_rng dv (show m≤v.length by omega)
 have e4:=take_rng du (show m≤u.length by omega)
 have a0:=lg_rng dv m
 have b0:=lg_rng du m
 have hp:=pb_pos m
 generalize lg u (m+2)*4294967296+lg u (m+1)=high at *
 generalize lg v (m+1)=v1 at *
 generalize lg v m=v0 at *
 generalize lg u m=u0 at *
 refine Int.lt_of_mul_lt_mul_left (a:=pb m*4294967296) ?_ (by omega)
 have f1:=Int.mul_le_mul_of_nonneg_left (show v0+4294967296*v1+1≤v1*4294967296+4294967296 by omega) (Int.le_of_lt hp)
 have f2:=Int.mul_nonneg (Int.le_of_lt hp) b0.1
 rw [Int.mul_add,Int.mul_one] at f1
 rw [Int.mul_add,←Int.mul_assoc] at e1
 have f3:pb m*4294967296*(v1*4294967296+4294967296)=4294967296*(pb m*(v1*4294967296+4294967296)):=by rw [Int.mul_comm (pb m) 4294967296,Int.mul_assoc]
 rw [f3]
 omega
attribute [local irreducible] valB pb cmpZ
theorem c251 (G:Imm) (b:Nat) (p u q:List U32) (junk:List Value) (cw:Nat) (v:Option Addr) (cv:Nat) (lv:List U32) (m:Nat) (hv:Arr G v lv) (du:Lims u) (dv:Lims lv) (h1:u.length≤1073741824) (hu:u.length=m+3) (hl:lv.length=m+2) (htop:2147483648≤lg lv (m+1)) (hlt:valB u<4294967296*valB lv) :
 Does Tryz.prog 251 [.slice (some ⟨b,p.length,none⟩) u.length cw,.slice v lv.length cv] G [(0,some b,Row 215 (p++(u++q)) junk)] (fun r G' Ho=>∃ (w:List U32) (g:Int),r=.int .u32 g∧Ho=[(0,some b,Row 215 (p++(w++q)) junk)]∧G'=G∧0≤g∧g<4294967296∧w.length=u.length∧Lims w∧valB w=valB u - g*valB lv∧valB w<valB lv):=by
 have hU2:=lg_rng du (m+2)
 have hU1:=lg_rng du (m+1)
 have hU0:=lg_rng du m
 have hV1:=lg_rng dv (m+1)
 have hV0:=lg_rng dv m
 have eu2:(u[((lv.length:Nat):Int).toNat]?.getD default).v=lg u (m+2):=by unfold lg;rw [hl]
 have eu1:(u[(((lv.length:Nat):Int) - 1).toNat]?.getD default).v=lg u (m+1):=by unfold lg;rw [show (((lv.length:Nat):Int) - 1).toNat=((m+1:Nat):Int).toNat by omega]
 have eu0:(u[(((lv.length:Nat):Int) - 2).toNat]?.getD default).v=lg u m:=by unfold lg;rw [show (((lv.length:Nat):Int) - 2).toNat=((m:Nat):Int).toNat by omega]
 have ev1:(lv[(((lv.length:Nat):Int) - 1).toNat]?.getD default).v=lg lv (m+1):=by unfold lg;rw [show (((lv.length:Nat):Int) - 1).toNat=((m+1:Nat):Int).toNat by omega]
 have ev0:(lv[(((lv.length:Nat):Int) - 2).toNat]?.getD default).v=lg lv m:=by unfold lg;rw [show (((lv.length:Nat):Int) - 2).toNat=((m:Nat):Int).toNat by omega]
 refine Does.enter Tryz.func251 rfl Tryz.ntmps251 rfl (fun w=>?_)
 have hp1:0<lg lv (m+1):=by omega
 obtain ⟨high,hhigh⟩:∃ high,high=lg u (m+2)*4294967296+lg u (m+1):=⟨_,rfl⟩
 obtain ⟨hk1,hk2,hk3,hk4,hk5⟩:=kn_first hu hl du dv hhigh hp1 rfl rfl
 have hq:=Int.ediv_le_self (lg lv (m+1)) (show 0≤high by omega)
 have hVm:0<valB lv:=by
  have:=top2 hl
  have h3:=take_rng dv (show m≤lv.length by omega)
  have h4:=Int.mul_pos (pb_pos m) (show 0<lg lv m+4294967296*lg lv (m+1) by omega)
  omega
 have hUp:valB u<4294967296*valB lv:=hlt
 have hbrk:high<lg lv (m+1)*4294967296+4294967296:=hhigh▸kn_bound hu hl du dv hlt
 refine Wc.gc 5 [] ?_
 refine Wc.scope ?_
 refine Wc.gc 8 [] ?_
 refine Wc.draw [0] [] T.mixed rfl ?_
 refine Gm.c 0 [] [] ?_
 refine Gm.c 1 [] [] ?_
 refine Gm.u 2 [] rfl (Qy.indexAddr T.sl123 rfl rfl (by omega)) ?_
 refine Gm.u 3 [0] rfl (Qy.loadW 0 T.one215 rfl rfl (by omega)) ?_
 refine Gm.u 4 [] rfl (Qy.conv64 rfl T.u214 rfl (by omega)) ?_
 refine Gm.u 5 [] rfl (Qy.shl32 rfl rfl (by omega)) ?_
 refine Gm.c 6 [] [] ?_
 refine Gm.c 7 [] [] ?_
 refine Gm.c 8 [] [] ?_
 refine Gm.u 9 [] rfl (Qy.indexAddr T.sl123 rfl rfl (by omega)) ?_
 refine Gm.u 10 [0] rfl (Qy.loadW 0 T.one215 rfl rfl (by omega)) ?_
 refine Gm.u 11 [] rfl (Qy.conv64 rfl T.u214 rfl (by omega)) ?_
 refine Gm.u 12 [] rfl (Qy.orLow rfl rfl (by omega) (by omega)) ?_
 refine Gm.c 13 [] [] ?_
 refine Gm.fin ?_
 refine Ar.next ?_
 refine Wc.meet (ι:=Int×Int) (fun (g,r)=>([(0,.slice (some ⟨b,p.length,none⟩) u.length cw),(1,.slice v lv.length cv),(5,.int .i64 (lv.length:Int)),(7,.int .u64 g),(8,.int .u64 r),(4,.int .u32 0)],[(0,some b,Row 215 (p++(u++q)) junk)])) (fun (g,r)=>g*lg lv (m+1)+r=high∧0≤g∧g≤18446744073709551615∧0≤r∧r<4294967296∧valB u<(g+1)*valB lv) ?_ (fun ⟨g,r⟩=>fun (hk:g*lg lv (m+1)+r=high∧0≤g∧g≤18446744073709551615∧0≤r∧r<4294967296∧valB u<(g+1)*valB lv)=>?_)
 · refine Wc.draw [0] [] T.mixed rfl ?_
   refine Gm.c 0 [] [] ?_
   refine Gm.c 1 [] [] ?_
   refine Gm.c 2 [] [] ?_
   refine Gm.c 3 [] [] ?_
   refine Gm.u 4 [] rfl (Qy.at (α:=U32) T.sl123 rfl rfl (by assumption) (by omega)) ?_
   refine Gm.u 5 [0] rfl (Qy.loadG T.one215 rfl (Arr.cell (by assumption) (by omega) 0 rfl rfl)) ?_
   refine Gm.u 6 [] rfl (Qy.conv64 rfl T.u214 rfl (by omega)) ?_
   refine Gm.u 7 [] rfl (Qy.uquo64 rfl rfl (by omega)) ?_
   refine Gm.c 8 [] [] ?_
   refine Gm.c 9 [] [] ?_
   refine Gm.c 10 [] [] ?_
   refine Gm.c 11 [] [] ?_
   refine Gm.u 12 [] rfl (Qy.at (α:=U32) T.sl123 rfl rfl (by assumption) (by omega)) ?_
   refine Gm.u 13 [0] rfl (Qy.loadG T.one215 rfl (Arr.cell (by assumption) (by omega) 0 rfl rfl)) ?_
   refine Gm.u 14 [] rfl (Qy.conv64 rfl T.u214 rfl (by omega)) ?_
   refine Gm.u 15 [] rfl (Qy.urem rfl rfl (by omega)) ?_
   refine Gm.c 16 [] [] ?_
   refine Gm.c 17 [] [] ?_
   refine Gm.fin ?_
   refine Ar.re 7 rfl (show _=Value.int .u64 (high / lg lv (m+1)) by rw [eu2,eu1,ev1,hhigh]) ?_
   refine Ar.re 8 rfl (show _=Value.int .u64 (high % lg lv (m+1)) by rw [eu2,eu1,ev1,hhigh]) ?_
   refine Ar.meet ((high / lg lv (m+1),high % lg lv (m+1))) ?_ rfl ⟨rfl,rfl,rfl,rfl,rfl,rfl,trivial⟩ ⟨rfl,trivial⟩
   exact ⟨hk1,hk2,by omega,hk3,by omega,hk5⟩
 obtain ⟨hg1,hg2,hg3,hr1,hr2,hgu⟩:=hk
 clear hk1 hk2 hk3 hk4 hk5 hq
 refine Wc.gc 3 [] ?_
 refine Wc.meet (ι:=Int) (fun gg=>([(0,.slice (some ⟨b,p.length,none⟩) u.length cw),(1,.slice v lv.length cv),(5,.int .i64 (lv.length:Int)),(7,.int .u64 gg),(4,.int .u32 0)],[(0,some b,Row 215 (p++(u++q)) junk)])) (fun gg=>0≤gg∧gg<4294967296∧valB u<(gg+1)*valB lv∧(gg - 1)*valB lv≤valB u) ?_ (fun gg=>fun (hk:0≤gg∧gg<4294967296∧valB u<(gg+1)*valB lv∧(gg - 1)*valB lv≤valB u)=>?_)
 · refine Wc.block ?_
   refine Wc.loop (ι:=Int×Int) (fun (g,r)=>([(7,.int .u64 g),(8,.int .u64 r),(0,.slice (some (Addr.mk b (List.length p) none)) (List.length u) cw),(1,.slice v (List.length lv) cv),(5,.int .i64 (lv.length:Int)),(4,.int .u32 0)],[(0,some b,Row 215 (p++(u++q)) junk)])) (fun (g,r)=>g*lg lv (m+1)+r=high∧0≤g∧g≤18446744073709551615∧0≤r∧r<4294967296∧valB u<(g+1)*valB lv) (fun (g,r)=>(4294967296 - r).toNat) ((g,r)) (⟨hg1,hg2,hg3,hr1,hr2,hgu⟩) ⟨rfl,rfl,rfl,rfl,rfl,rfl,trivial⟩ ⟨rfl,trivial⟩ (fun ⟨g,r⟩=>fun (hk:g*lg lv (m+1)+r=high∧0≤g∧g≤18446744073709551615∧0≤r∧r<4294967296∧valB u<(g+1)*valB lv)=>?_)
   clear hg1 hg2 hg3 hr1 hr2 hgu
   obtain ⟨hg1,hg2,hg3,hr1,hr2,hgu⟩:=hk
   have dec:4294967296≤g∨r*4294967296+lg u m<g*lg lv m→1≤g∧(g - 1)*lg lv (m+1)+(r+lg lv (m+1))=high∧valB u<(g - 1+1)*valB lv:=fun hd=>by
    have hg0:1≤g:=by
     rcases hd with hd | hd
     · omega
     rcases (show g=0∨1≤g by omega) with h | h
     · rw [h,Int.zero_mul] at hd;omega
     exact h
    refine ⟨hg0,by rw [Int.sub_mul,Int.one_mul];omega,?_⟩
    rw [show g - 1+1=g by omega]
    rcases hd with hd | hd
    · have:=Int.mul_le_mul_of_nonneg_right hd (Int.le_of_lt hVm)
      omega
    exact kn_dec hu hl du dv hhigh hg1 hg2 hd
   have brk:(g - 1)*lg lv (m+1)+(r+lg lv (m+1))=high→valB u<(g - 1+1)*valB lv→4294967296≤r+lg lv (m+1)→1≤g→0≤g - 1∧g - 1<4294967296∧valB u<(g - 1+1)*valB lv∧(g - 1 - 1)*valB lv≤valB u:=fun h h2 h3 h4=>by
    have hlt':=kn_break h h3 hp1 hbrk
    have hm0:=bmul_small ⟨(show 0≤g - 1 by omega),hlt'⟩ hV0
    exact ⟨by omega,hlt',h2,kn_end hu hl du dv hhigh h ⟨by omega,hlt'⟩ (by omega) (by omega)⟩
   by_cases hgb:g<4294967296
   · have hm0:=bmul_small ⟨hg2,hgb⟩ hV0
     have hm:0≤g*(lv[(((lv.length:Nat):Int) - 2).toNat]?.getD default).v∧g*(lv[(((lv.length:Nat):Int) - 2).toNat]?.getD default).v≤18446744073709551615:=by rw [ev0];omega
     by_cases hcond:r*4294967296+lg u m<g*lg lv m
     · obtain ⟨hg0,hnx,hnu⟩:=dec (.inr hcond)
       have hcond':r*4294967296+(u[(((lv.length:Nat):Int) - 2).toNat]?.getD default).v<g*(lv[(((lv.length:Nat):Int) - 2).toNat]?.getD default).v:=by rw [eu0,ev0];exact hcond
       refine Wc.gc 2 [] ?_
       refine Wc.draw [0] [] T.mixed rfl ?_
       refine Gm.c 0 [] [] ?_
       refine Gm.u 1 [] rfl (Qy.shr32 rfl rfl (by omega)) ?_
       refine Gm.c 2 [] [] ?_
       refine Gm.c 3 [] [] ?_
       refine Gm.no 45 rfl (by first | assumption | omega) ?_
       refine Gm.qYes 4 [] (by kernel_rfl) rfl rfl rfl rfl (Qy.move rfl) ?_
       refine Gm.qYes 5 [] (by kernel_rfl) rfl rfl rfl rfl (Qy.move rfl) ?_
       refine Gm.qYes 6 [] (by kernel_rfl) rfl rfl rfl rfl (Qy.move rfl) ?_
       refine Gm.qYes 7 [] (by kernel_rfl) rfl rfl rfl rfl (Qy.sub rfl rfl (by omega)) ?_
       refine Gm.qYes 8 [] (by kernel_rfl) rfl rfl rfl rfl (Qy.at (α:=U32) T.sl123 rfl rfl (by assumption) (by omega)) ?_
       refine Gm.qYes 9 [0] (by kernel_rfl) rfl rfl rfl rfl (Qy.loadG T.one215 rfl (Arr.cell (by assumption) (by omega) 0 rfl rfl)) ?_
       refine Gm.qYes 10 [] (by kernel_rfl) rfl rfl rfl rfl (Qy.conv64 rfl T.u214 rfl (by omega)) ?_
       refine Gm.qYes 11 [] (by kernel_rfl) rfl rfl rfl rfl (Qy.umul64 rfl rfl (by first | assumption | omega)) ?_
       refine Gm.qYes 12 [] (by kernel_rfl) rfl rfl rfl rfl (Qy.move rfl) ?_
       refine Gm.qYes 13 [] (by kernel_rfl) rfl rfl rfl rfl (Qy.shl32 rfl rfl (by omega)) ?_
       refine Gm.qYes 14 [] (by kernel_rfl) rfl rfl rfl rfl (Qy.move rfl) ?_
       refine Gm.qYes 15 [] (by kernel_rfl) rfl rfl rfl rfl (Qy.move rfl) ?_
       refine Gm.qYes 16 [] (by kernel_rfl) rfl rfl rfl rfl (Qy.sub rfl rfl (by omega)) ?_
       refine Gm.qYes 17 [] (by kernel_rfl) rfl rfl rfl rfl (Qy.indexAddr T.sl123 rfl rfl (by omega)) ?_
       refine Gm.qYes 18 [0] (by kernel_rfl) rfl rfl rfl rfl (Qy.loadW 0 T.one215 rfl rfl (by omega)) ?_
       refine Gm.qYes 19 [] (by kernel_rfl) rfl rfl rfl rfl (Qy.conv64 rfl T.u214 rfl (by omega)) ?_
       refine Gm.qYes 20 [] (by kernel_rfl) rfl rfl rfl rfl (Qy.orLow rfl rfl (by omega) (by omega)) ?_
       refine Gm.qYes 21 [] (by kernel_rfl) rfl rfl rfl rfl (Qy.gtr rfl rfl) ?_
       refine Gm.c 22 [] [] ?_
       refine Gm.fin ?_
       refine Ar.gl 8 [1] ?_
       refine Wl.q rfl (Qy.usub64 rfl rfl (by omega)) ?_
       refine Wl.gl 9 [] ?_
       refine Wl.q rfl (Qy.at (α:=U32) T.sl123 rfl rfl (by assumption) (by omega)) ?_
       refine Wl.q rfl (Qy.loadG T.one215 rfl (Arr.cell (by assumption) (by omega) 0 rfl rfl)) ?_
       refine Wl.q rfl (Qy.conv64 rfl T.u214 rfl (by omega)) ?_
       refine Wl.q rfl (Qy.uadd64 rfl rfl (by omega)) ?_
       refine Wl.gl 6 [] ?_
       refine Wl.q rfl (Qy.shr32 rfl rfl (by omega)) ?_
       refine Wl.gc 3 [] ?_
       refine Wc.cond rfl (fun hc1=>?_) (fun hc1=>?_)
       refine Wc.ga 4 [] ?_
       rotate_left
       refine Wc.ga 2 [] ?_
       rotate_left
       · refine Ar.re 7 rfl rfl ?_
         refine Ar.meet (g - 1) ?_ rfl ⟨rfl,rfl,rfl,rfl,rfl,trivial⟩ ⟨rfl,trivial⟩
         exact brk hnx hnu (by rw [←ev1];omega) hg0
       refine Ar.re 8 rfl (show _=Value.int .u64 (r+lg lv (m+1)) by rw [ev1]) ?_
       refine Ar.again ((g - 1,r+lg lv (m+1))) ?_ ?_ rfl ⟨rfl,rfl,rfl,rfl,rfl,rfl,trivial⟩ ⟨rfl,trivial⟩
       · exact ⟨hnx,by omega,by omega,by omega,by rw [←ev1];omega,hnu⟩
       show (4294967296 - (r+lg lv (m+1))).toNat<(4294967296 - r).toNat
       omega
     have hcond':¬r*4294967296+(u[(((lv.length:Nat):Int) - 2).toNat]?.getD default).v<g*(lv[(((lv.length:Nat):Int) - 2).toNat]?.getD default).v:=by rw [eu0,ev0];exact hcond
     refine Wc.gc 2 [] ?_
     refine Wc.draw [0] [] T.mixed rfl ?_
     refine Gm.c 0 [] [] ?_
     refine Gm.u 1 [] rfl (Qy.shr32 rfl rfl (by omega)) ?_
     refine Gm.c 2 [] [] ?_
     refine Gm.c 3 [] [] ?_
     refine Gm.no 45 rfl (by first | assumption | omega) ?_
     refine Gm.qYes 4 [] (by kernel_rfl) rfl rfl rfl rfl (Qy.move rfl) ?_
     refine Gm.qYes 5 [] (by kernel_rfl) rfl rfl rfl rfl (Qy.move rfl) ?_
     refine Gm.qYes 6 [] (by kernel_rfl) rfl rfl rfl rfl (Qy.move rfl) ?_
     refine Gm.qYes 7 [] (by kernel_rfl) rfl rfl rfl rfl (Qy.sub rfl rfl (by omega)) ?_
     refine Gm.qYes 8 [] (by kernel_rfl) rfl rfl rfl rfl (Qy.at (α:=U32) T.sl123 rfl rfl (by assumption) (by omega)) ?_
     refine Gm.qYes 9 [0] (by kernel_rfl) rfl rfl rfl rfl (Qy.loadG T.one215 rfl (Arr.cell (by assumption) (by omega) 0 rfl rfl)) ?_
     refine Gm.qYes 10 [] (by kernel_rfl) rfl rfl rfl rfl (Qy.conv64 rfl T.u214 rfl (by omega)) ?_
     refine Gm.qYes 11 [] (by kernel_rfl) rfl rfl rfl rfl (Qy.umul64 rfl rfl (by first | assumption | omega)) ?_
     refine Gm.qYes 12 [] (by kernel_rfl) rfl rfl rfl rfl (Qy.move rfl) ?_
     refine Gm.qYes 13 [] (by kernel_rfl) rfl rfl rfl rfl (Qy.shl32 rfl rfl (by omega)) ?_
     refine Gm.qYes 14 [] (by kernel_rfl) rfl rfl rfl rfl (Qy.move rfl) ?_
     refine Gm.qYes 15 [] (by kernel_rfl) rfl rfl rfl rfl (Qy.move rfl) ?_
     refine Gm.qYes 16 [] (by kernel_rfl) rfl rfl rfl rfl (Qy.sub rfl rfl (by omega)) ?_
     refine Gm.qYes 17 [] (by kernel_rfl) rfl rfl rfl rfl (Qy.indexAddr T.sl123 rfl rfl (by omega)) ?_
     refine Gm.qYes 18 [0] (by kernel_rfl) rfl rfl rfl rfl (Qy.loadW 0 T.one215 rfl rfl (by omega)) ?_
     refine Gm.qYes 19 [] (by kernel_rfl) rfl rfl rfl rfl (Qy.conv64 rfl T.u214 rfl (by omega)) ?_
     refine Gm.qYes 20 [] (by kernel_rfl) rfl rfl rfl rfl (Qy.orLow rfl rfl (by omega) (by omega)) ?_
     refine Gm.qYes 21 [] (by kernel_rfl) rfl rfl rfl rfl (Qy.gtr rfl rfl) ?_
     refine Gm.c 22 [] [] ?_
     refine Gm.fin ?_
     refine Ar.ga 6 [0] ?_
     refine Ar.meet (g) ?_ rfl ⟨rfl,rfl,rfl,rfl,rfl,trivial⟩ ⟨rfl,trivial⟩
     exact ⟨hg2,hgb,hgu,kn_end hu hl du dv hhigh hg1 ⟨hg2,hgb⟩ (by omega) (by omega)⟩
   obtain ⟨hg0,hnx,hnu⟩:=dec (.inl (by omega))
   refine Wc.gc 2 [] ?_
   refine Wc.draw [0] [] T.mixed rfl ?_
   refine Gm.c 0 [] [] ?_
   refine Gm.u 1 [] rfl (Qy.shr32 rfl rfl (by omega)) ?_
   refine Gm.c 2 [] [] ?_
   refine Gm.c 3 [] [] ?_
   refine Gm.yes 45 rfl (by first | assumption | omega) ?_
   refine Gm.qNo 4 (by kernel_rfl) rfl rfl rfl rfl ?_
   refine Gm.qNo 5 (by kernel_rfl) rfl rfl rfl rfl ?_
   refine Gm.qNo 6 (by kernel_rfl) rfl rfl rfl rfl ?_
   refine Gm.qNo 7 (by kernel_rfl) rfl rfl rfl rfl ?_
   refine Gm.qNo 8 (by kernel_rfl) rfl rfl rfl rfl ?_
   refine Gm.qNo 9 (by kernel_rfl) rfl rfl rfl rfl ?_
   refine Gm.qNo 10 (by kernel_rfl) rfl rfl rfl rfl ?_
   refine Gm.qNo 11 (by kernel_rfl) rfl rfl rfl rfl ?_
   refine Gm.qNo 12 (by kernel_rfl) rfl rfl rfl rfl ?_
   refine Gm.qNo 13 (by kernel_rfl) rfl rfl rfl rfl ?_
   refine Gm.qNo 14 (by kernel_rfl) rfl rfl rfl rfl ?_
   refine Gm.qNo 15 (by kernel_rfl) rfl rfl rfl rfl ?_
   refine Gm.qNo 16 (by kernel_rfl) rfl rfl rfl rfl ?_
   refine Gm.qNo 17 (by kernel_rfl) rfl rfl rfl rfl ?_
   refine Gm.qNo 18 (by kernel_rfl) rfl rfl rfl rfl ?_
   refine Gm.qNo 19 (by kernel_rfl) rfl rfl rfl rfl ?_
   refine Gm.qNo 20 (by kernel_rfl) rfl rfl rfl rfl ?_
   refine Gm.qNo 21 (by kernel_rfl) rfl rfl rfl rfl ?_
   refine Gm.c 22 [] [] ?_
   refine Gm.fin ?_
   refine Ar.gl 8 [1] ?_
   refine Wl.q rfl (Qy.usub64 rfl rfl (by omega)) ?_
   refine Wl.gl 9 [] ?_
   refine Wl.q rfl (Qy.at (α:=U32) T.sl123 rfl rfl (by assumption) (by omega)) ?_
   refine Wl.q rfl (Qy.loadG T.one215 rfl (Arr.cell (by assumption) (by omega) 0 rfl rfl)) ?_
   refine Wl.q rfl (Qy.conv64 rfl T.u214 rfl (by omega)) ?_
   refine Wl.q rfl (Qy.uadd64 rfl rfl (by omega)) ?_
   refine Wl.gl 6 [] ?_
   refine Wl.q rfl (Qy.shr32 rfl rfl (by omega)) ?_
   refine Wl.gc 3 [] ?_
   refine Wc.cond rfl (fun hc1=>?_) (fun hc1=>?_)
   refine Wc.ga 4 [] ?_
   rotate_left
   refine Wc.ga 2 [] ?_
   rotate_left
   · refine Ar.re 7 rfl rfl ?_
     refine Ar.meet (g - 1) ?_ rfl ⟨rfl,rfl,rfl,rfl,rfl,trivial⟩ ⟨rfl,trivial⟩
     exact brk hnx hnu (by rw [←ev1];omega) hg0
   refine Ar.re 8 rfl (show _=Value.int .u64 (r+lg lv (m+1)) by rw [ev1]) ?_
   refine Ar.again ((g - 1,r+lg lv (m+1))) ?_ ?_ rfl ⟨rfl,rfl,rfl,rfl,rfl,rfl,trivial⟩ ⟨rfl,trivial⟩
   · exact ⟨hnx,by omega,by omega,by omega,by rw [←ev1];omega,hnu⟩
   show (4294967296 - (r+lg lv (m+1))).toNat<(4294967296 - r).toNat
   omega
 clear hg1 hg2 hg3 hr1 hr2 hgu
 obtain ⟨hg1,hg2,hg3,hg4⟩:=hk
 refine Wc.gl 6 [] ?_
 refine Wl.k 0 rfl (c269 _ b p u q junk cw v cv lv gg hv du dv h1 (by omega) ⟨hg1,hg2⟩) (fun r1 G1 Ho1 hle1 hp=>?_)
 obtain ⟨lw1,lo1,rfl,rfl,rfl,hlo1,hln1,hld1,hlv1⟩:=hp
 have hfew:=valB_lt hld1
 have hnn:=valB_nonneg hld1
 rcases hlo1 with hlo1 | hlo1
 · subst hlo1
   rw [Int.mul_zero,Int.sub_zero] at hlv1
   refine Wl.q rfl (Qy.notD rfl) ?_
   refine Wl.gl 6 [1] ?_
   refine Wl.q rfl (Qy.conv32 rfl T.u215 rfl (by omega)) ?_
   refine Wl.ga 5 [] ?_
   refine Ar.scopeR ?_
   refine Ar.out1 (.inr rfl) (Ho:=Hp.only _ [0]) rfl (.tmp rfl) (Hp.sub_only _ _) ?_
   refine ⟨lw1,gg,rfl,rfl,rfl,hg1,hg2,hln1,hld1,hlv1.symm,?_⟩
   rw [Int.add_mul,Int.one_mul] at hg3
   omega
 subst hlo1
 rw [Int.mul_one,←hln1] at hlv1
 have hover:valB u<gg*valB lv:=by omega
 have hgp:1≤gg:=by
  rcases (show gg=0∨1≤gg by omega) with h | h
  · rw [h,Int.zero_mul] at hover
    have:=valB_nonneg du
    omega
  exact h
 refine Wl.q rfl (Qy.notD rfl) ?_
 refine Wl.gl 8 [0] ?_
 refine Wl.q rfl (Qy.usub64 rfl rfl (by omega)) ?_
 refine Wl.gc 17 [] ?_
 refine Wc.loop (ι:=Nat×Int×List U32) (fun (i,c,z)=>([(89,.int .i64 (i:Int)),(9,.int .u64 c),(88,.int .i64 (u.length:Int)),(7,.int .u64 (gg - 1)),(0,.slice (some (Addr.mk b (List.length p) none)) (List.length u) cw),(1,.slice v (List.length lv) cv),(5,.int .i64 (lv.length:Int)),(4,.int .u32 0)],[(0,some b,Row 215 (p++(z++q)) junk)])) (fun (i,c,z)=>i≤lw1.length∧z.length=lw1.length∧Lims z∧0≤c∧c≤1∧z.drop i=lw1.drop i∧valB (lw1.take i)+valB (lv.take i)=valB (z.take i)+pb i*c) (fun (i,c,z)=>lw1.length - i) ((0,0,lw1)) (⟨Nat.zero_le _,rfl,hld1,by decide,by decide,rfl,by rw [List.take_zero,List.take_zero,valB_nil,Int.mul_zero]⟩) ⟨rfl,rfl,rfl,rfl,rfl,rfl,rfl,rfl,trivial⟩ ⟨rfl,trivial⟩ (fun ⟨i,c,z⟩=>fun hk=>?_)
 obtain ⟨hi,hzn,hzd,hc0,hc1,hdrop,hval⟩:=hk
 rcases Nat.lt_or_ge i lw1.length with hia | hia
 · have hx:0≤(z[((i:Nat):Int).toNat]?.getD default).v∧(z[((i:Nat):Int).toNat]?.getD default).v<4294967296:=lg_lt hzd (by omega)
   have ex:(z[((i:Nat):Int).toNat]?.getD default).v=lg lw1 i:=lg_drop hdrop
   rcases Nat.lt_or_ge i lv.length with hib | hib
   · have hy:0≤(lv[((i:Nat):Int).toNat]?.getD default).v∧(lv[((i:Nat):Int).toNat]?.getD default).v<4294967296:=lg_lt dv hib
     refine Wc.gl 22 [1] ?_
     refine Wl.q rfl (Qy.indexAddr T.sl123 rfl rfl (by omega)) ?_
     refine Wl.q rfl (Qy.loadW 0 T.one215 rfl rfl (by omega)) ?_
     refine Wl.q rfl (Qy.conv64 rfl T.u214 rfl (by omega)) ?_
     refine Wl.q rfl (Qy.uadd64 rfl rfl (by omega)) ?_
     refine Wl.gl 16 [1] ?_
     refine Wl.q rfl (Qy.at (α:=U32) T.sl123 rfl rfl (by assumption) (by omega)) ?_
     refine Wl.q rfl (Qy.loadG T.one215 rfl (Arr.cell (by assumption) (by omega) 0 rfl rfl)) ?_
     refine Wl.q rfl (Qy.conv64 rfl T.u214 rfl (by omega)) ?_
     refine Wl.q rfl (Qy.uadd64 rfl rfl (by omega)) ?_
     refine Wl.gl 8 [] ?_
     refine Wl.q rfl (Qy.trunc32 rfl T.u215 rfl) ?_
     refine Wl.q rfl (Qy.indexAddr T.sl123 rfl rfl (by omega)) ?_
     refine Wl.setW 0 T.size215 rfl rfl rfl (by omega) ?_
     refine Wl.gl 4 [] ?_
     refine Wl.q rfl (Qy.shr32 rfl rfl (by omega)) ?_
     refine Wl.ga 8 [] ?_
     refine Ar.reH 0 (Row 215 (p++(z.set i (⟨(c+(z[((i:Nat):Int).toNat]?.getD default).v+(lv[((i:Nat):Int).toNat]?.getD default).v) % 4294967296⟩:U32)++q)) junk) rfl (by rw [Int.toNat_natCast]) ?_
     refine Ar.again ((i+1,(c+(z[((i:Nat):Int).toNat]?.getD default).v+(lv[((i:Nat):Int).toNat]?.getD default).v) / 4294967296,z.set i (⟨(c+(z[((i:Nat):Int).toNat]?.getD default).v+(lv[((i:Nat):Int).toNat]?.getD default).v) % 4294967296⟩:U32))) ?_ ?_ rfl ⟨rfl,rfl,rfl,rfl,rfl,rfl,rfl,rfl,trivial⟩ ⟨rfl,trivial⟩
     · exact ⟨by omega,by rw [List.length_set];exact hzn,lims_set hzd _ (mod32 _),by omega,by omega,bdrop_next hdrop _,add_next (by omega) hval (by rw [ex];rfl)⟩
     show lw1.length - (i+1)<lw1.length - i
     omega
   have hz0:=lg_end hib
   refine Wc.gl 22 [1] ?_
   refine Wl.q rfl (Qy.indexAddr T.sl123 rfl rfl (by omega)) ?_
   refine Wl.q rfl (Qy.loadW 0 T.one215 rfl rfl (by omega)) ?_
   refine Wl.q rfl (Qy.conv64 rfl T.u214 rfl (by omega)) ?_
   refine Wl.q rfl (Qy.uadd64 rfl rfl (by omega)) ?_
   refine Wl.gl 19 [0] ?_
   refine Wl.q rfl (Qy.trunc32 rfl T.u215 rfl) ?_
   refine Wl.q rfl (Qy.indexAddr T.sl123 rfl rfl (by omega)) ?_
   refine Wl.setW 0 T.size215 rfl rfl rfl (by omega) ?_
   refine Wl.gl 4 [] ?_
   refine Wl.q rfl (Qy.shr32 rfl rfl (by omega)) ?_
   refine Wl.ga 8 [] ?_
   refine Ar.reH 0 (Row 215 (p++(z.set i (⟨(c+(z[((i:Nat):Int).toNat]?.getD default).v) % 4294967296⟩:U32)++q)) junk) rfl (by rw [Int.toNat_natCast]) ?_
   refine Ar.again ((i+1,(c+(z[((i:Nat):Int).toNat]?.getD default).v) / 4294967296,z.set i (⟨(c+(z[((i:Nat):Int).toNat]?.getD default).v) % 4294967296⟩:U32))) ?_ ?_ rfl ⟨rfl,rfl,rfl,rfl,rfl,rfl,rfl,rfl,trivial⟩ ⟨rfl,trivial⟩
   · exact ⟨by omega,by rw [List.length_set];exact hzn,lims_set hzd _ (mod32 _),by omega,by omega,bdrop_next hdrop _,add_next (by omega) hval (by rw [ex,hz0,Int.add_zero])⟩
   show lw1.length - (i+1)<lw1.length - i
   omega
 have hii:i=lw1.length:=by omega
 subst hii
 have hvl:=valB_lt dv
 have hpl:=pb_le (show lv.length≤lw1.length by omega)
 have hback:=back_end (g:=gg) (u:=u) (n:=lw1.length) (by omega) hg4 hover rfl hzn (by omega) (by omega) hzd ⟨hc0,hc1⟩ hval
 refine Wc.gl 15 [0] ?_
 refine Wl.q rfl (Qy.conv32 rfl T.u215 rfl (by omega)) ?_
 refine Wl.ga 4 [] ?_
 refine Ar.scopeR ?_
 refine Ar.out1 (.inr rfl) (Ho:=Hp.only _ [0]) rfl (.tmp rfl) (Hp.sub_only _ _) ?_
 refine ⟨z,gg - 1,rfl,rfl,rfl,by omega,by omega,by omega,hzd,hback,?_⟩
 rw [Int.sub_mul,Int.one_mul] at hback
 omega
end Go.Proofs.YtfdcckcadfhpeaaGreatDoor
