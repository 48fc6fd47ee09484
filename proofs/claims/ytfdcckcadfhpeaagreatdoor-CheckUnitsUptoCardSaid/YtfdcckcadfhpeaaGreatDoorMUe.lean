/- Parts of the proof (part 5): what the rows' text needs of the texts that lead to it. -/
import Derived.Test.YtfdcckcadfhpeaaGreatDoorMUd
set_option linter.unusedVariables false
set_option linter.unusedSimpArgs false
set_option linter.unusedSectionVars false
set_option maxRecDepth 100000
namespace Go.Proofs.YtfdcckcadfhpeaaGreatDoor
open Go Go.Sl
structure PH where
 ins:Int
 regs:Int
 ac:Option Addr
 cn:Nat
 cc:Nat
 ao:Option Addr
 on:Nat
 oc:Nat
instance:Inhabited PH:=⟨⟨0,0,none,0,0,none,0,0⟩⟩
instance:Cells PH:=⟨4,fun x=>[.int .i64 x.ins,.int .i64 x.regs,.slice x.ac x.cn x.cc,.slice x.ao x.on x.oc],fun _=>rfl,fun _=>rfl⟩
def longU (pn:Nat) (l:List PH):Bool:=l.any (fun p=>decide (80<p.regs)) || decide (600<(l.map (·.cn)).sum) || decide (40<pn)
theorem long_hit {pn:Nat} {l:List PH} {k:Nat} (hk:k<l.length) (h:80<(l[k]?.getD default).regs):longU pn l=true:=by
 have h2:l.any (fun p=>decide (80<p.regs))=true:=by
  rw [List.any_eq_true]
  rw [List.getElem?_eq_getElem hk,Option.getD_some] at h
  exact ⟨l[k],List.getElem_mem hk,decide_eq_true h⟩
 unfold longU
 rw [h2]
 rfl
theorem long_no {pn:Nat} {l:List PH} (h:∀ p∈l,¬80<p.regs):longU pn l=decide (600<(((l.map (·.cn)).sum:Nat):Int)∨40<(pn:Int)):=by
 have h2:l.any (fun p=>decide (80<p.regs))=false:=by
  rw [List.any_eq_false]
  intro p hp
  simpa using h p hp
 unfold longU
 rw [h2,Bool.false_or]
 rw [Bool.eq_iff_iff]
 simp only [Bool.or_eq_true,decide_eq_true_eq]
 omega
theorem three_cn (x y z:PH) {C:Nat} (hx:x.cn≤C) (hy:y.cn≤C) (hz:z.cn≤C) (k:Nat):(([x,y,z]:List PH)[k]?.getD default).cn≤C:=by
 match k with
 | 0=>exact hx
 | 1=>exact hy
 | 2=>exact hz
 | k+3=>exact Nat.zero_le _
theorem three_sum (x y z:PH) {C:Nat} (hx:x.cn≤C) (hy:y.cn≤C) (hz:z.cn≤C) (k:Nat) (hk:k≤3):((([x,y,z]:List PH).take k).map (·.cn)).sum≤3*C:=by
 match k,hk with
 | 0,_=>exact Nat.zero_le _
 | 1,_=>show x.cn+0≤3*C;omega
 | 2,_=>show x.cn+(y.cn+0)≤3*C;omega
 | 3,_=>show x.cn+(y.cn+(z.cn+0))≤3*C;omega
theorem three_next (x y z:PH) (k:Nat) (hk:k<3):((([x,y,z]:List PH).take (k+1)).map (·.cn)).sum=((([x,y,z]:List PH).take k).map (·.cn)).sum+(([x,y,z]:List PH)[k]?.getD default).cn:=by
 match k,hk with
 | 0,_=>show x.cn+0=0+x.cn;omega
 | 1,_=>show x.cn+(y.cn+0)=x.cn+0+y.cn;omega
 | 2,_=>show x.cn+(y.cn+(z.cn+0))=x.cn+(y.cn+0)+z.cn;omega
theorem three_all (x y z:PH) {q:PH→Prop} (k:Nat) (hk:k<3) (h:∀ p∈([x,y,z]:List PH).take k,q p) (h1:q (([x,y,z]:List PH)[k]?.getD default)):∀ p∈([x,y,z]:List PH).take (k+1),q p:=by
 intro p hp
 rw [List.take_add_one,List.mem_append] at hp
 rcases hp with hp | hp
 · exact h p hp
 have hk':k<([x,y,z]:List PH).length:=hk
 rw [List.getElem?_eq_getElem hk'] at hp h1
 have e:p=([x,y,z]:List PH)[k]:=by simpa using hp
 rw [e];exact h1
theorem c11 (G:Imm) (k1 k2:Int) (pa:Option Addr) (pn pc:Nat) (x y z:PH) (hx:x.cn≤1099511627776) (hy:y.cn≤1099511627776) (hz:z.cn≤1099511627776) :
 Does Tryz.prog 11 [.agg #[.int .i64 k1,.int .i64 k2,.slice pa pn pc,.int .i64 x.ins,.int .i64 x.regs,.slice x.ac x.cn x.cc,.slice x.ao x.on x.oc,.int .i64 y.ins,.int .i64 y.regs,.slice y.ac y.cn y.cc,.slice y.ao y.on y.oc,.int .i64 z.ins,.int .i64 z.regs,.slice z.ac z.cn z.cc,.slice z.ao z.on z.oc]] G [] (fun v G' Ho=>v=.bool (longU pn [x,y,z])∧G'=G∧Ho=[]):=by
 refine Does.enter Tryz.func11 rfl Tryz.ntmps11 rfl (fun w=>?_)
 refine Wc.gl 2 [] ?_
 refine Wl.box 0 rfl rfl rfl (fun b1=>?_)
 refine Wl.gl 12 [] ?_
 refine Wl.q rfl (Qy.loads 0 T.agg26 rfl rfl rfl rfl) ?_
 refine Wl.ll0 1 [] ?_
 refine Wl.q rfl (Qy.loads 0 T.agg26 rfl rfl rfl rfl) ?_
 refine Wl.ll0 1 [] ?_
 refine Wl.q rfl (Qy.loads 0 T.agg26 rfl rfl rfl rfl) ?_
 refine Wl.lit (α:=PH) 1 [⟨_,_,_,_,_,_,_,_⟩,⟨_,_,_,_,_,_,_,_⟩,⟨_,_,_,_,_,_,_,_⟩] rfl T.sl74 T.el26 rfl rfl rfl rfl rfl (fun b2=>?_)
 refine Wl.gc 5 [] ?_
 refine Wc.loop (ι:=Nat×Nat) (fun (k,n)=>([(14,.int .i64 (k:Int)),(3,.int .i64 (n:Int)),(13,.int .i64 (↑(List.length [PH.mk (PH.ins x) (PH.regs x) (PH.ac x) (PH.cn x) (PH.cc x) (PH.ao x) (PH.on x) (PH.oc x),PH.mk (PH.ins y) (PH.regs y) (PH.ac y) (PH.cn y) (PH.cc y) (PH.ao y) (PH.on y) (PH.oc y),PH.mk (PH.ins z) (PH.regs z) (PH.ac z) (PH.cn z) (PH.cc z) (PH.ao z) (PH.on z) (PH.oc z)]):Int)),(12,.slice (some (Addr.mk b2 0 none)) (List.length [PH.mk (PH.ins x) (PH.regs x) (PH.ac x) (PH.cn x) (PH.cc x) (PH.ao x) (PH.on x) (PH.oc x),PH.mk (PH.ins y) (PH.regs y) (PH.ac y) (PH.cn y) (PH.cc y) (PH.ao y) (PH.on y) (PH.oc y),PH.mk (PH.ins z) (PH.regs z) (PH.ac z) (PH.cn z) (PH.cc z) (PH.ao z) (PH.on z) (PH.oc z)]) 3),(1,.pointer (some ⟨b1,0,none⟩))],[(1,some b2,Row (α:=PH) 26 ([PH.mk (PH.ins x) (PH.regs x) (PH.ac x) (PH.cn x) (PH.cc x) (PH.ao x) (PH.on x) (PH.oc x),PH.mk (PH.ins y) (PH.regs y) (PH.ac y) (PH.cn y) (PH.cc y) (PH.ao y) (PH.on y) (PH.oc y),PH.mk (PH.ins z) (PH.regs z) (PH.ac z) (PH.cn z) (PH.cc z) (PH.ao z) (PH.on z) (PH.oc z)]) ([])),(0,some b1,.cells #[.int .i64 k1,.int .i64 k2,.slice pa pn pc,.int .i64 (PH.ins x),.int .i64 (PH.regs x),.slice (PH.ac x) (PH.cn x) (PH.cc x),.slice (PH.ao x) (PH.on x) (PH.oc x),.int .i64 (PH.ins y),.int .i64 (PH.regs y),.slice (PH.ac y) (PH.cn y) (PH.cc y),.slice (PH.ao y) (PH.on y) (PH.oc y),.int .i64 (PH.ins z),.int .i64 (PH.regs z),.slice (PH.ac z) (PH.cn z) (PH.cc z),.slice (PH.ao z) (PH.on z) (PH.oc z)] 28)])) (fun (k,n)=>k≤3∧n=((([x,y,z]:List PH).take k).map (·.cn)).sum∧∀ p∈([x,y,z]:List PH).take k,¬80<p.regs) (fun (k,n)=>3 - k) ((0,0)) (⟨Nat.zero_le _,rfl,fun p h=>absurd h (by simp)⟩) ⟨rfl,rfl,rfl,rfl,rfl,trivial⟩ ⟨rfl,rfl,trivial⟩ (fun ⟨k,n⟩=>fun hk=>?_)
 obtain ⟨hk3,hn,hno⟩:=hk
 refine Wc.gc 6 [] ?_
 refine Wc.cond rfl (fun hc1=>?_) (fun hc1=>?_)
 refine Wc.gl 6 [] ?_
 refine Wl.q rfl (Qy.indexAddr T.sl74 rfl rfl (by omega)) ?_
 rotate_left
 refine Wc.gl 10 [] ?_
 apply Wl.joinOr 5 29 34 rfl
 intro hg1
 refine Wl.ll0 9 [0] ?_
 exact Wl.back 5 0 rfl rfl rfl rfl rfl
 intro hg1
 refine Wl.ll0 5 [] ?_
 exact Wl.back 5 0 rfl rfl rfl rfl rfl
 refine Wl.ga 4 [] ?_
 refine Ar.e1 ?_
 rotate_left
 · have hk2:k<3:=by
    have h:(k:Int)<3:=hc1
    omega
   have hcn:=three_cn x y z hx hy hz ((k:Nat):Int).toNat
   have hs3:n≤3*1099511627776:=by rw [hn];exact three_sum x y z hx hy hz k hk3
   refine Wl.q rfl (Qy.loadsF (α:=PH) (xs:=[x,y,z]) (junk:=[]) 1 T.agg26 rfl rfl (show 0≤(k:Int)∧(k:Int)<(([x,y,z]:List PH).length:Int) from ⟨by omega,hc1⟩)) ?_
   refine Wl.alloc 2 rfl T.zero26 (fun b3=>?_)
   refine Wl.gc 20 [2,2,2] ?_
   refine Wc.cond rfl (fun hc2=>?_) (fun hc2=>?_)
   refine Wc.ga 11 [] ?_
   refine Ar.e1 ?_
   rotate_left
   refine Wc.ga 7 [] ?_
   rotate_left
   · exact ⟨congrArg Value.bool (long_hit (l:=[x,y,z]) (k:=k) hk2 hc2).symm,rfl,rfl⟩
   refine Ar.re 14 rfl (show _=Value.int .i64 ((k+1:Nat):Int) from rfl) ?_
   refine Ar.re 3 rfl (show _=Value.int .i64 ((n+([x,y,z][((k:Nat):Int).toNat]?.getD default).cn:Nat):Int) from rfl) ?_
   refine Ar.again ((k+1,n+([x,y,z][((k:Nat):Int).toNat]?.getD default).cn)) ?_ ?_ rfl ⟨rfl,rfl,rfl,rfl,rfl,trivial⟩ ⟨rfl,rfl,trivial⟩
   · exact ⟨hk2,by rw [hn];exact (three_next x y z k hk2).symm,three_all x y z (q:=fun p=>¬80<p.regs) k hk2 hno hc2⟩
   show 3 - (k+1)<3 - k
   omega
 have hk2:k=3:=by
  have h:¬(k:Int)<3:=hc1
  omega
 subst hk2
 rw [show longU pn [x,y,z]=_ from long_no (pn:=pn) (l:=[x,y,z]) hno,hn]
 exact ⟨rfl,rfl,rfl⟩
end Go.Proofs.YtfdcckcadfhpeaaGreatDoor
namespace Go.Proofs.YtfdcckcadfhpeaaGreatDoor
open Go Go.Sl
def PHof (G:Imm) (p:PV) (h:PH):Prop:=h.ins=p.ins∧h.regs=p.regs∧h.cn=p.code.length∧h.on=p.outs.length∧Arr G h.ac p.code∧Arr G h.ao p.outs
theorem PHof.up {G G':Imm} {p:PV} {h:PH} (hh:PHof G p h) (hle:G.le G'):PHof G' p h:=⟨hh.1,hh.2.1,hh.2.2.1,hh.2.2.2.1,hh.2.2.2.2.1.le hle,hh.2.2.2.2.2.le hle⟩
def unitsR (k:Nat):List (List Int):=(List.range k).map (unitR k)
theorem unitsR_len (k:Nat):(unitsR k).length=k:=by unfold unitsR;rw [List.length_map,List.length_range]
theorem unitR_len (k j:Nat):(unitR k j).length=k:=by unfold unitR;rw [List.length_set,List.length_replicate]
theorem unitsR_even (k:Nat):Even 4 k (unitsR k):=fun zs hz=>by
 unfold unitsR at hz
 obtain ⟨j,hj,rfl⟩:=List.mem_map.1 hz
 exact ⟨unitR_len k j,unit_below k j 4 (by omega)⟩
def NoDiv (p:PV):Prop:=∀ i∈p.code,¬(i.op=6∨i.op=8)
instance (p:PV):Decidable (NoDiv p):=inferInstanceAs (Decidable (∀ i∈p.code,_))
theorem doI_some {i:Sl.Instr} (rs:List (List Int)) (h:¬(i.op=6∨i.op=8)):∃ x,doI i rs=some x:=by
 unfold doI
 by_cases h1:i.op=2
 · exact ⟨_,if_pos h1⟩
 by_cases h2:i.op=3
 · exact ⟨_,by simp only [h1,if_false];rw [if_pos h2]⟩
 by_cases h3:i.op=4
 · exact ⟨_,by simp only [h1,h2,if_false];rw [if_pos h3]⟩
 by_cases h4:i.op=5∨i.op=7
 · exact ⟨_,by simp only [h1,h2,h3,if_false];rw [if_pos h4]⟩
 exact ⟨_,by simp only [h1,h2,h3,h4,h,if_false];rfl⟩
theorem runTo_some {p:PV} (h:NoDiv p) (gs:List (List Int)):∀ k:Nat,k≤p.code.length→∃ rs,runTo p gs k=some rs
 | 0,_=>⟨_,rfl⟩
 | k+1,hk=>by
   obtain ⟨rs,h1⟩:=runTo_some h gs k (by omega)
   have hm:p.code[((k:Nat):Int).toNat]?.getD default∈p.code:=by
    rw [Int.toNat_natCast,List.getElem?_eq_getElem (by omega)];exact List.getElem_mem _
   obtain ⟨x,h2⟩:=doI_some rs (h _ hm)
   exact ⟨_,runTo_succ (x:=rs) h1 h2⟩
theorem noDiv_follow {p:PV} (h:NoDiv p) (gs:List (List Int)):∃ os,followP p gs=some os:=by
 obtain ⟨rs,h1⟩:=runTo_some h gs _ (Nat.le_refl _)
 exact ⟨_,by unfold followP;rw [h1];rfl⟩
def EvalP (p:PV) (k:Int) (l:List R2):Prop:=p.ins=k∧p.outs.length=l.length∧NoDiv p∧followP p (unitsR k.toNat)=some (l.map fun q=>powR q.a q.b k.toNat)
instance (p:PV) (k:Int) (l:List R2):Decidable (EvalP p k l):=inferInstanceAs (Decidable (_∧_))
theorem evals_eq {os:List (List Int)} {l:List R2} {k:Nat} (hl:os.length=l.length):(os=l.map fun q=>powR q.a q.b k)↔∀ t:Nat,t<l.length→os[t]?.getD []=powR (l[t]?.getD default).a (l[t]?.getD default).b k:=by
 constructor
 · intro h t ht
   rw [h,List.getElem?_map,List.getElem?_eq_getElem ht];rfl
 intro h
 refine List.ext_getElem? fun i=>?_
 rcases Nat.lt_or_ge i l.length with h1 | h1
 · have:=h i h1
   rw [List.getElem?_eq_getElem (by omega),Option.getD_some] at this
   rw [List.getElem?_eq_getElem (by omega),List.getElem?_map,this,List.getElem?_eq_getElem h1];rfl
 rw [List.getElem?_eq_none (by omega),List.getElem?_eq_none (by rw [List.length_map];omega)]
theorem rows_eq {xs ys:List Int} {k:Nat} (h1:xs.length=k) (h2:ys.length=k):xs=ys↔∀ t:Nat,t<k→xs[t]?.getD 0=ys[t]?.getD 0:=by
 constructor
 · intro h t _;rw [h]
 intro h
 refine List.ext_getElem? fun i=>?_
 rcases Nat.lt_or_ge i k with h3 | h3
 · have:=h i h3
   rw [List.getElem?_eq_getElem (by omega),List.getElem?_eq_getElem (by omega)] at this ⊢
   exact congrArg some this
 rw [List.getElem?_eq_none (by omega),List.getElem?_eq_none (by omega)]
theorem powR_len (a b:Int) (k:Nat):(powR a b k).length=k:=by unfold powR;rw [List.length_map,List.length_range]
def Parts (k:Int):Prop:=1≤k∧k≤8
instance (k:Int):Decidable (Parts k):=inferInstanceAs (Decidable (_∧_))
def AllIn (l:List R2):Prop:=∀ i:Nat,i<l.length→near (l[i]?.getD default).a (l[i]?.getD default).b
def SomeNone (l:List R2):Prop:=∃ i:Nat,i<l.length∧((l[i]?.getD default).a=0∧(l[i]?.getD default).b=0)
open Classical in
noncomputable def WrongP (k1 k2:Int) (l:List R2):Int:=
 if ¬(Parts k1∧Parts k2) then 70 else if ¬AllIn l then 70 else if ¬((l.length:Int)=k1+k2 - 1) then 71 else if SomeNone l∨Twin l then 71 else 0
theorem wrong_counts {k1 k2:Int} {l:List R2} (h:¬(Parts k1∧Parts k2)):WrongP k1 k2 l=70:=by unfold WrongP;rw [if_pos h]
theorem wrong_in {k1 k2:Int} {l:List R2} (h:¬AllIn l):WrongP k1 k2 l=70:=by
 unfold WrongP
 by_cases h1:¬(Parts k1∧Parts k2)
 · rw [if_pos h1]
 rw [if_neg h1,if_pos h]
theorem wrong_len {k1 k2:Int} {l:List R2} (h1:Parts k1∧Parts k2) (h2:AllIn l) (h:¬((l.length:Int)=k1+k2 - 1)):WrongP k1 k2 l=71:=by
 unfold WrongP;rw [if_neg (fun h=>h h1),if_neg (fun h=>h h2),if_pos h]
theorem wrong_one {k1 k2:Int} {l:List R2} (h1:Parts k1∧Parts k2) (h2:AllIn l) (h:SomeNone l∨Twin l):WrongP k1 k2 l=71:=by
 unfold WrongP;rw [if_neg (fun h=>h h1),if_neg (fun h=>h h2)]
 by_cases h3:¬((l.length:Int)=k1+k2 - 1)
 · rw [if_pos h3]
 rw [if_neg h3,if_pos h]
theorem wrong_no {k1 k2:Int} {l:List R2} (h1:Parts k1∧Parts k2) (h2:AllIn l) (h3:(l.length:Int)=k1+k2 - 1) (h:¬(SomeNone l∨Twin l)):WrongP k1 k2 l=0:=by
 unfold WrongP;rw [if_neg (fun h=>h h1),if_neg (fun h=>h h2),if_neg (fun h=>h h3),if_neg h]
theorem wrong_right {k1 k2:Int} {l:List R2} (h:WrongP k1 k2 l=0):Parts k1∧Parts k2∧(l.length:Int)=k1+k2 - 1∧RightL l:=by
 by_cases h1:Parts k1∧Parts k2
 · by_cases h2:AllIn l
   · by_cases h3:(l.length:Int)=k1+k2 - 1
     · by_cases h4:SomeNone l∨Twin l
       · rw [wrong_one h1 h2 h4] at h;omega
       refine ⟨h1.1,h1.2,h3,?_,?_,fun i hi=>⟨h2 i hi,fun h5=>h4 (.inl ⟨i,hi,h5⟩)⟩,fun h5=>h4 (.inr h5)⟩
       · have:=h1.1.1;have:=h1.2.1;omega
       have:=h1.1.2;have:=h1.2.2;omega
     rw [wrong_len h1 h2 h3] at h;omega
   rw [wrong_in h2] at h;omega
 rw [wrong_counts h1] at h;omega
open Classical in
noncomputable def UnitP (k1 k2:Int) (l:List R2) (x y z:PV):Int×Int:=
 if ¬WrongP k1 k2 l=0 then (0,WrongP k1 k2 l)
 else if ¬rightP x=true then (1,80) else if ¬EvalP x k1 l then (1,180)
 else if ¬rightP y=true then (2,80) else if ¬EvalP y k2 l then (2,180)
 else if ¬rightP z=true then (3,80) else if ¬InterpP z l then (3,180) else (0,0)
end Go.Proofs.YtfdcckcadfhpeaaGreatDoor
namespace Go.Proofs.YtfdcckcadfhpeaaGreatDoor
open Go Go.Sl Go.ChangeShapes Go.WideShapes Go.RowKit Go.Joins
theorem bulk_one {H:Type} (d:DataW H):1≤Rows.uptoBulk d:=by
 cases d with
 | lit l=>cases l <;> simp [Rows.uptoBulk]
 | nil=>simp [Rows.uptoBulk]
 | ptr d=>simp [Rows.uptoBulk]
 | slice elems spare=>simp [Rows.uptoBulk]
 | agg parts=>simp [Rows.uptoBulk]
 | iface t d=>simp [Rows.uptoBulk]
 | map entries=>simp [Rows.uptoBulk]
 | held h=>simp [Rows.uptoBulk]
theorem bulk_len {H:Type} (l:List (DataW H)):l.length≤Rows.uptoBulkAll l:=by
 induction l with
 | nil=>simp [Rows.uptoBulkAll]
 | cons x r ih=>have:=bulk_one x;simp only [Rows.uptoBulkAll,List.length_cons];omega
theorem bulk_slice {H:Type} (l r:List (DataW H)):l.length≤Rows.uptoBulk (.slice l r):=by
 have:=bulk_len l
 simp only [Rows.uptoBulk];omega
theorem und3:Tryz.prog.underlying 3=some (.int .i64):=by kernel_rfl
theorem cells3:Tryz.prog.cellsOf 3=1:=by kernel_rfl
theorem cells22:Tryz.prog.cellsOf 22=1:=by kernel_rfl
theorem cells23:Tryz.prog.cellsOf 23=1:=by kernel_rfl
theorem cells24:Tryz.prog.cellsOf 24=1:=by kernel_rfl
theorem cells26:Tryz.prog.cellsOf 26=4:=by kernel_rfl
theorem cells28:Tryz.prog.cellsOf 28=15:=by kernel_rfl
theorem cells52:Tryz.prog.cellsOf 52=2:=by kernel_rfl
theorem cells91:Tryz.prog.cellsOf 91=5:=by kernel_rfl
section
variable {H:Type} {enc:TypeId×Value→H}
theorem dec_r2 {P:Program} {W:World} {E Ti:TypeId} {f0 f1:Field} (hi:P.underlying Ti=some (.int .i64)) (hs:P.underlying E=some (.struct #[f0,f1]))
 (h0:f0.type=Ti∧f0.offset=0) (h1:f1.type=Ti∧f1.offset=1) (hc:P.cellsOf Ti=1) (hcE:P.cellsOf E=2) :
 Dec (α:=R2) enc P W E (fun _ _=>True):=fun n cs x h=>by
 obtain ⟨xs,m,_,_,hl,hxl,hf⟩:=DataW.trod_struct hs h
 rw [hcE] at hl
 match cs,hl with
 | [v0,v1],_ =>
   have hxl':xs.length=2:=hxl
   match xs,hxl' with
   | [y0,y1],_ =>
     have k0:=hf 0 f0 rfl;have k1:=hf 1 f1 rfl
     rw [h0.1,h0.2,hc] at k0;rw [h1.1,h1.2,hc] at k1
     obtain ⟨a0,e0,_,_⟩:=DataW.trod_int hi k0
     obtain ⟨a1,e1,_,_⟩:=DataW.trod_int hi k1
     simp at e0 e1
     exact ⟨⟨a0,a1⟩,by rw [e0,e1];rfl,trivial⟩
theorem pts_cells {W:World} {n:Nat} {v:Value} {d:DataW H×List MemPlace} (h:DataW.trod enc Tryz.prog W 0 (fun _=>true) true n 22 [v]=some d) :
 ∃ (a:Option Addr) (c:Nat) (l:List R2),v=.slice a l.length c∧Arr (heapG W) a l∧l.length≤c∧l.length≤Rows.uptoBulk d.1:=by
 obtain ⟨a,c,xs,e,hA,hl,hd⟩:=open_arr (α:=R2) Tryz.underlying22 cells52 (by decide) (dec_r2 und3 Tryz.underlying52 ⟨rfl,rfl⟩ ⟨rfl,rfl⟩ cells3 cells52) h
 simp only [List.cons.injEq,and_true] at e
 refine ⟨a,c,xs,e,hA,hl,?_⟩
 rcases hd with ⟨_,rfl⟩ | ⟨l,r,e,hl,_⟩
 · exact Nat.zero_le _
 rw [e,←hl];exact bulk_slice l r
theorem prog_cells {W:World} {n:Nat} {v0 v1 v2 v3:Value} {y:DataW H×List MemPlace} (h:DataW.trod enc Tryz.prog W 0 (fun _=>true) true n 26 [v0,v1,v2,v3]=some y) :
 ∃ (p:PV) (ac ao:Option Addr) (cc co:Nat),[v0,v1,v2,v3]=[.int .i64 p.ins,.int .i64 p.regs,.slice ac p.code.length cc,.slice ao p.outs.length co]∧Arr (heapG W) ac p.code∧Arr (heapG W) ao p.outs∧
  p.code.length≤Rows.uptoBulk y.1∧p.outs.length≤Rows.uptoBulk y.1:=by
 obtain ⟨xs,m,_,e,hl,hxl,hf⟩:=DataW.trod_struct Tryz.underlying26 h
 have hxl':xs.length=4:=hxl
 match xs,hxl' with
 | [y0,y1,y2,y3],_ =>
   have h0:DataW.trod enc Tryz.prog W 0 (fun _=>true) true m 3 (List.take (Tryz.prog.cellsOf 3) (List.drop 0 [v0,v1,v2,v3]))=some y0:=hf 0 _ rfl
   have h1:DataW.trod enc Tryz.prog W 0 (fun _=>true) true m 3 (List.take (Tryz.prog.cellsOf 3) (List.drop 1 [v0,v1,v2,v3]))=some y1:=hf 1 _ rfl
   have h2:DataW.trod enc Tryz.prog W 0 (fun _=>true) true m 23 (List.take (Tryz.prog.cellsOf 23) (List.drop 2 [v0,v1,v2,v3]))=some y2:=hf 2 _ rfl
   have h3:DataW.trod enc Tryz.prog W 0 (fun _=>true) true m 24 (List.take (Tryz.prog.cellsOf 24) (List.drop 3 [v0,v1,v2,v3]))=some y3:=hf 3 _ rfl
   rw [cells3] at h0
   rw [cells3] at h1
   rw [cells23] at h2
   rw [cells24] at h3
   obtain ⟨k0,e0,_,_⟩:=DataW.trod_int und3 h0
   obtain ⟨k1,e1,_,_⟩:=DataW.trod_int und3 h1
   obtain ⟨a2,c2,xs,e2,ha2,hl2,hd2⟩:=open_arr (α:=Sl.Instr) Tryz.underlying23 cells91 (by decide) (dec_instr und3 Tryz.underlying91 ⟨rfl,rfl⟩ ⟨rfl,rfl⟩ ⟨rfl,rfl⟩ ⟨rfl,rfl⟩ ⟨rfl,rfl⟩ cells3 cells91) h2
   obtain ⟨a3,c3,ys,e3,ha3,hl3,hd3⟩:=open_arr (α:=Int) Tryz.underlying24 cells3 (by decide) (dec_int und3) h3
   replace e0:[v0]=[.int .i64 k0]:=e0
   replace e1:[v1]=[.int .i64 k1]:=e1
   replace e2:[v2]=[.slice a2 xs.length c2]:=e2
   replace e3:[v3]=[.slice a3 ys.length c3]:=e3
   simp only [List.cons.injEq,and_true] at e0 e1 e2 e3
   subst e0 e1 e2 e3
   have b2:xs.length≤Rows.uptoBulk y2.1:=by
    rcases hd2 with ⟨_,rfl⟩ | ⟨l,r,e,hl,_⟩
    · exact Nat.zero_le _
    rw [e,←hl];exact bulk_slice l r
   have b3:ys.length≤Rows.uptoBulk y3.1:=by
    rcases hd3 with ⟨_,rfl⟩ | ⟨l,r,e,hl,_⟩
    · exact Nat.zero_le _
    rw [e,←hl];exact bulk_slice l r
   refine ⟨⟨k0,k1,xs,ys⟩,a2,a3,c2,c3,rfl,ha2,ha3,?_,?_⟩
   · rw [e]
     simp only [Rows.uptoBulk,Rows.uptoBulkAll,List.map_cons,List.map_nil]
     omega
   rw [e]
   simp only [Rows.uptoBulk,Rows.uptoBulkAll,List.map_cons,List.map_nil]
   omega
theorem open_unit {W:World} {r:Reach} {b0:Nat} {v:Value} {d:DataW H} {ps:List MemPlace} (hv:Value.okWide Tryz.prog W r b0 28 v) (h:DataW.Trod enc Tryz.prog W 0 (fun _=>true) true 28 v d ps) :
 ∃ (k1 k2:Int) (pl:List R2) (pa:Option Addr) (pc:Nat) (xp yp zp:PV) (xac xao yac yao zac zao:Option Addr) (xcc xoc ycc yoc zcc zoc:Nat),
  v=.agg #[.int .i64 k1,.int .i64 k2,.slice pa pl.length pc,.int .i64 xp.ins,.int .i64 xp.regs,.slice xac xp.code.length xcc,.slice xao xp.outs.length xoc,.int .i64 yp.ins,.int .i64 yp.regs,.slice yac yp.code.length ycc,.slice yao yp.outs.length yoc,.int .i64 zp.ins,.int .i64 zp.regs,.slice zac zp.code.length zcc,.slice zao zp.outs.length zoc]∧Arr (heapG W) pa pl∧pl.length≤pc∧pl.length≤Rows.uptoBulk d∧
  Arr (heapG W) xac xp.code∧Arr (heapG W) xao xp.outs∧xp.code.length≤Rows.uptoBulk d∧xp.outs.length≤Rows.uptoBulk d∧Arr (heapG W) yac yp.code∧Arr (heapG W) yao yp.outs∧yp.code.length≤Rows.uptoBulk d∧yp.outs.length≤Rows.uptoBulk d∧Arr (heapG W) zac zp.code∧Arr (heapG W) zao zp.outs∧zp.code.length≤Rows.uptoBulk d∧zp.outs.length≤Rows.uptoBulk d:=by
 obtain ⟨cs,rfl,hsz⟩:=okWide_struct Tryz.underlying28 hv
 obtain ⟨n,h⟩:=h
 rw [cells28] at hsz
 obtain ⟨a0,a1,a2,a3,a4,a5,a6,a7,a8,a9,a10,a11,a12,a13,a14,rfl⟩:∃ a0 a1 a2 a3 a4 a5 a6 a7 a8 a9 a10 a11 a12 a13 a14:Value,cs=#[a0,a1,a2,a3,a4,a5,a6,a7,a8,a9,a10,a11,a12,a13,a14]:=by
  match cs,hsz with
  | ⟨[a0,a1,a2,a3,a4,a5,a6,a7,a8,a9,a10,a11,a12,a13,a14]⟩,_=>exact ⟨a0,a1,a2,a3,a4,a5,a6,a7,a8,a9,a10,a11,a12,a13,a14,rfl⟩
 obtain ⟨xs,m,_,e,hl,hxl,hf⟩:=DataW.trod_struct Tryz.underlying28 h
 have hxl':xs.length=6:=hxl
 match xs,hxl' with
 | [y0,y1,y2,y3,y4,y5],_ =>
   have h0:DataW.trod enc Tryz.prog W 0 (fun _=>true) true m 3 (List.take (Tryz.prog.cellsOf 3) (List.drop 0 [a0,a1,a2,a3,a4,a5,a6,a7,a8,a9,a10,a11,a12,a13,a14]))=some y0:=hf 0 _ rfl
   have h1:DataW.trod enc Tryz.prog W 0 (fun _=>true) true m 3 (List.take (Tryz.prog.cellsOf 3) (List.drop 1 [a0,a1,a2,a3,a4,a5,a6,a7,a8,a9,a10,a11,a12,a13,a14]))=some y1:=hf 1 _ rfl
   have h2:DataW.trod enc Tryz.prog W 0 (fun _=>true) true m 22 (List.take (Tryz.prog.cellsOf 22) (List.drop 2 [a0,a1,a2,a3,a4,a5,a6,a7,a8,a9,a10,a11,a12,a13,a14]))=some y2:=hf 2 _ rfl
   have h3:DataW.trod enc Tryz.prog W 0 (fun _=>true) true m 26 (List.take (Tryz.prog.cellsOf 26) (List.drop 3 [a0,a1,a2,a3,a4,a5,a6,a7,a8,a9,a10,a11,a12,a13,a14]))=some y3:=hf 3 _ rfl
   have h4:DataW.trod enc Tryz.prog W 0 (fun _=>true) true m 26 (List.take (Tryz.prog.cellsOf 26) (List.drop 7 [a0,a1,a2,a3,a4,a5,a6,a7,a8,a9,a10,a11,a12,a13,a14]))=some y4:=hf 4 _ rfl
   have h5:DataW.trod enc Tryz.prog W 0 (fun _=>true) true m 26 (List.take (Tryz.prog.cellsOf 26) (List.drop 11 [a0,a1,a2,a3,a4,a5,a6,a7,a8,a9,a10,a11,a12,a13,a14]))=some y5:=hf 5 _ rfl
   rw [cells3] at h0
   rw [cells3] at h1
   rw [cells22] at h2
   rw [cells26] at h3
   rw [cells26] at h4
   rw [cells26] at h5
   obtain ⟨k1,e0,_,_⟩:=DataW.trod_int und3 h0
   obtain ⟨k2,e1,_,_⟩:=DataW.trod_int und3 h1
   obtain ⟨pa,pc,pl,e2,hpa,hpc,hpb⟩:=pts_cells (v:=a2) h2
   obtain ⟨xp,xac,xao,xcc,xoc,e3,hxc,hxo,hx1,hx2⟩:=prog_cells (v0:=a3) (v1:=a4) (v2:=a5) (v3:=a6) h3
   obtain ⟨yp,yac,yao,ycc,yoc,e4,hyc,hyo,hy1,hy2⟩:=prog_cells (v0:=a7) (v1:=a8) (v2:=a9) (v3:=a10) h4
   obtain ⟨zp,zac,zao,zcc,zoc,e5,hzc,hzo,hz1,hz2⟩:=prog_cells (v0:=a11) (v1:=a12) (v2:=a13) (v3:=a14) h5
   replace e0:[a0]=[.int .i64 k1]:=e0
   replace e1:[a1]=[.int .i64 k2]:=e1
   simp only [List.cons.injEq,and_true] at e0 e1 e3 e4 e5
   obtain ⟨e30,e31,e32,e33⟩:=e3
   obtain ⟨e40,e41,e42,e43⟩:=e4
   obtain ⟨e50,e51,e52,e53⟩:=e5
   subst e0 e1 e2 e30 e31 e32 e33 e40 e41 e42 e43 e50 e51 e52 e53
   have ed:d=.agg [y0.1,y1.1,y2.1,y3.1,y4.1,y5.1]:=(Prod.mk.inj e).1
   have hb:Rows.uptoBulk y2.1≤Rows.uptoBulk d∧Rows.uptoBulk y3.1≤Rows.uptoBulk d∧Rows.uptoBulk y4.1≤Rows.uptoBulk d∧Rows.uptoBulk y5.1≤Rows.uptoBulk d:=by
    rw [ed]
    simp only [Rows.uptoBulk,Rows.uptoBulkAll]
    omega
   exact ⟨k1,k2,pl,pa,pc,xp,yp,zp,xac,xao,yac,yao,zac,zao,xcc,xoc,ycc,yoc,zcc,zoc,rfl,hpa,hpc,by omega,hxc,hxo,by omega,by omega,hyc,hyo,by omega,by omega,hzc,hzo,by omega,by omega⟩
end
end Go.Proofs.YtfdcckcadfhpeaaGreatDoor
namespace Go.Proofs.YtfdcckcadfhpeaaGreatDoor
open Go Go.Sl
set_option maxHeartbeats 4000000
theorem c221i (G:Imm) (c:Int) (h:0≤c∧c≤64) :
 Does Tryz.prog 221 [.int .i64 c] G [] (fun v G' Ho=>∃ r:IV,v=.agg (Cells.enc r).toArray∧Big G' r (p2 c.toNat)∧Ho=[]):=by
 obtain ⟨n,rfl⟩:=Int.eq_ofNat_of_zero_le h.1
 rw [Int.toNat_natCast]
 exact c221 G n (by omega)
attribute [local irreducible] valB pb cmpZ lstWp p2 cst
end Go.Proofs.YtfdcckcadfhpeaaGreatDoor
namespace Go.Proofs.YtfdcckcadfhpeaaGreatDoor
open Go Go.Sl
set_option maxHeartbeats 4000000
attribute [local irreducible] valB pb cmpZ lstWp
theorem bigs_snoc {G:Imm} {l:List IV} {zs:List Int} {r:IV} {z:Int} (h:Bigs G l zs) (hr:Big G r z):Bigs G (l++[r]) (zs++[z]):=by
 have e1:=h.1
 refine ⟨by rw [List.length_append,List.length_append,e1];rfl,fun i hi=>?_⟩
 rw [List.length_append,List.length_singleton] at hi
 rcases Nat.lt_or_ge i l.length with h3 | h3
 · rw [List.getElem?_append_left h3,List.getElem?_append_left (by omega)];exact h.2 i h3
 have h4:i=l.length:=by omega
 subst h4
 rw [List.getElem?_append_right (Nat.le_refl _),List.getElem?_append_right (by omega),e1,Nat.sub_self];exact hr
def upP (P:Nat→Int) (n:Nat):List Int:=(List.range n).map P
theorem upP_succ (P:Nat→Int) (n:Nat):upP P (n+1)=upP P n++[P n]:=by unfold upP;rw [List.range_succ,List.map_append];rfl
theorem c265P (G:Imm) (a:Option Addr) (c:Nat) (xs:List IV) (g:Nat) (fst:List Value) (P:Nat→Int) (hg:isFn Tryz.prog g) (ha:Arr G a xs) (hl:xs.length≤1048576)
 (hf:∀ k:Nat,k<xs.length→∀ G',G.le G'→Does Tryz.prog g (fst++[.agg (Cells.enc (xs[((k:Nat):Int).toNat]?.getD default)).toArray]++[]) G' [] (fun v G'' Ho=>∃ r:IV,v=.agg (Cells.enc r).toArray∧Big G'' r (P k)∧Ho=[])) :
 Does Tryz.prog 265 [.slice a xs.length c,.func (.func g) fst.toArray #[]] G [] (fun v G' Ho=>∃ (s:Option Addr) (r:List IV) (d:Nat),v=.slice s r.length d∧Arr G' s r∧r.length≤d∧Bigs G' r (upP P xs.length)∧Ho=[]):=by
 refine Does.enter Tryz.func265 rfl Tryz.ntmps265 rfl (fun w=>?_)
 refine Wc.nilRow 9 (Row 125 ([]:List IV) []) ?_
 refine Wc.gc 19 [] ?_
 refine Wc.loopG (ι:=Nat×Imm×List IV×(Option Addr×Nat×List Value)) (fun (k,Gx,r,(o,d,j))=>([(10,.int .i64 (k:Int)),(5,.slice o r.length d),(9,.int .i64 (xs.length:Int)),(8,.slice a (List.length xs) c),(4,.slice none 0 0),(1,.func (Go.Fn.func g) (List.toArray fst) #[])],[(9,o.map (·.block),Row 125 r j)])) (fun (k,Gx,r,(o,d,j))=>Gx) (fun (k,Gx,r,(o,d,j))=>k≤xs.length∧G.le Gx∧r.length=k∧Bigs Gx r (upP P k)∧OwnA o d r j) (fun (k,Gx,r,(o,d,j))=>xs.length - k) ((0,G,[],(none,0,[]))) (⟨Nat.zero_le _,Imm.le_refl _,rfl,⟨rfl,fun i h=>absurd h (by simp)⟩,OwnA.nil⟩) rfl ⟨rfl,rfl,rfl,rfl,rfl,rfl,trivial⟩ ⟨rfl,trivial⟩ (fun ⟨k,Gx,r,(o,d,j)⟩=>fun hk=>?_)
 obtain ⟨hk1,hk2,hk3,hk4,hk5⟩:=hk
 replace ha:=ha.up hk2
 rcases Nat.lt_or_ge k xs.length with hkl | hkl
 · refine Wc.gl 13 [1] ?_
   refine Wl.q rfl (Qy.at (α:=IV) T.sl68 rfl rfl (by assumption) (by omega)) ?_
   refine Wl.q rfl (Qy.loadsG T.agg125 rfl (Arr.elem (by assumption) (by omega)) rfl) ?_
   refine Wl.alloc 10 rfl T.zero125 (fun b1=>?_)
   refine Wl.gl 7 [10,10] ?_
   refine Wl.callV (fst:=fst) (cap:=[]) 20 rfl hg rfl rfl (hf k hkl _ hk2) (tags_of trivial) (fun v1 G1 Ho1 hle1 hp=>?_)
   obtain ⟨r1,rfl,hr1,rfl⟩:=hp
   refine Wl.lit (α:=IV) 11 [(r1)] rfl T.sl68 T.el125 rfl rfl rfl rfl rfl (fun b2=>?_)
   refine Wl.append (α:=IV) 9 rfl T.sl68 T.el125 rfl rfl rfl (by first | assumption | exact OwnA.nil | exact OwnA.made (by simp)) (Src.row 11 rfl) (by first | omega | (simp only [List.length_append,List.length_cons,List.length_nil,maxLen];omega)) (by first | omega | (simp only [List.length_append,List.length_cons,List.length_nil,maxLen];omega)) (fun a1 c1 junk1 ho1=>?_)
   refine Wl.ga 8 [] ?_
   refine Ar.re 10 rfl (show _=Value.int .i64 ((k+1:Nat):Int) from rfl) ?_
   refine Ar.again ((k+1,G1,r++[r1],(a1,c1,junk1))) ?_ ?_ rfl ⟨rfl,rfl,rfl,rfl,rfl,rfl,trivial⟩ ⟨rfl,trivial⟩
   · refine ⟨hkl,Imm.le_trans hk2 hle1,by rw [List.length_append,hk3];rfl,?_,ho1⟩
     rw [upP_succ];exact bigs_snoc (hk4.up hle1) hr1
   show xs.length - (k+1)<xs.length - k
   omega
 have hkl:k=xs.length:=by omega
 subst hkl
 refine Wc.ga 19 [0] ?_
 refine Ar.freezeRow 9 rfl hk5 (fun G8 hle8 hA8=>?_)
 refine Ar.out1 (.inr rfl) (Ho:=[]) rfl (.tmp rfl) trivial ?_
 exact ⟨o,r,d,rfl,hA8,hk5.le,hk4.up hle8,rfl⟩
theorem c265S (G:Imm) (a:Option Addr) (c:Nat) (xs:List IV) (g bk:Nat) (cap:List Value) (P:Nat→Int) (hg:isFn Tryz.prog g) (ha:Arr G a xs) (hl:xs.length≤1048576)
 (hf:∀ k:Nat,k<xs.length→∀ G',G.le G'→Does Tryz.prog g ([]++[.agg (Cells.enc (xs[((k:Nat):Int).toNat]?.getD default)).toArray]++cap) G' [(0,some bk,.cells #[.int .i64 ((k:Int) - 1)] 3)] (fun v G'' Ho=>∃ r:IV,v=.agg (Cells.enc r).toArray∧Big G'' r (P k)∧Ho=[(0,some bk,.cells #[.int .i64 (((k+1:Nat):Int) - 1)] 3)])) :
 Does Tryz.prog 265 [.slice a xs.length c,.func (.func g) #[] cap.toArray] G [(0,some bk,.cells #[.int .i64 (-1)] 3)] (fun v G' Ho=>∃ (s:Option Addr) (r:List IV) (d:Nat),v=.slice s r.length d∧Arr G' s r∧r.length≤d∧Bigs G' r (upP P xs.length)∧Ho=[(0,some bk,.cells #[.int .i64 ((xs.length:Int) - 1)] 3)]):=by
 refine Does.enter Tryz.func265 rfl Tryz.ntmps265 rfl (fun w=>?_)
 refine Wc.nilRow 9 (Row 125 ([]:List IV) []) ?_
 refine Wc.gc 19 [] ?_
 refine Wc.reH 0 (.cells #[.int .i64 (((0:Nat):Int) - 1)] 3) rfl rfl ?_
 refine Wc.loopG (ι:=Nat×Imm×List IV×(Option Addr×Nat×List Value)) (fun (k,Gx,r,(o,d,j))=>([(10,.int .i64 (k:Int)),(5,.slice o r.length d),(9,.int .i64 (xs.length:Int)),(8,.slice a (List.length xs) c),(4,.slice none 0 0),(1,.func (Go.Fn.func g) #[] (List.toArray cap))],[(0,some bk,.cells #[.int .i64 ((k:Int) - 1)] 3),(9,o.map (·.block),Row 125 r j)])) (fun (k,Gx,r,(o,d,j))=>Gx) (fun (k,Gx,r,(o,d,j))=>k≤xs.length∧G.le Gx∧r.length=k∧Bigs Gx r (upP P k)∧OwnA o d r j) (fun (k,Gx,r,(o,d,j))=>xs.length - k) ((0,G,[],(none,0,[]))) (⟨Nat.zero_le _,Imm.le_refl _,rfl,⟨rfl,fun i h=>absurd h (by simp)⟩,OwnA.nil⟩) rfl ⟨rfl,rfl,rfl,rfl,rfl,rfl,trivial⟩ ⟨rfl,rfl,trivial⟩ (fun ⟨k,Gx,r,(o,d,j)⟩=>fun hk=>?_)
 obtain ⟨hk1,hk2,hk3,hk4,hk5⟩:=hk
 replace ha:=ha.up hk2
 rcases Nat.lt_or_ge k xs.length with hkl | hkl
 · refine Wc.gl 13 [1] ?_
   refine Wl.q rfl (Qy.at (α:=IV) T.sl68 rfl rfl (by assumption) (by omega)) ?_
   refine Wl.q rfl (Qy.loadsG T.agg125 rfl (Arr.elem (by assumption) (by omega)) rfl) ?_
   refine Wl.alloc 10 rfl T.zero125 (fun b1=>?_)
   refine Wl.gl 7 [10,10] ?_
   refine Wl.callV (fst:=[]) (cap:=cap) 0 rfl hg rfl rfl (hf k hkl _ hk2) (tags_of ⟨rfl,trivial⟩) (fun v1 G1 Ho1 hle1 hp=>?_)
   obtain ⟨r1,rfl,hr1,rfl⟩:=hp
   refine Wl.lit (α:=IV) 11 [(r1)] rfl T.sl68 T.el125 rfl rfl rfl rfl rfl (fun b2=>?_)
   refine Wl.append (α:=IV) 9 rfl T.sl68 T.el125 rfl rfl rfl (by first | assumption | exact OwnA.nil | exact OwnA.made (by simp)) (Src.row 11 rfl) (by first | omega | (simp only [List.length_append,List.length_cons,List.length_nil,maxLen];omega)) (by first | omega | (simp only [List.length_append,List.length_cons,List.length_nil,maxLen];omega)) (fun a1 c1 junk1 ho1=>?_)
   refine Wl.ga 8 [] ?_
   refine Ar.re 10 rfl (show _=Value.int .i64 ((k+1:Nat):Int) from rfl) ?_
   refine Ar.again ((k+1,G1,r++[r1],(a1,c1,junk1))) ?_ ?_ rfl ⟨rfl,rfl,rfl,rfl,rfl,rfl,trivial⟩ ⟨rfl,rfl,trivial⟩
   · refine ⟨hkl,Imm.le_trans hk2 hle1,by rw [List.length_append,hk3];rfl,?_,ho1⟩
     rw [upP_succ];exact bigs_snoc (hk4.up hle1) hr1
   show xs.length - (k+1)<xs.length - k
   omega
 have hkl:k=xs.length:=by omega
 subst hkl
 refine Wc.ga 19 [0] ?_
 refine Ar.freezeRow 9 rfl hk5 (fun G8 hle8 hA8=>?_)
 refine Ar.out1 (.inr rfl) (Ho:=[(0,some bk,.cells #[.int .i64 ((xs.length:Int) - 1)] 3)]) rfl (.tmp rfl) ⟨rfl,trivial⟩ ?_
 exact ⟨o,r,d,rfl,hA8,hk5.le,hk4.up hle8,rfl⟩
end Go.Proofs.YtfdcckcadfhpeaaGreatDoor
namespace Go.Proofs.YtfdcckcadfhpeaaGreatDoor
open Go Go.Sl
set_option maxHeartbeats 4000000
attribute [local irreducible] valB pb cmpZ lstWp
theorem cell_oneZ {G:Imm} {b:Nat} {cs:List Value} {T:TypeId} {fz:Nat×Nat} (h:G b=some (.cells cs.toArray T fz)) (k:Nat) {v:Value} (hv:cs[k]?=some v):G.cell b k=some v:=by
 simp only [Imm.cell,h];simpa using hv
theorem upP_map (xs:List Int) (f:Int→Int):upP (fun k=>f (xs[k]?.getD 0)) xs.length=xs.map f:=by
 unfold upP
 apply List.ext_getElem
 · rw [List.length_map,List.length_map,List.length_range]
 intro i h1 h2
 rw [List.length_map] at h2
 rw [List.getElem_map,List.getElem_range,List.getElem_map,List.getElem?_eq_getElem h2];rfl
theorem upP_zip (xs ys:List Int) (f:Int→Int→Int) (h:xs.length=ys.length):upP (fun k=>f (xs[k]?.getD 0) (ys[k]?.getD 0)) xs.length=List.zipWith f xs ys:=by
 unfold upP
 apply List.ext_getElem
 · rw [List.length_map,List.length_range,List.length_zipWith,h,Nat.min_self]
 intro i h1 h2
 rw [List.length_zipWith] at h2
 rw [List.getElem_map,List.getElem_range,List.getElem_zipWith,List.getElem?_eq_getElem (show i<xs.length by omega),List.getElem?_eq_getElem (show i<ys.length by omega)];rfl
def RowPost (G':Imm) (v:Value) (zs:List Int):Prop:=∃ (s:Option Addr) (r:List IV) (d:Nat),v=.slice s r.length d∧Arr G' s r∧r.length≤d∧Bigs G' r zs
theorem bigs_n {G:Imm} {l:List IV} {xs:List Int} {m:Nat} (h:Bigs G l xs) (hm:Below m xs) {k:Nat} (hk:k<l.length):(l[k]?.getD default).n≤m:=Big.len (h.2 k hk) (hm.at k)
theorem c236 (G:Imm) (a:Option Addr) (c:Nat) (l:List IV) (xs:List Int) (m:Nat) (ha:Arr G a l) (hb:Bigs G l xs) (hm:Below m xs) (hmm:m≤268435456) (hl:l.length≤1048576) :
 Does Tryz.prog 236 [.slice a l.length c] G [] (fun v G' Ho=>RowPost G' v (xs.map fun x=>-x)∧Ho=[]):=by
 have hf:∀ k:Nat,k<l.length→∀ G',G.le G'→Does Tryz.prog 176 ([]++[.agg (Cells.enc (l[((k:Nat):Int).toNat]?.getD default)).toArray]++[]) G' [] (fun v G'' Ho=>∃ r:IV,v=.agg (Cells.enc r).toArray∧Big G'' r (-(xs[k]?.getD 0))∧Ho=[]):=fun k hk G' hG=>by
  have h1:=bigs_n hb hm hk
  exact (c176 G' _ _ ((hb.2 k hk).up hG) (by omega)).mono fun v G'' Ho _ ⟨r,e1,e2,e3,e4⟩=>⟨r,e1,e2,e4⟩
 have h180:=c265P G a c l 176 [] (fun k=>-(xs[k]?.getD 0)) T.fn176 ha hl hf
 rw [hb.1,upP_map xs (fun x=>-x),←hb.1] at h180
 refine Does.enter Tryz.func236 rfl Tryz.ntmps236 rfl (fun w=>?_)
 refine Wc.gl 8 [] ?_
 refine Wl.k 0 rfl (h180) (fun v1 G1 Ho1 hle1 hp=>?_)
 obtain ⟨s1,r1,d1,rfl,hA1,hl81,hB1,rfl⟩:=hp
 replace ha:=ha.up hle1
 replace hb:=hb.up hle1
 refine Wl.ga 4 [] ?_
 refine Ar.out1 (.inr rfl) (Ho:=[]) rfl (.tmp rfl) trivial ?_
 exact ⟨⟨_,_,_,rfl,hA1,hl81,hB1⟩,rfl⟩
theorem c276 (G:Imm) (bk bf bb h:Nat) (x:IV) (k:Nat) (a':Option Addr) (c':Nat) (ys:List IV) (R:Int) (hgh:isFn Tryz.prog h) (hy:Arr G a' ys) (hk:k<ys.length) (hkl:k≤1048576) (hf:G bf=some (.cells [.func (.func h) #[] #[]].toArray 203)) (hb:G bb=some (.cells [.slice a' ys.length c'].toArray 68))
 (hh:Does Tryz.prog h ([]++[.agg (Cells.enc x).toArray,.agg (Cells.enc (ys[((k:Nat):Int).toNat]?.getD default)).toArray]++[]) G [] (fun v G'' Ho=>∃ r:IV,v=.agg (Cells.enc r).toArray∧Big G'' r R∧Ho=[])) :
 Does Tryz.prog 276 [.agg (Cells.enc x).toArray,.pointer (some ⟨bk,0,none⟩),.pointer (some ⟨bf,0,none⟩),.pointer (some ⟨bb,0,none⟩)] G [(0,some bk,.cells #[.int .i64 ((k:Int) - 1)] 3)]
  (fun v G' Ho=>∃ r:IV,v=.agg (Cells.enc r).toArray∧Big G' r R∧Ho=[(0,some bk,.cells #[.int .i64 (((k+1:Nat):Int) - 1)] 3)]):=by
 have hfc:=cell_oneZ hf 0 rfl
 have hbc:=cell_oneZ hb 0 rfl
 have e:((k:Nat):Int).toNat=(((k:Int) - 1)+1).toNat:=by omega
 rw [e] at hh
 refine Does.enter Tryz.func276 rfl Tryz.ntmps276 rfl (fun w=>?_)
 refine Wc.gl 2 [] ?_
 refine Wl.box 1 rfl rfl rfl (fun b1=>?_)
 refine Wl.alloc 2 rfl T.zero125 (fun b2=>?_)
 refine Wl.gc 10 [0,0] ?_
 refine Wc.draw [1,2,0] [(2,7),(0,6),(2,6),(1,6)] T.mixed rfl ?_
 refine Gm.u 0 [] rfl (Qy.loadG T.one203 rfl (by assumption)) ?_
 refine Gm.c 1 [1] [1] ?_
 refine Gm.u 2 [] rfl (Qy.loadG T.one68 rfl (by assumption)) ?_
 refine Gm.o1 3 ?_
 refine Wl.q rfl (Qy.load 0 T.one3 rfl rfl rfl) ?_
 refine Wl.on0 ?_
 refine Gm.u 4 [] rfl (Qy.at (α:=IV) T.sl68 rfl rfl (by assumption) (by omega)) ?_
 refine Gm.u 5 [] rfl (Qy.loadsG T.agg125 rfl (Arr.elem (by assumption) (by omega)) rfl) ?_
 refine Gm.o1 6 ?_
 refine Wl.callV (fst:=[]) (cap:=[]) 20 rfl hgh rfl rfl hh (tags_of trivial) (fun v1 G1 Ho1 hle1 hp=>?_)
 obtain ⟨r1,rfl,hr1,rfl⟩:=hp
 refine Wl.on0 ?_
 refine Gm.o1 7 ?_
 refine Wl.storeAll 2 T.size125 rfl rfl rfl rfl rfl rfl ?_
 refine Wl.on0 ?_
 refine Gm.fin ?_
 refine Ar.ga 2 [] ?_
 refine Ar.reH 0 (.cells #[.int .i64 (((k+1:Nat):Int) - 1)] 3) rfl (by rw [show (((k+1:Nat):Int) - 1)=(k:Int) - 1+1 by omega];rfl) ?_
 refine Ar.out1 (.inr rfl) (Ho:=[(0,some bk,.cells #[.int .i64 (((k+1:Nat):Int) - 1)] 3)]) rfl (.agg 2 rfl rfl T.agg125) ⟨rfl,trivial⟩ ?_
 exact ⟨r1,rfl,hr1,rfl⟩
theorem c266 (G:Imm) (h:Nat) (a a':Option Addr) (c c':Nat) (l l':List IV) (F:Nat→Int) (hgh:isFn Tryz.prog h) (ha:Arr G a l) (ha':Arr G a' l') (hlen:l.length=l'.length) (hl:l.length≤1048576)
 (hh:∀ k:Nat,k<l.length→∀ G',G.le G'→Does Tryz.prog h ([]++[.agg (Cells.enc (l[((k:Nat):Int).toNat]?.getD default)).toArray,.agg (Cells.enc (l'[((k:Nat):Int).toNat]?.getD default)).toArray]++[]) G' [] (fun v G'' Ho=>∃ r:IV,v=.agg (Cells.enc r).toArray∧Big G'' r (F k)∧Ho=[])) :
 Does Tryz.prog 266 [.slice a l.length c,.slice a' l'.length c',.func (.func h) #[] #[]] G [] (fun v G' Ho=>∃ (s:Option Addr) (r:List IV) (d:Nat),v=.tuple #[.slice s r.length d,.int .i64 0]∧Arr G' s r∧r.length≤d∧Bigs G' r (upP F l.length)∧Ho=[]):=by
 refine Does.enter Tryz.func266 rfl Tryz.ntmps266 rfl (fun w=>?_)
 refine Wc.gl 2 [] ?_
 refine Wl.box 0 rfl rfl rfl (fun b1=>?_)
 refine Wl.box 1 rfl rfl rfl (fun b2=>?_)
 refine Wl.gl 19 [0,0] ?_
 refine Wl.alloc 2 rfl T.zero3 (fun b3=>?_)
 refine Wl.gl 6 [2] ?_
 refine Wl.q rfl (Qy.makeFunc rfl rfl) ?_
 refine Wl.freeze 1 rfl (fun G1 hg1 hb1=>?_)
 refine Wl.freeze 0 rfl (fun G2 hg2 hb2=>?_)
 replace hb1:=hg2 _ _ hb1
 have hG:=Imm.le_trans hg1 hg2
 replace ha:=ha.up hG
 replace ha':=ha'.up hG
 refine Wl.reH 2 (.cells #[.int .i64 (-1)] 3) rfl rfl ?_
 refine Wl.call 2 rfl T.fn265 rfl (c265S _ a c l 276 b3 [.pointer (some ⟨b3,0,none⟩),.pointer (some ⟨b2,0,none⟩),.pointer (some ⟨b1,0,none⟩)] F T.fn276 ha hl
  (fun k hk G' hG'=>c276 G' b3 b2 b1 h _ k a' c' l' (F k) hgh (ha'.up hG') (by omega) (by omega) (hG' _ _ hb1) (hG' _ _ hb2) (hh k hk G' (Imm.le_trans hG hG')))) (tags_of ⟨rfl,trivial⟩) (fun v1 G3 Ho1 hle1 hp=>?_)
 obtain ⟨s,r,d,rfl,hA,hd,hB,rfl⟩:=hp
 refine Wl.ga 5 [] ?_
 refine Ar.out2 (.inr rfl) (Ho:=[]) rfl (.tmp rfl) (.tmp rfl) trivial ?_
 exact ⟨s,r,d,rfl,hA,hd,hB,rfl⟩
theorem c238 (G:Imm) (a a':Option Addr) (c c':Nat) (l l':List IV) (xs ys:List Int) (m:Nat) (ha:Arr G a l) (ha':Arr G a' l') (hb:Bigs G l xs) (hb':Bigs G l' ys) (hm:Below m xs) (hm':Below m ys) (hmm:m≤268435456) (hlen:l.length=l'.length) (hl:l.length≤1048576) :
 Does Tryz.prog 238 [.slice a l.length c,.slice a' l'.length c'] G [] (fun v G' Ho=>∃ (s:Option Addr) (r:List IV) (d:Nat),v=.tuple #[.slice s r.length d,.int .i64 0]∧Arr G' s r∧r.length≤d∧Bigs G' r (List.zipWith (·+·) xs ys)∧Ho=[]):=by
 have h181:=c266 G 138 a a' c c' l l' (fun k=>xs[k]?.getD 0+ys[k]?.getD 0) T.fn138 ha ha' hlen hl (fun k hk G' hG=>by
  have h1:=bigs_n hb hm hk
  have h2:=bigs_n hb' hm' (show k<l'.length by omega)
  exact c138 G' _ _ _ _ ((hb.2 k hk).up hG) ((hb'.2 k (by omega)).up hG) (by rw [Int.toNat_natCast];omega) (by rw [Int.toNat_natCast];omega))
 rw [hb.1,upP_zip xs ys (·+·) (by rw [←hb.1,←hb'.1,hlen]),←hb.1] at h181
 refine Does.enter Tryz.func238 rfl Tryz.ntmps238 rfl (fun w=>?_)
 refine Wc.gl 10 [] ?_
 refine Wl.k 0 rfl (h181) (fun v1 G1 Ho1 hle1 hp=>?_)
 obtain ⟨s1,r1,d1,rfl,hA1,hl81,hB1,rfl⟩:=hp
 replace ha:=ha.up hle1
 replace ha':=ha'.up hle1
 replace hb:=hb.up hle1
 replace hb':=hb'.up hle1
 refine Wl.ga 7 [] ?_
 refine Ar.out2 (.inr rfl) (Ho:=[]) rfl (.tmp rfl) (.tmp rfl) trivial ?_
 exact ⟨_,_,_,rfl,hA1,hl81,hB1,rfl⟩
theorem c240 (G:Imm) (a a':Option Addr) (c c':Nat) (l l':List IV) (xs ys:List Int) (m:Nat) (ha:Arr G a l) (ha':Arr G a' l') (hb:Bigs G l xs) (hb':Bigs G l' ys) (hm:Below m xs) (hm':Below m ys) (hmm:m≤268435456) (hlen:l.length=l'.length) (hl:l.length≤1048576) :
 Does Tryz.prog 240 [.slice a l.length c,.slice a' l'.length c'] G [] (fun v G' Ho=>∃ (s:Option Addr) (r:List IV) (d:Nat),v=.tuple #[.slice s r.length d,.int .i64 0]∧Arr G' s r∧r.length≤d∧Bigs G' r (List.zipWith (· - ·) xs ys)∧Ho=[]):=by
 have h181:=c266 G 177 a a' c c' l l' (fun k=>xs[k]?.getD 0 - ys[k]?.getD 0) T.fn177 ha ha' hlen hl (fun k hk G' hG=>by
  have h1:=bigs_n hb hm hk
  have h2:=bigs_n hb' hm' (show k<l'.length by omega)
  exact c177 G' _ _ _ _ ((hb.2 k hk).up hG) ((hb'.2 k (by omega)).up hG) (by rw [Int.toNat_natCast];omega) (by rw [Int.toNat_natCast];omega))
 rw [hb.1,upP_zip xs ys (· - ·) (by rw [←hb.1,←hb'.1,hlen]),←hb.1] at h181
 refine Does.enter Tryz.func240 rfl Tryz.ntmps240 rfl (fun w=>?_)
 refine Wc.gl 10 [] ?_
 refine Wl.k 0 rfl (h181) (fun v1 G1 Ho1 hle1 hp=>?_)
 obtain ⟨s1,r1,d1,rfl,hA1,hl81,hB1,rfl⟩:=hp
 replace ha:=ha.up hle1
 replace ha':=ha'.up hle1
 replace hb:=hb.up hle1
 replace hb':=hb'.up hle1
 refine Wl.ga 7 [] ?_
 refine Ar.out2 (.inr rfl) (Ho:=[]) rfl (.tmp rfl) (.tmp rfl) trivial ?_
 exact ⟨_,_,_,rfl,hA1,hl81,hB1,rfl⟩
theorem c241 (G:Imm) (a:Option Addr) (c:Nat) (l:List IV) (xs:List Int) (y:IV) (z:Int) (m:Nat) (ha:Arr G a l) (hb:Bigs G l xs) (hm:Below m xs) (hmm:m≤268435456) (hl:l.length≤1048576) (hy:Big G y z) (hyn:y.n≤268435456) :
 Does Tryz.prog 241 [.slice a l.length c,.agg (Cells.enc y).toArray] G [] (fun v G' Ho=>RowPost G' v (xs.map fun x=>z*x)∧Ho=[]):=by
 have hf:∀ k:Nat,k<l.length→∀ G',G.le G'→Does Tryz.prog 75 ([.agg (Cells.enc y).toArray]++[.agg (Cells.enc (l[((k:Nat):Int).toNat]?.getD default)).toArray]++[]) G' [] (fun v G'' Ho=>∃ r:IV,v=.agg (Cells.enc r).toArray∧Big G'' r (z*xs[k]?.getD 0)∧Ho=[]):=fun k hk G' hG=>by
  have h1:=bigs_n hb hm hk
  exact c75 G' _ _ _ _ (hy.up hG) ((hb.2 k hk).up hG) (by omega) (by rw [Int.toNat_natCast];omega)
 have h180:=c265P G a c l 75 [.agg (Cells.enc y).toArray] (fun k=>z*xs[k]?.getD 0) T.fn75 ha hl hf
 rw [hb.1,upP_map xs (fun x=>z*x),←hb.1] at h180
 refine Does.enter Tryz.func241 rfl Tryz.ntmps241 rfl (fun w=>?_)
 refine Wc.gl 2 [] ?_
 refine Wl.box 0 rfl rfl rfl (fun b1=>?_)
 refine Wl.gl 7 [0] ?_
 refine Wl.q rfl (Qy.makeFunc rfl rfl) ?_
 refine Wl.k 1 rfl (h180) (fun v1 G1 Ho1 hle1 hp=>?_)
 obtain ⟨s1,r1,d1,rfl,hA1,hl81,hB1,rfl⟩:=hp
 replace ha:=ha.up hle1
 replace hb:=hb.up hle1
 replace hy:=hy.up hle1
 refine Wl.ga 4 [] ?_
 refine Ar.out1 (.inr rfl) (Ho:=[]) rfl (.tmp rfl) trivial ?_
 exact ⟨⟨_,_,_,rfl,hA1,hl81,hB1⟩,rfl⟩
theorem upP_div (xs:List Int) (z:Int):upP (fun k=>xs[k]?.getD 0 / z) xs.length=xs.map (· / z):=upP_map xs (· / z)
theorem c243 (G:Imm) (a:Option Addr) (c:Nat) (l:List IV) (xs:List Int) (y:IV) (z:Int) (m:Nat) (ha:Arr G a l) (hb:Bigs G l xs) (hm:Below m xs) (hmm:m≤268435456) (hl:l.length≤1048576) (hy:Big G y z) (hyn:y.n≤268435456) (hy0:z≠0) :
 Does Tryz.prog 243 [.slice a l.length c,.agg (Cells.enc y).toArray] G [] (fun v G' Ho=>((∀ i:Nat,i<xs.length→xs[i]?.getD 0 % z=0)→∃ (s:Option Addr) (r:List IV) (d:Nat),v=.tuple #[.slice s r.length d,.int .i64 0]∧Arr G' s r∧r.length≤d∧Bigs G' r (xs.map (· / z)))∧
  (¬(∀ i:Nat,i<xs.length→xs[i]?.getD 0 % z=0)→v=.tuple #[.slice none 0 0,.int .i64 20])∧Ho=[]):=by
 have hxl:=hb.1
 refine Does.enter Tryz.func243 rfl Tryz.ntmps243 rfl (fun w=>?_)
 refine Wc.nilRow 9 (Row 125 ([]:List IV) []) ?_
 have hz0:¬sgZ z=0:=fun h=>hy0 (sgZ_zero.1 h)
 refine Wc.gl 2 [] ?_
 refine Wl.box 10 rfl rfl rfl (fun b1=>?_)
 refine Wl.gl 8 [10] ?_
 refine Wl.k0 rfl (big_sign _ y z hy (Nat.le_trans hyn (by decide))) ?_
 refine Wl.gc 20 [0] ?_
 refine Wc.loopG (ι:=Nat×Imm×List IV×(Option Addr×Nat×List Value)) (fun (k,Gx,r,(o,d,j))=>([(17,.int .i64 (k:Int)),(6,.slice o r.length d),(16,.int .i64 (l.length:Int)),(15,.slice a (List.length l) c),(3,.pointer (some ⟨b1,0,none⟩))],[(9,o.map (·.block),Row 125 r j),(10,some b1,.cells (List.toArray (Cells.enc y)) 125)])) (fun (k,Gx,r,(o,d,j))=>Gx) (fun (k,Gx,r,(o,d,j))=>k≤l.length∧G.le Gx∧r.length=k∧Bigs Gx r (upP (fun k=>xs[k]?.getD 0 / z) k)∧OwnA o d r j∧(∀ i:Nat,i<k→xs[i]?.getD 0 % z=0)) (fun (k,Gx,r,(o,d,j))=>l.length - k) ((0,G,[],(none,0,[]))) (⟨Nat.zero_le _,Imm.le_refl _,rfl,⟨rfl,fun i h=>absurd h (by simp)⟩,OwnA.nil,fun i h=>absurd h (by omega)⟩) rfl ⟨rfl,rfl,rfl,rfl,rfl,trivial⟩ ⟨rfl,rfl,trivial⟩ (fun ⟨k,Gx,r,(o,d,j)⟩=>fun hk=>?_)
 obtain ⟨hk1,hk2,hk3,hk4,hk5,hk6⟩:=hk
 replace ha:=ha.up hk2
 replace hb:=hb.up hk2
 replace hy:=hy.up hk2
 rcases Nat.lt_or_ge k l.length with hkl | hkl
 · have hx:=hb.2 k hkl
   have hxn:(l[((k:Nat):Int).toNat]?.getD default).n≤268435456:=by rw [Int.toNat_natCast];exact Nat.le_trans (bigs_n hb hm hkl) hmm
   have hx:Big Gx (l[((k:Nat):Int).toNat]?.getD default) (xs[k]?.getD 0):=by rw [Int.toNat_natCast];exact hx
   have hlt:((xs[k]?.getD 0 % z).natAbs:Int)<pb y.n:=by
    have e2:=emod_small (x:=xs[k]?.getD 0) hy0
    have e3:=Big.lt hy
    omega
   refine Wc.gl 13 [1] ?_
   refine Wl.q rfl (Qy.at (α:=IV) T.sl68 rfl rfl (by assumption) (by omega)) ?_
   refine Wl.q rfl (Qy.loadsG T.agg125 rfl (Arr.elem (by assumption) (by omega)) rfl) ?_
   refine Wl.alloc 11 rfl T.zero125 (fun b2=>?_)
   refine Wl.gl 7 [11,11,10] ?_
   refine Wl.k 12 rfl (c179 _ _ _ _ _ hx hy hxn hyn hy0) (fun v1 G1 Ho1 hle1 hp=>?_)
   obtain ⟨q1,r1,rfl,hq1,hr1,rfl⟩:=hp
   replace hk4:=hk4.up hle1
   replace ha:=ha.up hle1
   replace hb:=hb.up hle1
   replace hy:=hy.up hle1
   replace hx:=hx.up hle1
   refine Wl.ll0 4 [] ?_
   refine Wl.alloc 12 rfl T.zero125 (fun b3=>?_)
   refine Wl.alloc 13 rfl T.zero125 (fun b4=>?_)
   refine Wl.gl 9 [12,13,13] ?_
   refine Wl.k0 rfl (big_sign _ r1 (xs[k]?.getD 0 % z) hr1 (Nat.le_trans (Big.len hr1 hlt) (Nat.le_trans hyn (by decide)))) ?_
   refine Wl.gc 3 [] ?_
   refine Wc.cond rfl (fun hc1=>?_) (fun hc1=>?_)
   refine Wc.ga 13 [] ?_
   rotate_left
   refine Wc.gl 5 [12] ?_
   refine Wl.lit (α:=IV) 14 [(q1)] rfl T.sl68 T.el125 rfl rfl rfl rfl rfl (fun b5=>?_)
   refine Wl.append (α:=IV) 9 rfl T.sl68 T.el125 rfl rfl rfl (by first | assumption | exact OwnA.nil | exact OwnA.made (by simp)) (Src.row 14 rfl) (by first | omega | (simp only [List.length_append,List.length_cons,List.length_nil,maxLen];omega)) (by first | omega | (simp only [List.length_append,List.length_cons,List.length_nil,maxLen];omega)) (fun a1 c1 junk1 ho1=>?_)
   refine Wl.ga 8 [] ?_
   rotate_left
   · refine Ar.out2 (.inr rfl) (Ho:=[]) rfl (.tmp rfl) (.tmp rfl) trivial ?_
     have hno:¬(∀ i:Nat,i<xs.length→xs[i]?.getD 0 % z=0):=fun h=>hc1 (sgZ_zero.2 (h k (by omega)))
     exact ⟨fun h=>absurd h hno,fun _=>rfl,rfl⟩
   have hdz:xs[k]?.getD 0 % z=0:=sgZ_zero.1 (Classical.byContradiction fun h=>hc1 h)
   refine Ar.re 17 rfl (show _=Value.int .i64 ((k+1:Nat):Int) from rfl) ?_
   refine Ar.again ((k+1,_,r++[q1],(a1,c1,junk1))) ?_ ?_ rfl ⟨rfl,rfl,rfl,rfl,rfl,trivial⟩ ⟨rfl,rfl,trivial⟩
   · refine ⟨hkl,Imm.le_trans hk2 hle1,by rw [List.length_append,hk3];rfl,?_,ho1,fun i hi=>?_⟩
     · rw [upP_succ];exact bigs_snoc hk4 hq1
     rcases Nat.lt_or_ge i k with h | h
     · exact hk6 i h
     have e:i=k:=by omega
     rw [e];exact hdz
   show l.length - (k+1)<l.length - k
   omega
 have hkl:k=l.length:=by omega
 subst hkl
 refine Wc.ga 20 [0] ?_
 refine Ar.freezeRow 9 rfl hk5 (fun G8 hle8 hA8=>?_)
 refine Ar.out2 (.inr rfl) (Ho:=[]) rfl (.tmp rfl) (.tmp rfl) trivial ?_
 rw [hxl] at hk6
 refine ⟨fun _=>⟨o,r,d,rfl,hA8,hk5.le,?_⟩,fun h=>absurd hk6 h,rfl⟩
 rw [←upP_div,←hxl];exact hk4.up hle8
theorem c237 (G:Imm) (a a':Option Addr) (c c':Nat) (l l':List IV) (xs ys:List Int) (m:Nat) (ha:Arr G a l) (ha':Arr G a' l') (hb:Bigs G l xs) (hb':Bigs G l' ys) (hm:Below m xs) (hm':Below m ys) (hmm:m≤268435456) (hlen:l.length=l'.length) (hl:l.length≤1048576) :
 Does Tryz.prog 237 [.slice a l.length c,.slice a' l'.length c'] G [] (fun v G' Ho=>RowPost G' v (List.zipWith (·+·) xs ys)∧Ho=[]):=by
 refine Does.enter Tryz.func237 rfl Tryz.ntmps237 rfl (fun w=>?_)
 refine Wc.gl 9 [] ?_
 refine Wl.k 0 rfl (c238 _ a a' c c' l l' xs ys m ha ha' hb hb' hm hm' hmm hlen hl) (fun v1 G1 Ho1 hle1 hp=>?_)
 obtain ⟨s1,r1,d1,rfl,hA1,hl81,hB1,rfl⟩:=hp
 replace ha:=ha.up hle1
 replace ha':=ha'.up hle1
 replace hb:=hb.up hle1
 replace hb':=hb'.up hle1
 refine Wl.ga 14 [] ?_
 refine Ar.out1 (.inr rfl) (Ho:=[]) rfl (.tmp rfl) trivial ?_
 exact ⟨⟨_,_,_,rfl,hA1,hl81,hB1⟩,rfl⟩
theorem c239 (G:Imm) (a a':Option Addr) (c c':Nat) (l l':List IV) (xs ys:List Int) (m:Nat) (ha:Arr G a l) (ha':Arr G a' l') (hb:Bigs G l xs) (hb':Bigs G l' ys) (hm:Below m xs) (hm':Below m ys) (hmm:m≤268435456) (hlen:l.length=l'.length) (hl:l.length≤1048576) :
 Does Tryz.prog 239 [.slice a l.length c,.slice a' l'.length c'] G [] (fun v G' Ho=>RowPost G' v (List.zipWith (· - ·) xs ys)∧Ho=[]):=by
 refine Does.enter Tryz.func239 rfl Tryz.ntmps239 rfl (fun w=>?_)
 refine Wc.gl 9 [] ?_
 refine Wl.k 0 rfl (c240 _ a a' c c' l l' xs ys m ha ha' hb hb' hm hm' hmm hlen hl) (fun v1 G1 Ho1 hle1 hp=>?_)
 obtain ⟨s1,r1,d1,rfl,hA1,hl81,hB1,rfl⟩:=hp
 replace ha:=ha.up hle1
 replace ha':=ha'.up hle1
 replace hb:=hb.up hle1
 replace hb':=hb'.up hle1
 refine Wl.ga 14 [] ?_
 refine Ar.out1 (.inr rfl) (Ho:=[]) rfl (.tmp rfl) trivial ?_
 exact ⟨⟨_,_,_,rfl,hA1,hl81,hB1⟩,rfl⟩
theorem c242 (G:Imm) (a:Option Addr) (c:Nat) (l:List IV) (xs:List Int) (y:IV) (z:Int) (m:Nat) (ha:Arr G a l) (hb:Bigs G l xs) (hm:Below m xs) (hmm:m≤268435456) (hl:l.length≤1048576) (hy:Big G y z) (hyn:y.n≤268435456) (hy0:z≠0) :
 Does Tryz.prog 242 [.slice a l.length c,.agg (Cells.enc y).toArray] G [] (fun v G' Ho=>((∀ i:Nat,i<xs.length→xs[i]?.getD 0 % z=0)→∃ (s:Option Addr) (r:List IV) (d:Nat),v=.tuple #[.slice s r.length d,.bool true]∧Arr G' s r∧r.length≤d∧Bigs G' r (xs.map (· / z)))∧
  (¬(∀ i:Nat,i<xs.length→xs[i]?.getD 0 % z=0)→v=.tuple #[.slice none 0 0,.bool false])∧Ho=[]):=by
 have h:=c243 G a c l xs y z m ha hb hm hmm hl hy hyn hy0
 by_cases hd:∀ i:Nat,i<xs.length→xs[i]?.getD 0 % z=0
 · have h1:=h.mono fun v G' Ho _ ⟨p1,p2,p3⟩=>(⟨p1 hd,p3⟩:(∃ (s:Option Addr) (r:List IV) (d:Nat),v=Value.tuple #[.slice s r.length d,.int .i64 0]∧Arr G' s r∧r.length≤d∧Bigs G' r (xs.map (· / z)))∧Ho=[])
   refine Does.enter Tryz.func242 rfl Tryz.ntmps242 rfl (fun w=>?_)
   refine Wc.gl 2 [] ?_
   refine Wl.box 0 rfl rfl rfl (fun b1=>?_)
   refine Wl.gl 8 [0] ?_
   refine Wl.k 1 rfl (h1) (fun v1 G1 Ho1 hle1 hp=>?_)
   obtain ⟨⟨s1,r1,d1,rfl,hA1,hl81,hB1⟩,rfl⟩:=hp
   replace ha:=ha.up hle1
   replace hb:=hb.up hle1
   replace hy:=hy.up hle1
   refine Wl.ga 17 [] ?_
   refine Ar.out2 (.inr rfl) (Ho:=[]) rfl (.tmp rfl) (.tmp rfl) trivial ?_
   exact ⟨fun _=>⟨_,_,_,rfl,hA1,hl81,hB1⟩,fun h=>absurd hd h,rfl⟩
 have h1:=h.mono fun v G' Ho _ ⟨p1,p2,p3⟩=>(⟨p2 hd,p3⟩:v=Value.tuple #[.slice none 0 0,.int .i64 20]∧Ho=[])
 refine Does.enter Tryz.func242 rfl Tryz.ntmps242 rfl (fun w=>?_)
 refine Wc.gl 2 [] ?_
 refine Wl.box 0 rfl rfl rfl (fun b1=>?_)
 refine Wl.gl 8 [0] ?_
 refine Wl.k 1 rfl (h1) (fun v1 G1 Ho1 hle1 hp=>?_)
 obtain ⟨rfl,rfl⟩:=hp
 replace ha:=ha.up hle1
 replace hb:=hb.up hle1
 replace hy:=hy.up hle1
 refine Wl.ga 17 [] ?_
 refine Ar.out2 (.inr rfl) (Ho:=[]) rfl (.tmp rfl) (.tmp rfl) trivial ?_
 exact ⟨fun h=>absurd h hd,fun _=>rfl,rfl⟩
def waysR:Value:=.agg #[.func (.func 236) #[] #[],.func (.func 237) #[] #[],.func (.func 239) #[] #[],.func (.func 241) #[] #[],.func (.func 242) #[] #[]]
theorem c204 (G:Imm):Does Tryz.prog 204 [] G [] (fun v G' Ho=>v=waysR∧G'=G∧Ho=[]):=by
 refine Does.enter Tryz.func204 rfl Tryz.ntmps204 rfl (fun w=>?_)
 refine Wc.gl 2 [] ?_
 refine Wl.alloc 0 rfl T.zero281 (fun b1=>?_)
 refine Wl.gl 4 [] ?_
 refine Wl.q rfl (Qy.build (cs:=[_,_,_,_,_]) T.st281 rfl rfl rfl) ?_
 refine Wl.ga 4 [0] ?_
 refine Ar.out1 (.inr rfl) (Ho:=[]) rfl (.agg 0 rfl rfl T.agg281) trivial ?_
 exact ⟨rfl,rfl,rfl⟩
end Go.Proofs.YtfdcckcadfhpeaaGreatDoor
namespace Go.Proofs.YtfdcckcadfhpeaaGreatDoor
open Go Go.Sl
set_option maxHeartbeats 4000000
attribute [local irreducible] valB pb cmpZ lstWp p2 cst
def EvenB (m N:Nat) (rs:List (List Int)):Prop:=∀ zs∈rs,zs.length=N∧Below m zs
theorem EvenB.at {m N:Nat} {rs:List (List Int)} (h:EvenB m N rs) {k:Nat} (hk:k<rs.length):(rs[k]?.getD []).length=N∧Below m (rs[k]?.getD []):=by
 rw [List.getElem?_eq_getElem hk];exact h _ (List.getElem_mem hk)
def DoRPost (i:Sl.Instr) (rs:List (List Int)) (H0:Hp) (v:Value) (G':Imm) (Ho:Hp):Prop:=
 ∃ s:SV,v=.tuple #[.slice s.a s.n s.c,.bool (decide (doI i rs≠none))]∧(∀ z,doI i rs=some z→BRow G' s z)∧Ho=H0
theorem doR_some {i:Sl.Instr} {rs:List (List Int)} {H0:Hp} {s:SV} {G':Imm} {z:List Int} (h:doI i rs=some z) (hx:BRow G' s z):DoRPost i rs H0 (.tuple #[.slice s.a s.n s.c,.bool true]) G' H0:=
 ⟨s,by rw [decide_eq_true (show doI i rs≠none from fun e=>by rw [e] at h;cases h)],fun z' h'=>by rw [h] at h';cases h';exact hx,rfl⟩
theorem doR_none {i:Sl.Instr} {rs:List (List Int)} {H0:Hp} {G':Imm} (h:doI i rs=none):DoRPost i rs H0 (.tuple #[.slice none 0 0,.bool false]) G' H0:=
 ⟨⟨none,0,0⟩,by rw [decide_eq_false (show ¬doI i rs≠none from fun e=>e h)],(fun z hz=>by rw [h] at hz;cases hz),rfl⟩
theorem brow_post {G:Imm} {s:Option Addr} {r:List IV} {d:Nat} {zs:List Int} (hA:Arr G s r) (hd:r.length≤d) (hB:Bigs G r zs):BRow G ⟨s,r.length,d⟩ zs:=⟨r,rfl,hd,hA,hB⟩
theorem neg_rows (xs:List Int):(xs.map fun x=>-1*x)=xs.map fun x=>-x:=by
 congr 1;funext x;rw [Int.neg_mul,Int.one_mul]
theorem add_rows (xs ys:List Int):List.zipWith (fun x y=>x+1*y) xs ys=List.zipWith (·+·) xs ys:=by
 congr 1;funext x y;rw [Int.one_mul]
theorem sub_rows (xs ys:List Int):List.zipWith (fun x y=>x+(-1)*y) xs ys=List.zipWith (· - ·) xs ys:=by
 congr 1;funext x y;rw [Int.neg_mul,Int.one_mul];rfl
theorem c235 (G:Imm) (i:Sl.Instr) (o:Option Addr) (d:Nat) (r:List SV) (j:List Value) (rs:List (List Int)) (m N:Nat) (hob:OwnA o d r j) (hg:BGrid G r rs) (hm:EvenB m N rs) (hN:N≤1048576) (hm2:m≤268435456)
 (hop:1≤i.op∧i.op≤8) (ha:0≤i.a∧i.a<r.length) (hb:0≤i.b∧i.b<r.length)
 (hcst:i.op≠1→i.op≠2→i.op≠3→i.op≠4→cst i≠0∧((cst i).natAbs:Int)<pb 3)
 (hc1:i.op=5∨i.op=6→-9223372036854775808≤i.c∧i.c≤9223372036854775807) (hc2:¬(i.op=5∨i.op=6)→0≤i.c∧i.c≤64) :
 Does Tryz.prog 235 [waysR,.slice o r.length d,.agg (Cells.enc i).toArray] G [(0,o.map (·.block),Row 68 r j)] (fun v G' Ho=>DoRPost i rs [(0,o.map (·.block),Row 68 r j)] v G' Ho):=by
 have hca:=hob.le
 obtain ⟨la,a1,a2,a3,a4⟩:=hg.2 i.a.toNat (by omega)
 obtain ⟨lb,b1,b2,b3,b4⟩:=hg.2 i.b.toNat (by omega)
 have hrl:=hg.1
 obtain ⟨na,ma⟩:=hm.at (k:=i.a.toNat) (by omega)
 obtain ⟨nb,mb⟩:=hm.at (k:=i.b.toNat) (by omega)
 have hla:la.length≤1048576:=by rw [a4.1,na];exact hN
 have hlab:la.length=lb.length:=by rw [a4.1,b4.1,na,nb]
 refine Does.enter Tryz.func235 rfl Tryz.ntmps235 rfl (fun w=>?_)
 have h118:=c236 G _ (r[i.a.toNat]?.getD default).c la _ m a3 a4 ma hm2 hla
 have h119:=c237 G _ _ (r[i.a.toNat]?.getD default).c (r[i.b.toNat]?.getD default).c la lb _ _ m a3 b3 a4 b4 ma mb hm2 hlab hla
 have h121:=c239 G _ _ (r[i.a.toNat]?.getD default).c (r[i.b.toNat]?.getD default).c la lb _ _ m a3 b3 a4 b4 ma mb hm2 hlab hla
 rw [a1] at h118
 rw [a1,b1] at h119 h121
 have h123:∀ G1 y z,G.le G1→Big G1 y z→y.n≤268435456→Does Tryz.prog 241 [.slice (r[i.a.toNat]?.getD default).a (r[i.a.toNat]?.getD default).n (r[i.a.toNat]?.getD default).c,.agg (Cells.enc y).toArray] G1 [] (fun v G' Ho=>RowPost G' v ((rs[i.a.toNat]?.getD []).map fun x=>z*x)∧Ho=[]):=fun G1 y z hG hy hyn=>by
  have h:=c241 G1 _ (r[i.a.toNat]?.getD default).c la _ y z m (a3.up hG) (a4.up hG) ma hm2 hla hy hyn
  rw [a1] at h;exact h
 have h124:∀ G1 y z,G.le G1→Big G1 y z→y.n≤268435456→z≠0→Does Tryz.prog 242 [.slice (r[i.a.toNat]?.getD default).a (r[i.a.toNat]?.getD default).n (r[i.a.toNat]?.getD default).c,.agg (Cells.enc y).toArray] G1 [] (fun v G' Ho=>(AllDiv z (rs[i.a.toNat]?.getD [])→∃ (s:Option Addr) (r':List IV) (d:Nat),v=.tuple #[.slice s r'.length d,.bool true]∧Arr G' s r'∧r'.length≤d∧Bigs G' r' ((rs[i.a.toNat]?.getD []).map (· / z)))∧
  (¬AllDiv z (rs[i.a.toNat]?.getD [])→v=.tuple #[.slice none 0 0,.bool false])∧Ho=[]):=fun G1 y z hG hy hyn hz=>by
  have h:=c242 G1 _ (r[i.a.toNat]?.getD default).c la _ y z m (a3.up hG) (a4.up hG) ma hm2 hla hy hyn hz
  rw [a1] at h;exact h
 by_cases h2:i.op=2
 · refine Wc.gl 2 [] ?_
   refine Wl.box 1 rfl rfl rfl (fun b5=>?_)
   refine Wl.box 2 rfl rfl rfl (fun b6=>?_)
   refine Wl.gc 5 [] ?_
   refine Wc.draw [0,1,2] [] T.mixed rfl ?_
   refine Gm.c 0 [] [] ?_
   refine Gm.c 1 [] [] ?_
   refine Gm.c 2 [2] [2] ?_
   refine Gm.u 3 [] rfl (Qy.indexAddrO (α:=SV) T.sl237 rfl rfl (by assumption) (by omega)) ?_
   refine Gm.u 4 [0] rfl (Qy.loadO 0 0 T.one68 rfl rfl (by assumption) (by omega) rfl rfl) ?_
   refine Gm.c 5 [] [] ?_
   refine Gm.c 6 [] [] ?_
   refine Gm.c 7 [2] [2] ?_
   refine Gm.u 8 [] rfl (Qy.indexAddrO (α:=SV) T.sl237 rfl rfl (by assumption) (by omega)) ?_
   refine Gm.u 9 [0] rfl (Qy.loadO 0 0 T.one68 rfl rfl (by assumption) (by omega) rfl rfl) ?_
   refine Gm.c 10 [] [] ?_
   refine Gm.c 11 [] [] ?_
   refine Gm.fin ?_
   refine Ar.gl 21 [2,1,1] ?_
   refine Wl.callV (fst:=[]) (cap:=[]) 3 rfl T.fn236 rfl rfl (h118) (tags_of trivial) (fun v1 G1 Ho1 hle1 hp=>?_)
   obtain ⟨⟨s1,r1,d1,rfl,hA1,hl81,hB1⟩,rfl⟩:=hp
   replace a3:=a3.up hle1
   replace a4:=a4.up hle1
   replace b3:=b3.up hle1
   replace b4:=b4.up hle1
   refine Wl.ga 7 [] ?_
   refine Ar.out2 (.inr rfl) (Ho:=Hp.only _ [0]) rfl (.tmp rfl) (.tmp rfl) (Hp.sub_only _ _) ?_
   exact doR_some (by unfold doI;simp only [h2,if_true];rw [neg_rows]) (brow_post hA1 hl81 hB1)
 by_cases h3:i.op=3
 · refine Wc.gl 2 [] ?_
   refine Wl.box 1 rfl rfl rfl (fun b5=>?_)
   refine Wl.box 2 rfl rfl rfl (fun b6=>?_)
   refine Wl.gc 5 [] ?_
   refine Wc.draw [0,1,2] [] T.mixed rfl ?_
   refine Gm.c 0 [] [] ?_
   refine Gm.c 1 [] [] ?_
   refine Gm.c 2 [2] [2] ?_
   refine Gm.u 3 [] rfl (Qy.indexAddrO (α:=SV) T.sl237 rfl rfl (by assumption) (by omega)) ?_
   refine Gm.u 4 [0] rfl (Qy.loadO 0 0 T.one68 rfl rfl (by assumption) (by omega) rfl rfl) ?_
   refine Gm.c 5 [] [] ?_
   refine Gm.c 6 [] [] ?_
   refine Gm.c 7 [2] [2] ?_
   refine Gm.u 8 [] rfl (Qy.indexAddrO (α:=SV) T.sl237 rfl rfl (by assumption) (by omega)) ?_
   refine Gm.u 9 [0] rfl (Qy.loadO 0 0 T.one68 rfl rfl (by assumption) (by omega) rfl rfl) ?_
   refine Gm.c 10 [] [] ?_
   refine Gm.c 11 [] [] ?_
   refine Gm.fin ?_
   refine Ar.gl 29 [2,0,1,1] ?_
   refine Wl.callV (fst:=[]) (cap:=[]) 3 rfl T.fn237 rfl rfl (h119) (tags_of trivial) (fun v1 G1 Ho1 hle1 hp=>?_)
   obtain ⟨⟨s1,r1,d1,rfl,hA1,hl81,hB1⟩,rfl⟩:=hp
   replace a3:=a3.up hle1
   replace a4:=a4.up hle1
   replace b3:=b3.up hle1
   replace b4:=b4.up hle1
   refine Wl.ga 7 [] ?_
   refine Ar.out2 (.inr rfl) (Ho:=Hp.only _ [0]) rfl (.tmp rfl) (.tmp rfl) (Hp.sub_only _ _) ?_
   exact doR_some (by unfold doI;simp only [h3,if_true];rw [if_neg (by decide),add_rows]) (brow_post hA1 hl81 hB1)
 by_cases h4:i.op=4
 · refine Wc.gl 2 [] ?_
   refine Wl.box 1 rfl rfl rfl (fun b5=>?_)
   refine Wl.box 2 rfl rfl rfl (fun b6=>?_)
   refine Wl.gc 5 [] ?_
   refine Wc.draw [0,1,2] [] T.mixed rfl ?_
   refine Gm.c 0 [] [] ?_
   refine Gm.c 1 [] [] ?_
   refine Gm.c 2 [2] [2] ?_
   refine Gm.u 3 [] rfl (Qy.indexAddrO (α:=SV) T.sl237 rfl rfl (by assumption) (by omega)) ?_
   refine Gm.u 4 [0] rfl (Qy.loadO 0 0 T.one68 rfl rfl (by assumption) (by omega) rfl rfl) ?_
   refine Gm.c 5 [] [] ?_
   refine Gm.c 6 [] [] ?_
   refine Gm.c 7 [2] [2] ?_
   refine Gm.u 8 [] rfl (Qy.indexAddrO (α:=SV) T.sl237 rfl rfl (by assumption) (by omega)) ?_
   refine Gm.u 9 [0] rfl (Qy.loadO 0 0 T.one68 rfl rfl (by assumption) (by omega) rfl rfl) ?_
   refine Gm.c 10 [] [] ?_
   refine Gm.c 11 [] [] ?_
   refine Gm.fin ?_
   refine Ar.gl 36 [2,0,0,1,1] ?_
   refine Wl.callV (fst:=[]) (cap:=[]) 3 rfl T.fn239 rfl rfl (h121) (tags_of trivial) (fun v1 G1 Ho1 hle1 hp=>?_)
   obtain ⟨⟨s1,r1,d1,rfl,hA1,hl81,hB1⟩,rfl⟩:=hp
   replace a3:=a3.up hle1
   replace a4:=a4.up hle1
   replace b3:=b3.up hle1
   replace b4:=b4.up hle1
   refine Wl.ga 7 [] ?_
   refine Ar.out2 (.inr rfl) (Ho:=Hp.only _ [0]) rfl (.tmp rfl) (.tmp rfl) (Hp.sub_only _ _) ?_
   exact doR_some (by unfold doI;simp only [h4,if_true];rw [if_neg (by decide),if_neg (by decide),sub_rows]) (brow_post hA1 hl81 hB1)
 by_cases h1:i.op=1
 · refine Wc.gl 2 [] ?_
   refine Wl.box 1 rfl rfl rfl (fun b5=>?_)
   refine Wl.box 2 rfl rfl rfl (fun b6=>?_)
   refine Wl.gc 5 [] ?_
   refine Wc.draw [0,1,2] [] T.mixed rfl ?_
   refine Gm.c 0 [] [] ?_
   refine Gm.c 1 [] [] ?_
   refine Gm.c 2 [2] [2] ?_
   refine Gm.u 3 [] rfl (Qy.indexAddrO (α:=SV) T.sl237 rfl rfl (by assumption) (by omega)) ?_
   refine Gm.u 4 [0] rfl (Qy.loadO 0 0 T.one68 rfl rfl (by assumption) (by omega) rfl rfl) ?_
   refine Gm.c 5 [] [] ?_
   refine Gm.c 6 [] [] ?_
   refine Gm.c 7 [2] [2] ?_
   refine Gm.u 8 [] rfl (Qy.indexAddrO (α:=SV) T.sl237 rfl rfl (by assumption) (by omega)) ?_
   refine Gm.u 9 [0] rfl (Qy.loadO 0 0 T.one68 rfl rfl (by assumption) (by omega) rfl rfl) ?_
   refine Gm.c 10 [] [] ?_
   refine Gm.c 11 [] [] ?_
   refine Gm.fin ?_
   refine Ar.ga 69 [2,0,0,0,0,0,0,0] ?_
   refine Ar.out2 (.inr rfl) (Ho:=Hp.only _ [0]) rfl (.tmp rfl) (.tmp rfl) (Hp.sub_only _ _) ?_
   exact doR_some (by unfold doI;simp only [h1];rfl) ⟨la,a1,a2,a3,a4⟩
 obtain ⟨hk0,hk3⟩:=hcst h1 h2 h3 h4
 by_cases h5:i.op=5
 · have hc9:=hc1 (.inl h5)
   have e5:cst i=i.c:=cst_c (.inl h5)
   rw [e5] at hk3
   refine Wc.gl 2 [] ?_
   refine Wl.box 1 rfl rfl rfl (fun b5=>?_)
   refine Wl.box 2 rfl rfl rfl (fun b6=>?_)
   refine Wl.gc 5 [] ?_
   refine Wc.draw [0,1,2] [] T.mixed rfl ?_
   refine Gm.c 0 [] [] ?_
   refine Gm.c 1 [] [] ?_
   refine Gm.c 2 [2] [2] ?_
   refine Gm.u 3 [] rfl (Qy.indexAddrO (α:=SV) T.sl237 rfl rfl (by assumption) (by omega)) ?_
   refine Gm.u 4 [0] rfl (Qy.loadO 0 0 T.one68 rfl rfl (by assumption) (by omega) rfl rfl) ?_
   refine Gm.c 5 [] [] ?_
   refine Gm.c 6 [] [] ?_
   refine Gm.c 7 [2] [2] ?_
   refine Gm.u 8 [] rfl (Qy.indexAddrO (α:=SV) T.sl237 rfl rfl (by assumption) (by omega)) ?_
   refine Gm.u 9 [0] rfl (Qy.loadO 0 0 T.one68 rfl rfl (by assumption) (by omega) rfl rfl) ?_
   refine Gm.c 10 [] [] ?_
   refine Gm.c 11 [] [] ?_
   refine Gm.fin ?_
   refine Ar.gc 38 [2,0,0,0,1] ?_
   refine Wc.draw [0,1,2] [(2,6),(1,6),(0,6)] T.mixed rfl ?_
   refine Gm.c 0 [] [] ?_
   refine Gm.c 1 [1] [1] ?_
   refine Gm.c 2 [] [] ?_
   refine Gm.c 3 [] [] ?_
   refine Gm.o1 4 ?_
   refine Wl.ll0 1 [2] ?_
   refine Wl.on0 ?_
   refine Gm.o1 5 ?_
   refine Wl.k 3 rfl (c78 _ i.c hc9) (fun v1 G1 Ho1 hle1 hp=>?_)
   obtain ⟨rk,rfl,hrk,rfl⟩:=hp
   replace a3:=a3.up hle1
   replace a4:=a4.up hle1
   replace b3:=b3.up hle1
   replace b4:=b4.up hle1
   refine Wl.on0 ?_
   refine Gm.o1 6 ?_
   refine Wl.callV (fst:=[]) (cap:=[]) 3 rfl T.fn241 rfl rfl (h123 _ rk _ (by assumption) hrk (Nat.le_trans (Big.len hrk hk3) (by decide))) (tags_of trivial) (fun v2 G2 Ho2 hle2 hp=>?_)
   obtain ⟨⟨s2,r2,d2,rfl,hA2,hl82,hB2⟩,rfl⟩:=hp
   replace hrk:=hrk.up hle2
   replace a3:=a3.up hle2
   replace a4:=a4.up hle2
   replace b3:=b3.up hle2
   replace b4:=b4.up hle2
   refine Wl.on0 ?_
   refine Gm.c 7 [] [] ?_
   refine Gm.c 8 [] [] ?_
   refine Gm.fin ?_
   refine Ar.ga 4 [] ?_
   refine Ar.out2 (.inr rfl) (Ho:=Hp.only _ [0]) rfl (.tmp rfl) (.tmp rfl) (Hp.sub_only _ _) ?_
   all_goals exact doR_some (by unfold doI;simp only [h5,true_or,if_true];rw [if_neg (by decide),if_neg (by decide),if_neg (by decide),e5]) (brow_post (by assumption) (by assumption) (by assumption))
 by_cases h6:i.op=6
 · have hc9:=hc1 (.inr h6)
   have e5:cst i=i.c:=cst_c (.inr h6)
   rw [e5] at hk3 hk0
   have h124Y:AllDiv (i.c) (rs[i.a.toNat]?.getD [])→∀ G1 y,G.le G1→Big G1 y (i.c)→y.n≤268435456→Does Tryz.prog 242 [.slice (r[i.a.toNat]?.getD default).a (r[i.a.toNat]?.getD default).n (r[i.a.toNat]?.getD default).c,.agg (Cells.enc y).toArray] G1 [] (fun v G' Ho=>(∃ (s:Option Addr) (r':List IV) (d:Nat),v=.tuple #[.slice s r'.length d,.bool true]∧Arr G' s r'∧r'.length≤d∧Bigs G' r' ((rs[i.a.toNat]?.getD []).map (· / (i.c))))∧Ho=[]):=
    fun hd G1 y hG hy hyn=>(h124 G1 y _ hG hy hyn hk0).mono fun v G' Ho _ ⟨p1,p2,p3⟩=>⟨p1 hd,p3⟩
   have h124N:¬AllDiv (i.c) (rs[i.a.toNat]?.getD [])→∀ G1 y,G.le G1→Big G1 y (i.c)→y.n≤268435456→Does Tryz.prog 242 [.slice (r[i.a.toNat]?.getD default).a (r[i.a.toNat]?.getD default).n (r[i.a.toNat]?.getD default).c,.agg (Cells.enc y).toArray] G1 [] (fun v G' Ho=>v=.tuple #[.slice none 0 0,.bool false]∧Ho=[]):=
    fun hd G1 y hG hy hyn=>(h124 G1 y _ hG hy hyn hk0).mono fun v G' Ho _ ⟨p1,p2,p3⟩=>⟨p2 hd,p3⟩
   by_cases hd:AllDiv (i.c) (rs[i.a.toNat]?.getD [])
   · skip
     refine Wc.gl 2 [] ?_
     refine Wl.box 1 rfl rfl rfl (fun b5=>?_)
     refine Wl.box 2 rfl rfl rfl (fun b6=>?_)
     refine Wl.gc 5 [] ?_
     refine Wc.draw [0,1,2] [] T.mixed rfl ?_
     refine Gm.c 0 [] [] ?_
     refine Gm.c 1 [] [] ?_
     refine Gm.c 2 [2] [2] ?_
     refine Gm.u 3 [] rfl (Qy.indexAddrO (α:=SV) T.sl237 rfl rfl (by assumption) (by omega)) ?_
     refine Gm.u 4 [0] rfl (Qy.loadO 0 0 T.one68 rfl rfl (by assumption) (by omega) rfl rfl) ?_
     refine Gm.c 5 [] [] ?_
     refine Gm.c 6 [] [] ?_
     refine Gm.c 7 [2] [2] ?_
     refine Gm.u 8 [] rfl (Qy.indexAddrO (α:=SV) T.sl237 rfl rfl (by assumption) (by omega)) ?_
     refine Gm.u 9 [0] rfl (Qy.loadO 0 0 T.one68 rfl rfl (by assumption) (by omega) rfl rfl) ?_
     refine Gm.c 10 [] [] ?_
     refine Gm.c 11 [] [] ?_
     refine Gm.fin ?_
     refine Ar.gc 52 [2,0,0,0,0,0,1] ?_
     refine Wc.draw [0,1,2] [(2,6),(1,6),(0,6)] T.mixed rfl ?_
     refine Gm.c 0 [] [] ?_
     refine Gm.c 1 [1] [1] ?_
     refine Gm.c 2 [] [] ?_
     refine Gm.c 3 [] [] ?_
     refine Gm.o1 4 ?_
     refine Wl.ll0 1 [2] ?_
     refine Wl.on0 ?_
     refine Gm.o1 5 ?_
     refine Wl.k 3 rfl (c78 _ i.c hc9) (fun v1 G1 Ho1 hle1 hp=>?_)
     obtain ⟨rk,rfl,hrk,rfl⟩:=hp
     replace a3:=a3.up hle1
     replace a4:=a4.up hle1
     replace b3:=b3.up hle1
     replace b4:=b4.up hle1
     refine Wl.on0 ?_
     refine Gm.o1 6 ?_
     refine Wl.callV (fst:=[]) (cap:=[]) 3 rfl T.fn242 rfl rfl (h124Y hd _ rk (by assumption) hrk (Nat.le_trans (Big.len hrk hk3) (by decide))) (tags_of trivial) (fun v2 G2 Ho2 hle2 hp=>?_)
     obtain ⟨⟨s2,r2,d2,rfl,hA2,hl82,hB2⟩,rfl⟩:=hp
     replace hrk:=hrk.up hle2
     replace a3:=a3.up hle2
     replace a4:=a4.up hle2
     replace b3:=b3.up hle2
     replace b4:=b4.up hle2
     refine Wl.on0 ?_
     refine Gm.c 7 [] [] ?_
     refine Gm.c 8 [] [] ?_
     refine Gm.c 9 [] [] ?_
     refine Gm.c 10 [] [] ?_
     refine Gm.fin ?_
     refine Ar.ga 4 [] ?_
     refine Ar.out2 (.inr rfl) (Ho:=Hp.only _ [0]) rfl (.tmp rfl) (.tmp rfl) (Hp.sub_only _ _) ?_
     all_goals exact doR_some (by unfold doI;simp only [h6,true_or,if_true];first | (rw [if_neg (by decide),if_neg (by decide),if_neg (by decide),if_neg (by decide),e5,if_pos hd]) | (rw [if_neg (by decide),if_neg (by decide),if_neg (by decide),if_neg (by decide)];exact (by rw [e5];exact if_pos hd))) (brow_post (by assumption) (by assumption) (by assumption))
   skip
   refine Wc.gl 2 [] ?_
   refine Wl.box 1 rfl rfl rfl (fun b5=>?_)
   refine Wl.box 2 rfl rfl rfl (fun b6=>?_)
   refine Wl.gc 5 [] ?_
   refine Wc.draw [0,1,2] [] T.mixed rfl ?_
   refine Gm.c 0 [] [] ?_
   refine Gm.c 1 [] [] ?_
   refine Gm.c 2 [2] [2] ?_
   refine Gm.u 3 [] rfl (Qy.indexAddrO (α:=SV) T.sl237 rfl rfl (by assumption) (by omega)) ?_
   refine Gm.u 4 [0] rfl (Qy.loadO 0 0 T.one68 rfl rfl (by assumption) (by omega) rfl rfl) ?_
   refine Gm.c 5 [] [] ?_
   refine Gm.c 6 [] [] ?_
   refine Gm.c 7 [2] [2] ?_
   refine Gm.u 8 [] rfl (Qy.indexAddrO (α:=SV) T.sl237 rfl rfl (by assumption) (by omega)) ?_
   refine Gm.u 9 [0] rfl (Qy.loadO 0 0 T.one68 rfl rfl (by assumption) (by omega) rfl rfl) ?_
   refine Gm.c 10 [] [] ?_
   refine Gm.c 11 [] [] ?_
   refine Gm.fin ?_
   refine Ar.gc 52 [2,0,0,0,0,0,1] ?_
   refine Wc.draw [0,1,2] [(2,6),(1,6),(0,6)] T.mixed rfl ?_
   refine Gm.c 0 [] [] ?_
   refine Gm.c 1 [1] [1] ?_
   refine Gm.c 2 [] [] ?_
   refine Gm.c 3 [] [] ?_
   refine Gm.o1 4 ?_
   refine Wl.ll0 1 [2] ?_
   refine Wl.on0 ?_
   refine Gm.o1 5 ?_
   refine Wl.k 3 rfl (c78 _ i.c hc9) (fun v1 G1 Ho1 hle1 hp=>?_)
   obtain ⟨rk,rfl,hrk,rfl⟩:=hp
   replace a3:=a3.up hle1
   replace a4:=a4.up hle1
   replace b3:=b3.up hle1
   replace b4:=b4.up hle1
   refine Wl.on0 ?_
   refine Gm.o1 6 ?_
   refine Wl.callV (fst:=[]) (cap:=[]) 3 rfl T.fn242 rfl rfl (h124N hd _ rk (by assumption) hrk (Nat.le_trans (Big.len hrk hk3) (by decide))) (tags_of trivial) (fun v2 G2 Ho2 hle2 hp=>?_)
   obtain ⟨rfl,rfl⟩:=hp
   replace hrk:=hrk.up hle2
   replace a3:=a3.up hle2
   replace a4:=a4.up hle2
   replace b3:=b3.up hle2
   replace b4:=b4.up hle2
   refine Wl.on0 ?_
   refine Gm.c 7 [] [] ?_
   refine Gm.c 8 [] [] ?_
   refine Gm.c 9 [] [] ?_
   refine Gm.c 10 [] [] ?_
   refine Gm.fin ?_
   refine Ar.ga 4 [] ?_
   refine Ar.out2 (.inr rfl) (Ho:=Hp.only _ [0]) rfl (.tmp rfl) (.tmp rfl) (Hp.sub_only _ _) ?_
   all_goals exact doR_none (by unfold doI;simp only [h6,true_or,if_true];rw [if_neg (by decide),if_neg (by decide),if_neg (by decide),if_neg (by decide),e5,if_neg hd])
 have hc64:=hc2 (fun h=>h.elim h5 h6)
 have e5:cst i=p2 i.c.toNat:=cst_p (fun h=>h.elim h5 h6)
 rw [e5] at hk3 hk0
 by_cases h7:i.op=7
 · refine Wc.gl 2 [] ?_
   refine Wl.box 1 rfl rfl rfl (fun b5=>?_)
   refine Wl.box 2 rfl rfl rfl (fun b6=>?_)
   refine Wl.gc 5 [] ?_
   refine Wc.draw [0,1,2] [] T.mixed rfl ?_
   refine Gm.c 0 [] [] ?_
   refine Gm.c 1 [] [] ?_
   refine Gm.c 2 [2] [2] ?_
   refine Gm.u 3 [] rfl (Qy.indexAddrO (α:=SV) T.sl237 rfl rfl (by assumption) (by omega)) ?_
   refine Gm.u 4 [0] rfl (Qy.loadO 0 0 T.one68 rfl rfl (by assumption) (by omega) rfl rfl) ?_
   refine Gm.c 5 [] [] ?_
   refine Gm.c 6 [] [] ?_
   refine Gm.c 7 [2] [2] ?_
   refine Gm.u 8 [] rfl (Qy.indexAddrO (α:=SV) T.sl237 rfl rfl (by assumption) (by omega)) ?_
   refine Gm.u 9 [0] rfl (Qy.loadO 0 0 T.one68 rfl rfl (by assumption) (by omega) rfl rfl) ?_
   refine Gm.c 10 [] [] ?_
   refine Gm.c 11 [] [] ?_
   refine Gm.fin ?_
   refine Ar.gc 45 [2,0,0,0,0,1] ?_
   refine Wc.draw [0,1,2] [(2,6),(1,6),(0,6)] T.mixed rfl ?_
   refine Gm.c 0 [] [] ?_
   refine Gm.c 1 [1] [1] ?_
   refine Gm.c 2 [] [] ?_
   refine Gm.c 3 [] [] ?_
   refine Gm.o1 4 ?_
   refine Wl.ll0 1 [2] ?_
   refine Wl.on0 ?_
   refine Gm.o1 5 ?_
   refine Wl.k 3 rfl (c221i _ i.c hc64) (fun v1 G1 Ho1 hle1 hp=>?_)
   obtain ⟨rk,rfl,hrk,rfl⟩:=hp
   replace a3:=a3.up hle1
   replace a4:=a4.up hle1
   replace b3:=b3.up hle1
   replace b4:=b4.up hle1
   refine Wl.on0 ?_
   refine Gm.o1 6 ?_
   refine Wl.callV (fst:=[]) (cap:=[]) 3 rfl T.fn241 rfl rfl (h123 _ rk _ (by assumption) hrk (Nat.le_trans (Big.len hrk hk3) (by decide))) (tags_of trivial) (fun v2 G2 Ho2 hle2 hp=>?_)
   obtain ⟨⟨s2,r2,d2,rfl,hA2,hl82,hB2⟩,rfl⟩:=hp
   replace hrk:=hrk.up hle2
   replace a3:=a3.up hle2
   replace a4:=a4.up hle2
   replace b3:=b3.up hle2
   replace b4:=b4.up hle2
   refine Wl.on0 ?_
   refine Gm.c 7 [] [] ?_
   refine Gm.c 8 [] [] ?_
   refine Gm.fin ?_
   refine Ar.ga 4 [] ?_
   refine Ar.out2 (.inr rfl) (Ho:=Hp.only _ [0]) rfl (.tmp rfl) (.tmp rfl) (Hp.sub_only _ _) ?_
   all_goals exact doR_some (by unfold doI;simp only [h7,or_true,if_true];rw [if_neg (by decide),if_neg (by decide),if_neg (by decide),e5]) (brow_post (by assumption) (by assumption) (by assumption))
 have h8:i.op=8:=by omega
 have h124Y:AllDiv (p2 i.c.toNat) (rs[i.a.toNat]?.getD [])→∀ G1 y,G.le G1→Big G1 y (p2 i.c.toNat)→y.n≤268435456→Does Tryz.prog 242 [.slice (r[i.a.toNat]?.getD default).a (r[i.a.toNat]?.getD default).n (r[i.a.toNat]?.getD default).c,.agg (Cells.enc y).toArray] G1 [] (fun v G' Ho=>(∃ (s:Option Addr) (r':List IV) (d:Nat),v=.tuple #[.slice s r'.length d,.bool true]∧Arr G' s r'∧r'.length≤d∧Bigs G' r' ((rs[i.a.toNat]?.getD []).map (· / (p2 i.c.toNat))))∧Ho=[]):=
  fun hd G1 y hG hy hyn=>(h124 G1 y _ hG hy hyn hk0).mono fun v G' Ho _ ⟨p1,p2,p3⟩=>⟨p1 hd,p3⟩
 have h124N:¬AllDiv (p2 i.c.toNat) (rs[i.a.toNat]?.getD [])→∀ G1 y,G.le G1→Big G1 y (p2 i.c.toNat)→y.n≤268435456→Does Tryz.prog 242 [.slice (r[i.a.toNat]?.getD default).a (r[i.a.toNat]?.getD default).n (r[i.a.toNat]?.getD default).c,.agg (Cells.enc y).toArray] G1 [] (fun v G' Ho=>v=.tuple #[.slice none 0 0,.bool false]∧Ho=[]):=
  fun hd G1 y hG hy hyn=>(h124 G1 y _ hG hy hyn hk0).mono fun v G' Ho _ ⟨p1,p2,p3⟩=>⟨p2 hd,p3⟩
 by_cases hd:AllDiv (p2 i.c.toNat) (rs[i.a.toNat]?.getD [])
 · skip
   refine Wc.gl 2 [] ?_
   refine Wl.box 1 rfl rfl rfl (fun b5=>?_)
   refine Wl.box 2 rfl rfl rfl (fun b6=>?_)
   refine Wl.gc 5 [] ?_
   refine Wc.draw [0,1,2] [] T.mixed rfl ?_
   refine Gm.c 0 [] [] ?_
   refine Gm.c 1 [] [] ?_
   refine Gm.c 2 [2] [2] ?_
   refine Gm.u 3 [] rfl (Qy.indexAddrO (α:=SV) T.sl237 rfl rfl (by assumption) (by omega)) ?_
   refine Gm.u 4 [0] rfl (Qy.loadO 0 0 T.one68 rfl rfl (by assumption) (by omega) rfl rfl) ?_
   refine Gm.c 5 [] [] ?_
   refine Gm.c 6 [] [] ?_
   refine Gm.c 7 [2] [2] ?_
   refine Gm.u 8 [] rfl (Qy.indexAddrO (α:=SV) T.sl237 rfl rfl (by assumption) (by omega)) ?_
   refine Gm.u 9 [0] rfl (Qy.loadO 0 0 T.one68 rfl rfl (by assumption) (by omega) rfl rfl) ?_
   refine Gm.c 10 [] [] ?_
   refine Gm.c 11 [] [] ?_
   refine Gm.fin ?_
   refine Ar.gc 59 [2,0,0,0,0,0,0,1] ?_
   refine Wc.draw [0,1,2] [(2,6),(1,6),(0,6)] T.mixed rfl ?_
   refine Gm.c 0 [] [] ?_
   refine Gm.c 1 [1] [1] ?_
   refine Gm.c 2 [] [] ?_
   refine Gm.c 3 [] [] ?_
   refine Gm.o1 4 ?_
   refine Wl.ll0 1 [2] ?_
   refine Wl.on0 ?_
   refine Gm.o1 5 ?_
   refine Wl.k 3 rfl (c221i _ i.c hc64) (fun v1 G1 Ho1 hle1 hp=>?_)
   obtain ⟨rk,rfl,hrk,rfl⟩:=hp
   replace a3:=a3.up hle1
   replace a4:=a4.up hle1
   replace b3:=b3.up hle1
   replace b4:=b4.up hle1
   refine Wl.on0 ?_
   refine Gm.o1 6 ?_
   refine Wl.callV (fst:=[]) (cap:=[]) 3 rfl T.fn242 rfl rfl (h124Y hd _ rk (by assumption) hrk (Nat.le_trans (Big.len hrk hk3) (by decide))) (tags_of trivial) (fun v2 G2 Ho2 hle2 hp=>?_)
   obtain ⟨⟨s2,r2,d2,rfl,hA2,hl82,hB2⟩,rfl⟩:=hp
   replace hrk:=hrk.up hle2
   replace a3:=a3.up hle2
   replace a4:=a4.up hle2
   replace b3:=b3.up hle2
   replace b4:=b4.up hle2
   refine Wl.on0 ?_
   refine Gm.c 7 [] [] ?_
   refine Gm.c 8 [] [] ?_
   refine Gm.c 9 [] [] ?_
   refine Gm.c 10 [] [] ?_
   refine Gm.fin ?_
   refine Ar.ga 4 [] ?_
   refine Ar.out2 (.inr rfl) (Ho:=Hp.only _ [0]) rfl (.tmp rfl) (.tmp rfl) (Hp.sub_only _ _) ?_
   all_goals exact doR_some (by unfold doI;simp only [h8,or_true,if_true];first | (rw [if_neg (by decide),if_neg (by decide),if_neg (by decide),if_neg (by decide),e5,if_pos hd]) | (rw [if_neg (by decide),if_neg (by decide),if_neg (by decide),if_neg (by decide)];exact (by rw [e5];exact if_pos hd))) (brow_post (by assumption) (by assumption) (by assumption))
 skip
 refine Wc.gl 2 [] ?_
 refine Wl.box 1 rfl rfl rfl (fun b5=>?_)
 refine Wl.box 2 rfl rfl rfl (fun b6=>?_)
 refine Wl.gc 5 [] ?_
 refine Wc.draw [0,1,2] [] T.mixed rfl ?_
 refine Gm.c 0 [] [] ?_
 refine Gm.c 1 [] [] ?_
 refine Gm.c 2 [2] [2] ?_
 refine Gm.u 3 [] rfl (Qy.indexAddrO (α:=SV) T.sl237 rfl rfl (by assumption) (by omega)) ?_
 refine Gm.u 4 [0] rfl (Qy.loadO 0 0 T.one68 rfl rfl (by assumption) (by omega) rfl rfl) ?_
 refine Gm.c 5 [] [] ?_
 refine Gm.c 6 [] [] ?_
 refine Gm.c 7 [2] [2] ?_
 refine Gm.u 8 [] rfl (Qy.indexAddrO (α:=SV) T.sl237 rfl rfl (by assumption) (by omega)) ?_
 refine Gm.u 9 [0] rfl (Qy.loadO 0 0 T.one68 rfl rfl (by assumption) (by omega) rfl rfl) ?_
 refine Gm.c 10 [] [] ?_
 refine Gm.c 11 [] [] ?_
 refine Gm.fin ?_
 refine Ar.gc 59 [2,0,0,0,0,0,0,1] ?_
 refine Wc.draw [0,1,2] [(2,6),(1,6),(0,6)] T.mixed rfl ?_
 refine Gm.c 0 [] [] ?_
 refine Gm.c 1 [1] [1] ?_
 refine Gm.c 2 [] [] ?_
 refine Gm.c 3 [] [] ?_
 refine Gm.o1 4 ?_
 refine Wl.ll0 1 [2] ?_
 refine Wl.on0 ?_
 refine Gm.o1 5 ?_
 refine Wl.k 3 rfl (c221i _ i.c hc64) (fun v1 G1 Ho1 hle1 hp=>?_)
 obtain ⟨rk,rfl,hrk,rfl⟩:=hp
 replace a3:=a3.up hle1
 replace a4:=a4.up hle1
 replace b3:=b3.up hle1
 replace b4:=b4.up hle1
 refine Wl.on0 ?_
 refine Gm.o1 6 ?_
 refine Wl.callV (fst:=[]) (cap:=[]) 3 rfl T.fn242 rfl rfl (h124N hd _ rk (by assumption) hrk (Nat.le_trans (Big.len hrk hk3) (by decide))) (tags_of trivial) (fun v2 G2 Ho2 hle2 hp=>?_)
 obtain ⟨rfl,rfl⟩:=hp
 replace hrk:=hrk.up hle2
 replace a3:=a3.up hle2
 replace a4:=a4.up hle2
 replace b3:=b3.up hle2
 replace b4:=b4.up hle2
 refine Wl.on0 ?_
 refine Gm.c 7 [] [] ?_
 refine Gm.c 8 [] [] ?_
 refine Gm.c 9 [] [] ?_
 refine Gm.c 10 [] [] ?_
 refine Gm.fin ?_
 refine Ar.ga 4 [] ?_
 refine Ar.out2 (.inr rfl) (Ho:=Hp.only _ [0]) rfl (.tmp rfl) (.tmp rfl) (Hp.sub_only _ _) ?_
 all_goals exact doR_none (by unfold doI;simp only [h8,or_true,if_true];rw [if_neg (by decide),if_neg (by decide),if_neg (by decide),if_neg (by decide),e5,if_neg hd])
end Go.Proofs.YtfdcckcadfhpeaaGreatDoor
namespace Go.Proofs.YtfdcckcadfhpeaaGreatDoor
open Go Go.Sl
set_option maxHeartbeats 4000000
theorem pw5_pb3:pw 5≤pb 3:=by unfold pw pb;decide
theorem mul_lt_pb {m k:Nat} {x y:Int} (hx:(x.natAbs:Int)<pb m) (hy:(y.natAbs:Int)<pb k):((x*y).natAbs:Int)<pb (m+k):=by
 rw [Int.natAbs_mul,Int.natCast_mul,pb_add]
 have h1:=Int.mul_le_mul_of_nonneg_left (Int.le_of_lt hy) (show (0:Int)≤x.natAbs by omega)
 have h2:=Int.mul_lt_mul_of_pos_right hx (pb_pos k)
 omega
theorem Below.mono {m k:Nat} {zs:List Int} (h:Below m zs) (hk:m≤k):Below k zs:=fun z hz=>Int.lt_of_lt_of_le (h z hz) (pb_le hk)
attribute [local irreducible] valB pb cmpZ lstWp p2 cst
end Go.Proofs.YtfdcckcadfhpeaaGreatDoor
namespace Go.Proofs.YtfdcckcadfhpeaaGreatDoor
open Go Go.Sl
set_option maxHeartbeats 4000000
theorem belowB_map {m k:Nat} {xs:List Int} {f:Int→Int} (h:∀ x:Int,(x.natAbs:Int)<pb m→((f x).natAbs:Int)<pb k) (hx:Below m xs):Below k (xs.map f):=fun z hz=>by
 obtain ⟨x,h1,rfl⟩:=List.mem_map.1 hz
 exact h x (hx x h1)
theorem belowB_zip {m k:Nat} {xs ys:List Int} {f:Int→Int→Int} (h:∀ x y:Int,(x.natAbs:Int)<pb m→(y.natAbs:Int)<pb m→((f x y).natAbs:Int)<pb k) (hx:Below m xs) (hy:Below m ys):Below k (List.zipWith f xs ys):=fun z hz=>by
 rw [List.mem_iff_getElem] at hz
 obtain ⟨n,hn,rfl⟩:=hz
 rw [List.getElem_zipWith]
 exact h _ _ (hx _ (List.getElem_mem _)) (hy _ (List.getElem_mem _))
theorem doI_small {i:Sl.Instr} {rs:List (List Int)} {m N:Nat} {x:List Int} (he:EvenB m N rs) (ha:0≤i.a∧i.a<rs.length) (hb:i.op=3∨i.op=4→0≤i.b∧i.b<rs.length)
 (hz:i.op=5∨i.op=7→((cst i).natAbs:Int)<pb 3) (h:doI i rs=some x):x.length=N∧Below (m+3) x:=by
 obtain ⟨haL,haB⟩:=he.at (k:=i.a.toNat) (by omega)
 have hp:=pb_pos m
 have h4:4294967296*pb m≤pb (m+3):=by rw [←pb_succ];exact pb_le (by omega)
 unfold doI at h
 simp only at h
 split at h
 · cases h
   exact ⟨by rw [List.length_map];exact haL,belowB_map (fun x hx=>by omega) haB⟩
 split at h
 · rename_i h3
   obtain ⟨hbL,hbB⟩:=he.at (k:=i.b.toNat) (by have:=hb (.inl h3);omega)
   cases h
   exact ⟨by rw [List.length_zipWith,haL,hbL,Nat.min_self],belowB_zip (fun x y hx hy=>by omega) haB hbB⟩
 split at h
 · rename_i h4
   obtain ⟨hbL,hbB⟩:=he.at (k:=i.b.toNat) (by have:=hb (.inr h4);omega)
   cases h
   exact ⟨by rw [List.length_zipWith,haL,hbL,Nat.min_self],belowB_zip (fun x y hx hy=>by omega) haB hbB⟩
 split at h
 · rename_i h57
   cases h
   exact ⟨by rw [List.length_map];exact haL,belowB_map (fun x hx=>by rw [Nat.add_comm];exact mul_lt_pb (hz h57) hx) haB⟩
 split at h
 · split at h
   · cases h
     refine ⟨by rw [List.length_map];exact haL,belowB_map (fun x hx=>?_) haB⟩
     have h1:(x / cst i).natAbs≤x.natAbs:=Int.natAbs_ediv_le_natAbs _ _
     omega
   cases h
 cases h
 exact ⟨haL,haB.mono (by omega)⟩
theorem EvenB.mono {m k N:Nat} {rs:List (List Int)} (h:EvenB m N rs) (hk:m≤k):EvenB k N rs:=fun zs hz=>⟨(h zs hz).1,(h zs hz).2.mono hk⟩
theorem evenB_set {m N:Nat} {rs:List (List Int)} {x:List Int} (h:EvenB m N rs) (hx:x.length=N∧Below m x) (k:Nat):EvenB m N (rs.set k x):=fun zs hz=>by
 rcases List.mem_or_eq_of_mem_set hz with h1 | h1
 · exact h zs h1
 rw [h1];exact hx
theorem BGrid.set {G:Imm} {r:List SV} {rs:List (List Int)} (h:BGrid G r rs) {s:SV} {x:List Int} (hs:BRow G s x) (k:Nat):BGrid G (r.set k s) (rs.set k x):=by
 refine ⟨by rw [List.length_set,List.length_set];exact h.1,fun i hi=>?_⟩
 rw [List.length_set] at hi
 have hrl:=h.1
 rw [List.getElem?_set,List.getElem?_set]
 by_cases e:k=i
 · subst e
   rw [if_pos rfl,if_pos rfl,if_pos hi,if_pos (by omega)]
   exact hs
 rw [if_neg e,if_neg e]
 exact h.2 i hi
attribute [local irreducible] valB pb cmpZ lstWp p2 cst doI
theorem c205 (G:Imm) (k:Int) (s:SV):Does Tryz.prog 205 [.int .i64 k,.slice s.a s.n s.c] G [] (fun v G' Ho=>v=.bool true∧G'=G∧Ho=[]):=by
 refine Does.enter Tryz.func205 rfl Tryz.ntmps205 rfl (fun w=>?_)
 refine Wc.ga 11 [] ?_
 refine Ar.e1 ?_
 exact ⟨rfl,rfl,rfl⟩
def RunRPost (p:PV) (gs:List (List Int)) (m N:Nat) (o:Option Addr) (d:Nat) (r:List SV) (j:List Value) (v:Value) (G':Imm) (Ho:Hp):Prop:=
 ∃ (r':List SV) (k:Int),v=.int .i64 k∧Ho=[(0,o.map (·.block),Row 68 r' j)]∧r'.length=r.length∧OwnA o d r' j∧
  ((∃ rs',runTo p gs p.code.length=some rs'∧k=-1∧BGrid G' r' rs'∧EvenB (m+3*p.code.length) N rs')∨(followP p gs=none∧0≤k))
theorem c203 (G:Imm) (p:PV) (gs:List (List Int)) (ac ao:Option Addr) (cc co:Nat) (o:Option Addr) (d:Nat) (r:List SV) (j:List Value) (m N:Nat) (hc:Arr G ac p.code) (hob:OwnA o d r j) (hg:BGrid G r (regs0 p gs)) (hm:EvenB m N (regs0 p gs)) (hN:N≤1048576)
 (hmm:m+3*p.code.length≤268435456) (hlen:p.code.length≤16384) (hr:(r.length:Int)=p.regs) (hrr:r.length≤128) (hmay:∀ i∈p.code,mayOk i p.regs=true) :
 Does Tryz.prog 203 [waysR,.agg #[.int .i64 p.ins,.int .i64 p.regs,.slice ac p.code.length cc,.slice ao p.outs.length co],.slice o r.length d,.func (.func 205) #[] #[]] G [(0,o.map (·.block),Row 68 r j)] (RunRPost p gs m N o d r j):=by
 refine Does.enter Tryz.func203 rfl Tryz.ntmps203 rfl (fun w=>?_)
 refine Wc.gl 2 [] ?_
 refine Wl.box 1 rfl rfl rfl (fun b1=>?_)
 refine Wl.box 2 rfl rfl rfl (fun b2=>?_)
 refine Wl.gc 3 [] ?_
 refine Wc.scope ?_
 refine Wc.gc 13 [2] ?_
 refine Wc.loopG (ι:=Nat×Imm×List SV×List (List Int)) (fun (i,Gx,r2,rs)=>([(16,.int .i64 (i:Int)),(2,.slice o r2.length d),(15,.int .i64 (↑(List.length (PV.code p)):Int)),(14,.slice ac (List.length (PV.code p)) cc),(4,.pointer (some ⟨b1,0,none⟩)),(3,.func (Go.Fn.func 205) #[] #[])],[(0,o.map (·.block),Row 68 r2 j),(2,some b2,.cells #[.int .i64 (PV.ins p),.int .i64 (PV.regs p),.slice ac (List.length (PV.code p)) cc,.slice ao (List.length (PV.outs p)) co] 26),(1,some b1,.cells #[.func (Go.Fn.func 236) #[] #[],.func (Go.Fn.func 237) #[] #[],.func (Go.Fn.func 239) #[] #[],.func (Go.Fn.func 241) #[] #[],.func (Go.Fn.func 242) #[] #[]] 281)])) (fun (i,Gx,r2,rs)=>Gx) (fun (i,Gx,r2,rs)=>i≤p.code.length∧G.le Gx∧r2.length=r.length∧OwnA o d r2 j∧BGrid Gx r2 rs∧EvenB (m+3*i) N rs∧runTo p gs i=some rs) (fun (i,Gx,r2,rs)=>p.code.length - i) ((0,G,r,regs0 p gs)) (⟨Nat.zero_le _,Imm.le_refl _,rfl,hob,hg,hm,rfl⟩) rfl ⟨rfl,rfl,rfl,rfl,rfl,rfl,trivial⟩ ⟨rfl,rfl,rfl,trivial⟩ (fun ⟨i,Gx,r2,rs⟩=>fun hk=>?_)
 obtain ⟨hi0,hgx,hr2,ho2,hg2,hb2,hrun⟩:=hk
 replace hc:=hc.up hgx
 have hrl:=hg2.1
 rcases Nat.lt_or_ge i p.code.length with hic | hic
 · have hmem:(p.code[((i:Nat):Int).toNat]?.getD default)∈p.code:=by
    rw [Int.toNat_natCast,List.getElem?_eq_getElem hic];exact List.getElem_mem hic
   have hmi:=hmay _ hmem
   obtain ⟨m1,m2,m3,m4,m5,m6,m7,m8⟩:=may_facts hmi
   have m9:(p.code[((i:Nat):Int).toNat]?.getD default).a<rs.length:=by omega
   have hbz:(p.code[((i:Nat):Int).toNat]?.getD default).op=3∨(p.code[((i:Nat):Int).toNat]?.getD default).op=4∨(p.code[((i:Nat):Int).toNat]?.getD default).b=0:=by
    unfold mayOk at hmi
    rw [Bool.and_eq_true,Bool.and_eq_true,decide_eq_true_eq] at hmi
    exact hmi.1.1.2.2.2.2
   have mb:0≤(p.code[((i:Nat):Int).toNat]?.getD default).b∧(p.code[((i:Nat):Int).toNat]?.getD default).b<r2.length:=by
    rcases hbz with h | h | h
    · have:=m4 (.inl h);omega
    · have:=m4 (.inr h);omega
    omega
   have mt:0≤(p.code[((i:Nat):Int).toNat]?.getD default).to∧(p.code[((i:Nat):Int).toNat]?.getD default).to<r2.length:=by omega
   have ma:0≤(p.code[((i:Nat):Int).toNat]?.getD default).a∧(p.code[((i:Nat):Int).toNat]?.getD default).a<r2.length:=by omega
   have hmi9:m+3*i≤268435456:=by omega
   have hk3:(p.code[((i:Nat):Int).toNat]?.getD default).op≠1→(p.code[((i:Nat):Int).toNat]?.getD default).op≠2→(p.code[((i:Nat):Int).toNat]?.getD default).op≠3→(p.code[((i:Nat):Int).toNat]?.getD default).op≠4→cst (p.code[((i:Nat):Int).toNat]?.getD default)≠0∧((cst (p.code[((i:Nat):Int).toNat]?.getD default)).natAbs:Int)<pb 3:=fun a b c d=>⟨(m6 a b c d).1,Int.lt_of_lt_of_le (m6 a b c d).2 pw5_pb3⟩
   refine Wc.gl 14 [1] ?_
   refine Wl.q rfl (Qy.at (α:=Sl.Instr) T.sl23 rfl rfl (by assumption) (by omega)) ?_
   refine Wl.q rfl (Qy.loadsG T.agg91 rfl (Arr.elem (by assumption) (by omega)) rfl) ?_
   refine Wl.alloc 3 rfl T.zero91 (fun b3=>?_)
   refine Wl.gl 9 [3,1,3] ?_
   refine Wl.k 0 rfl (c235 _ (p.code[((i:Nat):Int).toNat]?.getD default) o d r2 j rs (m+3*i) N ho2 hg2 hb2 hN hmi9 m1 ma mb hk3 m7 m8) (fun v1 G1 Ho1 hle1 hp=>?_)
   obtain ⟨x,rfl,hx,rfl⟩:=hp
   replace hc:=hc.up hle1
   replace hg2:=hg2.up hle1
   by_cases hd:doI (p.code[((i:Nat):Int).toNat]?.getD default) rs=none
   · have hd2:¬doI (p.code[((i:Nat):Int).toNat]?.getD default) rs≠none:=fun h=>h hd
     refine Wl.gl 11 [] ?_
     refine Wl.q rfl (Qy.notD rfl) ?_
     refine Wl.ga 16 [1] ?_
     refine Ar.scopeR ?_
     refine Ar.out1 (.inr rfl) (Ho:=Hp.only _ [0]) rfl (.tmp rfl) (Hp.sub_only _ _) ?_
     exact ⟨r2,(i:Int),rfl,rfl,hr2,ho2,.inr ⟨runTo_stop hrun hd hic,by omega⟩⟩
   obtain ⟨z,hz⟩:=Option.ne_none_iff_exists'.1 hd
   have hxz:=hx z hz
   have hok:doI (p.code[((i:Nat):Int).toNat]?.getD default) rs≠none:=hd
   refine Wl.gl 11 [] ?_
   refine Wl.q rfl (Qy.notD rfl) ?_
   refine Wl.gc 2 [] ?_
   refine Wc.cond rfl (fun hc1=>?_) (fun hc1=>?_)
   refine Wc.ga 13 [] ?_
   refine Ar.scopeR ?_
   refine Ar.out1 (.inr rfl) (Ho:=Hp.only _ [0]) rfl (.tmp rfl) (Hp.sub_only _ _) ?_
   rotate_left
   refine Wc.gl 8 [3] ?_
   refine Wl.q rfl (Qy.indexAddrO (α:=SV) T.sl237 rfl rfl (by assumption) (by omega)) ?_
   refine Wl.setO (z:=_) 0 T.size68 rfl rfl rfl (by assumption) (by omega) rfl (fun ho1=>?_)
   refine Wl.gl 7 [] ?_
   refine Wl.callV (fst:=[]) (cap:=[]) 4 rfl T.fn205 rfl rfl (c205 _ _ _) (tags_of trivial) (fun v2 G2 Ho2 hle2 hp=>?_)
   obtain ⟨rfl,rfl,rfl⟩:=hp
   refine Wl.ga 11 [0] ?_
   rotate_left
   · exact absurd hok hc1
   refine Ar.re 2 rfl (show _=Value.slice o (r2.set (p.code[((i:Nat):Int).toNat]?.getD default).to.toNat x).length d by rw [List.length_set]) ?_
   refine Ar.again ((i+1,_,r2.set (p.code[((i:Nat):Int).toNat]?.getD default).to.toNat x,rs.set (p.code[((i:Nat):Int).toNat]?.getD default).to.toNat z)) ?_ ?_ rfl ⟨rfl,rfl,rfl,rfl,rfl,rfl,trivial⟩ ⟨rfl,rfl,rfl,trivial⟩
   · refine ⟨by omega,Imm.le_trans hgx hle1,by rw [List.length_set];exact hr2,by assumption,hg2.set hxz _,?_,runTo_succ (x:=rs) hrun hz⟩
     have hs:=doI_small (i:=p.code[((i:Nat):Int).toNat]?.getD default) hb2 (by rw [←hrl];exact ma) (fun _=>by rw [←hrl];exact mb) (fun h=>(hk3 (fun e=>by rw [e] at h;omega) (fun e=>by rw [e] at h;omega) (fun e=>by rw [e] at h;omega) (fun e=>by rw [e] at h;omega)).2) hz
     rw [show m+3*(i+1)=m+3*i+3 by omega]
     exact evenB_set (hb2.mono (by omega)) hs _
   show p.code.length - (i+1)<p.code.length - i
   omega
 have hii:i=p.code.length:=by omega
 subst hii
 refine Wc.ga 18 [0] ?_
 refine Ar.scopeR ?_
 refine Ar.out1 (.inr rfl) (Ho:=Hp.only _ [0]) rfl (.tmp rfl) (Hp.sub_only _ _) ?_
 exact ⟨r2,-1,rfl,rfl,hr2,ho2,.inl ⟨rs,hrun,rfl,hg2,hb2⟩⟩
end Go.Proofs.YtfdcckcadfhpeaaGreatDoor
namespace Go.Proofs.YtfdcckcadfhpeaaGreatDoor
open Go Go.Sl
set_option maxHeartbeats 4000000
theorem c56R (G:Imm) (p:PV) (ac ao:Option Addr) (cc co:Nat) (hc:Arr G ac p.code) (ho:Arr G ao p.outs) (h1:p.code.length≤1099511627776) (h2:p.outs.length≤1099511627776) (hR:rightP p=true) :
 Does Tryz.prog 56 [.agg #[.int .i64 p.ins,.int .i64 p.regs,.slice ac p.code.length cc,.slice ao p.outs.length co]] G [] (fun v G' Ho=>v=.tuple #[.int .i64 (checkP p).1,.int .i64 0]∧G'=G∧Ho=[]):=by
 have hf:(checkP p).2=false:=by unfold rightP at hR;simpa using hR
 have h:=c56 G p ac ao cc co hc ho h1 h2
 rw [hf] at h
 exact h
theorem cmpZ_zero {x y:Int} (h:cmpZ x y=0):x=y:=by
 unfold cmpZ at h
 split at h
 · omega
 split at h <;> omega
theorem take_next {za zb:List Int} {i:Nat} (h:za.take i=zb.take i) (h1:i<za.length) (h2:i<zb.length) (he:za[i]?.getD 0=zb[i]?.getD 0):za.take (i+1)=zb.take (i+1):=by
 rw [List.getElem?_eq_getElem h1,List.getElem?_eq_getElem h2] at he
 rw [List.take_add_one,List.take_add_one,h,List.getElem?_eq_getElem h1,List.getElem?_eq_getElem h2]
 have e:za[i]=zb[i]:=he
 rw [e]
theorem below_zeros (m n:Nat):Below m (List.replicate n 0):=fun z hz=>by rw [List.eq_of_mem_replicate hz];exact pb_pos m
attribute [local irreducible] valB pb cmpZ lstWp p2 cst checkP
theorem c129 (G:Imm) (p:PV) (ac ao:Option Addr) (cc co:Nat) (hc:Arr G ac p.code) (ho:Arr G ao p.outs) (h1:p.code.length≤1099511627776) (h2:p.outs.length≤1099511627776) (hR:rightP p=true) (n:Int) (hn:n=p.ins) :
 Does Tryz.prog 129 [.agg #[.int .i64 p.ins,.int .i64 p.regs,.slice ac p.code.length cc,.slice ao p.outs.length co],.int .i64 n] G [] (fun v G' Ho=>v=.int .i64 0∧G'=G∧Ho=[]):=by
 refine Does.enter Tryz.func129 rfl Tryz.ntmps129 rfl (fun w=>?_)
 refine Wc.gl 2 [] ?_
 refine Wl.box 0 rfl rfl rfl (fun b1=>?_)
 refine Wl.gl 6 [0] ?_
 refine Wl.k0 rfl (c56R _ p _ _ _ _ hc ho h1 h2 hR) ?_
 refine Wl.ga 36 [0,0,0] ?_
 refine Ar.e1 ?_
 exact ⟨rfl,rfl,rfl⟩
theorem c209 (G:Imm) (a b:Option Addr) (ca cb:Nat) (la lb:List IV) (za zb:List Int) (ha:Arr G a la) (hb:Arr G b lb) (hA:Bigs G la za) (hB:Bigs G lb zb) (h1:la.length≤1048576) (h2:lb.length≤1048576) (m:Nat) (hm:m≤268435456) (ba:Below m za) (bb:Below m zb) :
 Does Tryz.prog 209 [.slice a la.length ca,.slice b lb.length cb] G [] (fun v G' Ho=>∃ k:Int,v=.int .i64 k∧(k=0↔za=zb)∧G'=G∧Ho=[]):=by
 have e1:=hA.1
 have e2:=hB.1
 refine Does.enter Tryz.func209 rfl Tryz.ntmps209 rfl (fun w=>?_)
 by_cases hn:la.length=lb.length
 · refine Wc.gc 41 [0,0] ?_
   refine Wc.loop (ι:=Nat) (fun i=>([(22,.int .i64 (i:Int)),(21,.int .i64 (la.length:Int)),(20,.slice a (List.length la) ca),(1,.slice b (List.length lb) cb)],[])) (fun i=>i≤la.length∧za.take i=zb.take i) (fun i=>la.length - i) (0) (⟨Nat.zero_le _,rfl⟩) ⟨rfl,rfl,rfl,rfl,trivial⟩ trivial (fun i=>fun hk=>?_)
   obtain ⟨hi,hz⟩:=hk
   rcases Nat.lt_or_ge i la.length with hia | hia
   · have hx9:=hA.at (k:=(i:Int)) (by omega)
     have hy9:=hB.at (k:=(i:Int)) (by omega)
     have hx5:=Nat.le_trans (Big.len hx9 (ba.at _)) (Nat.le_trans hm (show 268435456≤1073741824 by decide))
     have hy5:=Nat.le_trans (Big.len hy9 (bb.at _)) (Nat.le_trans hm (show 268435456≤1073741824 by decide))
     refine Wc.gl 14 [1] ?_
     refine Wl.q rfl (Qy.at (α:=IV) T.sl68 rfl rfl (by assumption) (by omega)) ?_
     refine Wl.q rfl (Qy.loadsG T.agg125 rfl (Arr.elem (by assumption) (by omega)) rfl) ?_
     refine Wl.alloc 0 rfl T.zero125 (fun b1=>?_)
     refine Wl.gc 5 [0] ?_
     refine Wc.draw [0] [] T.mixed rfl ?_
     refine Gm.c 0 [0] [0] ?_
     refine Gm.c 1 [] [] ?_
     refine Gm.c 2 [] [] ?_
     refine Gm.u 3 [] rfl (Qy.at (α:=IV) T.sl68 rfl rfl (by assumption) (by omega)) ?_
     refine Gm.u 4 [] rfl (Qy.loadsG T.agg125 rfl (Arr.elem (by assumption) (by omega)) rfl) ?_
     refine Gm.o1 5 ?_
     refine Wl.k0 rfl (c137 _ _ _ _ _ hx9 hy9 hx5 hy5) ?_
     refine Wl.on0 ?_
     refine Gm.c 6 [] [] ?_
     refine Gm.fin ?_
     refine Ar.gc 7 [] ?_
     refine Wc.cond rfl (fun hc1=>?_) (fun hc1=>?_)
     refine Wc.ga 12 [] ?_
     refine Ar.e1 ?_
     rotate_left
     refine Wc.ga 7 [] ?_
     rotate_left
     · exact ⟨_,rfl,⟨fun h=>absurd h hc1,fun h=>absurd (cmpZ_eq (by rw [h])) hc1⟩,rfl,rfl⟩
     refine Ar.again (i+1) ?_ ?_ rfl ⟨rfl,rfl,rfl,rfl,trivial⟩ trivial
     · exact ⟨by omega,take_next hz (by omega) (by omega) (cmpZ_zero (Decidable.not_not.1 hc1))⟩
     omega
   have hii:i=la.length:=by omega
   subst hii
   refine Wc.ga 18 [0] ?_
   refine Ar.e1 ?_
   refine ⟨0,rfl,⟨fun _=>?_,fun _=>rfl⟩,rfl,rfl⟩
   rw [List.take_of_length_le (by omega),List.take_of_length_le (by omega)] at hz
   exact hz
 have hne:za≠zb:=fun h=>hn (by rw [e1,e2,h])
 by_cases hlt:la.length<lb.length
 · refine Wc.ga 26 [1] ?_
   refine Ar.e1 ?_
   exact ⟨-1,rfl,⟨fun h=>absurd h (by decide),fun h=>absurd h hne⟩,rfl,rfl⟩
 refine Wc.ga 37 [0,1] ?_
 refine Ar.e1 ?_
 exact ⟨1,rfl,⟨fun h=>absurd h (by decide),fun h=>absurd h hne⟩,rfl,rfl⟩
theorem c160 (G:Imm) (a b:Option Addr) (ca cb:Nat) (la lb:List IV) (za zb:List Int) (ha:Arr G a la) (hb:Arr G b lb) (hA:Bigs G la za) (hB:Bigs G lb zb) (h1:la.length≤1048576) (h2:lb.length≤1048576) (m:Nat) (hm:m≤268435456) (ba:Below m za) (bb:Below m zb) :
 Does Tryz.prog 160 [.slice a la.length ca,.slice b lb.length cb] G [] (fun v G' Ho=>v=.bool (decide (za=zb))∧G'=G∧Ho=[]):=by
 refine Does.enter Tryz.func160 rfl Tryz.ntmps160 rfl (fun w=>?_)
 refine Wc.gl 9 [] ?_
 refine Wl.k 0 rfl (c209 G _ _ _ _ _ _ za zb ha hb hA hB h1 h2 m hm ba bb) (fun v1 G1 Ho1 hle1 hp=>?_)
 obtain ⟨k1,rfl,hk1,rfl,rfl⟩:=hp
 refine Wl.ga 5 [] ?_
 refine Ar.e1 ?_
 exact ⟨by rw [decide_eq_decide.2 hk1],rfl,rfl⟩
end Go.Proofs.YtfdcckcadfhpeaaGreatDoor
namespace Go.Proofs.YtfdcckcadfhpeaaGreatDoor
open Go Go.Sl
set_option maxHeartbeats 4000000
theorem brow_next {G:Imm} {r:List SV} {rs:List (List Int)} {k:Nat} {s:SV} (h:∀ q:Nat,q<k→BRow G (r[q]?.getD default) (rs[q]?.getD [])) (hk:k<r.length) (hs:BRow G s (rs[k]?.getD [])):∀ q:Nat,q<k+1→BRow G ((r.set k s)[q]?.getD default) (rs[q]?.getD []):=fun q hq=>by
 rw [List.getElem?_set]
 by_cases he:k=q
 · subst he;rw [if_pos rfl,if_pos hk];exact hs
 rw [if_neg he];exact h q (by omega)
theorem brows_up {G G':Imm} {r:List SV} {rs:List (List Int)} {k:Nat} (h:∀ q:Nat,q<k→BRow G (r[q]?.getD default) (rs[q]?.getD [])) (hl:G.le G'):∀ q:Nat,q<k→BRow G' (r[q]?.getD default) (rs[q]?.getD []):=fun q hq=>(h q hq).up hl
attribute [local irreducible] valB pb cmpZ lstWp p2 cst doI
theorem c202 (G:Imm) (p:PV) (ac ao ga:Option Addr) (cc co gc:Nat) (gl:List SV) (gs:List (List Int)) (m N:Nat) (hc:Arr G ac p.code) (ho:Arr G ao p.outs) (hga:Arr G ga gl) (hgg:BGrid G gl gs) (hev:EvenB m N gs) (hN:N≤4096) (hR:rightP p=true) (hgi:(gl.length:Int)=p.ins) :
 Does Tryz.prog 202 [.agg #[.int .i64 p.ins,.int .i64 p.regs,.slice ac p.code.length cc,.slice ao p.outs.length co],.slice ga gl.length gc] G [] (fun v G' Ho=>∃ b r,v=.tuple #[.slice (some ⟨b,0,none⟩) r.length p.regs.toNat,.int .i64 0]∧BGrid G' r (regs0 p gs)∧r.length=p.regs.toNat∧Ho=[(1,some b,Row 68 r [])]):=by
 obtain ⟨f1,f2,f3,f4,f5,f6,f7,f8⟩:=right_facts hR
 have h1:p.code.length≤1099511627776:=by omega
 have h2:p.outs.length≤1099511627776:=by omega
 have hgl:=hgg.1
 obtain ⟨R,hRR⟩:∃ R:Nat,p.regs=(R:Int):=⟨p.regs.toNat,by omega⟩
 refine Does.enter Tryz.func202 rfl Tryz.ntmps202 rfl (fun w=>?_)
 have hM:p.regs.toNat=R:=by omega
 have hrl0:=regs0_len p gs
 rw [hM] at hrl0
 have hgl0:0<gl.length:=by omega
 obtain ⟨h0L,h0B⟩:=hev.at (k:=0) (by omega)
 obtain ⟨l0,e1,e2,e3,e4⟩:=hgg.2 0 (by omega)
 have h0n:(gl[(0:Int).toNat]?.getD default).n=N:=by
  show (gl[0]?.getD default).n=N
  rw [←e1,e4.1,h0L]
 refine Wc.gl 2 [] ?_
 refine Wl.box 0 rfl rfl rfl (fun b1=>?_)
 refine Wl.gl 10 [0] ?_
 refine Wl.k0 rfl (c129 _ p _ _ _ _ (by assumption) (by assumption) h1 h2 hR _ hgi) ?_
 refine Wl.gl 15 [0] ?_
 refine Wl.q rfl (Qy.at (α:=SV) T.sl237 rfl rfl (by assumption) (by omega)) ?_
 refine Wl.q rfl (Qy.loadG T.one68 rfl (Arr.cell (by assumption) (by omega) 0 rfl rfl)) ?_
 refine Wl.gl 8 [0] ?_
 refine Wl.make (α:=SV) 1 rfl T.sl237 T.el68 rfl rfl (by omega) (by omega) (fun b2=>?_)
 refine Wl.gc 12 [] ?_
 rw [hM]
 have hown:∀ r:List SV,r.length=R→OwnA (some ⟨b2,0,none⟩) R r []:=fun r hr=>.inr ⟨b2,rfl,by rw [hr];rfl,by omega,by simp only [maxLen];omega⟩
 refine Wc.re 8 rfl (show _=Value.slice (some ⟨b2,0,none⟩) (List.replicate R (default:SV)).length R by rw [List.length_replicate]) ?_
 refine Wc.re 7 rfl (show _=Value.int .i64 (N:Int) by rw [h0n]) ?_
 refine Wc.re 25 rfl (show _=Value.int .i64 (R:Int) by rw [List.length_replicate]) ?_
 refine Wc.loopG (ι:=Nat×Imm×List SV) (fun (k,Gx,r)=>([(26,.int .i64 (k:Int)),(8,.slice (some ⟨b2,0,none⟩) r.length R),(25,.int .i64 (↑R:Int)),(7,.int .i64 (↑N:Int)),(1,.slice ga (List.length gl) gc)],[(1,some b2,Row 68 r []),(0,some b1,.cells #[.int .i64 (PV.ins p),.int .i64 (PV.regs p),.slice ac (List.length (PV.code p)) cc,.slice ao (List.length (PV.outs p)) co] 26)])) (fun (k,Gx,r)=>Gx) (fun (k,Gx,r)=>k≤R∧G.le Gx∧r.length=R∧∀ q:Nat,q<k→BRow Gx (r[q]?.getD default) ((regs0 p gs)[q]?.getD [])) (fun (k,Gx,r)=>R - k) ((0,G,List.replicate R (default:SV))) (⟨Nat.zero_le _,Imm.le_refl _,List.length_replicate,fun q hq=>by omega⟩) rfl ⟨rfl,rfl,rfl,rfl,rfl,trivial⟩ ⟨rfl,rfl,trivial⟩ (fun ⟨k,Gx,r⟩=>fun hk=>?_)
 obtain ⟨hk0,hgx,hrR,hrow⟩:=hk
 replace hga:=hga.up hgx
 replace hgg:=hgg.up hgx
 have hor:=hown r hrR
 rcases Nat.lt_or_ge k R with hkR | hkR
 · by_cases hkg:k<gl.length
   · have hkn:(gl[((k:Nat):Int).toNat]?.getD default).n=N:=by
      obtain ⟨l1,a1,a2,a3,a4⟩:=hgg.2 k hkg
      rw [Int.toNat_natCast,←a1,a4.1]
      exact (hev.at (k:=k) (by omega)).1
     refine Wc.gl 22 [1] ?_
     refine Wl.make (α:=IV) 2 rfl T.sl68 T.el125 rfl rfl (by omega) (by omega) (fun b3=>?_)
     refine Wl.q rfl (Qy.indexAddrO (α:=SV) T.sl237 rfl rfl (by assumption) (by omega)) ?_
     refine Wl.re 32 rfl (show _=Value.slice (some ⟨b3,0,none⟩) N N by rw [List.length_replicate];rfl) ?_
     refine Wl.reH 2 (Row 125 (List.replicate N (default:IV)) []) rfl rfl ?_
     refine Wl.setO (z:=(⟨some ⟨b3,0,none⟩,N,N⟩:SV)) (m:=((k:Nat):Int)) 1 T.size68 rfl rfl rfl hor (by omega) rfl (fun ho1=>?_)
     have hrk:((r.set k (⟨some ⟨b3,0,none⟩,N,N⟩:SV))[k]?.getD default)=⟨some ⟨b3,0,none⟩,N,N⟩:=by rw [List.getElem?_set,if_pos rfl,if_pos (by omega)];rfl
     have ho3:OwnA (some ⟨b3,0,none⟩) N (List.replicate N (default:IV)) []:=.inr ⟨b3,rfl,by rw [List.length_replicate];rfl,by rw [List.length_replicate];exact Nat.le_refl _,by simp only [maxLen];omega⟩
     rw [Int.toNat_natCast] at ho1 ⊢
     obtain ⟨r9,hr9⟩:∃ r9,r9=r.set k (⟨some ⟨b3,0,none⟩,N,N⟩:SV):=⟨_,rfl⟩
     have hr9l:r9.length=R:=by rw [hr9,List.length_set];exact hrR
     rw [←hr9] at ho1 hrk ⊢
     refine Wl.gl 16 [1] ?_
     refine Wl.q rfl (Qy.at (α:=SV) T.sl237 rfl rfl (by assumption) (by omega)) ?_
     refine Wl.q rfl (Qy.loadG T.one68 rfl (Arr.cell (by assumption) (by omega) 0 rfl rfl)) ?_
     refine Wl.ll0 4 [] ?_
     refine Wl.no 45 rfl (by first | assumption | omega) ?_
     refine Wl.gc 10 [0] ?_
     refine Wc.draw [0,2,1] [(1,8),(2,8)] T.mixed rfl ?_
     refine Gm.c 0 [] [] ?_
     refine Gm.c 1 [] [] ?_
     refine Gm.u 2 [] rfl (Qy.indexAddrO (α:=SV) T.sl237 rfl rfl (by assumption) (by omega)) ?_
     refine Gm.u 3 [0,1] rfl (Qy.loadO 1 0 T.one68 rfl rfl (by assumption) (by omega) rfl rfl) ?_
     refine Gm.c 4 [] [] ?_
     refine Gm.c 5 [] [] ?_
     refine Gm.u 6 [] rfl (Qy.at (α:=SV) T.sl237 rfl rfl (by assumption) (by omega)) ?_
     refine Gm.u 7 [0] rfl (Qy.loadG T.one68 rfl (Arr.cell (by assumption) (by omega) 0 rfl rfl)) ?_
     refine Gm.o1 8 ?_
     obtain ⟨l1,a1,a2,a3,a4⟩:=hgg.2 k hkg
     have hl1:l1.length=N:=by rw [a1];exact hkn
     refine Wl.re 52 rfl (show _=Value.slice (some ⟨b3,0,none⟩) (List.replicate N (default:IV)).length N by rw [Int.toNat_natCast,hrk,List.length_replicate]) ?_
     refine Wl.re 56 rfl (show _=Value.slice (gl[k]?.getD default).a l1.length (gl[k]?.getD default).c by rw [a1];rfl) ?_
     refine Wl.copyRow (α:=IV) 2 rfl T.sl68 rfl rfl rfl (Src.arr a3) (by rw [hl1,List.length_replicate];exact Nat.le_refl _) ?_
     refine Wl.reH 2 (Row 125 l1 []) rfl (by rw [hl1,List.drop_replicate,Nat.sub_self,List.replicate_zero,List.append_nil]) ?_
     have ho4:OwnA (some ⟨b3,0,none⟩) N l1 []:=.inr ⟨b3,rfl,by rw [hl1];rfl,by rw [hl1];exact Nat.le_refl _,by simp only [maxLen];omega⟩
     refine Wl.on0 ?_
     refine Gm.fin ?_
     refine Ar.ga 6 [] ?_
     refine Ar.freezeRow 2 rfl ho4 (fun G1 hle1 hA1=>?_)
     refine Ar.re 8 rfl (show _=Value.slice (some ⟨b2,0,none⟩) r9.length R by rw [hr9l,hrR]) ?_
     refine Ar.again ((k+1,G1,r9)) ?_ ?_ rfl ⟨rfl,rfl,rfl,rfl,rfl,trivial⟩ ⟨rfl,rfl,trivial⟩
     · have hs9:BRow G1 ⟨some ⟨b3,0,none⟩,N,N⟩ ((regs0 p gs)[k]?.getD []):=by
        rw [regs0_at (by omega),if_pos (by omega)]
        exact ⟨l1,hl1,Nat.le_refl _,hA1,a4.up hle1⟩
       refine ⟨by omega,Imm.le_trans hgx hle1,hr9l,fun q hq=>?_⟩
       rw [hr9]
       exact brow_next (brows_up hrow hle1) (by omega) hs9 q hq
     show R - (k+1)<R - k
     omega
   refine Wc.gl 22 [1] ?_
   refine Wl.make (α:=IV) 2 rfl T.sl68 T.el125 rfl rfl (by omega) (by omega) (fun b3=>?_)
   refine Wl.q rfl (Qy.indexAddrO (α:=SV) T.sl237 rfl rfl (by assumption) (by omega)) ?_
   refine Wl.re 32 rfl (show _=Value.slice (some ⟨b3,0,none⟩) N N by rw [List.length_replicate];rfl) ?_
   refine Wl.reH 2 (Row 125 (List.replicate N (default:IV)) []) rfl rfl ?_
   refine Wl.setO (z:=(⟨some ⟨b3,0,none⟩,N,N⟩:SV)) (m:=((k:Nat):Int)) 1 T.size68 rfl rfl rfl hor (by omega) rfl (fun ho1=>?_)
   have hrk:((r.set k (⟨some ⟨b3,0,none⟩,N,N⟩:SV))[k]?.getD default)=⟨some ⟨b3,0,none⟩,N,N⟩:=by rw [List.getElem?_set,if_pos rfl,if_pos (by omega)];rfl
   have ho3:OwnA (some ⟨b3,0,none⟩) N (List.replicate N (default:IV)) []:=.inr ⟨b3,rfl,by rw [List.length_replicate];rfl,by rw [List.length_replicate];exact Nat.le_refl _,by simp only [maxLen];omega⟩
   rw [Int.toNat_natCast] at ho1 ⊢
   obtain ⟨r9,hr9⟩:∃ r9,r9=r.set k (⟨some ⟨b3,0,none⟩,N,N⟩:SV):=⟨_,rfl⟩
   have hr9l:r9.length=R:=by rw [hr9,List.length_set];exact hrR
   rw [←hr9] at ho1 hrk ⊢
   refine Wl.ga 18 [0] ?_
   refine Ar.freezeRow 2 rfl ho3 (fun G1 hle1 hA1=>?_)
   refine Ar.re 8 rfl (show _=Value.slice (some ⟨b2,0,none⟩) r9.length R by rw [hr9l,hrR]) ?_
   refine Ar.again ((k+1,G1,r9)) ?_ ?_ rfl ⟨rfl,rfl,rfl,rfl,rfl,trivial⟩ ⟨rfl,rfl,trivial⟩
   · have hs9:BRow G1 ⟨some ⟨b3,0,none⟩,N,N⟩ ((regs0 p gs)[k]?.getD []):=by
      rw [regs0_at (by omega),if_neg (by omega),h0L]
      exact ⟨_,List.length_replicate,Nat.le_refl _,hA1,Bigs.zeros _ _⟩
     refine ⟨by omega,Imm.le_trans hgx hle1,hr9l,fun q hq=>?_⟩
     rw [hr9]
     exact brow_next (brows_up hrow hle1) (by omega) hs9 q hq
   show R - (k+1)<R - k
   omega
 refine Wc.ga 20 [0] ?_
 refine Ar.out2 (.inr rfl) (Ho:=[(1,some b2,Row 68 r [])]) rfl (.tmp rfl) (.tmp rfl) ⟨rfl,trivial⟩ ?_
 exact ⟨b2,r,rfl,⟨by omega,fun i hi=>hrow i (by omega)⟩,hrR,rfl⟩
end Go.Proofs.YtfdcckcadfhpeaaGreatDoor
namespace Go.Proofs.YtfdcckcadfhpeaaGreatDoor
open Go Go.Sl
set_option maxHeartbeats 4000000
theorem brow_snoc {G:Imm} {q:List SV} {os:List (List Int)} {i:Nat} {s:SV} (h:∀ t:Nat,t<i→BRow G (q[t]?.getD default) (os[t]?.getD [])) (hq:q.length=i) (hs:BRow G s (os[i]?.getD [])):∀ t:Nat,t<i+1→BRow G ((q++[s])[t]?.getD default) (os[t]?.getD []):=fun t ht=>by
 rcases Nat.lt_or_ge t i with h1 | h1
 · rw [List.getElem?_append_left (by omega)];exact h t h1
 have e:t=i:=by omega
 subst e
 rw [List.getElem?_append_right (by omega),hq,Nat.sub_self];exact hs
theorem outs_at {p:PV} {rs:List (List Int)} {i:Nat} (hi:i<p.outs.length):(outsOf p rs)[i]?.getD []=rs[(p.outs[((i:Nat):Int).toNat]?.getD default).toNat]?.getD []:=by
 unfold outsOf
 rw [List.getElem?_map,Int.toNat_natCast,List.getElem?_eq_getElem hi];rfl
attribute [local irreducible] valB pb cmpZ lstWp p2 cst doI
theorem c206 (G:Imm) (a:Option Addr) (c:Nat) (l:List IV) (ha:Arr G a l) (hl:l.length≤1048576) :
 Does Tryz.prog 206 [.slice a l.length c] G [] (fun v G' Ho=>∃ s d,v=.slice s l.length d∧Arr G' s l∧l.length≤d∧Ho=[]):=by
 by_cases hne:a=none
 · have h0:l=[]:=by
    rcases ha.2 with h | ⟨b,o,h,_⟩
    · exact List.eq_nil_of_length_eq_zero h
    rw [hne] at h;cases h
   subst hne
   subst h0
   have hyes:(none:Option Addr)=none:=rfl
   refine Does.enter Tryz.func206 rfl Tryz.ntmps206 rfl (fun w=>?_)
   refine Wc.gl 9 [] ?_
   refine Wl.q rfl (Qy.eqlSliceNil T.sl68 rfl rfl) ?_
   refine Wl.ga 10 [1] ?_
   refine Ar.e1 ?_
   exact ⟨none,0,rfl,Arr.nil _,Nat.le_refl _,rfl⟩
 refine Does.enter Tryz.func206 rfl Tryz.ntmps206 rfl (fun w=>?_)
 refine Wc.gl 9 [] ?_
 refine Wl.q rfl (Qy.eqlSliceNil T.sl68 rfl rfl) ?_
 refine Wl.gl 7 [0] ?_
 refine Wl.lit0 0 rfl T.sl68 (fun b1=>?_)
 refine Wl.ll0 1 [] ?_
 refine Wl.reH 0 (Row 125 ([]:List IV) []) rfl rfl ?_
 refine Wl.append (α:=IV) (xs:=[]) (ys:=l) (junk:=[]) 0 rfl T.sl68 T.el125 rfl rfl rfl (.inr ⟨b1,rfl,rfl,Nat.le_refl _,Nat.zero_le _⟩) (Src.arr ha) (by rw [List.length_nil];omega) (by rw [List.length_nil];simp only [maxLen];omega) (fun a1 c1 junk1 ho1=>?_)
 rw [List.nil_append] at ho1 ⊢
 have hc1:=ho1.le
 refine Wl.ga 4 [] ?_
 refine Ar.freezeRow 0 rfl ho1 (fun G1 hle1 hA1=>?_)
 refine Ar.e1 ?_
 exact ⟨a1,c1,rfl,hA1,hc1,rfl⟩
def RowsPost (p:PV) (gs:List (List Int)) (m N:Nat) (v:Value) (G':Imm) (Ho:Hp):Prop:=
 Ho=[]∧((∃ os b r c',followP p gs=some os∧v=.tuple #[.slice b (List.length r) c',.int .i64 0,.int .i64 0]∧Arr G' b r∧List.length r≤c'∧BGrid G' r os∧EvenB (m+3*p.code.length) N os)∨(followP p gs=none∧∃ k,v=.tuple #[.slice none 0 0,.int .i64 k,.int .i64 20]))
theorem c155 (G:Imm) (p:PV) (ac ao ga:Option Addr) (cc co gc:Nat) (gl:List SV) (gs:List (List Int)) (m N:Nat) (hc:Arr G ac p.code) (ho:Arr G ao p.outs) (hga:Arr G ga gl) (hgg:BGrid G gl gs) (hev:EvenB m N gs) (hmm:m≤1048576) (hN:N≤4096) (hR:rightP p=true) (hgi:(gl.length:Int)=p.ins) :
 Does Tryz.prog 155 [.agg #[.int .i64 p.ins,.int .i64 p.regs,.slice ac p.code.length cc,.slice ao p.outs.length co],.slice ga gl.length gc] G [] (RowsPost p gs m N):=by
 obtain ⟨f1,f2,f3,f4,f5,f6,f7,f8⟩:=right_facts hR
 obtain ⟨R,hRR⟩:∃ R:Nat,p.regs=(R:Int):=⟨p.regs.toNat,by omega⟩
 refine Does.enter Tryz.func155 rfl Tryz.ntmps155 rfl (fun w=>?_)
 refine Wc.nilRow 0 (Row 68 ([]:List SV) []) ?_
 refine Wc.gl 2 [] ?_
 refine Wl.box 1 rfl rfl rfl (fun b1=>?_)
 refine Wl.gl 9 [1] ?_
 refine Wl.k 2 rfl (c202 _ p ac ao ga cc co gc gl gs m N hc ho hga hgg hev hN hR hgi) (fun v1 G1 Ho1 hle1 hp=>?_)
 obtain ⟨b9,r0,rfl,hg0,hr0,rfl⟩:=hp
 replace hc:=hc.up hle1
 replace ho:=ho.up hle1
 have hrl0:=regs0_len p gs
 have hm0:EvenB m N (regs0 p gs):=fun zs hz=>by
  unfold regs0 at hz
  obtain ⟨k,hk,rfl⟩:=List.mem_map.1 hz
  have hN9:=(hev.at (k:=0) (by have:=hgg.1;omega)).1
  split
  · exact hev.at (k:=k) (by omega)
  rw [hN9]
  exact ⟨List.length_replicate,below_zeros m _⟩
 refine Wl.gc 19 [0] ?_
 refine Wc.draw [0,1,3] [(3,3),(1,3),(0,3)] T.mixed rfl ?_
 refine Gm.c 1 [1] [1] ?_
 refine Gm.c 2 [] [] ?_
 refine Gm.o1 0 ?_
 refine Wl.k0 rfl (c204 _) ?_
 refine Wl.on0 ?_
 refine Gm.o1 3 ?_
 refine Wl.k 3 rfl (c203 _ p gs ac ao cc co (some ⟨b9,0,none⟩) p.regs.toNat r0 [] m N hc (.inr ⟨b9,rfl,by rw [hr0];rfl,by omega,by simp only [maxLen];omega⟩) hg0 hm0 (by omega) (by omega) f4 (by omega) (by omega) f8) (fun v9 G9 Ho9 hle9 hp=>?_)
 obtain ⟨r9,k9,rfl,rfl,hr9,ho9,hcase⟩:=hp
 replace ho:=ho.up hle9
 rcases hcase with ⟨rs,hrs,rfl,hg9,he9⟩ | ⟨hno,hk9⟩
 · have hrs1:=hg9.1
   have lr9:r9.length=R:=by omega
   have hfol:followP p gs=some (outsOf p rs):=by unfold followP;rw [hrs];rfl
   refine Wl.on0 ?_
   refine Gm.c 4 [] [] ?_
   refine Gm.fin ?_
   refine Ar.gc 25 [0,1] ?_
   refine Wc.re 7 rfl (show _=Value.slice (some ⟨b9,0,none⟩) r9.length p.regs.toNat by rw [hr9]) ?_
   refine Wc.loopG (ι:=Nat×Imm×List SV×(Option Addr×Nat×List Value)) (fun (i,Gx,q,(o,d,j))=>([(32,.int .i64 (i:Int)),(10,.slice o q.length d),(7,.slice (some (Addr.mk b9 0 none)) (List.length r9) (Int.toNat (PV.regs p))),(31,.int .i64 (↑(List.length (PV.outs p)):Int)),(30,.slice ao (List.length (PV.outs p)) co),(6,.int .i64 0),(5,.int .i64 0),(4,.slice none 0 0)],[(0,o.map (·.block),Row 68 q j),(3,some b9,Row 68 r9 []),(1,some b1,.cells #[.int .i64 (PV.ins p),.int .i64 (PV.regs p),.slice ac (List.length (PV.code p)) cc,.slice ao (List.length (PV.outs p)) co] 26)])) (fun (i,Gx,q,(o,d,j))=>Gx) (fun (i,Gx,q,(o,d,j))=>i≤p.outs.length∧G9.le Gx∧q.length=i∧(∀ t:Nat,t<i→BRow Gx (q[t]?.getD default) ((outsOf p rs)[t]?.getD []))∧OwnA o d q j) (fun (i,Gx,q,(o,d,j))=>p.outs.length - i) ((0,G9,[],(none,0,[]))) (⟨Nat.zero_le _,Imm.le_refl _,rfl,fun t ht=>by omega,OwnA.nil⟩) rfl ⟨rfl,rfl,rfl,rfl,rfl,rfl,rfl,rfl,trivial⟩ ⟨rfl,rfl,rfl,trivial⟩ (fun ⟨i,Gx,q,(o,d,j)⟩=>fun hk=>?_)
   obtain ⟨hi0,hgx,hqi,hbq,hoq⟩:=hk
   replace ho:=ho.up hgx
   rcases Nat.lt_or_ge i p.outs.length with hio | hio
   · have hmem:p.outs[((i:Nat):Int).toNat]?.getD default∈p.outs:=by
      rw [Int.toNat_natCast,List.getElem?_eq_getElem hio];exact List.getElem_mem hio
     have hrg:=f7 _ hmem
     obtain ⟨l1,a1,a2,a3,a4⟩:=hg9.2 (p.outs[((i:Nat):Int).toNat]?.getD default).toNat (by omega)
     have hN1:=(he9.at (k:=(p.outs[((i:Nat):Int).toNat]?.getD default).toNat) (by omega)).1
     have hl1:l1.length=N:=by rw [a4.1,hN1]
     refine Wc.gl 13 [1] ?_
     refine Wl.q rfl (Qy.at (α:=Int) T.sl24 rfl rfl (by assumption) (by omega)) ?_
     refine Wl.q rfl (Qy.loadG T.one3 rfl (Arr.cell (by assumption) (by omega) 0 rfl rfl)) ?_
     refine Wl.gl 7 [] ?_
     refine Wl.q rfl (Qy.indexAddrO (α:=SV) T.sl237 rfl rfl (by assumption) (by omega)) ?_
     refine Wl.q rfl (Qy.loadO 3 0 T.one68 rfl rfl (by assumption) (by omega) rfl rfl) ?_
     refine Wl.re 40 rfl (show _=Value.slice (r9[(p.outs[((i:Nat):Int).toNat]?.getD default).toNat]?.getD default).a l1.length (r9[(p.outs[((i:Nat):Int).toNat]?.getD default).toNat]?.getD default).c by rw [a1]) ?_
     refine Wl.k 20 rfl (c206 _ _ _ l1 (a3.up hgx) (by omega)) (fun v1 G2 Ho1 hle2 hp=>?_)
     obtain ⟨s2,d2,rfl,hA2,hd2,rfl⟩:=hp
     refine Wl.lit (α:=SV) 4 [⟨_,_,_⟩] rfl T.sl237 T.el68 rfl rfl rfl rfl rfl (fun b2=>?_)
     refine Wl.append (α:=SV) 0 rfl T.sl237 T.el68 rfl rfl rfl (by first | assumption | exact OwnA.nil | exact OwnA.made (by simp)) (Src.row 4 rfl) (by first | omega | (simp only [List.length_append,List.length_cons,List.length_nil,maxLen];omega)) (by first | omega | (simp only [List.length_append,List.length_cons,List.length_nil,maxLen];omega)) (fun a1 c1 junk1 ho1=>?_)
     refine Wl.ga 8 [] ?_
     refine Ar.again ((i+1,G2,q++[⟨s2,l1.length,d2⟩],(a1,c1,junk1))) ?_ ?_ rfl ⟨rfl,rfl,rfl,rfl,rfl,rfl,rfl,rfl,trivial⟩ ⟨rfl,rfl,rfl,trivial⟩
     · refine ⟨by omega,Imm.le_trans hgx hle2,by rw [List.length_append,hqi];rfl,brow_snoc (fun t ht=>(hbq t ht).up hle2) hqi ?_,ho1⟩
       rw [outs_at hio]
       exact ⟨l1,rfl,hd2,hA2,a4.up (Imm.le_trans hgx hle2)⟩
     show p.outs.length - (i+1)<p.outs.length - i
     omega
   have hii:i=p.outs.length:=by omega
   subst hii
   have hqd:=hoq.le
   refine Wc.ga 21 [0] ?_
   refine Ar.freezeRow 0 rfl hoq (fun G8 hle8 hA=>?_)
   refine Ar.out3 (.inr rfl) (Ho:=[]) rfl (.tmp rfl) (.tmp rfl) (.tmp rfl) trivial ?_
   have hol:(outsOf p rs).length=p.outs.length:=by unfold outsOf;rw [List.length_map]
   refine ⟨rfl,.inl ⟨outsOf p rs,o,q,d,hfol,rfl,hA,hqd,⟨by omega,fun t ht=>(hbq t (by omega)).up hle8⟩,fun zs hz=>?_⟩⟩
   unfold outsOf at hz
   obtain ⟨x,hx,rfl⟩:=List.mem_map.1 hz
   have hx7:=f7 x hx
   exact he9.at (k:=x.toNat) (by omega)
 refine Wl.on0 ?_
 refine Gm.c 4 [] [] ?_
 refine Gm.fin ?_
 refine Ar.ga 18 [1] ?_
 refine Ar.out3 (.inr rfl) (Ho:=[]) rfl (.tmp rfl) (.tmp rfl) (.tmp rfl) trivial ?_
 exact ⟨rfl,.inr ⟨hno,k9,rfl⟩⟩
end Go.Proofs.YtfdcckcadfhpeaaGreatDoor
namespace Go.Proofs.YtfdcckcadfhpeaaGreatDoor
open Go Go.Sl
set_option maxHeartbeats 4000000
attribute [local irreducible] valB pb cmpZ lstWp p2 cst doI
theorem c208 (G:Imm) (n:Nat) (hn:n≤4096) :
 Does Tryz.prog 208 [.int .i64 (n:Int)] G [] (fun v G' Ho=>∃ b,v=.tuple #[.slice (some ⟨b,0,none⟩) (List.replicate n (default:IV)).length n,.int .i64 0]∧G'=G∧Ho=[(0,some b,Row 125 (List.replicate n (default:IV)) [])]):=by
 refine Does.enter Tryz.func208 rfl Tryz.ntmps208 rfl (fun w=>?_)
 refine Wc.gl 12 [] ?_
 refine Wl.no 6 rfl (by first | assumption | omega) ?_
 refine Wl.gl 13 [0] ?_
 refine Wl.make (α:=IV) 0 rfl T.sl68 T.el125 rfl rfl (by omega) (by omega) (fun b1=>?_)
 refine Wl.ga 5 [] ?_
 refine Ar.out2 (.inr rfl) (Ho:=[(0,some b1,Row 125 (List.replicate n (default:IV)) [])]) rfl (.tmp rfl) (.tmp rfl) ⟨rfl,trivial⟩ ?_
 exact ⟨b1,by simp,rfl,rfl⟩
theorem c159 (G:Imm) (n j:Nat) (hn:n≤4096) (hj:j<n) :
 Does Tryz.prog 159 [.int .i64 (n:Int),.int .i64 (j:Int)] G [] (fun v G' Ho=>∃ s l d,v=.tuple #[.slice s (List.length l) d,.int .i64 0]∧Arr G' s l∧List.length l=n∧n≤d∧Bigs G' l (unitR n j)∧Ho=[]):=by
 refine Does.enter Tryz.func159 rfl Tryz.ntmps159 rfl (fun w=>?_)
 refine Wc.gl 9 [] ?_
 refine Wl.k 0 rfl (c208 _ n hn) (fun v1 G1 Ho1 hle1 hp=>?_)
 obtain ⟨b1,rfl,rfl,rfl⟩:=hp
 have ho3:OwnA (some ⟨b1,0,none⟩) n (List.replicate n (default:IV)) []:=.inr ⟨b1,rfl,by rw [List.length_replicate];rfl,by rw [List.length_replicate];exact Nat.le_refl _,by simp only [maxLen];omega⟩
 obtain ⟨r0,hr0⟩:∃ r0,r0=List.replicate n (default:IV):=⟨_,rfl⟩
 have lr0:r0.length=n:=by rw [hr0,List.length_replicate]
 rw [←hr0] at ho3 ⊢
 refine Wl.gl 22 [0] ?_
 refine Wl.no 20 rfl (by first | assumption | omega) ?_
 refine Wl.gl 18 [0] ?_
 refine Wl.k 1 rfl (c78 _ _ (by decide)) (fun v2 G2 Ho2 hle2 hp=>?_)
 obtain ⟨ri2,rfl,hri2,rfl⟩:=hp
 refine Wl.q rfl (Qy.indexAddrO (α:=IV) T.sl68 rfl rfl (by assumption) (by omega)) ?_
 refine Wl.setO (z:=ri2) (m:=((j:Nat):Int)) 0 T.size125 rfl rfl rfl ho3 (by omega) rfl (fun ho1=>?_)
 have hB:Bigs G2 (r0.set j ri2) (unitR n j):=by
  rw [hr0];unfold unitR
  exact (Bigs.zeros G2 n).set j hri2
 have hl9:(r0.set j ri2).length=n:=by rw [List.length_set];exact lr0
 rw [Int.toNat_natCast] at ho1 ⊢
 obtain ⟨r9,hr9⟩:∃ r9,r9=r0.set j ri2:=⟨_,rfl⟩
 rw [←hr9] at ho1 hB hl9 ⊢
 refine Wl.ga 10 [] ?_
 refine Ar.freezeRow 0 rfl ho1 (fun G3 hle3 hA3=>?_)
 refine Ar.re 4 rfl (show _=Value.slice (some ⟨b1,0,none⟩) r9.length n by rw [hl9,lr0]) ?_
 refine Ar.e2 ?_
 exact ⟨_,r9,n,rfl,hA3,hl9,Nat.le_refl _,hB.up hle3,rfl⟩
end Go.Proofs.YtfdcckcadfhpeaaGreatDoor
namespace Go.Proofs.YtfdcckcadfhpeaaGreatDoor
open Go Go.Sl
set_option maxHeartbeats 4000000
theorem pb2_pw4:pb 2=pw 4:=by unfold pb pw;decide
theorem even_evenB {N:Nat} {gs:List (List Int)} (h:Even 4 N gs):EvenB 2 N gs:=fun zs hz=>⟨(h zs hz).1,fun z hz'=>by rw [pb2_pw4];exact (h zs hz).2 z hz'⟩
theorem unit_belowB (n j:Nat):Below 2 (unitR n j):=fun z hz=>by
 rw [pb2_pw4];exact unit_below n j 4 (by omega) z hz
theorem units_eq {os:List (List Int)} {n:Nat} (hl:os.length=n):(os=(List.range n).map (unitR n))↔∀ t:Nat,t<n→os[t]?.getD []=unitR n t:=by
 constructor
 · intro h t ht
   rw [h,List.getElem?_map,List.getElem?_range ht];rfl
 intro h
 refine List.ext_getElem? fun i=>?_
 rcases Nat.lt_or_ge i n with h1 | h1
 · have:=h i h1
   rw [List.getElem?_eq_getElem (by omega)] at this ⊢
   rw [List.getElem?_map,List.getElem?_range h1]
   show some os[i]=some (unitR n i)
   rw [←this];rfl
 rw [List.getElem?_eq_none (by omega),List.getElem?_eq_none (by rw [List.length_map,List.length_range];omega)]
attribute [local irreducible] valB pb pw cmpZ lstWp p2 cst doI followP gridR rightP unitR
theorem c56P (G:Imm) (p:PV) (ac ao:Option Addr) (cc co:Nat) (hc:Arr G ac p.code) (ho:Arr G ao p.outs) (h1:p.code.length≤1099511627776) (h2:p.outs.length≤1099511627776) (hP:¬rightP p=true) :
 Does Tryz.prog 56 [.agg #[.int .i64 p.ins,.int .i64 p.regs,.slice ac p.code.length cc,.slice ao p.outs.length co]] G [] (fun v G' Ho=>v=.tuple #[.int .i64 (checkP p).1,.int .i64 80]∧G'=G∧Ho=[]):=by
 have hf:(checkP p).2=true:=by unfold rightP at hP;simpa using hP
 have h:=c56 G p ac ao cc co hc ho h1 h2
 rw [hf] at h
 exact h
theorem c111Y (G:Imm) (p:PV) (ac ao:Option Addr) (cc co:Nat) (a:Option Addr) (c:Nat) (l:List R2) (hc:Arr G ac p.code) (ho:Arr G ao p.outs) (hcl:p.code.length≤1099511627776) (hol:p.outs.length≤1099511627776) (ha:Arr G a l) (hac:l.length≤c) (hl:l.length≤1048576) (hR:RightL l) (hP:rightP p=true) :
 Does Tryz.prog 111 [.agg #[.int .i64 p.ins,.int .i64 p.regs,.slice ac p.code.length cc,.slice ao p.outs.length co],.slice a l.length c] G [] (fun v G' Ho=>v=.tuple #[.bool (decide (InterpP p l)),.int .i64 0]∧Ho=[]):=by
 have hl1:=hR.1
 have hl15:=hR.2.1
 have hev:=even_evenB (gridR_even hl15 (fun i hi=>(hR.2.2.1 i hi).1))
 have hgl:=gridR_lenN l
 obtain ⟨f1,f2,f3,f4,f5,f6,f7,f8⟩:=right_facts hP
 refine Does.enter Tryz.func111 rfl Tryz.ntmps111 rfl (fun w=>?_)
 by_cases hI:p.ins=l.length
 · by_cases hO:p.outs.length=l.length
   · refine Wc.gl 2 [] ?_
     refine Wl.box 0 rfl rfl rfl (fun b1=>?_)
     refine Wl.gl 7 [] ?_
     refine Wl.k 1 rfl (c158R _ a c l (by assumption) (by omega) hac hR hl15 hR.2.2.1) (fun v1 G1 Ho1 hle1 hp=>?_)
     obtain ⟨gs1,gr1,gc1,rfl,hga1,hgb1,hgc1,rfl⟩:=hp
     replace hc:=hc.up hle1
     replace ho:=ho.up hle1
     replace ha:=ha.up hle1
     refine Wl.gl 21 [0,0] ?_
     refine Wl.k0 rfl (c56R _ p _ _ _ _ (by assumption) (by assumption) hcl hol hP) ?_
     refine Wl.gl 24 [0,0] ?_
     refine Wl.no 35 rfl (by first | assumption | omega) ?_
     refine Wl.gl 22 [0,0,0] ?_
     refine Wl.k 20 rfl (c155 _ p ac ao gs1 cc co gc1 gr1 (gridR l) 2 l.length (by assumption) (by assumption) (by assumption) (by assumption) hev (by omega) (by omega) hP (by rw [hgb1.1,hgl,hI])) (fun v9 G9 Ho9 hle9 hp=>?_)
     obtain ⟨rfl,⟨os,ob,orr,oc,hfo,rfl,hoA,hol9,hoB,hoE⟩ | ⟨hno,k9,rfl⟩⟩:=hp
     · have hos:=follow_len hfo
       have hoL:=hoB.1
       replace ha:=ha.up hle9
       have hiff:InterpP p l↔∀ t:Nat,t<l.length→os[t]?.getD []=unitR l.length t:=by
        rw [←units_eq (by omega)]
        unfold InterpP
        rw [hfo]
        exact ⟨fun h=>Option.some.inj h.2.2.2,fun h=>⟨hP,hI,hO,by rw [h]⟩⟩
       refine Wl.gc 28 [0] ?_
       refine Wc.loopG (ι:=Nat×Imm) (fun (i,Gx)=>([(54,.int .i64 (i:Int)),(53,.int .i64 (orr.length:Int)),(52,.slice ob (List.length orr) oc),(1,.slice a (List.length l) c)],[(0,some b1,.cells #[.int .i64 (PV.ins p),.int .i64 (PV.regs p),.slice ac (List.length (PV.code p)) cc,.slice ao (List.length (PV.outs p)) co] 26)])) (fun (i,Gx)=>Gx) (fun (i,Gx)=>i≤l.length∧G9.le Gx∧∀ t:Nat,t<i→os[t]?.getD []=unitR l.length t) (fun (i,Gx)=>l.length - i) ((0,G9)) (⟨Nat.zero_le _,Imm.le_refl _,fun t ht=>by omega⟩) rfl ⟨rfl,rfl,rfl,rfl,trivial⟩ ⟨rfl,trivial⟩ (fun ⟨i,Gx⟩=>fun hk=>?_)
       obtain ⟨hi0,hgx,hall⟩:=hk
       replace hoA:=hoA.up hgx
       rcases Nat.lt_or_ge i l.length with hil | hil
       · obtain ⟨l1,a1,a2,a3,a4⟩:=(hoB.up hgx).2 i (by omega)
         have hE1:=hoE.at (k:=i) (by omega)
         refine Wc.gl 14 [1] ?_
         refine Wl.q rfl (Qy.at (α:=SV) T.sl237 rfl rfl (by assumption) (by omega)) ?_
         refine Wl.q rfl (Qy.loadG T.one68 rfl (Arr.cell (by assumption) (by omega) 0 rfl rfl)) ?_
         refine Wl.gl 9 [] ?_
         refine Wl.k 20 rfl (c159 _ l.length i (by omega) hil) (fun v1 G2 Ho1 hle2 hp=>?_)
         obtain ⟨s2,l2,d2,rfl,hA2,hl2,hd2,hB2,rfl⟩:=hp
         refine Wl.gl 11 [] ?_
         refine Wl.re 66 rfl (show _=Value.slice (orr[i]?.getD default).a l1.length (orr[i]?.getD default).c by rw [a1];rfl) ?_
         refine Wl.k 20 rfl (c160 _ _ _ _ _ l1 l2 (os[i]?.getD []) (unitR l.length i) (a3.up hle2) hA2 (a4.up hle2) hB2 (by rw [a4.1,hE1.1];omega) (by omega) (2+3*p.code.length) (by omega) hE1.2 ((unit_belowB _ _).mono (by omega))) (fun v1 G3 Ho1 hle3 hp=>?_)
         obtain ⟨rfl,rfl,rfl⟩:=hp
         by_cases he:os[i]?.getD []=unitR l.length i
         · have he2:¬¬(os[i]?.getD []=unitR l.length i):=fun h=>h he
           refine Wl.q rfl (Qy.notD rfl) ?_
           refine Wl.ga 10 [0] ?_
           refine Ar.again ((i+1,G3)) ?_ ?_ rfl ⟨rfl,rfl,rfl,rfl,trivial⟩ ⟨rfl,trivial⟩
           · refine ⟨by omega,Imm.le_trans hgx hle2,fun t ht=>?_⟩
             rcases Nat.lt_or_ge t i with h1 | h1
             · exact hall t h1
             have e:t=i:=by omega
             rw [e];exact he
           show l.length - (i+1)<l.length - i
           omega
         have hnI:¬InterpP p l:=fun h=>he (hiff.1 h i hil)
         refine Wl.q rfl (Qy.notD rfl) ?_
         refine Wl.ga 15 [1] ?_
         refine Ar.e2 ?_
         exact ⟨by rw [decide_eq_false hnI],rfl⟩
       have hyI:InterpP p l:=hiff.2 (fun t ht=>hall t (by omega))
       refine Wc.ga 19 [0] ?_
       refine Ar.e2 ?_
       exact ⟨by rw [decide_eq_true hyI],rfl⟩
     have hnI:¬InterpP p l:=fun h=>by have:=h.2.2.2;rw [hno] at this;cases this
     refine Wl.ga 25 [1] ?_
     refine Ar.e2 ?_
     exact ⟨by rw [decide_eq_false hnI],rfl⟩
   have hnI:¬InterpP p l:=fun h=>hO h.2.2.1
   refine Wc.gl 2 [] ?_
   refine Wl.box 0 rfl rfl rfl (fun b1=>?_)
   refine Wl.gl 7 [] ?_
   refine Wl.k 1 rfl (c158R _ a c l (by assumption) (by omega) hac hR hl15 hR.2.2.1) (fun v1 G1 Ho1 hle1 hp=>?_)
   obtain ⟨gs1,gr1,gc1,rfl,hga1,hgb1,hgc1,rfl⟩:=hp
   replace hc:=hc.up hle1
   replace ho:=ho.up hle1
   replace ha:=ha.up hle1
   refine Wl.gl 21 [0,0] ?_
   refine Wl.k0 rfl (c56R _ p _ _ _ _ (by assumption) (by assumption) hcl hol hP) ?_
   refine Wl.gl 24 [0,0] ?_
   refine Wl.no 35 rfl (by first | assumption | omega) ?_
   refine Wl.ga 24 [0,1] ?_
   refine Ar.e2 ?_
   all_goals exact ⟨by rw [decide_eq_false hnI],rfl⟩
 have hnI:¬InterpP p l:=fun h=>hI h.2.1
 refine Wc.gl 2 [] ?_
 refine Wl.box 0 rfl rfl rfl (fun b1=>?_)
 refine Wl.gl 7 [] ?_
 refine Wl.k 1 rfl (c158R _ a c l (by assumption) (by omega) hac hR hl15 hR.2.2.1) (fun v1 G1 Ho1 hle1 hp=>?_)
 obtain ⟨gs1,gr1,gc1,rfl,hga1,hgb1,hgc1,rfl⟩:=hp
 replace hc:=hc.up hle1
 replace ho:=ho.up hle1
 replace ha:=ha.up hle1
 refine Wl.gl 21 [0,0] ?_
 refine Wl.k0 rfl (c56R _ p _ _ _ _ (by assumption) (by assumption) hcl hol hP) ?_
 refine Wl.gl 24 [0,0] ?_
 refine Wl.yes 35 rfl (by first | assumption | omega) ?_
 refine Wl.ga 18 [1] ?_
 refine Ar.e2 ?_
 all_goals exact ⟨by rw [decide_eq_false hnI],rfl⟩
end Go.Proofs.YtfdcckcadfhpeaaGreatDoor
namespace Go.Proofs.YtfdcckcadfhpeaaGreatDoor
open Go Go.Sl
theorem unit_bigs {G:Imm} {n j:Nat} {x:IV} (hx:Big G x 1) (hj:j<n):Bigs G ((List.replicate n (default:IV)).set j x) (unitR n j):=by
 unfold unitR
 exact (Bigs.zeros G n).set j hx
set_option maxHeartbeats 4000000
attribute [local irreducible] valB valL pb pw cmpZ lstWp p2 powR gridR followP rightP unitR cst doI
theorem c156 (G:Imm) (k:Nat) (hk15:k≤15):Does Tryz.prog 156 [.int .i64 (k:Int)] G [] (fun v G' Ho=>∃ (s:Option Addr) (r:List SV) (c':Nat),v=.slice s r.length c'∧Arr G' s r∧BGrid G' r (unitsR k)∧r.length≤c'∧Ho=[]):=by
 refine Does.enter Tryz.func156 rfl Tryz.ntmps156 rfl (fun w=>?_)
 refine Wc.nilRow 9 (Row 68 ([]:List SV) []) ?_
 refine Wc.gc 18 [] ?_
 refine Wc.loopG (ι:=Nat×Imm×List SV×(Option Addr×Nat×List Value)) (fun (i,Gx,r,(o,d,j))=>([(7,.int .i64 (i:Int)),(3,.slice o r.length d),(6,.int .i64 (↑k:Int)),(2,.slice none 0 0),(0,.int .i64 (↑k:Int))],[(9,o.map (·.block),Row 68 r j)])) (fun (i,Gx,r,(o,d,j))=>Gx) (fun (i,Gx,r,(o,d,j))=>i≤k∧G.le Gx∧r.length=i∧BGrid Gx r ((unitsR k).take i)∧OwnA o d r j) (fun (i,Gx,r,(o,d,j))=>k - i) ((0,G,[],(none,0,[]))) (⟨Nat.zero_le _,Imm.le_refl _,rfl,by rw [List.take_zero];exact BGrid.nil _,OwnA.nil⟩) rfl ⟨rfl,rfl,rfl,rfl,rfl,trivial⟩ ⟨rfl,trivial⟩ (fun ⟨i,Gx,r,(o,d,j)⟩=>fun hk=>?_)
 obtain ⟨hi1,hi2,hi3,hi4,hi5⟩:=hk
 rcases Nat.lt_or_ge i k with hil | hil
 · refine Wc.gl 20 [1] ?_
   refine Wl.make (α:=IV) 10 rfl T.sl68 T.el125 rfl rfl (by omega) (by omega) (fun b1=>?_)
   refine Wl.gl 7 [] ?_
   refine Wl.k 11 rfl (c78 _ 1 (by decide)) (fun v1 G1 Ho1 hle1 hp=>?_)
   obtain ⟨ro1,rfl,hro1,rfl⟩:=hp
   have ho2:OwnA (some ⟨b1,0,none⟩) (List.replicate ((k:Int)).toNat (default:IV)).length (List.replicate ((k:Int)).toNat (default:IV)) []:=OwnA.made (by rw [List.length_replicate];simp only [maxLen];omega)
   refine Wl.q rfl (Qy.indexAddrO (α:=IV) T.sl68 rfl rfl ho2 (by rw [List.length_replicate];omega)) ?_
   refine Wl.setO (α:=IV) (z:=ro1) (m:=((i:Nat):Int)) 10 T.size125 rfl rfl rfl ho2 (by rw [List.length_replicate];omega) rfl (fun ho3=>?_)
   refine Wl.freezeRow 10 rfl ho3 (fun G3 hle3 hA3=>?_)
   refine Wl.gl 5 [] ?_
   refine Wl.lit (α:=SV) 11 [⟨_,_,_⟩] rfl T.sl237 T.el68 rfl rfl rfl rfl rfl (fun b2=>?_)
   refine Wl.append (α:=SV) 9 rfl T.sl237 T.el68 rfl rfl rfl (by first | assumption | exact OwnA.nil | exact OwnA.made (by simp)) (Src.row 11 rfl) (by first | omega | (simp only [List.length_append,List.length_cons,List.length_nil,maxLen];omega)) (by first | omega | (simp only [List.length_append,List.length_cons,List.length_nil,maxLen];omega)) (fun a1 c1 junk1 ho1=>?_)
   refine Wl.ga 8 [] ?_
   refine Ar.re 7 rfl (show _=Value.int .i64 ((i+1:Nat):Int) from rfl) ?_
   refine Ar.again ((i+1,_,r++[⟨some ⟨b1,0,none⟩,(List.replicate ((k:Int)).toNat (default:IV)).length,(List.replicate ((k:Int)).toNat (default:IV)).length⟩],(a1,c1,junk1))) ?_ ?_ rfl ⟨rfl,rfl,rfl,rfl,rfl,trivial⟩ ⟨rfl,trivial⟩
   · refine ⟨by omega,Imm.le_trans hi2 (Imm.le_trans hle1 hle3),by rw [List.length_append,hi3];rfl,?_,ho1⟩
     have e:(unitsR k).take (i+1)=(unitsR k).take i++[unitR k i]:=by
      rw [List.take_add_one]
      congr 1
      unfold unitsR
      rw [List.getElem?_map,List.getElem?_range hil];rfl
     rw [e]
     exact BGrid.snoc (hi4.up (Imm.le_trans hle1 hle3)) ⟨_,by rw [List.length_set],Nat.le_refl _,hA3,(unit_bigs hro1 hil).up hle3⟩
   show k - (i+1)<k - i
   omega
 have hie:i=k:=by omega
 subst hie
 have e:(unitsR i).take i=unitsR i:=List.take_of_length_le (by rw [unitsR_len];exact Nat.le_refl _)
 rw [e] at hi4
 refine Wc.ga 19 [0] ?_
 refine Ar.freezeRow 9 rfl hi5 (fun G8 hle8 hA8=>?_)
 refine Ar.out1 (.inr rfl) (Ho:=[]) rfl (.tmp rfl) trivial ?_
 exact ⟨_,_,_,rfl,hA8,hi4.up hle8,hi5.le,rfl⟩
end Go.Proofs.YtfdcckcadfhpeaaGreatDoor
namespace Go.Proofs.YtfdcckcadfhpeaaGreatDoor
open Go Go.Sl
set_option maxHeartbeats 4000000
theorem c33F (G:Imm) (a:Option Addr) (c:Nat) (l:List R2) (ha:Arr G a l) (hl:l.length≤1048576) :
 Does Tryz.prog 33 [.slice a l.length c] G [] (fun v G' Ho=>∃ s d,v=.slice s l.length d∧Arr G' s l∧l.length≤d∧Ho=[]):=by
 refine Does.enter Tryz.func33 rfl Tryz.ntmps33 rfl (fun w=>?_)
 by_cases hne:a=none
 · subst hne
   have hl0:l=[]:=by
    rcases ha.2 with h0 | ⟨_,_,h,_⟩
    · exact List.length_eq_zero_iff.mp h0
    cases h
   subst hl0
   refine Wc.nilRow 0 (Row 52 ([]:List R2) []) ?_
   refine Wc.gl 9 [] ?_
   refine Wl.q rfl (Qy.eqlSliceNil T.sl22 rfl rfl) ?_
   refine Wl.gc 2 [] ?_
   refine Wc.cond rfl (fun hc1=>?_) (fun hc1=>?_)
   refine Wc.ga 7 [] ?_
   rotate_left
   refine Wc.gl 4 [] ?_
   refine Wl.lit0 1 rfl T.sl22 (fun b1=>?_)
   refine Wl.ll0 1 [] ?_
   rotate_left
   refine Ar.e1 ?_
   · exact ⟨none,0,rfl,⟨rfl,.inl rfl⟩,Nat.le_refl _,rfl⟩
   exact absurd rfl hc1
 refine Wc.gl 9 [] ?_
 refine Wl.q rfl (Qy.eqlSliceNil T.sl22 rfl rfl) ?_
 refine Wl.gl 7 [0] ?_
 refine Wl.lit0 0 rfl T.sl22 (fun b1=>?_)
 refine Wl.ll0 1 [] ?_
 refine Wl.reH 0 (Row 52 ([]:List R2) []) rfl rfl ?_
 refine Wl.append (α:=R2) (xs:=[]) (ys:=l) (junk:=[]) 0 rfl T.sl22 T.el52 rfl rfl rfl (.inr ⟨b1,rfl,rfl,Nat.le_refl _,Nat.zero_le _⟩) (Src.arr ha) (by rw [List.length_nil];omega) (by rw [List.length_nil];simp only [maxLen];omega) (fun a1 c1 junk1 ho1=>?_)
 rw [List.nil_append] at ho1 ⊢
 refine Wl.ga 4 [] ?_
 refine Ar.freezeRow 0 rfl ho1 (fun G1 hle1 harr1=>?_)
 refine Ar.e1 ?_
 exact ⟨a1,c1,rfl,harr1,ho1.le,rfl⟩
theorem c52F (G:Imm) (a:Option Addr) (c:Nat) (l:List Sl.Instr) (ha:Arr G a l) (hl:l.length≤1048576) :
 Does Tryz.prog 52 [.slice a l.length c] G [] (fun v G' Ho=>∃ s d,v=.slice s l.length d∧Arr G' s l∧Ho=[]):=by
 refine Does.enter Tryz.func52 rfl Tryz.ntmps52 rfl (fun w=>?_)
 by_cases hne:a=none
 · subst hne
   have hl0:l=[]:=by
    rcases ha.2 with h0 | ⟨_,_,h,_⟩
    · exact List.length_eq_zero_iff.mp h0
    cases h
   subst hl0
   refine Wc.nilRow 0 (Row 91 ([]:List Sl.Instr) []) ?_
   refine Wc.gl 9 [] ?_
   refine Wl.q rfl (Qy.eqlSliceNil T.sl23 rfl rfl) ?_
   refine Wl.gc 2 [] ?_
   refine Wc.cond rfl (fun hc1=>?_) (fun hc1=>?_)
   refine Wc.ga 7 [] ?_
   rotate_left
   refine Wc.gl 4 [] ?_
   refine Wl.lit0 1 rfl T.sl23 (fun b1=>?_)
   refine Wl.ll0 1 [] ?_
   rotate_left
   refine Ar.e1 ?_
   · exact ⟨none,0,rfl,⟨rfl,.inl rfl⟩,rfl⟩
   exact absurd rfl hc1
 refine Wc.gl 9 [] ?_
 refine Wl.q rfl (Qy.eqlSliceNil T.sl23 rfl rfl) ?_
 refine Wl.gl 7 [0] ?_
 refine Wl.lit0 0 rfl T.sl23 (fun b1=>?_)
 refine Wl.ll0 1 [] ?_
 refine Wl.reH 0 (Row 91 ([]:List Sl.Instr) []) rfl rfl ?_
 refine Wl.append (α:=Sl.Instr) (xs:=[]) (ys:=l) (junk:=[]) 0 rfl T.sl23 T.el91 rfl rfl rfl (.inr ⟨b1,rfl,rfl,Nat.le_refl _,Nat.zero_le _⟩) (Src.arr ha) (by rw [List.length_nil];omega) (by rw [List.length_nil];simp only [maxLen];omega) (fun a1 c1 junk1 ho1=>?_)
 rw [List.nil_append] at ho1 ⊢
 refine Wl.ga 4 [] ?_
 refine Ar.freezeRow 0 rfl ho1 (fun G1 hle1 harr1=>?_)
 refine Ar.e1 ?_
 exact ⟨a1,c1,rfl,harr1,rfl⟩
theorem c53F (G:Imm) (a:Option Addr) (c:Nat) (l:List Int) (ha:Arr G a l) (hl:l.length≤1048576) :
 Does Tryz.prog 53 [.slice a l.length c] G [] (fun v G' Ho=>∃ s d,v=.slice s l.length d∧Arr G' s l∧Ho=[]):=by
 refine Does.enter Tryz.func53 rfl Tryz.ntmps53 rfl (fun w=>?_)
 by_cases hne:a=none
 · subst hne
   have hl0:l=[]:=by
    rcases ha.2 with h0 | ⟨_,_,h,_⟩
    · exact List.length_eq_zero_iff.mp h0
    cases h
   subst hl0
   refine Wc.nilRow 0 (Row 3 ([]:List Int) []) ?_
   refine Wc.gl 9 [] ?_
   refine Wl.q rfl (Qy.eqlSliceNil T.sl24 rfl rfl) ?_
   refine Wl.gc 2 [] ?_
   refine Wc.cond rfl (fun hc1=>?_) (fun hc1=>?_)
   refine Wc.ga 7 [] ?_
   rotate_left
   refine Wc.gl 4 [] ?_
   refine Wl.lit0 1 rfl T.sl24 (fun b1=>?_)
   refine Wl.ll0 1 [] ?_
   rotate_left
   refine Ar.e1 ?_
   · exact ⟨none,0,rfl,⟨rfl,.inl rfl⟩,rfl⟩
   exact absurd rfl hc1
 refine Wc.gl 9 [] ?_
 refine Wl.q rfl (Qy.eqlSliceNil T.sl24 rfl rfl) ?_
 refine Wl.gl 7 [0] ?_
 refine Wl.lit0 0 rfl T.sl24 (fun b1=>?_)
 refine Wl.ll0 1 [] ?_
 refine Wl.reH 0 (Row 3 ([]:List Int) []) rfl rfl ?_
 refine Wl.append (α:=Int) (xs:=[]) (ys:=l) (junk:=[]) 0 rfl T.sl24 T.el3 rfl rfl rfl (.inr ⟨b1,rfl,rfl,Nat.le_refl _,Nat.zero_le _⟩) (Src.arr ha) (by rw [List.length_nil];omega) (by rw [List.length_nil];simp only [maxLen];omega) (fun a1 c1 junk1 ho1=>?_)
 rw [List.nil_append] at ho1 ⊢
 refine Wl.ga 4 [] ?_
 refine Ar.freezeRow 0 rfl ho1 (fun G1 hle1 harr1=>?_)
 refine Ar.e1 ?_
 exact ⟨a1,c1,rfl,harr1,rfl⟩
end Go.Proofs.YtfdcckcadfhpeaaGreatDoor
namespace Go.Proofs.YtfdcckcadfhpeaaGreatDoor
open Go Go.Sl
theorem oneR_comm (a b c d:Int):oneR a b c d↔oneR c d a b:=by
 unfold oneR
 by_cases h:(a=0∧b=0)∨(c=0∧d=0)
 · rw [if_pos h,if_pos h.symm];exact And.comm
 rw [if_neg h,if_neg (fun h2=>h h2.symm)];omega
noncomputable instance (l:List R2):Decidable (SomeNone l):=Classical.propDecidable _
theorem c104D (G:Imm) (a:Option Addr) (c:Nat) (l:List R2) (ha:Arr G a l) (h1:l.length≤1048576):Does Tryz.prog 104 [.slice a l.length c,.func (.func 105) #[] #[]] G [] (fun v G' Ho=>v=.bool (decide (SomeNone l))∧G'=G∧Ho=[]):=by
 refine (c104 G a c l ha h1).mono fun v G' Ho _ ⟨b,e,h1,h2,h3⟩=>?_
 subst e
 refine ⟨?_,h2,h3⟩
 congr 1
 by_cases h:SomeNone l
 · rw [decide_eq_true h];exact h1.2 h
 rw [decide_eq_false h]
 exact Bool.eq_false_iff.2 (fun h2=>h (h1.1 h2))
set_option maxHeartbeats 4000000
theorem c35 (G:Imm) (k1 k2:Int) (a:Option Addr) (c:Nat) (l:List R2) (ha:Arr G a l) (hl:l.length≤1048576) :
 Does Tryz.prog 35 [.agg #[.int .i64 k1,.int .i64 k2,.slice a l.length c]] G [] (fun v G' Ho=>v=.int .i64 (WrongP k1 k2 l)∧G'=G∧Ho=[]):=by
 refine Does.enter Tryz.func35 rfl Tryz.ntmps35 rfl (fun w=>?_)
 refine Wc.gl 2 [] ?_
 refine Wl.box 0 rfl rfl rfl (fun b1=>?_)
 refine Wl.gl 10 [0] ?_
 apply Wl.joinOr 4 9 13 rfl
 intro hg1
 refine Wl.ll0 7 [0] ?_
 exact Wl.back 4 0 rfl rfl rfl rfl rfl
 intro hg1
 refine Wl.ll0 4 [] ?_
 exact Wl.back 4 0 rfl rfl rfl rfl rfl
 refine Wl.ll0 1 [] ?_
 apply Wl.joinOr 4 14 18 rfl
 intro hg1
 refine Wl.ll0 7 [0] ?_
 exact Wl.back 4 0 rfl rfl rfl rfl rfl
 intro hg1
 refine Wl.ll0 4 [] ?_
 exact Wl.back 4 0 rfl rfl rfl rfl rfl
 refine Wl.ll0 1 [] ?_
 apply Wl.joinOr 4 19 23 rfl
 intro hg1
 refine Wl.ll0 7 [0] ?_
 exact Wl.back 4 0 rfl rfl rfl rfl rfl
 intro hg1
 refine Wl.ll0 4 [] ?_
 exact Wl.back 4 0 rfl rfl rfl rfl rfl
 refine Wl.gc 2 [] ?_
 refine Wc.cond rfl (fun hc1=>?_) (fun hc1=>?_)
 refine Wc.ga 7 [] ?_
 refine Ar.e1 ?_
 rotate_left
 refine Wc.gc 9 [] ?_
 rotate_left
 · exact ⟨congrArg _ (wrong_counts (by unfold Parts;omega)).symm,rfl,rfl⟩
 have hP:Parts k1∧Parts k2:=by unfold Parts;omega
 refine Wc.loop (ι:=Nat) (fun j=>([(3,.int .i64 (j:Int)),(1,.pointer (some ⟨b1,0,none⟩))],[(0,some b1,.cells #[.int .i64 k1,.int .i64 k2,.slice a (List.length l) c] 62)])) (fun j=>j≤l.length∧∀ i:Nat,i<j→near (l[i]?.getD default).a (l[i]?.getD default).b) (fun j=>l.length - j) (0) (⟨Nat.zero_le _,fun i h=>absurd h (by omega)⟩) ⟨rfl,rfl,trivial⟩ ⟨rfl,trivial⟩ (fun j=>fun hk=>?_)
 obtain ⟨hj,hno⟩:=hk
 refine Wc.gc 10 [0] ?_
 refine Wc.cond rfl (fun hc2=>?_) (fun hc2=>?_)
 refine Wc.gl 9 [0] ?_
 refine Wl.q rfl (Qy.at (α:=R2) T.sl22 rfl rfl (by assumption) (by omega)) ?_
 refine Wl.q rfl (Qy.loadsG T.agg52 rfl (Arr.elem (by assumption) (by omega)) rfl) ?_
 refine Wl.k0 rfl (by apply c69 <;> first | assumption | omega | rfl) ?_
 refine Wl.q rfl (Qy.notD rfl) ?_
 refine Wl.gc 2 [] ?_
 refine Wc.cond rfl (fun hc3=>?_) (fun hc3=>?_)
 refine Wc.ga 11 [] ?_
 refine Ar.e1 ?_
 rotate_left
 refine Wc.ga 8 [] ?_
 rotate_left
 refine Wc.gc 20 [0,0,0] ?_
 refine Wc.cond rfl (fun hc3=>?_) (fun hc3=>?_)
 refine Wc.ga 7 [] ?_
 refine Ar.e1 ?_
 rotate_left
 refine Wc.gc 9 [] ?_
 rotate_left
 · exact ⟨congrArg _ (wrong_in (fun h=>absurd (h j (by omega)) (by assumption))).symm,rfl,rfl⟩
 · refine Ar.again (j+1) ?_ ?_ rfl ⟨rfl,rfl,trivial⟩ ⟨rfl,trivial⟩
   · refine ⟨by omega,fun i hi=>?_⟩
     rcases Nat.lt_or_ge i j with h | h
     · exact hno i h
     have e:i=j:=by omega
     subst e;exact Decidable.not_not.1 (by assumption)
   omega
 · have hA:AllIn l:=fun i hi=>hno i (by omega)
   exact ⟨congrArg _ (wrong_len hP hA (by omega)).symm,rfl,rfl⟩
 have hA:AllIn l:=fun i hi=>hno i (by omega)
 have hnear:∀ i:Nat,i<l.length→near (l[i]?.getD default).a (l[i]?.getD default).b:=hA
 clear hno
 have hL:(l.length:Int)=k1+k2 - 1:=by omega
 refine Wc.loop (ι:=Nat) (fun m=>([(4,.int .i64 (m:Int)),(1,.pointer (some ⟨b1,0,none⟩))],[(0,some b1,.cells #[.int .i64 k1,.int .i64 k2,.slice a (List.length l) c] 62)])) (fun m=>m≤l.length∧∀ i:Nat,i<m→¬((l[i]?.getD default).a=0∧(l[i]?.getD default).b=0)∧∀ k:Nat,k<i→¬oneR (l[i]?.getD default).a (l[i]?.getD default).b (l[k]?.getD default).a (l[k]?.getD default).b) (fun m=>l.length - m) (0) (⟨Nat.zero_le _,fun i h=>absurd h (by omega)⟩) ⟨rfl,rfl,trivial⟩ ⟨rfl,trivial⟩ (fun m=>fun hk=>?_)
 obtain ⟨hm,hn2⟩:=hk
 refine Wc.gc 10 [0] ?_
 refine Wc.cond rfl (fun hc4=>?_) (fun hc4=>?_)
 refine Wc.gl 10 [0] ?_
 refine Wl.q rfl (Qy.at (α:=R2) T.sl22 rfl rfl (by assumption) (by omega)) ?_
 refine Wl.q rfl (Qy.loadsG T.agg52 rfl (Arr.elem (by assumption) (by omega)) rfl) ?_
 refine Wl.k0 rfl (by apply c70 <;> first | assumption | omega | rfl) ?_
 refine Wl.gc 2 [] ?_
 refine Wc.cond rfl (fun hc5=>?_) (fun hc5=>?_)
 refine Wc.ga 12 [] ?_
 refine Ar.e1 ?_
 rotate_left
 refine Wc.gc 8 [] ?_
 rotate_left
 refine Wc.ga 11 [] ?_
 refine Ar.e1 ?_
 rotate_left
 · exact ⟨congrArg _ (wrong_one hP hA (.inl ⟨m,by omega,by assumption⟩)).symm,rfl,rfl⟩
 · refine Wc.loop (ι:=Nat) (fun k=>([(5,.int .i64 (k:Int)),(4,.int .i64 (↑m:Int)),(1,.pointer (some ⟨b1,0,none⟩))],[(0,some b1,.cells #[.int .i64 k1,.int .i64 k2,.slice a (List.length l) c] 62)])) (fun k=>k≤m∧∀ i:Nat,i<k→¬oneR (l[m]?.getD default).a (l[m]?.getD default).b (l[i]?.getD default).a (l[i]?.getD default).b) (fun k=>m - k) (0) (⟨Nat.zero_le _,fun i h=>absurd h (by omega)⟩) ⟨rfl,rfl,rfl,trivial⟩ ⟨rfl,trivial⟩ (fun k=>fun hk=>?_)
   obtain ⟨hk0,hn3⟩:=hk
   refine Wc.gc 8 [] ?_
   refine Wc.cond rfl (fun hc6=>?_) (fun hc6=>?_)
   refine Wc.gc 5 [] ?_
   refine Wc.draw [0] [] T.mixed rfl ?_
   refine Gm.c 0 [] [] ?_
   refine Gm.c 1 [0] [0] ?_
   refine Gm.c 2 [] [] ?_
   refine Gm.u 3 [] rfl (Qy.at (α:=R2) T.sl22 rfl rfl (by assumption) (by omega)) ?_
   refine Gm.u 4 [] rfl (Qy.loadsG T.agg52 rfl (Arr.elem (by assumption) (by omega)) rfl) ?_
   refine Gm.c 5 [] [] ?_
   refine Gm.c 6 [0] [0] ?_
   refine Gm.c 7 [] [] ?_
   refine Gm.u 8 [] rfl (Qy.at (α:=R2) T.sl22 rfl rfl (by assumption) (by omega)) ?_
   refine Gm.u 9 [] rfl (Qy.loadsG T.agg52 rfl (Arr.elem (by assumption) (by omega)) rfl) ?_
   refine Gm.o1 10 ?_
   refine Wl.k0 rfl (c71 _ _ _ _ _ (hnear _ (by omega)) (hnear _ (by omega))) ?_
   refine Wl.on0 ?_
   refine Gm.fin ?_
   refine Ar.next ?_
   refine Wc.cond rfl (fun hc7=>?_) (fun hc7=>?_)
   refine Wc.ga 15 [] ?_
   refine Ar.e1 ?_
   rotate_left
   refine Wc.ga 8 [] ?_
   rotate_left
   refine Wc.ga 11 [] ?_
   rotate_left
   · exact ⟨congrArg _ (wrong_one hP hA (.inr ((twin_iff l).2 ⟨m,by omega,k,by omega,hnear k (by omega),hnear m (by omega),(oneR_comm _ _ _ _).1 (by assumption)⟩))).symm,rfl,rfl⟩
   · refine Ar.again (k+1) ?_ ?_ rfl ⟨rfl,rfl,rfl,trivial⟩ ⟨rfl,trivial⟩
     · refine ⟨by omega,fun i hi=>?_⟩
       rcases Nat.lt_or_ge i k with h | h
       · exact hn3 i h
       have e:i=k:=by omega
       subst e;assumption
     omega
   refine Ar.again (m+1) ?_ ?_ rfl ⟨rfl,rfl,trivial⟩ ⟨rfl,trivial⟩
   · refine ⟨by omega,fun i hi=>?_⟩
     rcases Nat.lt_or_ge i m with h | h
     · exact hn2 i h
     have e:i=m:=by omega
     subst e;exact ⟨by assumption,fun k0 h0=>hn3 k0 (by omega)⟩
   omega
 refine ⟨congrArg _ (wrong_no hP hA hL ?_).symm,rfl,rfl⟩
 rintro (⟨i,hi,h0⟩ | h0)
 · exact (hn2 i (by omega)).1 h0
 obtain ⟨j0,hj0,i0,hi0,_,_,h1⟩:=(twin_iff l).1 h0
 exact (hn2 j0 (by omega)).2 i0 hi0 ((oneR_comm _ _ _ _).1 h1)
theorem c54 (G:Imm) (k1 k2:Int) (a:Option Addr) (c:Nat) (l:List R2) (ha:Arr G a l) (hl:l.length≤1048576) (hlc:l.length≤c) :
 Does Tryz.prog 54 [.int .i64 k1,.int .i64 k2,.slice a l.length c] G [] (fun v G' Ho=>∃ pv:Value,v=.tuple #[pv,.int .i64 (WrongP k1 k2 l)]∧Ho=[]):=by
 refine Does.enter Tryz.func54 rfl Tryz.ntmps54 rfl (fun w=>?_)
 refine Wc.gl 10 [] ?_
 refine Wl.k0 rfl (by apply c103 <;> first | assumption | omega | rfl) ?_
 refine Wl.q rfl (Qy.notD rfl) ?_
 refine Wl.ll0 1 [] ?_
 apply Wl.joinOr 4 16 20 rfl
 intro hg1
 refine Wl.ll0 3 [] ?_
 refine Wl.k0 rfl (by apply c103 <;> first | assumption | omega | rfl) ?_
 refine Wl.ll0 1 [] ?_
 refine Wl.q rfl (Qy.notD rfl) ?_
 refine Wl.ll0 1 [] ?_
 exact Wl.back 4 0 rfl rfl rfl rfl rfl
 intro hg1
 refine Wl.ll0 4 [] ?_
 exact Wl.back 4 0 rfl rfl rfl rfl rfl
 refine Wl.gc 2 [] ?_
 refine Wc.cond rfl (fun hc1=>?_) (fun hc1=>?_)
 refine Wc.ga 8 [] ?_
 rotate_left
 refine Wc.gc 11 [] ?_
 rotate_left
 · refine Ar.e2 ?_
   exact ⟨_,by rw [wrong_counts (by unfold Parts;omega)],rfl⟩
 have hP:Parts k1∧Parts k2:=by unfold Parts;omega
 refine Wc.loop (ι:=Nat) (fun j=>([(23,.int .i64 (j:Int)),(0,.int .i64 k1),(1,.int .i64 k2),(2,.slice a l.length c),(22,.int .i64 (l.length:Int)),(21,.slice a (List.length l) c)],[])) (fun j=>j≤l.length∧∀ i:Nat,i<j→near (l[i]?.getD default).a (l[i]?.getD default).b) (fun j=>l.length - j) (0) (⟨Nat.zero_le _,fun i h=>absurd h (by omega)⟩) ⟨rfl,rfl,rfl,rfl,rfl,rfl,trivial⟩ trivial (fun j=>fun hk=>?_)
 obtain ⟨hj,hno⟩:=hk
 refine Wc.gc 6 [] ?_
 refine Wc.cond rfl (fun hc2=>?_) (fun hc2=>?_)
 refine Wc.gl 6 [] ?_
 refine Wl.q rfl (Qy.at (α:=R2) T.sl22 rfl rfl (by assumption) (by omega)) ?_
 refine Wl.q rfl (Qy.loadsG T.agg52 rfl (Arr.elem (by assumption) (by omega)) rfl) ?_
 refine Wl.alloc 0 rfl T.zero52 (fun b1=>?_)
 refine Wl.gl 6 [0,0] ?_
 refine Wl.k0 rfl (by apply c72 <;> first | assumption | omega | rfl) ?_
 refine Wl.q rfl (Qy.notD rfl) ?_
 refine Wl.gc 2 [] ?_
 refine Wc.cond rfl (fun hc3=>?_) (fun hc3=>?_)
 refine Wc.ga 12 [] ?_
 rotate_left
 refine Wc.ga 7 [] ?_
 rotate_left
 refine Wc.gl 16 [] ?_
 apply Wl.joinOr 3 38 41 rfl
 intro hg1
 refine Wl.ll0 3 [] ?_
 refine Wl.k0 rfl (c104D _ _ _ _ (by assumption) (by omega)) ?_
 refine Wl.ll0 1 [] ?_
 exact Wl.back 3 0 rfl rfl rfl rfl rfl
 intro hg1
 refine Wl.ll0 3 [] ?_
 exact Wl.back 3 0 rfl rfl rfl rfl rfl
 refine Wl.gc 2 [] ?_
 refine Wc.cond rfl (fun hc3=>?_) (fun hc3=>?_)
 refine Wc.ga 8 [] ?_
 rotate_left
 refine Wc.gl 5 [] ?_
 refine Wl.k 0 rfl (c106 _ _ _ _ (by assumption) (by omega) (by first | assumption | omega)) (fun v1 G1 Ho1 hle1 hp=>?_)
 obtain ⟨ti1,tj1,tb1,rfl,htb1,rfl,rfl⟩:=hp
 refine Wl.gc 15 [] ?_
 refine Wc.ite rfl (fun hc4=>?_) (fun hc4=>?_)
 refine Wc.ga 8 [] ?_
 rotate_left
 refine Wc.gl 7 [] ?_
 refine Wl.k 0 rfl (c33F _ _ _ _ (by assumption) (by omega)) (fun v2 G2 Ho2 hle2 hp=>?_)
 obtain ⟨s2,d2,rfl,hs2,hsd2,rfl⟩:=hp
 refine Wl.q rfl (Qy.build (cs:=[_,_,_]) T.st176 rfl rfl rfl) ?_
 refine Wl.box 0 rfl rfl rfl (fun b1=>?_)
 refine Wl.ga 5 [] ?_
 rotate_left
 · refine Ar.e2 ?_
   exact ⟨_,by rw [wrong_in (fun h=>absurd (h j (by omega)) (by assumption))],rfl⟩
 · refine Ar.re 23 rfl (show _=Value.int .i64 ((j+1:Nat):Int) from rfl) ?_
   refine Ar.again (j+1) ?_ ?_ rfl ⟨rfl,rfl,rfl,rfl,rfl,rfl,trivial⟩ trivial
   · refine ⟨by omega,fun i hi=>?_⟩
     rcases Nat.lt_or_ge i j with h | h
     · exact hno i h
     have e:i=j:=by omega
     subst e;exact Decidable.not_not.1 (by assumption)
   omega
 · have hA:AllIn l:=fun i hi=>hno i (by omega)
   have e:WrongP k1 k2 l=71:=hc3.elim (fun h=>wrong_len hP hA h) (fun h=>wrong_one hP hA (.inl h))
   refine Ar.e2 ?_
   exact ⟨_,by rw [e],rfl⟩
 · have hA:AllIn l:=fun i hi=>hno i (by omega)
   have e:WrongP k1 k2 l=71:=wrong_one hP hA (.inr (htb1.1 (by assumption)))
   refine Ar.e2 ?_
   exact ⟨_,by rw [e],rfl⟩
 have hA:AllIn l:=fun i hi=>hno i (by omega)
 have e:WrongP k1 k2 l=0:=wrong_no hP hA (Classical.byContradiction fun h=>hc3 (.inl h)) (fun h=>h.elim (fun h=>hc3 (.inr h)) (fun h=>absurd (htb1.2 h) (by rw [hc4];decide)))
 refine Ar.e2 ?_
 exact ⟨_,by rw [e],rfl⟩
theorem c87 (G:Imm) (a:Option Addr) (c:Nat) (l:List R2) (ha:Arr G a l) (hl:l.length≤1048576) (hR:RightL l) :
 Does Tryz.prog 87 [.slice a l.length c] G [] (fun v G' Ho=>v=.bool (decide (1=1))∧G'=G∧Ho=[]):=by
 refine Does.enter Tryz.func87 rfl Tryz.ntmps87 rfl (fun w=>?_)
 refine Wc.gc 14 [] ?_
 refine Wc.loop (ι:=Nat) (fun j=>([(7,.int .i64 (j:Int)),(6,.int .i64 (l.length:Int)),(5,.slice a (List.length l) c),(0,.slice a (List.length l) c)],[])) (fun j=>j≤l.length) (fun j=>l.length - j) (0) (Nat.zero_le _) ⟨rfl,rfl,rfl,rfl,trivial⟩ trivial (fun j=>fun (hk:j≤l.length)=>?_)
 refine Wc.gc 6 [] ?_
 refine Wc.cond rfl (fun hc1=>?_) (fun hc1=>?_)
 refine Wc.gl 6 [] ?_
 refine Wl.q rfl (Qy.at (α:=R2) T.sl22 rfl rfl (by assumption) (by omega)) ?_
 refine Wl.q rfl (Qy.loadsG T.agg52 rfl (Arr.elem (by assumption) (by omega)) rfl) ?_
 refine Wl.alloc 0 rfl T.zero52 (fun b1=>?_)
 refine Wl.gl 6 [0,0] ?_
 refine Wl.k0 rfl (by apply c72 <;> first | assumption | omega | rfl) ?_
 refine Wl.q rfl (Qy.notD rfl) ?_
 refine Wl.gc 2 [] ?_
 refine Wc.cond rfl (fun hc2=>?_) (fun hc2=>?_)
 refine Wc.ga 11 [] ?_
 rotate_left
 refine Wc.ga 7 [] ?_
 rotate_left
 refine Wc.gl 11 [] ?_
 apply Wl.joinAnd 4 18 22 rfl
 intro hg1
 refine Wl.ll0 7 [] ?_
 exact Wl.back 4 0 rfl rfl rfl rfl rfl
 intro hg1
 refine Wl.ll0 4 [] ?_
 exact Wl.back 4 0 rfl rfl rfl rfl rfl
 refine Wl.ga 4 [] ?_
 rotate_left
 · exfalso
   have h:=(hR.2.2.1 j (by omega)).1
   exact absurd h (by assumption)
 · refine Ar.re 7 rfl (show _=Value.int .i64 ((j+1:Nat):Int) from rfl) ?_
   refine Ar.again (j+1) ?_ ?_ rfl ⟨rfl,rfl,rfl,rfl,trivial⟩ trivial
   · omega
   omega
 refine Ar.e1 ?_
 have h1:=hR.1
 have h2:=hR.2.1
 exact ⟨by rw [decide_eq_true (by omega),decide_eq_true rfl],rfl,rfl⟩
end Go.Proofs.YtfdcckcadfhpeaaGreatDoor
namespace Go.Proofs.YtfdcckcadfhpeaaGreatDoor
open Go Go.Sl
theorem cmpZ_iff {x y:Int}:cmpZ x y=0↔x=y:=by
 unfold cmpZ
 split
 · omega
 split <;> omega
theorem powR_evenB {a b:Int} {n:Nat} (h:near a b) (hn:n≤15):Below 2 (powR a b n):=fun z hz=>by
 rw [pb2_pw4];exact (powR_even h hn).2 z hz
theorem c155S (G:Imm) (p:PV) (ac ao ga:Option Addr) (cc co gc:Nat) (gl:List SV) (gs:List (List Int)) (m N:Nat) (hc:Arr G ac p.code) (ho:Arr G ao p.outs) (hga:Arr G ga gl) (hgg:BGrid G gl gs) (hev:EvenB m N gs) (hmm:m≤1048576) (hN:N≤4096) (hR:rightP p=true) (hgi:(gl.length:Int)=p.ins) (os:List (List Int)) (hf:followP p gs=some os) :
 Does Tryz.prog 155 [.agg #[.int .i64 p.ins,.int .i64 p.regs,.slice ac p.code.length cc,.slice ao p.outs.length co],.slice ga gl.length gc] G [] (fun v G' Ho=>∃ b r c',v=.tuple #[.slice b (List.length r) c',.int .i64 0,.int .i64 0]∧Arr G' b r∧BGrid G' r os∧EvenB (m+3*p.code.length) N os∧Ho=[]):=by
 refine (c155 G p ac ao ga cc co gc gl gs m N hc ho hga hgg hev hmm hN hR hgi).mono fun v G' Ho _ h=>?_
 obtain ⟨h0,⟨os2,b,r,c',h1,h2,h3,h4,h5,h6⟩ | ⟨h1,_⟩⟩:=h
 · rw [hf] at h1
   obtain rfl:=Option.some.inj h1
   exact ⟨b,r,c',h2,h3,h5,h6,h0⟩
 rw [hf] at h1;cases h1
set_option maxHeartbeats 4000000
attribute [local irreducible] valB valL pb pw cmpZ lstWp p2 powR gridR followP rightP unitR cst doI
theorem c108 (G:Imm) (p:PV) (ac ao a:Option Addr) (cc co c k:Nat) (l:List R2) (hc:Arr G ac p.code) (ho:Arr G ao p.outs) (ha:Arr G a l) (hcl:p.code.length≤16384) (hol:p.outs.length≤1099511627776) (hRL:RightL l) (hR:rightP p=true) (hk1:1≤k) (hk8:k≤8) :
 Does Tryz.prog 108 [.agg #[.int .i64 p.ins,.int .i64 p.regs,.slice ac p.code.length cc,.slice ao p.outs.length co],.int .i64 (k:Int),.slice a l.length c] G [] (fun v G' Ho=>v=.tuple #[.bool (decide (EvalP p (k:Int) l)),.int .i64 0]∧Ho=[]):=by
 have hl15:l.length≤15:=hRL.2.1
 have hnr:∀ i:Nat,i<l.length→near (l[i]?.getD default).a (l[i]?.getD default).b:=fun i hi=>(hRL.2.2.1 i hi).1
 refine Does.enter Tryz.func108 rfl Tryz.ntmps108 rfl (fun w=>?_)
 refine Wc.gl 2 [] ?_
 refine Wl.box 0 rfl rfl rfl (fun b1=>?_)
 refine Wl.gl 10 [] ?_
 refine Wl.no 22 rfl (by first | assumption | omega) ?_
 refine Wl.ll0 6 [] ?_
 refine Wl.no 26 rfl (by first | assumption | omega) ?_
 refine Wl.ll0 3 [] ?_
 refine Wl.k0 rfl (c87 _ _ _ _ (by assumption) (by omega) hRL) ?_
 refine Wl.ll0 1 [] ?_
 refine Wl.q rfl (Qy.notD rfl) ?_
 refine Wl.gl 9 [0,0] ?_
 refine Wl.k0 rfl (c56R _ p _ _ _ _ (by assumption) (by assumption) (by omega) hol hR) ?_
 refine Wl.gl 25 [0,0] ?_
 apply Wl.joinOr 7 43 50 rfl
 intro hg1
 refine Wl.ll0 13 [0] ?_
 exact Wl.back 7 0 rfl rfl rfl rfl rfl
 intro hg1
 refine Wl.ll0 7 [] ?_
 exact Wl.back 7 0 rfl rfl rfl rfl rfl
 refine Wl.gc 2 [] ?_
 refine Wc.cond rfl (fun hc1=>?_) (fun hc1=>?_)
 refine Wc.ga 8 [] ?_
 rotate_left
 refine Wc.gc 12 [0] ?_
 rotate_left
 · refine Ar.e2 ?_
   exact ⟨by rw [decide_eq_false (fun h=>hc1.elim (fun h2=>h2 h.1) (fun h2=>h2 (by have:=h.2.1;omega)))],rfl⟩
 have hI:p.ins=(k:Int):=Classical.byContradiction fun h=>hc1 (.inl h)
 have hO:p.outs.length=l.length:=Classical.byContradiction fun h=>hc1 (.inr (by omega))
 refine Wc.loop (ι:=Nat) (fun j=>([(54,.int .i64 (j:Int)),(1,.int .i64 (k:Int)),(2,.slice a l.length c),(53,.int .i64 (↑(List.length (PV.code p)):Int)),(52,.slice ac (List.length (PV.code p)) cc),(9,.int .i64 0),(3,.pointer (some ⟨b1,0,none⟩))],[(0,some b1,.cells #[.int .i64 (PV.ins p),.int .i64 (PV.regs p),.slice ac (List.length (PV.code p)) cc,.slice ao (List.length (PV.outs p)) co] 26)])) (fun j=>j≤p.code.length∧∀ i:Nat,i<j→¬((p.code[i]?.getD default).op=6∨(p.code[i]?.getD default).op=8)) (fun j=>p.code.length - j) (0) (⟨Nat.zero_le _,fun i h=>absurd h (by omega)⟩) ⟨rfl,rfl,rfl,rfl,rfl,rfl,rfl,trivial⟩ ⟨rfl,trivial⟩ (fun j=>fun hk=>?_)
 obtain ⟨hj,hno⟩:=hk
 rcases Nat.lt_or_ge j p.code.length with hjl | hjl
 · refine Wc.gl 13 [1] ?_
   refine Wl.q rfl (Qy.at (α:=Sl.Instr) T.sl23 rfl rfl (by assumption) (by omega)) ?_
   refine Wl.q rfl (Qy.loadsG T.agg91 rfl (Arr.elem (by assumption) (by omega)) rfl) ?_
   refine Wl.alloc 1 rfl T.zero91 (fun b2=>?_)
   refine Wl.gl 9 [1,1] ?_
   apply Wl.joinOr 4 61 65 rfl
   intro hg1
   refine Wl.ll0 7 [1] ?_
   exact Wl.back 4 0 rfl rfl rfl rfl rfl
   intro hg1
   refine Wl.ll0 4 [] ?_
   exact Wl.back 4 0 rfl rfl rfl rfl rfl
   refine Wl.gc 2 [] ?_
   refine Wc.cond rfl (fun hc2=>?_) (fun hc2=>?_)
   refine Wc.ga 12 [] ?_
   rotate_left
   refine Wc.ga 7 [] ?_
   rotate_left
   · refine Ar.e2 ?_
     refine ⟨by rw [decide_eq_false (fun h=>h.2.2.1 (p.code[j]?.getD default) (by rw [List.getElem?_eq_getElem hjl];exact List.getElem_mem _) (by assumption))],rfl⟩
   refine Ar.re 54 rfl (show _=Value.int .i64 ((j+1:Nat):Int) from rfl) ?_
   refine Ar.again (j+1) ?_ ?_ rfl ⟨rfl,rfl,rfl,rfl,rfl,rfl,rfl,trivial⟩ ⟨rfl,trivial⟩
   · refine ⟨by omega,fun i hi=>?_⟩
     rcases Nat.lt_or_ge i j with h | h
     · exact hno i h
     have e:i=j:=by omega
     subst e;assumption
   show p.code.length - (j+1)<p.code.length - j
   omega
 have hND:NoDiv p:=fun i hi=>by
  obtain ⟨t,ht,rfl⟩:=List.mem_iff_getElem.1 hi
  have:=hno t (by omega)
  rw [List.getElem?_eq_getElem ht] at this
  exact this
 obtain ⟨os,hf⟩:=noDiv_follow hND (unitsR k)
 have hosl:os.length=l.length:=by rw [follow_len hf,hO]
 have hiff:EvalP p (k:Int) l↔∀ t:Nat,t<l.length→os[t]?.getD []=powR (l[t]?.getD default).a (l[t]?.getD default).b k:=by
  rw [←evals_eq hosl]
  unfold EvalP
  rw [Int.toNat_natCast,hf]
  exact ⟨fun h=>Option.some.inj h.2.2.2,fun h=>⟨hI,hO,hND,by rw [h]⟩⟩
 refine Wc.gc 13 [0] ?_
 refine Wc.draw [0] [] T.mixed rfl ?_
 refine Gm.c 0 [0] [0] ?_
 refine Gm.c 1 [] [] ?_
 refine Gm.o1 2 ?_
 refine Wl.k 1 rfl (c156 _ k (by omega)) (fun v1 G1 Ho1 hle1 hp=>?_)
 obtain ⟨us1,ur1,uc1,rfl,huA1,huB1,huL1,rfl⟩:=hp
 replace hc:=hc.up hle1
 replace ho:=ho.up hle1
 replace ha:=ha.up hle1
 refine Wl.on0 ?_
 refine Gm.o1 3 ?_
 refine Wl.k 1 rfl (c155S _ p _ _ _ _ _ _ _ (unitsR k) 2 k (by assumption) (by assumption) (by assumption) (by assumption) (even_evenB (unitsR_even k)) (by omega) (by omega) hR (by rw [huB1.1,unitsR_len];omega) os hf) (fun v2 G2 Ho2 hle2 hp=>?_)
 obtain ⟨ob2,or2,oc2,rfl,hoA2,hoB2,hoE2,rfl⟩:=hp
 replace huA1:=huA1.up hle2
 replace hc:=hc.up hle2
 replace ho:=ho.up hle2
 replace ha:=ha.up hle2
 refine Wl.on0 ?_
 refine Gm.c 4 [] [] ?_
 refine Gm.c 5 [] [] ?_
 refine Gm.c 6 [] [] ?_
 refine Gm.c 7 [] [] ?_
 refine Gm.c 8 [] [] ?_
 refine Gm.c 9 [] [] ?_
 refine Gm.c 10 [] [] ?_
 refine Gm.fin ?_
 refine Ar.gc 20 [0] ?_
 have hol2:or2.length=l.length:=by rw [hoB2.1];exact hosl
 refine Wc.loopG (ι:=Nat×Imm) (fun (i,Gx)=>([(79,.int .i64 (i:Int)),(1,.int .i64 (k:Int)),(2,.slice a l.length c),(78,.int .i64 (l.length:Int)),(77,.slice a (List.length l) c),(12,.slice ob2 (List.length or2) oc2)],[(0,some b1,.cells #[.int .i64 (PV.ins p),.int .i64 (PV.regs p),.slice ac (List.length (PV.code p)) cc,.slice ao (List.length (PV.outs p)) co] 26)])) (fun (i,Gx)=>Gx) (fun (i,Gx)=>i≤l.length∧G2.le Gx∧∀ t:Nat,t<i→os[t]?.getD []=powR (l[t]?.getD default).a (l[t]?.getD default).b k) (fun (i,Gx)=>l.length - i) ((0,G2)) (⟨Nat.zero_le _,Imm.le_refl _,fun t ht=>absurd ht (by omega)⟩) rfl ⟨rfl,rfl,rfl,rfl,rfl,rfl,trivial⟩ ⟨rfl,trivial⟩ (fun ⟨i,Gx⟩=>fun hk=>?_)
 obtain ⟨hi0,hgx,hall⟩:=hk
 replace ha:=ha.up hgx
 replace hoA2:=hoA2.up hgx
 rcases Nat.lt_or_ge i l.length with hil | hil
 · have hnear:near (l[((i:Nat):Int).toNat]?.getD default).a (l[((i:Nat):Int).toNat]?.getD default).b:=hnr i hil
   refine Wc.gl 14 [1] ?_
   refine Wl.q rfl (Qy.at (α:=R2) T.sl22 rfl rfl (by assumption) (by omega)) ?_
   refine Wl.q rfl (Qy.loadsG T.agg52 rfl (Arr.elem (by assumption) (by omega)) rfl) ?_
   refine Wl.alloc 1 rfl T.zero52 (fun b2=>?_)
   refine Wl.gl 8 [1,1] ?_
   refine Wl.k 2 rfl (c157 _ _ _ k hnear (by omega)) (fun v3 G3 Ho3 hle3 hp=>?_)
   obtain ⟨ps3,pr3,pc3,rfl,hpA3,hpB3,hpL3,rfl⟩:=hp
   replace ha:=ha.up hle3
   replace hoA2:=hoA2.up hle3
   refine Wl.gl 11 [] ?_
   refine Wl.q rfl (Qy.at (α:=SV) T.sl237 rfl rfl (by assumption) (by omega)) ?_
   refine Wl.q rfl (Qy.loadG T.one68 rfl (Arr.cell (by assumption) (by omega) 0 rfl rfl)) ?_
   refine Wl.gc 5 [] ?_
   obtain ⟨q,hq1,hq2,hq3,hq4⟩:=(hoB2.up (Imm.le_trans hgx hle3)).2 i (by omega)
   have hE:=hoE2.at (k:=i) (by omega)
   have hql:q.length=k:=hq4.1.trans hE.1
   have hP:Below 2 (powR (l[i]?.getD default).a (l[i]?.getD default).b k):=powR_evenB (hnr i hil) (by omega)
   have hpl:pr3.length=k:=hpB3.1.trans (powR_len _ _ _)
   refine Wc.re 93 rfl (show _=Value.slice (or2[((i:Nat):Int).toNat]?.getD default).a q.length (or2[((i:Nat):Int).toNat]?.getD default).c by rw [hq1];rfl) ?_
   refine Wc.re 94 rfl (show _=Value.int .i64 (q.length:Int) by rw [hq1];rfl) ?_
   refine Wc.loop (ι:=Nat) (fun j=>([(95,.int .i64 (j:Int)),(93,.slice (or2[((i:Nat):Int).toNat]?.getD default).a q.length (or2[((i:Nat):Int).toNat]?.getD default).c),(94,.int .i64 (q.length:Int)),(16,.slice ps3 pr3.length pc3),(12,.slice ob2 or2.length oc2),(1,.int .i64 (k:Int)),(2,.slice a l.length c),(77,.slice a l.length c),(78,.int .i64 (l.length:Int)),(79,.int .i64 (i:Int))],[(1,some b2,.cells (List.toArray (Cells.enc (Option.getD l[Int.toNat (↑i:Int)]? default))) 52),(0,some b1,.cells #[.int .i64 (PV.ins p),.int .i64 (PV.regs p),.slice ac (List.length (PV.code p)) cc,.slice ao (List.length (PV.outs p)) co] 26)])) (fun j=>j≤k∧∀ t:Nat,t<j→(os[i]?.getD [])[t]?.getD 0=(powR (l[i]?.getD default).a (l[i]?.getD default).b k)[t]?.getD 0) (fun j=>k - j) (0) (⟨Nat.zero_le _,fun i h=>absurd h (by omega)⟩) ⟨rfl,rfl,rfl,rfl,rfl,rfl,rfl,rfl,rfl,rfl,trivial⟩ ⟨rfl,rfl,trivial⟩ (fun j=>fun hk=>?_)
   obtain ⟨hj9,hjj⟩:=hk
   rcases Nat.lt_or_ge j k with hjk | hjk
   · have hx:=hq4.at (k:=(j:Int)) (by omega)
     have hy:=hpB3.at (k:=(j:Int)) (by omega)
     have hxn:=Big.len hx (hE.2.at _)
     have hyn:=Big.len hy (hP.at _)
     refine Wc.gl 14 [1] ?_
     refine Wl.q rfl (Qy.at (α:=IV) T.sl68 rfl rfl (by assumption) (by omega)) ?_
     refine Wl.q rfl (Qy.loadsG T.agg125 rfl (Arr.elem (by assumption) (by omega)) rfl) ?_
     refine Wl.alloc 2 rfl T.zero125 (fun b3=>?_)
     refine Wl.gc 5 [2] ?_
     refine Wc.draw [0,1,2] [] T.mixed rfl ?_
     refine Gm.c 0 [2] [2] ?_
     refine Gm.c 1 [] [] ?_
     refine Gm.c 2 [] [] ?_
     refine Gm.u 3 [] rfl (Qy.at (α:=IV) T.sl68 rfl rfl (by assumption) (by omega)) ?_
     refine Gm.u 4 [] rfl (Qy.loadsG T.agg125 rfl (Arr.elem (by assumption) (by omega)) rfl) ?_
     refine Gm.o1 5 ?_
     refine Wl.k0 rfl (c137 _ _ _ _ _ hx hy (by omega) (by omega)) ?_
     refine Wl.on0 ?_
     refine Gm.c 6 [] [] ?_
     refine Gm.fin ?_
     refine Ar.next ?_
     refine Wc.cond rfl (fun hc2=>?_) (fun hc2=>?_)
     refine Wc.ga 16 [] ?_
     rotate_left
     refine Wc.ga 7 [] ?_
     rotate_left
     · refine Ar.e2 ?_
       have hne:¬((os[i]?.getD [])[j]?.getD 0=(powR (l[i]?.getD default).a (l[i]?.getD default).b k)[j]?.getD 0):=fun h=>absurd (cmpZ_iff.2 h) (by assumption)
       exact ⟨by rw [decide_eq_false (fun h=>hne (by rw [hiff.1 h i hil]))],rfl⟩
     refine Ar.re 95 rfl (show _=Value.int .i64 ((j+1:Nat):Int) from rfl) ?_
     refine Ar.again (j+1) ?_ ?_ rfl ⟨rfl,rfl,rfl,rfl,rfl,rfl,rfl,rfl,rfl,rfl,trivial⟩ ⟨rfl,rfl,trivial⟩
     · refine ⟨by omega,fun t ht=>?_⟩
       rcases Nat.lt_or_ge t j with h | h
       · exact hjj t h
       have e:t=j:=by omega
       subst e;exact cmpZ_iff.1 (Decidable.not_not.1 (by assumption))
     show k - (j+1)<k - j
     omega
   have hjk:j=k:=by omega
   subst hjk
   refine Wc.ga 17 [0] ?_
   refine Ar.re 79 rfl (show _=Value.int .i64 ((i+1:Nat):Int) from rfl) ?_
   refine Ar.again ((i+1,G3)) ?_ ?_ rfl ⟨rfl,rfl,rfl,rfl,rfl,rfl,trivial⟩ ⟨rfl,trivial⟩
   · refine ⟨by omega,Imm.le_trans hgx hle3,fun t ht=>?_⟩
     rcases Nat.lt_or_ge t i with h | h
     · exact hall t h
     have e:t=i:=by omega
     subst e
     exact (rows_eq hE.1 (powR_len _ _ _)).2 hjj
   show l.length - (i+1)<l.length - i
   omega
 refine Wc.ga 19 [0] ?_
 refine Ar.e2 ?_
 exact ⟨by rw [decide_eq_true (hiff.2 (fun t ht=>hall t (by omega)))],rfl⟩
end Go.Proofs.YtfdcckcadfhpeaaGreatDoor
namespace Go.Proofs.YtfdcckcadfhpeaaGreatDoor
open Go Go.Sl
set_option maxHeartbeats 4000000
attribute [local irreducible] valB valL pb pw cmpZ lstWp p2 powR gridR followP rightP unitR
theorem c117 (G:Imm) (x y:IV) (zx zy:Int) (hx:Num G x zx) (hy:Num G y zy) (h1:x.n≤1073741824) (h2:y.n≤1073741824) :
 Does Tryz.prog 117 [.agg (Cells.enc x).toArray,.agg (Cells.enc y).toArray] G [] (fun v G' Ho=>v=.bool (decide (zx=zy))∧G'=G∧Ho=[]):=by
 refine Does.enter Tryz.func117 rfl Tryz.ntmps117 rfl (fun w=>?_)
 refine Wc.gl 2 [] ?_
 refine Wl.box 0 rfl rfl rfl (fun b1=>?_)
 refine Wl.box 1 rfl rfl rfl (fun b2=>?_)
 refine Wl.gl 7 [0,1] ?_
 refine Wl.k0 rfl (num_cmp _ _ _ _ _ (by assumption) (by assumption) (by omega) (by omega)) ?_
 refine Wl.ga 5 [] ?_
 refine Ar.out1 (.inr rfl) (Ho:=[]) rfl (.tmp rfl) trivial ?_
 exact ⟨by congr 1;exact decide_eq_decide.mpr cmpZ_zeroN,rfl,rfl⟩
theorem c115 (G:Imm) (k:Nat) (hk15:k≤15):Does Tryz.prog 115 [.int .i64 (k:Int)] G [] (fun v G' Ho=>∃ (s:Option Addr) (r:List SV) (c':Nat),v=.slice s r.length c'∧Arr G' s r∧NGrid G' r (unitsR k)∧r.length≤c'∧Ho=[]):=by
 refine Does.enter Tryz.func115 rfl Tryz.ntmps115 rfl (fun w=>?_)
 refine Wc.nilRow 9 (Row 191 ([]:List SV) []) ?_
 refine Wc.gc 17 [] ?_
 refine Wc.loopG (ι:=Nat×Imm×List SV×(Option Addr×Nat×List Value)) (fun (i,Gx,r,(o,d,j))=>([(4,.int .i64 (i:Int)),(3,.slice o r.length d),(2,.slice none 0 0),(0,.int .i64 (↑k:Int))],[(9,o.map (·.block),Row 191 r j)])) (fun (i,Gx,r,(o,d,j))=>Gx) (fun (i,Gx,r,(o,d,j))=>i≤k∧G.le Gx∧r.length=i∧NGrid Gx r ((unitsR k).take i)∧OwnA o d r j) (fun (i,Gx,r,(o,d,j))=>k - i) ((0,G,[],(none,0,[]))) (⟨Nat.zero_le _,Imm.le_refl _,rfl,by rw [List.take_zero];exact NGrid.nil _,OwnA.nil⟩) rfl ⟨rfl,rfl,rfl,rfl,trivial⟩ ⟨rfl,trivial⟩ (fun ⟨i,Gx,r,(o,d,j)⟩=>fun hk=>?_)
 obtain ⟨hi1,hi2,hi3,hi4,hi5⟩:=hk
 rcases Nat.lt_or_ge i k with hil | hil
 · refine Wc.gl 16 [1] ?_
   refine Wl.make (α:=IV) 10 rfl T.sl191 T.el190 rfl rfl (by omega) (by omega) (fun b1=>?_)
   refine Wl.gl 7 [] ?_
   refine Wl.k 11 rfl (c120 _ 1 (by decide)) (fun v1 G1 Ho1 hle1 hp=>?_)
   obtain ⟨ro1,rfl,hro1,rfl⟩:=hp
   have ho2:OwnA (some ⟨b1,0,none⟩) (List.replicate ((k:Int)).toNat (default:IV)).length (List.replicate ((k:Int)).toNat (default:IV)) []:=OwnA.made (by rw [List.length_replicate];simp only [maxLen];omega)
   refine Wl.q rfl (Qy.indexAddrO (α:=IV) T.sl191 rfl rfl ho2 (by rw [List.length_replicate];omega)) ?_
   refine Wl.setO (α:=IV) (z:=ro1) (m:=((i:Nat):Int)) 10 T.size190 rfl rfl rfl ho2 (by rw [List.length_replicate];omega) rfl (fun ho3=>?_)
   refine Wl.freezeRow 10 rfl ho3 (fun G3 hle3 hA3=>?_)
   refine Wl.gl 5 [] ?_
   refine Wl.lit (α:=SV) 11 [⟨_,_,_⟩] rfl T.sl182 T.el191 rfl rfl rfl rfl rfl (fun b2=>?_)
   refine Wl.append (α:=SV) 9 rfl T.sl182 T.el191 rfl rfl rfl (by first | assumption | exact OwnA.nil | exact OwnA.made (by simp)) (Src.row 11 rfl) (by first | omega | (simp only [List.length_append,List.length_cons,List.length_nil,maxLen];omega)) (by first | omega | (simp only [List.length_append,List.length_cons,List.length_nil,maxLen];omega)) (fun a1 c1 junk1 ho1=>?_)
   refine Wl.ga 9 [] ?_
   refine Ar.again ((i+1,_,r++[⟨some ⟨b1,0,none⟩,(List.replicate ((k:Int)).toNat (default:IV)).length,(List.replicate ((k:Int)).toNat (default:IV)).length⟩],(a1,c1,junk1))) ?_ ?_ rfl ⟨rfl,rfl,rfl,rfl,trivial⟩ ⟨rfl,trivial⟩
   · refine ⟨by omega,Imm.le_trans hi2 (Imm.le_trans hle1 hle3),by rw [List.length_append,hi3];rfl,?_,ho1⟩
     have e:(unitsR k).take (i+1)=(unitsR k).take i++[unitR k i]:=by
      rw [List.take_add_one]
      congr 1
      unfold unitsR
      rw [List.getElem?_map,List.getElem?_range hil];rfl
     rw [e]
     exact NGrid.snoc (hi4.up (Imm.le_trans hle1 hle3)) ⟨_,by rw [List.length_set],Nat.le_refl _,hA3,(unit_nums hro1 hil).up hle3⟩
   show k - (i+1)<k - i
   omega
 have hie:i=k:=by omega
 subst hie
 have e:(unitsR i).take i=unitsR i:=List.take_of_length_le (by rw [unitsR_len];exact Nat.le_refl _)
 rw [e] at hi4
 refine Wc.ga 21 [0] ?_
 refine Ar.freezeRow 9 rfl hi5 (fun G8 hle8 hA8=>?_)
 refine Ar.out1 (.inr rfl) (Ho:=[]) rfl (.tmp rfl) trivial ?_
 exact ⟨_,_,_,rfl,hA8,hi4.up hle8,hi5.le,rfl⟩
end Go.Proofs.YtfdcckcadfhpeaaGreatDoor
namespace Go.Proofs.YtfdcckcadfhpeaaGreatDoor
open Go Go.Sl
set_option maxHeartbeats 4000000
attribute [local irreducible] valB valL pb pw cmpZ lstWp p2 powR gridR followP rightP unitR
theorem c58 (G:Imm) (p:PV) (ac ao a:Option Addr) (cc co c k:Nat) (l:List R2) (hc:Arr G ac p.code) (ho:Arr G ao p.outs) (ha:Arr G a l) (hcl:p.code.length≤16384) (hol:p.outs.length≤1099511627776) (hl15:l.length≤15) (hnr:∀ i:Nat,i<l.length→near (l[i]?.getD default).a (l[i]?.getD default).b) (hR:rightP p=true) (hk1:1≤k) (hk8:k≤8) :
 Does Tryz.prog 58 [.agg #[.int .i64 p.ins,.int .i64 p.regs,.slice ac p.code.length cc,.slice ao p.outs.length co],.int .i64 (k:Int),.slice a l.length c] G [] (fun v G' Ho=>v=.bool (decide (EvalP p (k:Int) l))∧Ho=[]):=by
 refine Does.enter Tryz.func58 rfl Tryz.ntmps58 rfl (fun w=>?_)
 refine Wc.gl 2 [] ?_
 refine Wl.box 0 rfl rfl rfl (fun b1=>?_)
 refine Wl.gl 11 [0] ?_
 apply Wl.joinOr 7 18 25 rfl
 intro hg1
 refine Wl.ll0 13 [0] ?_
 exact Wl.back 7 0 rfl rfl rfl rfl rfl
 intro hg1
 refine Wl.ll0 7 [] ?_
 exact Wl.back 7 0 rfl rfl rfl rfl rfl
 refine Wl.gc 2 [] ?_
 refine Wc.cond rfl (fun hc1=>?_) (fun hc1=>?_)
 refine Wc.ga 7 [] ?_
 rotate_left
 refine Wc.gc 9 [] ?_
 rotate_left
 · refine Ar.out1 (.inr rfl) (Ho:=[]) rfl (.tmp rfl) trivial ?_
   exact ⟨by rw [decide_eq_false (fun h=>hc1.elim (fun h2=>h2 h.1) (fun h2=>h2 (by have:=h.2.1;omega)))],rfl⟩
 have hI:p.ins=(k:Int):=Classical.byContradiction fun h=>hc1 (.inl h)
 have hO:p.outs.length=l.length:=Classical.byContradiction fun h=>hc1 (.inr (by omega))
 refine Wc.loop (ι:=Nat) (fun j=>([(7,.int .i64 (j:Int)),(1,.int .i64 (k:Int)),(2,.slice a l.length c),(3,.pointer (some ⟨b1,0,none⟩))],[(0,some b1,.cells #[.int .i64 (PV.ins p),.int .i64 (PV.regs p),.slice ac (List.length (PV.code p)) cc,.slice ao (List.length (PV.outs p)) co] 26)])) (fun j=>j≤p.code.length∧∀ i:Nat,i<j→¬((p.code[i]?.getD default).op=6∨(p.code[i]?.getD default).op=8)) (fun j=>p.code.length - j) (0) (⟨Nat.zero_le _,fun i h=>absurd h (by omega)⟩) ⟨rfl,rfl,rfl,rfl,trivial⟩ ⟨rfl,trivial⟩ (fun j=>fun hk=>?_)
 obtain ⟨hj,hno⟩:=hk
 rcases Nat.lt_or_ge j p.code.length with hjl | hjl
 · refine Wc.gl 20 [0,1,0] ?_
   refine Wl.q rfl (Qy.at (α:=Sl.Instr) T.sl23 rfl rfl (by assumption) (by omega)) ?_
   refine Wl.ll0 1 [] ?_
   refine Wl.q rfl (Qy.loadG T.one3 rfl (Arr.cell (by assumption) (by omega) 0 rfl rfl)) ?_
   refine Wl.ll0 2 [] ?_
   apply Wl.joinOr 8 40 48 rfl
   intro hg1
   refine Wl.ll0 7 [0] ?_
   refine Wl.q rfl (Qy.at (α:=Sl.Instr) T.sl23 rfl rfl (by assumption) (by omega)) ?_
   refine Wl.ll0 3 [] ?_
   refine Wl.q rfl (Qy.loadG T.one3 rfl (Arr.cell (by assumption) (by omega) 0 rfl rfl)) ?_
   refine Wl.ll0 3 [] ?_
   exact Wl.back 8 0 rfl rfl rfl rfl rfl
   intro hg1
   refine Wl.ll0 8 [] ?_
   exact Wl.back 8 0 rfl rfl rfl rfl rfl
   refine Wl.gc 2 [] ?_
   refine Wc.cond rfl (fun hc2=>?_) (fun hc2=>?_)
   refine Wc.ga 11 [] ?_
   rotate_left
   refine Wc.ga 8 [] ?_
   rotate_left
   · refine Ar.out1 (.inr rfl) (Ho:=[]) rfl (.tmp rfl) trivial ?_
     refine ⟨by rw [decide_eq_false (fun h=>h.2.2.1 (p.code[j]?.getD default) ?_ (by assumption))],rfl⟩
     rw [List.getElem?_eq_getElem hjl];exact List.getElem_mem _
   refine Ar.again (j+1) ?_ ?_ rfl ⟨rfl,rfl,rfl,rfl,trivial⟩ ⟨rfl,trivial⟩
   · refine ⟨by omega,fun i hi=>?_⟩
     rcases Nat.lt_or_ge i j with h | h
     · exact hno i h
     have e:i=j:=by omega
     subst e;assumption
   show p.code.length - (j+1)<p.code.length - j
   omega
 have hND:NoDiv p:=fun i hi=>by
  obtain ⟨t,ht,rfl⟩:=List.mem_iff_getElem.1 hi
  have:=hno t (by omega)
  rw [List.getElem?_eq_getElem ht] at this
  exact this
 obtain ⟨os,hf⟩:=noDiv_follow hND (unitsR k)
 have hosl:os.length=l.length:=by rw [follow_len hf,hO]
 have hose:=follow_even hR (unitsR_even k) (by rw [unitsR_len];omega) hf
 have hiff:EvalP p (k:Int) l↔∀ t:Nat,t<l.length→os[t]?.getD []=powR (l[t]?.getD default).a (l[t]?.getD default).b k:=by
  rw [←evals_eq hosl]
  unfold EvalP
  rw [Int.toNat_natCast,hf]
  exact ⟨fun h=>Option.some.inj h.2.2.2,fun h=>⟨hI,hO,hND,by rw [h]⟩⟩
 refine Wc.gc 17 [0,0] ?_
 refine Wc.draw [0] [] T.mixed rfl ?_
 refine Gm.c 0 [0] [0] ?_
 refine Gm.c 1 [] [] ?_
 refine Gm.o1 2 ?_
 refine Wl.k 1 rfl (c115 _ k (by omega)) (fun v1 G1 Ho1 hle1 hp=>?_)
 obtain ⟨us1,ur1,uc1,rfl,huA1,huB1,huL1,rfl⟩:=hp
 replace hc:=hc.up hle1
 replace ho:=ho.up hle1
 replace ha:=ha.up hle1
 refine Wl.on0 ?_
 refine Gm.o1 3 ?_
 refine Wl.k 1 rfl (follow_some _ p _ _ _ _ _ _ _ (unitsR k) k (by assumption) (by assumption) (by assumption) (ngrid_grid huB1) (unitsR_even k) (by omega) hR (by rw [huB1.1,unitsR_len];omega) hcl os hf) (fun v2 G2 Ho2 hle2 hp=>?_)
 obtain ⟨sv2,oa2,oc2,ol2,rfl,hoA2,hoG2,rfl⟩:=hp
 replace huA1:=huA1.up hle2
 replace hc:=hc.up hle2
 replace ho:=ho.up hle2
 replace ha:=ha.up hle2
 refine Wl.on0 ?_
 refine Gm.c 4 [] [] ?_
 refine Gm.c 5 [] [] ?_
 refine Gm.c 6 [] [] ?_
 refine Gm.c 7 [] [] ?_
 refine Gm.c 8 [] [] ?_
 refine Gm.c 9 [] [] ?_
 refine Gm.c 10 [] [] ?_
 refine Gm.fin ?_
 refine Ar.gc 8 [] ?_
 have hol2:ol2.length=l.length:=by rw [hoG2.1];exact hosl
 refine Wc.loopG (ι:=Nat×Imm) (fun (i,Gx)=>([(11,.int .i64 (i:Int)),(10,.slice oa2 (List.length ol2) oc2),(1,.int .i64 (↑k:Int)),(2,.slice a (List.length l) c)],[(0,some b1,.cells #[.int .i64 (PV.ins p),.int .i64 (PV.regs p),.slice ac (List.length (PV.code p)) cc,.slice ao (List.length (PV.outs p)) co] 26)])) (fun (i,Gx)=>Gx) (fun (i,Gx)=>i≤l.length∧G2.le Gx∧∀ t:Nat,t<i→os[t]?.getD []=powR (l[t]?.getD default).a (l[t]?.getD default).b k) (fun (i,Gx)=>l.length - i) ((0,G2)) (⟨Nat.zero_le _,Imm.le_refl _,fun t ht=>absurd ht (by omega)⟩) rfl ⟨rfl,rfl,rfl,rfl,trivial⟩ ⟨rfl,trivial⟩ (fun ⟨i,Gx⟩=>fun hk=>?_)
 obtain ⟨hi0,hgx,hall⟩:=hk
 replace ha:=ha.up hgx
 replace hoA2:=hoA2.up hgx
 rcases Nat.lt_or_ge i l.length with hil | hil
 · have hnear:near (l[((i:Nat):Int).toNat]?.getD default).a (l[((i:Nat):Int).toNat]?.getD default).b:=hnr i hil
   refine Wc.gl 18 [1] ?_
   refine Wl.q rfl (Qy.at (α:=R2) T.sl22 rfl rfl (by assumption) (by omega)) ?_
   refine Wl.q rfl (Qy.loadsG T.agg52 rfl (Arr.elem (by assumption) (by omega)) rfl) ?_
   refine Wl.ll0 1 [] ?_
   refine Wl.k 1 rfl (c116 _ _ _ k hnear (by omega)) (fun v3 G3 Ho3 hle3 hp=>?_)
   obtain ⟨ps3,pr3,pc3,rfl,hpA3,hpB3,hpL3,rfl⟩:=hp
   replace ha:=ha.up hle3
   replace hoA2:=hoA2.up hle3
   refine Wl.gc 9 [] ?_
   obtain ⟨q,hq1,hq2,hq3,hq4⟩:RowS G3 (ol2[((i:Nat):Int).toNat]?.getD default) (os[i]?.getD []):=(hoG2.up (Imm.le_trans hgx hle3)).2 i (by omega)
   have hE:=hose.at (k:=(i:Int)) (by omega)
   rw [Int.toNat_natCast] at hE
   have hql:q.length=k:=hq4.1.trans hE.1
   have hP:Go.Sl.Below 4 (powR (l[i]?.getD default).a (l[i]?.getD default).b k):=(powR_even (hnr i hil) (by omega)).2
   have hpl:pr3.length=k:=hpB3.1.trans (powR_len _ _ _)
   refine Wc.loop (ι:=Nat) (fun j=>([(13,.int .i64 (j:Int)),(1,.int .i64 (k:Int)),(10,.slice oa2 ol2.length oc2),(11,.int .i64 (i:Int)),(12,.slice ps3 pr3.length pc3),(2,.slice a l.length c)],[(0,some b1,.cells #[.int .i64 (PV.ins p),.int .i64 (PV.regs p),.slice ac (List.length (PV.code p)) cc,.slice ao (List.length (PV.outs p)) co] 26)])) (fun j=>j≤k∧∀ t:Nat,t<j→(os[i]?.getD [])[t]?.getD 0=(powR (l[i]?.getD default).a (l[i]?.getD default).b k)[t]?.getD 0) (fun j=>k - j) (0) (⟨Nat.zero_le _,fun i h=>absurd h (by omega)⟩) ⟨rfl,rfl,rfl,rfl,rfl,rfl,trivial⟩ ⟨rfl,trivial⟩ (fun j=>fun hk=>?_)
   obtain ⟨hj9,hjj⟩:=hk
   rcases Nat.lt_or_ge j k with hjk | hjk
   · have hx:=hq4.at (m:=(j:Int)) (by omega)
     have hy:=hpB3.at (m:=(j:Int)) (by omega)
     have hxn:=Num.len hx (hE.2.at _)
     have hyn:=Num.len hy (hP.at _)
     have hcell:G3.cell (Go.Sl.ab oa2) (Go.Sl.ao oa2+((i:Nat):Int).toNat*Cells.sz SV+0)=some (.slice (ol2[((i:Nat):Int).toNat]?.getD default).a q.length (ol2[((i:Nat):Int).toNat]?.getD default).c):=(Arr.cell (by assumption) (by omega) 0 rfl rfl).trans (by rw [hq1])
     refine Wc.gc 14 [1] ?_
     refine Wc.draw [] [] T.mixed rfl ?_
     refine Gm.c 0 [] [] ?_
     refine Gm.c 1 [] [] ?_
     refine Gm.u 2 [] rfl (Qy.at (α:=SV) T.sl182 rfl rfl (by assumption) (by omega)) ?_
     refine Gm.u 3 [] rfl (Qy.loadG T.one191 rfl hcell) ?_
     refine Gm.c 4 [] [] ?_
     refine Gm.u 5 [] rfl (Qy.at (α:=IV) T.sl191 rfl rfl hq3 (by omega)) ?_
     refine Gm.u 6 [] rfl (Qy.loadsG T.agg190 rfl (Arr.elem hq3 (by omega)) rfl) ?_
     refine Gm.c 7 [] [] ?_
     refine Gm.c 8 [] [] ?_
     refine Gm.u 9 [] rfl (Qy.at (α:=IV) T.sl186 rfl rfl hpA3 (by omega)) ?_
     refine Gm.u 10 [] rfl (Qy.loadsG T.agg190 rfl (Arr.elem hpA3 (by omega)) rfl) ?_
     refine Gm.o1 11 ?_
     refine Wl.k0 rfl (c117 _ _ _ _ _ hx hy (by omega) (by omega)) ?_
     refine Wl.on0 ?_
     refine Gm.u 12 [] rfl (Qy.notD rfl) ?_
     refine Gm.fin ?_
     refine Ar.next ?_
     refine Wc.cond rfl (fun hc2=>?_) (fun hc2=>?_)
     refine Wc.ga 15 [] ?_
     rotate_left
     refine Wc.ga 8 [] ?_
     rotate_left
     · refine Ar.out1 (.inr rfl) (Ho:=[]) rfl (.tmp rfl) trivial ?_
       have hne:¬((os[i]?.getD [])[j]?.getD 0=(powR (l[i]?.getD default).a (l[i]?.getD default).b k)[j]?.getD 0):=by assumption
       exact ⟨by rw [decide_eq_false (fun h=>hne (by rw [hiff.1 h i hil]))],rfl⟩
     refine Ar.again (j+1) ?_ ?_ rfl ⟨rfl,rfl,rfl,rfl,rfl,rfl,trivial⟩ ⟨rfl,trivial⟩
     · refine ⟨by omega,fun t ht=>?_⟩
       rcases Nat.lt_or_ge t j with h | h
       · exact hjj t h
       have e:t=j:=by omega
       subst e;exact Decidable.not_not.1 (by assumption)
     show k - (j+1)<k - j
     omega
   have hjk:j=k:=by omega
   subst hjk
   refine Wc.ga 20 [0] ?_
   refine Ar.again ((i+1,G3)) ?_ ?_ rfl ⟨rfl,rfl,rfl,rfl,trivial⟩ ⟨rfl,trivial⟩
   · refine ⟨by omega,Imm.le_trans hgx hle3,fun t ht=>?_⟩
     rcases Nat.lt_or_ge t i with h | h
     · exact hall t h
     have e:t=i:=by omega
     subst e
     exact (rows_eq hE.1 (powR_len _ _ _)).2 hjj
   show l.length - (i+1)<l.length - i
   omega
 refine Wc.ga 21 [0] ?_
 refine Ar.out1 (.inr rfl) (Ho:=[]) rfl (.tmp rfl) trivial ?_
 exact ⟨by rw [decide_eq_true (hiff.2 (fun t ht=>hall t (by omega)))],rfl⟩
end Go.Proofs.YtfdcckcadfhpeaaGreatDoor
namespace Go.Proofs.YtfdcckcadfhpeaaGreatDoor
open Go Go.Sl
theorem unit_w {k1 k2:Int} {l:List R2} {x y z:PV} (h:¬WrongP k1 k2 l=0):UnitP k1 k2 l x y z=(0,WrongP k1 k2 l):=by unfold UnitP;rw [if_pos h]
theorem unit_1r {k1 k2:Int} {l:List R2} {x y z:PV} (h:WrongP k1 k2 l=0) (h1:¬rightP x=true):UnitP k1 k2 l x y z=(1,80):=by
 unfold UnitP;rw [if_neg (fun h0=>h0 h),if_pos h1]
theorem unit_1e {k1 k2:Int} {l:List R2} {x y z:PV} (h:WrongP k1 k2 l=0) (h1:rightP x=true) (h2:¬EvalP x k1 l):UnitP k1 k2 l x y z=(1,180):=by
 unfold UnitP;rw [if_neg (fun h0=>h0 h),if_neg (fun h0=>h0 h1),if_pos h2]
theorem unit_2r {k1 k2:Int} {l:List R2} {x y z:PV} (h:WrongP k1 k2 l=0) (h1:rightP x=true) (h2:EvalP x k1 l) (h3:¬rightP y=true):UnitP k1 k2 l x y z=(2,80):=by
 unfold UnitP;rw [if_neg (fun h0=>h0 h),if_neg (fun h0=>h0 h1),if_neg (fun h0=>h0 h2),if_pos h3]
theorem unit_2e {k1 k2:Int} {l:List R2} {x y z:PV} (h:WrongP k1 k2 l=0) (h1:rightP x=true) (h2:EvalP x k1 l) (h3:rightP y=true) (h4:¬EvalP y k2 l):UnitP k1 k2 l x y z=(2,180):=by
 unfold UnitP;rw [if_neg (fun h0=>h0 h),if_neg (fun h0=>h0 h1),if_neg (fun h0=>h0 h2),if_neg (fun h0=>h0 h3),if_pos h4]
theorem unit_3r {k1 k2:Int} {l:List R2} {x y z:PV} (h:WrongP k1 k2 l=0) (h1:rightP x=true) (h2:EvalP x k1 l) (h3:rightP y=true) (h4:EvalP y k2 l) (h5:¬rightP z=true):UnitP k1 k2 l x y z=(3,80):=by
 unfold UnitP;rw [if_neg (fun h0=>h0 h),if_neg (fun h0=>h0 h1),if_neg (fun h0=>h0 h2),if_neg (fun h0=>h0 h3),if_neg (fun h0=>h0 h4),if_pos h5]
theorem unit_3i {k1 k2:Int} {l:List R2} {x y z:PV} (h:WrongP k1 k2 l=0) (h1:rightP x=true) (h2:EvalP x k1 l) (h3:rightP y=true) (h4:EvalP y k2 l) (h5:rightP z=true) (h6:¬InterpP z l):UnitP k1 k2 l x y z=(3,180):=by
 unfold UnitP;rw [if_neg (fun h0=>h0 h),if_neg (fun h0=>h0 h1),if_neg (fun h0=>h0 h2),if_neg (fun h0=>h0 h3),if_neg (fun h0=>h0 h4),if_neg (fun h0=>h0 h5),if_pos h6]
theorem unit_ok {k1 k2:Int} {l:List R2} {x y z:PV} (h:WrongP k1 k2 l=0) (h1:rightP x=true) (h2:EvalP x k1 l) (h3:rightP y=true) (h4:EvalP y k2 l) (h5:rightP z=true) (h6:InterpP z l):UnitP k1 k2 l x y z=(0,0):=by
 unfold UnitP;rw [if_neg (fun h0=>h0 h),if_neg (fun h0=>h0 h1),if_neg (fun h0=>h0 h2),if_neg (fun h0=>h0 h3),if_neg (fun h0=>h0 h4),if_neg (fun h0=>h0 h5),if_neg (fun h0=>h0 h6)]
set_option maxHeartbeats 4000000
attribute [local irreducible] EvalP InterpP WrongP rightP RightL
theorem c14 (G:Imm) (k1 k2:Int) (pl:List R2) (pa:Option Addr) (pc:Nat) (xp yp zp:PV) (xac xao yac yao zac zao:Option Addr) (xcc xoc ycc yoc zcc zoc:Nat) (hpa:Arr G pa pl) (hpc:pl.length≤pc) (hpl:pl.length≤1048576) (hxc:Arr G xac xp.code) (hxo:Arr G xao xp.outs) (hx1:xp.code.length≤16384) (hx2:xp.outs.length≤1048576) (hyc:Arr G yac yp.code) (hyo:Arr G yao yp.outs) (hy1:yp.code.length≤16384) (hy2:yp.outs.length≤1048576) (hzc:Arr G zac zp.code) (hzo:Arr G zao zp.outs) (hz1:zp.code.length≤16384) (hz2:zp.outs.length≤1048576) :
 Does Tryz.prog 14 [.agg #[.int .i64 k1,.int .i64 k2,.slice pa pl.length pc,.int .i64 xp.ins,.int .i64 xp.regs,.slice xac xp.code.length xcc,.slice xao xp.outs.length xoc,.int .i64 yp.ins,.int .i64 yp.regs,.slice yac yp.code.length ycc,.slice yao yp.outs.length yoc,.int .i64 zp.ins,.int .i64 zp.regs,.slice zac zp.code.length zcc,.slice zao zp.outs.length zoc]] G [] (fun v G' Ho=>v=.tuple #[.int .i64 (UnitP k1 k2 pl xp yp zp).1,.int .i64 (UnitP k1 k2 pl xp yp zp).2]∧Ho=[]):=by
 refine Does.enter Tryz.func14 rfl Tryz.ntmps14 rfl (fun w=>?_)
 by_cases hW:WrongP k1 k2 pl=0
 case neg =>
  refine Wc.gl 2 [] ?_
  refine Wl.box 0 rfl rfl rfl (fun b1=>?_)
  refine Wl.gl 12 [0,0,0] ?_
  refine Wl.q rfl (Qy.build (cs:=[_,_,_]) T.st62 rfl rfl rfl) ?_
  refine Wl.k0 rfl (c35 _ _ _ _ _ _ (by assumption) (by omega)) ?_
  refine Wl.ga 20 [1] ?_
  refine Ar.e2 ?_
  exact ⟨by rw [unit_w hW],rfl⟩
 obtain ⟨hP1,hP2,hL,hRL⟩:=wrong_right hW
 obtain ⟨n1,rfl⟩:∃ n:Nat,k1=(n:Int):=⟨k1.toNat,by have:=hP1.1;omega⟩
 obtain ⟨n2,rfl⟩:∃ n:Nat,k2=(n:Int):=⟨k2.toNat,by have:=hP2.1;omega⟩
 have hn1:1≤n1∧n1≤8:=by have:=hP1.1;have:=hP1.2;omega
 have hn2:1≤n2∧n2≤8:=by have:=hP2.1;have:=hP2.2;omega
 have hl15:pl.length≤15:=by omega
 have hl1:1≤pl.length:=by omega
 have hRR:pl.length≤15∧(∀ i:Nat,i<pl.length→okP (pl[i]?.getD default)):=by unfold RightL at hRL;exact ⟨hRL.2.1,hRL.2.2.1⟩
 have hok:=hRR.2
 have hnr:∀ i:Nat,i<pl.length→near (pl[i]?.getD default).a (pl[i]?.getD default).b:=fun i hi=>(hok i hi).1
 refine Wc.gl 2 [] ?_
 refine Wl.box 0 rfl rfl rfl (fun b1=>?_)
 refine Wl.gl 12 [0,0,0] ?_
 refine Wl.q rfl (Qy.build (cs:=[_,_,_]) T.st62 rfl rfl rfl) ?_
 refine Wl.k0 rfl (c35 _ _ _ _ _ _ (by assumption) (by omega)) ?_
 refine Wl.gl 17 [0] ?_
 refine Wl.q rfl (Qy.loads 0 T.agg26 rfl rfl rfl rfl) ?_
 refine Wl.k0 rfl (c57 _ _ _ _ _ _ (by assumption) (by assumption) (by omega) (by omega)) ?_
 refine Wl.q rfl (Qy.notD rfl) ?_
 refine Wl.gc 2 [] ?_
 refine Wc.cond rfl (fun hc1=>?_) (fun hc1=>?_)
 refine Wc.ga 8 [] ?_
 rotate_left
 refine Wc.gl 6 [] ?_
 refine Wl.q rfl (Qy.loads 0 T.agg26 rfl rfl rfl rfl) ?_
 refine Wl.ll0 4 [0,0] ?_
 refine Wl.k 1 rfl (c58 _ _ _ _ _ _ _ _ _ _ (by assumption) (by assumption) (by assumption) (by omega) (by omega) hl15 hnr (Decidable.not_not.1 (by assumption)) (by omega) (by omega)) (fun v1 G1 Ho1 hle1 hp=>?_)
 obtain ⟨rfl,rfl⟩:=hp
 replace hpa:=hpa.up hle1
 replace hxc:=hxc.up hle1
 replace hxo:=hxo.up hle1
 replace hyc:=hyc.up hle1
 replace hyo:=hyo.up hle1
 replace hzc:=hzc.up hle1
 replace hzo:=hzo.up hle1
 refine Wl.q rfl (Qy.notD rfl) ?_
 refine Wl.gc 2 [] ?_
 refine Wc.cond rfl (fun hc2=>?_) (fun hc2=>?_)
 refine Wc.ga 8 [] ?_
 rotate_left
 refine Wc.gl 6 [] ?_
 refine Wl.q rfl (Qy.loads 0 T.agg26 rfl rfl rfl rfl) ?_
 refine Wl.k0 rfl (c57 _ _ _ _ _ _ (by assumption) (by assumption) (by omega) (by omega)) ?_
 refine Wl.q rfl (Qy.notD rfl) ?_
 refine Wl.gc 2 [] ?_
 refine Wc.cond rfl (fun hc3=>?_) (fun hc3=>?_)
 refine Wc.ga 8 [] ?_
 rotate_left
 refine Wc.gl 6 [] ?_
 refine Wl.q rfl (Qy.loads 0 T.agg26 rfl rfl rfl rfl) ?_
 refine Wl.ll0 4 [0,0] ?_
 refine Wl.k 1 rfl (c58 _ _ _ _ _ _ _ _ _ _ (by assumption) (by assumption) (by assumption) (by omega) (by omega) hl15 hnr (Decidable.not_not.1 (by assumption)) (by omega) (by omega)) (fun v2 G2 Ho2 hle2 hp=>?_)
 obtain ⟨rfl,rfl⟩:=hp
 replace hpa:=hpa.up hle2
 replace hxc:=hxc.up hle2
 replace hxo:=hxo.up hle2
 replace hyc:=hyc.up hle2
 replace hyo:=hyo.up hle2
 replace hzc:=hzc.up hle2
 replace hzo:=hzo.up hle2
 refine Wl.q rfl (Qy.notD rfl) ?_
 refine Wl.gc 2 [] ?_
 refine Wc.cond rfl (fun hc4=>?_) (fun hc4=>?_)
 refine Wc.ga 8 [] ?_
 rotate_left
 refine Wc.gl 6 [] ?_
 refine Wl.q rfl (Qy.loads 0 T.agg26 rfl rfl rfl rfl) ?_
 refine Wl.k0 rfl (c57 _ _ _ _ _ _ (by assumption) (by assumption) (by omega) (by omega)) ?_
 refine Wl.q rfl (Qy.notD rfl) ?_
 refine Wl.gc 2 [] ?_
 refine Wc.cond rfl (fun hc5=>?_) (fun hc5=>?_)
 refine Wc.ga 8 [] ?_
 rotate_left
 refine Wc.gl 6 [] ?_
 refine Wl.q rfl (Qy.loads 0 T.agg26 rfl rfl rfl rfl) ?_
 refine Wl.ll0 2 [0] ?_
 refine Wl.k 1 rfl (c59 _ _ _ _ _ _ _ _ _ (by assumption) (by assumption) (by assumption) (by omega) (by omega) hpc hl1 hl15 hok) (fun v3 G3 Ho3 hle3 hp=>?_)
 obtain ⟨rfl,rfl⟩:=hp
 replace hpa:=hpa.up hle3
 replace hxc:=hxc.up hle3
 replace hxo:=hxo.up hle3
 replace hyc:=hyc.up hle3
 replace hyo:=hyo.up hle3
 replace hzc:=hzc.up hle3
 replace hzo:=hzo.up hle3
 refine Wl.q rfl (Qy.notD rfl) ?_
 refine Wl.gc 2 [] ?_
 refine Wc.cond rfl (fun hc6=>?_) (fun hc6=>?_)
 refine Wc.ga 8 [] ?_
 rotate_left
 refine Wc.ga 9 [] ?_
 rotate_left
 · refine Ar.e2 ?_
   exact ⟨by rw [unit_1r hW (by assumption)],rfl⟩
 · refine Ar.e2 ?_
   exact ⟨by rw [unit_1e hW (Decidable.not_not.1 hc1) (by assumption)],rfl⟩
 · refine Ar.e2 ?_
   exact ⟨by rw [unit_2r hW (Decidable.not_not.1 hc1) (Decidable.not_not.1 hc2) (by assumption)],rfl⟩
 · refine Ar.e2 ?_
   exact ⟨by rw [unit_2e hW (Decidable.not_not.1 hc1) (Decidable.not_not.1 hc2) (Decidable.not_not.1 hc3) (by assumption)],rfl⟩
 · refine Ar.e2 ?_
   exact ⟨by rw [unit_3r hW (Decidable.not_not.1 hc1) (Decidable.not_not.1 hc2) (Decidable.not_not.1 hc3) (Decidable.not_not.1 hc4) (by assumption)],rfl⟩
 · refine Ar.e2 ?_
   exact ⟨by rw [unit_3i hW (Decidable.not_not.1 hc1) (Decidable.not_not.1 hc2) (Decidable.not_not.1 hc3) (Decidable.not_not.1 hc4) (Decidable.not_not.1 hc5) (by assumption)],rfl⟩
 refine Ar.e2 ?_
 exact ⟨by rw [unit_ok hW (Decidable.not_not.1 hc1) (Decidable.not_not.1 hc2) (Decidable.not_not.1 hc3) (Decidable.not_not.1 hc4) (Decidable.not_not.1 hc5) (Decidable.not_not.1 hc6)],rfl⟩
end Go.Proofs.YtfdcckcadfhpeaaGreatDoor
namespace Go.Proofs.YtfdcckcadfhpeaaGreatDoor
open Go Go.Sl
theorem cellOf {G:Imm} {b:Nat} {c:Array Value} {ty:TypeId} {z:Nat×Nat} (h:G b=some (.cells c ty z)) {k:Nat} {v:Value} (hv:c[k]?=some v):G.cell b k=some v:=by
 unfold Imm.cell;rw [h];exact hv
structure PF where
 p:PH
 f:Nat
 b:Nat
instance:Inhabited PF:=⟨⟨default,0,0⟩⟩
instance:Cells PF:=⟨5,fun x=>[.int .i64 x.p.ins,.int .i64 x.p.regs,.slice x.p.ac x.p.cn x.p.cc,.slice x.p.ao x.p.on x.p.oc,.func (.func x.f) #[] #[.pointer (some ⟨x.b,0,none⟩)]],fun _=>rfl,fun _=>rfl⟩
set_option maxHeartbeats 4000000
attribute [local irreducible] EvalP InterpP WrongP rightP RightL
theorem c107 (G:Imm) (k:Nat) (b:Nat) (cs:Array Value) (ty:TypeId) (zz:Nat×Nat) (p:PV) (ac ao a:Option Addr) (cc co c:Nat) (l:List R2) (hU:G b=some (.cells cs ty zz)) (h0:cs[0]?=some (.int .i64 (k:Int))) (h2:cs[2]?=some (.slice a l.length c)) (hc:Arr G ac p.code) (ho:Arr G ao p.outs) (ha:Arr G a l) (hac:l.length≤c) (hl:l.length≤1048576) (hcl:p.code.length≤16384) (hol:p.outs.length≤1099511627776) (hRL:RightL l) (hR:rightP p=true) (hk1:1≤k) (hk8:k≤8) :
 Does Tryz.prog 107 [.agg #[.int .i64 p.ins,.int .i64 p.regs,.slice ac p.code.length cc,.slice ao p.outs.length co],.pointer (some ⟨b,0,none⟩)] G [] (fun v G' Ho=>v=.tuple #[.bool (decide (EvalP p (k:Int) l)),.int .i64 0]∧Ho=[]):=by
 refine Does.enter Tryz.func107 rfl Tryz.ntmps107 rfl (fun w=>?_)
 refine Wc.gl 2 [] ?_
 refine Wl.box 0 rfl rfl rfl (fun b1=>?_)
 refine Wl.gl 8 [0] ?_
 refine Wl.q rfl (Qy.loadG T.one3 rfl ((by rw [Nat.zero_add]:G.cell b (0+0)=G.cell b 0).trans (cellOf hU h0))) ?_
 refine Wl.ll0 1 [] ?_
 refine Wl.q rfl (Qy.loadG T.one22 rfl ((by rw [Nat.zero_add]:G.cell b (0+2)=G.cell b 2).trans (cellOf hU h2))) ?_
 refine Wl.k 1 rfl (c108 _ _ _ _ _ _ _ _ _ _ (by assumption) (by assumption) (by assumption) (by omega) (by omega) hRL hR (by omega) (by omega)) (fun v1 G1 Ho1 hle1 hp=>?_)
 obtain ⟨rfl,rfl⟩:=hp
 replace hc:=hc.up hle1
 replace ho:=ho.up hle1
 replace ha:=ha.up hle1
 refine Wl.ga 7 [] ?_
 refine Ar.e2 ?_
 exact ⟨rfl,rfl⟩
theorem c109 (G:Imm) (k:Nat) (b:Nat) (cs:Array Value) (ty:TypeId) (zz:Nat×Nat) (p:PV) (ac ao a:Option Addr) (cc co c:Nat) (l:List R2) (hU:G b=some (.cells cs ty zz)) (h0:cs[1]?=some (.int .i64 (k:Int))) (h2:cs[2]?=some (.slice a l.length c)) (hc:Arr G ac p.code) (ho:Arr G ao p.outs) (ha:Arr G a l) (hac:l.length≤c) (hl:l.length≤1048576) (hcl:p.code.length≤16384) (hol:p.outs.length≤1099511627776) (hRL:RightL l) (hR:rightP p=true) (hk1:1≤k) (hk8:k≤8) :
 Does Tryz.prog 109 [.agg #[.int .i64 p.ins,.int .i64 p.regs,.slice ac p.code.length cc,.slice ao p.outs.length co],.pointer (some ⟨b,0,none⟩)] G [] (fun v G' Ho=>v=.tuple #[.bool (decide (EvalP p (k:Int) l)),.int .i64 0]∧Ho=[]):=by
 refine Does.enter Tryz.func109 rfl Tryz.ntmps109 rfl (fun w=>?_)
 refine Wc.gl 2 [] ?_
 refine Wl.box 0 rfl rfl rfl (fun b1=>?_)
 refine Wl.gl 8 [0] ?_
 refine Wl.q rfl (Qy.loadG T.one3 rfl ((by rw [Nat.zero_add]:G.cell b (0+1)=G.cell b 1).trans (cellOf hU h0))) ?_
 refine Wl.ll0 1 [] ?_
 refine Wl.q rfl (Qy.loadG T.one22 rfl ((by rw [Nat.zero_add]:G.cell b (0+2)=G.cell b 2).trans (cellOf hU h2))) ?_
 refine Wl.k 1 rfl (c108 _ _ _ _ _ _ _ _ _ _ (by assumption) (by assumption) (by assumption) (by omega) (by omega) hRL hR (by omega) (by omega)) (fun v1 G1 Ho1 hle1 hp=>?_)
 obtain ⟨rfl,rfl⟩:=hp
 replace hc:=hc.up hle1
 replace ho:=ho.up hle1
 replace ha:=ha.up hle1
 refine Wl.ga 7 [] ?_
 refine Ar.e2 ?_
 exact ⟨rfl,rfl⟩
theorem c110 (G:Imm) (b:Nat) (cs:Array Value) (ty:TypeId) (zz:Nat×Nat) (p:PV) (ac ao a:Option Addr) (cc co c:Nat) (l:List R2) (hU:G b=some (.cells cs ty zz)) (h2:cs[2]?=some (.slice a l.length c)) (hc:Arr G ac p.code) (ho:Arr G ao p.outs) (ha:Arr G a l) (hac:l.length≤c) (hl:l.length≤1048576) (hcl:p.code.length≤16384) (hol:p.outs.length≤1099511627776) (hRL:RightL l) (hR:rightP p=true) :
 Does Tryz.prog 110 [.agg #[.int .i64 p.ins,.int .i64 p.regs,.slice ac p.code.length cc,.slice ao p.outs.length co],.pointer (some ⟨b,0,none⟩)] G [] (fun v G' Ho=>v=.tuple #[.bool (decide (InterpP p l)),.int .i64 0]∧Ho=[]):=by
 refine Does.enter Tryz.func110 rfl Tryz.ntmps110 rfl (fun w=>?_)
 refine Wc.gl 2 [] ?_
 refine Wl.box 0 rfl rfl rfl (fun b1=>?_)
 refine Wl.gl 8 [0] ?_
 refine Wl.q rfl (Qy.loadG T.one22 rfl ((by rw [Nat.zero_add]:G.cell b (0+2)=G.cell b 2).trans (cellOf hU h2))) ?_
 refine Wl.k 1 rfl (c111Y _ _ _ _ _ _ _ _ _ (by assumption) (by assumption) (by omega) (by omega) (by assumption) hac hl hRL hR) (fun v1 G1 Ho1 hle1 hp=>?_)
 obtain ⟨rfl,rfl⟩:=hp
 replace hc:=hc.up hle1
 replace ho:=ho.up hle1
 replace ha:=ha.up hle1
 refine Wl.ga 7 [] ?_
 refine Ar.e2 ?_
 exact ⟨rfl,rfl⟩
theorem c55 (G:Imm) (k1 k2:Int) (pl:List R2) (pa:Option Addr) (pc:Nat) (xp yp zp:PV) (xac xao yac yao zac zao:Option Addr) (xcc xoc ycc yoc zcc zoc:Nat) :
 Does Tryz.prog 55 [.agg #[.int .i64 k1,.int .i64 k2,.slice pa pl.length pc,.int .i64 xp.ins,.int .i64 xp.regs,.slice xac xp.code.length xcc,.slice xao xp.outs.length xoc,.int .i64 yp.ins,.int .i64 yp.regs,.slice yac yp.code.length ycc,.slice yao yp.outs.length yoc,.int .i64 zp.ins,.int .i64 zp.regs,.slice zac zp.code.length zcc,.slice zao zp.outs.length zoc]] G [] (fun v G' Ho=>∃ (s:Option Addr) (b:Nat),v=.slice s ([⟨⟨xp.ins,xp.regs,xac,xp.code.length,xcc,xao,xp.outs.length,xoc⟩,107,b⟩,⟨⟨yp.ins,yp.regs,yac,yp.code.length,ycc,yao,yp.outs.length,yoc⟩,109,b⟩,⟨⟨zp.ins,zp.regs,zac,zp.code.length,zcc,zao,zp.outs.length,zoc⟩,110,b⟩]:List PF).length 3∧Arr G' s ([⟨⟨xp.ins,xp.regs,xac,xp.code.length,xcc,xao,xp.outs.length,xoc⟩,107,b⟩,⟨⟨yp.ins,yp.regs,yac,yp.code.length,ycc,yao,yp.outs.length,yoc⟩,109,b⟩,⟨⟨zp.ins,zp.regs,zac,zp.code.length,zcc,zao,zp.outs.length,zoc⟩,110,b⟩]:List PF)∧G' b=some (.cells #[.int .i64 k1,.int .i64 k2,.slice pa pl.length pc,.int .i64 xp.ins,.int .i64 xp.regs,.slice xac xp.code.length xcc,.slice xao xp.outs.length xoc,.int .i64 yp.ins,.int .i64 yp.regs,.slice yac yp.code.length ycc,.slice yao yp.outs.length yoc,.int .i64 zp.ins,.int .i64 zp.regs,.slice zac zp.code.length zcc,.slice zao zp.outs.length zoc] 28 (0,0))∧Ho=[]):=by
 refine Does.enter Tryz.func55 rfl Tryz.ntmps55 rfl (fun w=>?_)
 refine Wc.gl 2 [] ?_
 refine Wl.box 0 rfl rfl rfl (fun b1=>?_)
 refine Wl.gl 6 [] ?_
 refine Wl.q rfl (Qy.loads 0 T.agg26 rfl rfl rfl rfl) ?_
 refine Wl.q rfl (Qy.makeFunc rfl rfl) ?_
 refine Wl.q rfl (Qy.build (cs:=[_,_,_,_,_]) T.st100 rfl rfl rfl) ?_
 refine Wl.ll0 1 [] ?_
 refine Wl.q rfl (Qy.loads 0 T.agg26 rfl rfl rfl rfl) ?_
 refine Wl.q rfl (Qy.makeFunc rfl rfl) ?_
 refine Wl.q rfl (Qy.build (cs:=[_,_,_,_,_]) T.st100 rfl rfl rfl) ?_
 refine Wl.ll0 1 [] ?_
 refine Wl.q rfl (Qy.loads 0 T.agg26 rfl rfl rfl rfl) ?_
 refine Wl.q rfl (Qy.makeFunc rfl rfl) ?_
 refine Wl.q rfl (Qy.build (cs:=[_,_,_,_,_]) T.st100 rfl rfl rfl) ?_
 refine Wl.lit (α:=PF) 1 [⟨⟨xp.ins,xp.regs,xac,xp.code.length,xcc,xao,xp.outs.length,xoc⟩,107,b1⟩,⟨⟨yp.ins,yp.regs,yac,yp.code.length,ycc,yao,yp.outs.length,yoc⟩,109,b1⟩,⟨⟨zp.ins,zp.regs,zac,zp.code.length,zcc,zao,zp.outs.length,zoc⟩,110,b1⟩] rfl T.sl96 T.el100 rfl rfl rfl rfl rfl (fun b2=>?_)
 refine Wl.ga 4 [] ?_
 refine Ar.freeze 0 rfl (fun G1 hle1 hb1=>?_)
 have hoF:OwnA (some ⟨b2,0,none⟩) 3 ([⟨⟨xp.ins,xp.regs,xac,xp.code.length,xcc,xao,xp.outs.length,xoc⟩,107,b1⟩,⟨⟨yp.ins,yp.regs,yac,yp.code.length,ycc,yao,yp.outs.length,yoc⟩,109,b1⟩,⟨⟨zp.ins,zp.regs,zac,zp.code.length,zcc,zao,zp.outs.length,zoc⟩,110,b1⟩]:List PF) []:=OwnA.made (by simp [maxLen])
 refine Ar.freezeRow (α:=PF) 1 rfl hoF (fun G2 hle2 hA2=>?_)
 refine Ar.e1 ?_
 exact ⟨_,b1,rfl,hA2,hle2 _ _ hb1,rfl⟩
end Go.Proofs.YtfdcckcadfhpeaaGreatDoor
namespace Go.Proofs.YtfdcckcadfhpeaaGreatDoor
open Go Go.Sl
set_option maxHeartbeats 4000000
attribute [local irreducible] EvalP InterpP WrongP rightP RightL
theorem c13 (G:Imm) (k1 k2:Int) (pl:List R2) (pa:Option Addr) (pc:Nat) (xp yp zp:PV) (xac xao yac yao zac zao:Option Addr) (xcc xoc ycc yoc zcc zoc:Nat) (hpa:Arr G pa pl) (hpc:pl.length≤pc) (hpl:pl.length≤1048576) (hxc:Arr G xac xp.code) (hxo:Arr G xao xp.outs) (hx1:xp.code.length≤16384) (hx2:xp.outs.length≤1048576) (hyc:Arr G yac yp.code) (hyo:Arr G yao yp.outs) (hy1:yp.code.length≤16384) (hy2:yp.outs.length≤1048576) (hzc:Arr G zac zp.code) (hzo:Arr G zao zp.outs) (hz1:zp.code.length≤16384) (hz2:zp.outs.length≤1048576) :
 Does Tryz.prog 13 [.agg #[.int .i64 k1,.int .i64 k2,.slice pa pl.length pc,.int .i64 xp.ins,.int .i64 xp.regs,.slice xac xp.code.length xcc,.slice xao xp.outs.length xoc,.int .i64 yp.ins,.int .i64 yp.regs,.slice yac yp.code.length ycc,.slice yao yp.outs.length yoc,.int .i64 zp.ins,.int .i64 zp.regs,.slice zac zp.code.length zcc,.slice zao zp.outs.length zoc]] G [] (fun v G' Ho=>v=.tuple #[.int .i64 (UnitP k1 k2 pl xp yp zp).1,.int .i64 (UnitP k1 k2 pl xp yp zp).2]∧Ho=[]):=by
 refine Does.enter Tryz.func13 rfl Tryz.ntmps13 rfl (fun w=>?_)
 by_cases hW:WrongP k1 k2 pl=0
 case neg =>
  refine Wc.gl 2 [] ?_
  refine Wl.box 0 rfl rfl rfl (fun b1=>?_)
  refine Wl.gl 12 [0,0,0] ?_
  refine Wl.k 1 rfl (c54 _ _ _ _ _ _ (by assumption) (by omega) (by omega)) (fun v1 G1 Ho1 hle1 hp=>?_)
  obtain ⟨pv1,rfl,rfl⟩:=hp
  replace hpa:=hpa.up hle1
  replace hxc:=hxc.up hle1
  replace hxo:=hxo.up hle1
  replace hyc:=hyc.up hle1
  replace hyo:=hyo.up hle1
  replace hzc:=hzc.up hle1
  replace hzo:=hzo.up hle1
  refine Wl.ga 24 [1] ?_
  refine Ar.e2 ?_
  exact ⟨by rw [unit_w hW],rfl⟩
 obtain ⟨hP1,hP2,hL,hRL⟩:=wrong_right hW
 obtain ⟨n1,rfl⟩:∃ n:Nat,k1=(n:Int):=⟨k1.toNat,by have:=hP1.1;omega⟩
 obtain ⟨n2,rfl⟩:∃ n:Nat,k2=(n:Int):=⟨k2.toNat,by have:=hP2.1;omega⟩
 have hn1:1≤n1∧n1≤8:=by have:=hP1.1;have:=hP1.2;omega
 have hn2:1≤n2∧n2≤8:=by have:=hP2.1;have:=hP2.2;omega
 refine Wc.gl 2 [] ?_
 refine Wl.box 0 rfl rfl rfl (fun b1=>?_)
 refine Wl.gl 12 [0,0,0] ?_
 refine Wl.k 1 rfl (c54 _ _ _ _ _ _ (by assumption) (by omega) (by omega)) (fun v1 G1 Ho1 hle1 hp=>?_)
 obtain ⟨pv1,rfl,rfl⟩:=hp
 replace hpa:=hpa.up hle1
 replace hxc:=hxc.up hle1
 replace hxo:=hxo.up hle1
 replace hyc:=hyc.up hle1
 replace hyo:=hyo.up hle1
 replace hzc:=hzc.up hle1
 replace hzo:=hzo.up hle1
 refine Wl.gl 21 [0,0] ?_
 refine Wl.k 1 rfl (c55 _ _ _ _ _ _ xp yp zp _ _ _ _ _ _ _ _ _ _ _ _) (fun v2 G2 Ho2 hle2 hp=>?_)
 obtain ⟨sp2,bp2,rfl,hpA2,hpB2,rfl⟩:=hp
 replace hpa:=hpa.up hle2
 replace hxc:=hxc.up hle2
 replace hxo:=hxo.up hle2
 replace hyc:=hyc.up hle2
 replace hyo:=hyo.up hle2
 replace hzc:=hzc.up hle2
 replace hzo:=hzo.up hle2
 refine Wl.gc 5 [] ?_
 refine Wc.loopG (ι:=Nat×Imm) (fun (i,Gx)=>([(27,.int .i64 (i:Int)),(26,.int .i64 3),(25,.slice sp2 (List.length [PF.mk (PH.mk (PV.ins xp) (PV.regs xp) xac (List.length (PV.code xp)) xcc xao (List.length (PV.outs xp)) xoc) 107 bp2,PF.mk (PH.mk (PV.ins yp) (PV.regs yp) yac (List.length (PV.code yp)) ycc yao (List.length (PV.outs yp)) yoc) 109 bp2,PF.mk (PH.mk (PV.ins zp) (PV.regs zp) zac (List.length (PV.code zp)) zcc zao (List.length (PV.outs zp)) zoc) 110 bp2]) 3)],[(0,some b1,.cells #[.int .i64 (↑n1:Int),.int .i64 (↑n2:Int),.slice pa (List.length pl) pc,.int .i64 (PV.ins xp),.int .i64 (PV.regs xp),.slice xac (List.length (PV.code xp)) xcc,.slice xao (List.length (PV.outs xp)) xoc,.int .i64 (PV.ins yp),.int .i64 (PV.regs yp),.slice yac (List.length (PV.code yp)) ycc,.slice yao (List.length (PV.outs yp)) yoc,.int .i64 (PV.ins zp),.int .i64 (PV.regs zp),.slice zac (List.length (PV.code zp)) zcc,.slice zao (List.length (PV.outs zp)) zoc] 28)])) (fun (i,Gx)=>Gx) (fun (i,Gx)=>i≤3∧G2.le Gx∧(0<i→rightP xp=true∧EvalP xp (n1:Int) pl)∧(1<i→rightP yp=true∧EvalP yp (n2:Int) pl)∧(2<i→rightP zp=true∧InterpP zp pl)) (fun (i,Gx)=>3 - i) ((0,G2)) (⟨Nat.zero_le _,Imm.le_refl _,fun h=>absurd h (by omega),fun h=>absurd h (by omega),fun h=>absurd h (by omega)⟩) rfl ⟨rfl,rfl,rfl,trivial⟩ ⟨rfl,trivial⟩ (fun ⟨i,Gx⟩=>fun hk=>?_)
 obtain ⟨hi0,hgx,hx9,hy9,hz9⟩:=hk
 have hB:=hgx _ _ hpB2
 replace hpA2:=hpA2.up hgx
 replace hpa:=hpa.up hgx
 replace hxc:=hxc.up hgx
 replace hxo:=hxo.up hgx
 replace hyc:=hyc.up hgx
 replace hyo:=hyo.up hgx
 replace hzc:=hzc.up hgx
 replace hzo:=hzo.up hgx
 have hi4:i=0∨i=1∨i=2∨i=3:=by omega
 rcases hi4 with rfl | rfl | rfl | rfl
 · refine Wc.gl 14 [1] ?_
   refine Wl.q rfl (Qy.at (α:=PF) T.sl96 rfl rfl hpA2 (show 0≤((0:Nat):Int)∧((0:Nat):Int)<((3:Nat):Int) by omega)) ?_
   refine Wl.q rfl (Qy.loadsG T.agg100 rfl (Arr.elem hpA2 (show 0≤((0:Nat):Int)∧((0:Nat):Int)<((3:Nat):Int) by omega)) rfl) ?_
   refine Wl.re 31 rfl (show _=Value.agg #[.int .i64 xp.ins,.int .i64 xp.regs,.slice xac xp.code.length xcc,.slice xao xp.outs.length xoc,.func (.func 107) #[] #[.pointer (some ⟨bp2,0,none⟩)]] from rfl) ?_
   by_cases hr:rightP xp=true
   · skip
     refine Wl.alloc 1 rfl T.zero100 (fun b2=>?_)
     refine Wl.gl 7 [1] ?_
     refine Wl.q rfl (Qy.loads 1 T.agg26 rfl rfl rfl rfl) ?_
     refine Wl.k0 rfl (c56R _ xp _ _ _ _ (by assumption) (by assumption) (by omega) (by omega) hr) ?_
     refine Wl.gl 22 [0,1] ?_
     refine Wl.q rfl (Qy.loads 1 T.agg26 rfl rfl rfl rfl) ?_
     refine Wl.callV (fst:=[]) (cap:=[.pointer (some ⟨bp2,0,none⟩)]) 2 rfl T.fn107 rfl rfl (c107 _ n1 bp2 _ _ _ xp xac xao pa xcc xoc pc pl hB rfl rfl hxc hxo hpa hpc hpl hx1 (by omega) hRL hr (by omega) (by omega)) (tags_of trivial) (fun v9 G9 Ho9 hle9 hp=>?_)
     obtain ⟨rfl,rfl⟩:=hp
     refine Wl.gl 12 [] ?_
     refine Wl.no 53 rfl (by first | assumption | omega) ?_
     refine Wl.ll0 3 [] ?_
     refine Wl.q rfl (Qy.notD rfl) ?_
     refine Wl.gc 3 [] ?_
     refine Wc.cond rfl (fun hc1=>?_) (fun hc1=>?_)
     refine Wc.ga 14 [] ?_
     rotate_left
     refine Wc.ga 7 [] ?_
     rotate_left
     · refine Ar.e2 ?_
       exact ⟨by rw [unit_1e hW hr (by assumption)];rfl,rfl⟩
     refine Ar.re 27 rfl (show _=Value.int .i64 ((1:Nat):Int) from rfl) ?_
     refine Ar.again ((1,G9)) ?_ ?_ rfl ⟨rfl,rfl,rfl,trivial⟩ ⟨rfl,trivial⟩
     · exact ⟨by omega,Imm.le_trans hgx hle9,fun _=>⟨hr,Decidable.not_not.1 (by assumption)⟩,fun h=>absurd h (by omega),fun h=>absurd h (by omega)⟩
     show 3 - 1<3 - 0
     omega
   skip
   refine Wl.alloc 1 rfl T.zero100 (fun b2=>?_)
   refine Wl.gl 7 [1] ?_
   refine Wl.q rfl (Qy.loads 1 T.agg26 rfl rfl rfl rfl) ?_
   refine Wl.k0 rfl (c56P _ xp _ _ _ _ (by assumption) (by assumption) (by omega) (by omega) hr) ?_
   refine Wl.ga 31 [1] ?_
   refine Ar.e2 ?_
   exact ⟨by rw [unit_1r hW (by assumption)];rfl,rfl⟩
 · refine Wc.gl 14 [1] ?_
   refine Wl.q rfl (Qy.at (α:=PF) T.sl96 rfl rfl hpA2 (show 0≤((1:Nat):Int)∧((1:Nat):Int)<((3:Nat):Int) by omega)) ?_
   refine Wl.q rfl (Qy.loadsG T.agg100 rfl (Arr.elem hpA2 (show 0≤((1:Nat):Int)∧((1:Nat):Int)<((3:Nat):Int) by omega)) rfl) ?_
   refine Wl.re 31 rfl (show _=Value.agg #[.int .i64 yp.ins,.int .i64 yp.regs,.slice yac yp.code.length ycc,.slice yao yp.outs.length yoc,.func (.func 109) #[] #[.pointer (some ⟨bp2,0,none⟩)]] from rfl) ?_
   by_cases hr:rightP yp=true
   · skip
     refine Wl.alloc 1 rfl T.zero100 (fun b2=>?_)
     refine Wl.gl 7 [1] ?_
     refine Wl.q rfl (Qy.loads 1 T.agg26 rfl rfl rfl rfl) ?_
     refine Wl.k0 rfl (c56R _ yp _ _ _ _ (by assumption) (by assumption) (by omega) (by omega) hr) ?_
     refine Wl.gl 22 [0,1] ?_
     refine Wl.q rfl (Qy.loads 1 T.agg26 rfl rfl rfl rfl) ?_
     refine Wl.callV (fst:=[]) (cap:=[.pointer (some ⟨bp2,0,none⟩)]) 2 rfl T.fn109 rfl rfl (c109 _ n2 bp2 _ _ _ yp yac yao pa ycc yoc pc pl hB rfl rfl hyc hyo hpa hpc hpl hy1 (by omega) hRL hr (by omega) (by omega)) (tags_of trivial) (fun v9 G9 Ho9 hle9 hp=>?_)
     obtain ⟨rfl,rfl⟩:=hp
     refine Wl.gl 12 [] ?_
     refine Wl.no 53 rfl (by first | assumption | omega) ?_
     refine Wl.ll0 3 [] ?_
     refine Wl.q rfl (Qy.notD rfl) ?_
     refine Wl.gc 3 [] ?_
     refine Wc.cond rfl (fun hc1=>?_) (fun hc1=>?_)
     refine Wc.ga 14 [] ?_
     rotate_left
     refine Wc.ga 7 [] ?_
     rotate_left
     · refine Ar.e2 ?_
       exact ⟨by rw [unit_2e hW (hx9 (by omega)).1 (hx9 (by omega)).2 hr (by assumption)];rfl,rfl⟩
     refine Ar.re 27 rfl (show _=Value.int .i64 ((2:Nat):Int) from rfl) ?_
     refine Ar.again ((2,G9)) ?_ ?_ rfl ⟨rfl,rfl,rfl,trivial⟩ ⟨rfl,trivial⟩
     · exact ⟨by omega,Imm.le_trans hgx hle9,fun _=>hx9 (by omega),fun _=>⟨hr,Decidable.not_not.1 (by assumption)⟩,fun h=>absurd h (by omega)⟩
     show 3 - 2<3 - 1
     omega
   skip
   refine Wl.alloc 1 rfl T.zero100 (fun b2=>?_)
   refine Wl.gl 7 [1] ?_
   refine Wl.q rfl (Qy.loads 1 T.agg26 rfl rfl rfl rfl) ?_
   refine Wl.k0 rfl (c56P _ yp _ _ _ _ (by assumption) (by assumption) (by omega) (by omega) hr) ?_
   refine Wl.ga 31 [1] ?_
   refine Ar.e2 ?_
   exact ⟨by rw [unit_2r hW (hx9 (by omega)).1 (hx9 (by omega)).2 (by assumption)];rfl,rfl⟩
 · refine Wc.gl 14 [1] ?_
   refine Wl.q rfl (Qy.at (α:=PF) T.sl96 rfl rfl hpA2 (show 0≤((2:Nat):Int)∧((2:Nat):Int)<((3:Nat):Int) by omega)) ?_
   refine Wl.q rfl (Qy.loadsG T.agg100 rfl (Arr.elem hpA2 (show 0≤((2:Nat):Int)∧((2:Nat):Int)<((3:Nat):Int) by omega)) rfl) ?_
   refine Wl.re 31 rfl (show _=Value.agg #[.int .i64 zp.ins,.int .i64 zp.regs,.slice zac zp.code.length zcc,.slice zao zp.outs.length zoc,.func (.func 110) #[] #[.pointer (some ⟨bp2,0,none⟩)]] from rfl) ?_
   by_cases hr:rightP zp=true
   · skip
     refine Wl.alloc 1 rfl T.zero100 (fun b2=>?_)
     refine Wl.gl 7 [1] ?_
     refine Wl.q rfl (Qy.loads 1 T.agg26 rfl rfl rfl rfl) ?_
     refine Wl.k0 rfl (c56R _ zp _ _ _ _ (by assumption) (by assumption) (by omega) (by omega) hr) ?_
     refine Wl.gl 22 [0,1] ?_
     refine Wl.q rfl (Qy.loads 1 T.agg26 rfl rfl rfl rfl) ?_
     refine Wl.callV (fst:=[]) (cap:=[.pointer (some ⟨bp2,0,none⟩)]) 2 rfl T.fn110 rfl rfl (c110 _ bp2 _ _ _ zp zac zao pa zcc zoc pc pl hB rfl hzc hzo hpa hpc hpl hz1 (by omega) hRL hr) (tags_of trivial) (fun v9 G9 Ho9 hle9 hp=>?_)
     obtain ⟨rfl,rfl⟩:=hp
     refine Wl.gl 12 [] ?_
     refine Wl.no 53 rfl (by first | assumption | omega) ?_
     refine Wl.ll0 3 [] ?_
     refine Wl.q rfl (Qy.notD rfl) ?_
     refine Wl.gc 3 [] ?_
     refine Wc.cond rfl (fun hc1=>?_) (fun hc1=>?_)
     refine Wc.ga 14 [] ?_
     rotate_left
     refine Wc.ga 7 [] ?_
     rotate_left
     · refine Ar.e2 ?_
       exact ⟨by rw [unit_3i hW (hx9 (by omega)).1 (hx9 (by omega)).2 (hy9 (by omega)).1 (hy9 (by omega)).2 hr (by assumption)];rfl,rfl⟩
     refine Ar.re 27 rfl (show _=Value.int .i64 ((3:Nat):Int) from rfl) ?_
     refine Ar.again ((3,G9)) ?_ ?_ rfl ⟨rfl,rfl,rfl,trivial⟩ ⟨rfl,trivial⟩
     · exact ⟨by omega,Imm.le_trans hgx hle9,fun _=>hx9 (by omega),fun _=>hy9 (by omega),fun _=>⟨hr,Decidable.not_not.1 (by assumption)⟩⟩
     show 3 - 3<3 - 2
     omega
   skip
   refine Wl.alloc 1 rfl T.zero100 (fun b2=>?_)
   refine Wl.gl 7 [1] ?_
   refine Wl.q rfl (Qy.loads 1 T.agg26 rfl rfl rfl rfl) ?_
   refine Wl.k0 rfl (c56P _ zp _ _ _ _ (by assumption) (by assumption) (by omega) (by omega) hr) ?_
   refine Wl.ga 31 [1] ?_
   refine Ar.e2 ?_
   exact ⟨by rw [unit_3r hW (hx9 (by omega)).1 (hx9 (by omega)).2 (hy9 (by omega)).1 (hy9 (by omega)).2 (by assumption)];rfl,rfl⟩
 refine Wc.ga 19 [0] ?_
 refine Ar.e2 ?_
 exact ⟨by rw [unit_ok hW (hx9 (by omega)).1 (hx9 (by omega)).2 (hy9 (by omega)).1 (hy9 (by omega)).2 (hz9 (by omega)).1 (hz9 (by omega)).2],rfl⟩
end Go.Proofs.YtfdcckcadfhpeaaGreatDoor
