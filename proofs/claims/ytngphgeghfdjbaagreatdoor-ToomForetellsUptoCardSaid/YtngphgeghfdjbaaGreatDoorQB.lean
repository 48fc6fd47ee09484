/- ToomForetells, where what it reads is of bulk at most 1048576: the law returns true, and its arguments read as they did. Condition besides: the tables that math/bits and unicode/utf8 list read as the program's text lays them (tied by the card). -/
import Derived.Test.YtngphgeghfdjbaaGreatDoorMBk
import Derived.JoinedCond
namespace Go.Proofs.YtngphgeghfdjbaaGreatDoor.toomForetells
open Go Go.Sl Go.ChangeShapes Go.WideShapes Go.RowKit
set_option linter.unusedVariables false
set_option maxRecDepth 100000
theorem contract (H:Type) (enc:TypeId×Value→H) (W:World) (base:Nat) (args:Array Value) (ds gs:List (DataW H)) (before:List MemPlace)
 (hval:∀ (j:Nat) t v,Tryz.f6.params[j]?=some t→args[j]?=some v→Value.okWide Tryz.prog W .any base t v)
 (hW:DataW.Whole enc Tryz.prog Tryz.f6.params.toList Rows.toomForetellsSpec.vars false W args.toList ds gs before) (hk:Rows.uptoSmall H (ds++gs)=true) (hL:laidMetH Tryz.prog Rows.toomForetellsUptoRow.laid W) :
 Calls Tryz.prog 6 args W fun e W'=>∃ v,e=.returned v∧Rows.toomForetellsSpec.post enc Tryz.prog Tryz.f6 false true false false W args v W':=by
 have hW':=hW
 obtain ⟨p,q,hA,hV,rfl,hfz,hnd⟩:=hW
 rw [Tryz.params6] at hA hval
 obtain ⟨v0,vs0,d0,ds0,p0,q0,hargs,rfl,rfl,h0,r0⟩:=trodAll_cons hA
 obtain ⟨v1,vs1,d1,ds1,p1,q1,rfl,rfl,rfl,h1,r1⟩:=trodAll_cons r0
 obtain ⟨v2,vs2,d2,ds2,p2,q2,rfl,rfl,rfl,h2,r2⟩:=trodAll_cons r1
 obtain ⟨v3,vs3,d3,ds3,p3,q3,rfl,rfl,rfl,h3,r3⟩:=trodAll_cons r2
 obtain ⟨v4,vs4,d4,ds4,p4,q4,rfl,rfl,rfl,h4,r4⟩:=trodAll_cons r3
 obtain ⟨rfl,rfl,rfl⟩:=trodAll_nil r4
 obtain rfl:args=#[v0,v1,v2,v3,v4]:=by cases args;simp_all
 obtain ⟨rfl,rfl⟩:=trodVars_none hV
 obtain ⟨k1,k2,pl,pa,pc,xp,yp,zp,xac,xao,yac,yao,zac,zao,xcc,xoc,ycc,yoc,zcc,zoc,rfl,hpa,hpc,hpb,hxc,hxo,hx1,hx2,hyc,hyo,hy1,hy2,hzc,hzo,hz1,hz2⟩:=Vm (hval 0 28 v0 rfl rfl) h0
 have hk2:Rows.uptoSmall H [d0,d1,d2,d3,d4]=true:=by simpa using hk
 have hk':Rows.uptoBulkAll [d0,d1,d2,d3,d4]≤1048576:=of_decide_eq_true hk2
 simp only [Rows.uptoBulkAll] at hk'
 obtain ⟨k3,rfl,rfl,rfl,w3⟩:=open_int Fy (hval 1 3 v1 rfl rfl) h1
 obtain ⟨k4,rfl,rfl,rfl,w4⟩:=open_int Fy (hval 2 3 v2 rfl rfl) h2
 obtain ⟨k5,rfl,rfl,rfl,w5⟩:=open_int Fy (hval 3 3 v3 rfl rfl) h3
 obtain ⟨k6,rfl,rfl,rfl,w6⟩:=open_int Fy (hval 4 3 v4 rfl rfl) h4
 have hWk:∀ G,TabOk G→Does Tryz.prog 16 [] G [] (fun v G' Ho=>v=.bool (decide (1=1))∧G'=G∧Ho=[]):=fun G hT=>(RV G hT).mono fun v G' Ho _ h=>⟨h.1.trans (by rw [decide_eq_true rfl]),h.2⟩
 refine Uu Sm (by kernel_rfl) rfl OI rfl (fun ds hl=>?_) hW' ((c6 hWk (uQ W) (HH hL) ⟨k1,k2,pl,xp,yp,zp⟩ ⟨pa,pc,xac,xcc,xao,xoc,yac,ycc,yao,yoc,zac,zcc,zao,zoc⟩ ⟨hpc,hpa,hxc,hxo,hyc,hyo,hzc,hzo⟩ ⟨by show pl.length≤1048576;omega,by show xp.code.length≤1048576;omega,by show xp.outs.length≤1048576;omega,by show yp.code.length≤1048576;omega,by show yp.outs.length≤1048576;omega,by show zp.code.length≤1048576;omega,by show zp.outs.length≤1048576;omega⟩ k3 k4 k5 k6).mono fun v G' Ho _ h=>h.1)
 match ds,hl with
 | [d,d',d'',d''',d''''],_=>rfl
theorem laid_met (os:Os):laidMet Tryz.prog Rows.toomForetellsUptoRow.laid ((Bz os).forCall (fun _ _=>0) ⟨#[],#[.agg #[.int .i64 0,.int .i64 0,.slice none 0 0,.int .i64 0,.int .i64 0,.slice none 0 0,.slice none 0 0,.int .i64 0,.int .i64 0,.slice none 0 0,.slice none 0 0,.int .i64 0,.int .i64 0,.slice none 0 0,.slice none 0 0],.int .i64 0,.int .i64 0,.int .i64 0,.int .i64 0],[]⟩).memory:=
 laidMet_of_run' 8 (by kernel_rfl) (by kernel_rfl)
theorem reads (os:Os) {H:Type} (enc:TypeId×Value→H):∃ places,DataW.whole enc Tryz.prog ((Bz os).forCall (fun _ _=>0) ⟨#[],#[.agg #[.int .i64 0,.int .i64 0,.slice none 0 0,.int .i64 0,.int .i64 0,.slice none 0 0,.slice none 0 0,.int .i64 0,.int .i64 0,.slice none 0 0,.slice none 0 0,.int .i64 0,.int .i64 0,.slice none 0 0,.slice none 0 0],.int .i64 0,.int .i64 0,.int .i64 0,.int .i64 0],[]⟩).memory Tryz.f6.params.toList Rows.toomForetellsSpec.vars false #[(.agg #[.int .i64 0,.int .i64 0,.slice none 0 0,.int .i64 0,.int .i64 0,.slice none 0 0,.slice none 0 0,.int .i64 0,.int .i64 0,.slice none 0 0,.slice none 0 0,.int .i64 0,.int .i64 0,.slice none 0 0,.slice none 0 0]:Value),.int .i64 0,.int .i64 0,.int .i64 0,.int .i64 0].toList 8=some ([.agg [.lit (.int .i64 0),.lit (.int .i64 0),.nil,.agg [.lit (.int .i64 0),.lit (.int .i64 0),.nil,.nil],.agg [.lit (.int .i64 0),.lit (.int .i64 0),.nil,.nil],.agg [.lit (.int .i64 0),.lit (.int .i64 0),.nil,.nil]],.lit (.int .i64 0),.lit (.int .i64 0),.lit (.int .i64 0),.lit (.int .i64 0)],[],places):=
 ⟨[],by kernel_rfl⟩
theorem lifted (os:Os) (started:os.Started) (H:Type) (enc:TypeId×Value→H) (F:Stop.Interp) :
 ReturnsInHanded {} Tryz.checked os 6 .any ((Rows.OpenSpec.upto Rows.toomForetellsSpec).preRow enc Tryz.prog Tryz.f6 Rows.toomForetellsUptoRow.domain false Rows.toomForetellsUptoRow.laid) (((Rows.OpenSpec.upto Rows.toomForetellsSpec).at F).post enc Tryz.prog Tryz.f6 false true false false):=by
 obtain ⟨places,hx⟩:=reads os enc
 refine returnsInHanded_of_row (C:=Tryz.checked) (s:=Rows.OpenSpec.upto Rows.toomForetellsSpec) own started (by kernel_rfl) Tryz.func6
  (witness_row_at (enc:=enc) (C:=Tryz.checked) false (Bz os) _ rfl (by kernel_rfl) (by kernel_rfl) (by kernel_rfl)
   (OpenSpec.preRow_of_cond 8 hx (by kernel_rfl) (fun k hk=>by cases hk;kernel_rfl) (by kernel_rfl) (laid_met os))) ?_
 intro W base args ds gs before hval hW _ hcond _ hL _ _
 exact contract H enc W base args ds gs before hval hW (hcond _ rfl) hL
theorem facA:(Rows.toomForetellsUptoRow.inPlace == Tryz.prog.inPlace 6)=true:=by kernel_rfl
theorem facB:(Rows.toomForetellsUptoRow.unfollowed == Tryz.prog.unfollowed 6)=true:=by kernel_rfl
theorem facC:(Rows.toomForetellsUptoRow.recurses == Tryz.prog.recurses 6)=true:=by kernel_rfl
theorem facD:(Rows.toomForetellsUptoRow.named == Tryz.prog.varsNamed 6)=true:=by kernel_rfl
theorem facE:mapsRowed Tryz.prog=true:=by kernel_rfl
theorem facF:Rows.toomForetellsUptoRow.wf (OpenSpec.ofChange (Rows.OpenSpec.upto Rows.toomForetellsSpec).bare)=true:=by kernel_rfl
theorem facG:false=Rows.toomForetellsUptoRow.goesBy Tryz.prog:=by kernel_rfl
theorem facH:Rows.toomForetellsUptoRow.wfByText (Rows.OpenSpec.upto Rows.toomForetellsSpec)=true:=by kernel_rfl
theorem facts:joinedFacts Tryz.prog 6 Tryz.f6 (Rows.OpenSpec.upto Rows.toomForetellsSpec).bare Rows.toomForetellsUptoRow=true:=by
 unfold joinedFacts
 rw [facA,facB,facC,facD,facE,facF,Sm]
 kernel_rfl
theorem said:Rows.ToomForetellsUptoSaid:=
 OpenClaim.holds_of_cond 6 Tryz.f6 rfl rfl rfl rfl rfl rfl rfl ⟨rfl,rfl,rfl,rfl,rfl⟩ rfl rfl rfl rfl rfl (by kernel_rfl) Tryz.func6 facts
  (of_decide_eq_true (by kernel_rfl)) (by unfold Func.isWrapper;first | (rw [if_pos (by decide +kernel)];kernel_rfl) | (rw [if_neg (by decide +kernel)];exact ⟨rfl,rfl⟩))
  (fun os started H enc _ F=>by rw [OpenClaim.pre_eq_preRow];exact lifted os started H enc F)
theorem plain (f : FuncId) (fn : Func) (hf : Tryz.pinned.checked.prog.funcNamed "anvil/anvillaw22.ToomForetells" = some f) (hfn : Tryz.pinned.checked.prog.funcs[f]? = some fn) :
 false=Tryz.pinned.checked.prog.looks []∧∀ (j:Nat) t,fn.params[j]?=some t→Tryz.pinned.checked.prog.wantsStandIn t=false:=by
 obtain rfl : f = 6 := Option.some.inj ((show Tryz.prog.funcNamed "anvil/anvillaw22.ToomForetells" = some 6 by kernel_rfl).symm.trans hf) |>.symm
 obtain rfl:fn=Tryz.f6:=(Option.some.inj (Tryz.func6.symm.trans hfn)).symm
 refine ⟨by kernel_rfl,fun j t ht=>?_⟩
 rw [Tryz.params6] at ht
 have ht2:t=28∨t=3:=by
  have h9:=Array.mem_of_getElem? ht
  simp at h9
  exact h9
 rcases ht2 with rfl | rfl
 · exact (show Tryz.prog.wantsStandIn 28=false by kernel_rfl)
 exact (show Tryz.prog.wantsStandIn 3=false by kernel_rfl)
theorem card:Rows.ToomForetellsUptoCardSaid:=
 Claim7.holds_tied_plain_at .later [] _ _ _ _ said (fun _ h=>by cases h) facH (fun _ h=>by cases h) toomForetellsUpto_row_tie rfl ⟨rfl,rfl⟩ (by kernel_rfl) rfl plain facG
#print axioms card
end Go.Proofs.YtngphgeghfdjbaaGreatDoor.toomForetells
