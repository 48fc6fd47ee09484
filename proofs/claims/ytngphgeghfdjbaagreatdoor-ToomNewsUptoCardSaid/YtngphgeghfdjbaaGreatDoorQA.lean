/- ToomNews, where what it reads is of bulk at most 1048576: the law returns true, and its arguments read as they did. Condition besides: the tables that math/bits and unicode/utf8 list read as the program's text lays them (tied by the card). -/
import Derived.Test.YtngphgeghfdjbaaGreatDoorMAl
import Derived.JoinedCond
namespace Go.Proofs.YtngphgeghfdjbaaGreatDoor.toomNews
open Go Go.Sl Go.ChangeShapes Go.WideShapes Go.RowKit
set_option linter.unusedVariables false
set_option maxRecDepth 100000
theorem contract (H:Type) (enc:TypeId×Value→H) (W:World) (base:Nat) (args:Array Value) (ds gs:List (DataW H)) (before:List MemPlace)
 (hval:∀ (j:Nat) t v,Tryz.f4.params[j]?=some t→args[j]?=some v→Value.okWide Tryz.prog W .any base t v)
 (hW:DataW.Whole enc Tryz.prog Tryz.f4.params.toList Rows.toomNewsSpec.vars false W args.toList ds gs before) (hk:Rows.uptoSmall H (ds++gs)=true) (hL:laidMetH Tryz.prog Rows.toomNewsUptoRow.laid W) :
 Calls Tryz.prog 4 args W fun e W'=>∃ v,e=.returned v∧Rows.toomNewsSpec.post enc Tryz.prog Tryz.f4 false true false false W args v W':=by
 have hW':=hW
 obtain ⟨p,q,hA,hV,rfl,hfz,hnd⟩:=hW
 rw [Tryz.params4] at hA hval
 obtain ⟨v0,vs0,d0,ds0,p0,q0,hargs,rfl,rfl,h0,r0⟩:=trodAll_cons hA
 obtain ⟨rfl,rfl,rfl⟩:=trodAll_nil r0
 obtain rfl:args=#[v0]:=by cases args;simp_all
 obtain ⟨rfl,rfl⟩:=trodVars_none hV
 obtain ⟨k1,k2,pl,pa,pc,xp,yp,zp,xac,xao,yac,yao,zac,zao,xcc,xoc,ycc,yoc,zcc,zoc,rfl,hpa,hpc,hpb,hxc,hxo,hx1,hx2,hyc,hyo,hy1,hy2,hzc,hzo,hz1,hz2⟩:=Zp (hval 0 28 v0 rfl rfl) h0
 have hk2:Rows.uptoSmall H [d0]=true:=by simpa using hk
 have hk':Rows.uptoBulkAll [d0]≤1048576:=of_decide_eq_true hk2
 simp only [Rows.uptoBulkAll] at hk'
 have hWk:∀ G,TabOk G→Does Tryz.prog 16 [] G [] (fun v G' Ho=>v=.bool (decide (1=1))∧G'=G∧Ho=[]):=fun G hT=>(WO G hT).mono fun v G' Ho _ h=>⟨h.1.trans (by rw [decide_eq_true rfl]),h.2⟩
 refine Yq Vi (by kernel_rfl) rfl SQ rfl (fun ds hl=>?_) hW' ((c4 hWk (vN W) (LW hL) ⟨k1,k2,pl,xp,yp,zp⟩ ⟨pa,pc,xac,xcc,xao,xoc,yac,ycc,yao,yoc,zac,zcc,zao,zoc⟩ ⟨hpc,hpa,hxc,hxo,hyc,hyo,hzc,hzo⟩ ⟨by show pl.length≤1048576;omega,by show xp.code.length≤1048576;omega,by show xp.outs.length≤1048576;omega,by show yp.code.length≤1048576;omega,by show yp.outs.length≤1048576;omega,by show zp.code.length≤1048576;omega,by show zp.outs.length≤1048576;omega⟩).mono fun v G' Ho _ h=>h.1)
 match ds,hl with
 | [d],_=>rfl
theorem laid_met (os:Os):laidMet Tryz.prog Rows.toomNewsUptoRow.laid ((Dz os).forCall (fun _ _=>0) ⟨#[],#[.agg #[.int .i64 0,.int .i64 0,.slice none 0 0,.int .i64 0,.int .i64 0,.slice none 0 0,.slice none 0 0,.int .i64 0,.int .i64 0,.slice none 0 0,.slice none 0 0,.int .i64 0,.int .i64 0,.slice none 0 0,.slice none 0 0]],[]⟩).memory:=
 laidMet_of_run' 8 (by kernel_rfl) (by kernel_rfl)
theorem reads (os:Os) {H:Type} (enc:TypeId×Value→H):∃ places,DataW.whole enc Tryz.prog ((Dz os).forCall (fun _ _=>0) ⟨#[],#[.agg #[.int .i64 0,.int .i64 0,.slice none 0 0,.int .i64 0,.int .i64 0,.slice none 0 0,.slice none 0 0,.int .i64 0,.int .i64 0,.slice none 0 0,.slice none 0 0,.int .i64 0,.int .i64 0,.slice none 0 0,.slice none 0 0]],[]⟩).memory Tryz.f4.params.toList Rows.toomNewsSpec.vars false #[(.agg #[.int .i64 0,.int .i64 0,.slice none 0 0,.int .i64 0,.int .i64 0,.slice none 0 0,.slice none 0 0,.int .i64 0,.int .i64 0,.slice none 0 0,.slice none 0 0,.int .i64 0,.int .i64 0,.slice none 0 0,.slice none 0 0]:Value)].toList 8=some ([.agg [.lit (.int .i64 0),.lit (.int .i64 0),.nil,.agg [.lit (.int .i64 0),.lit (.int .i64 0),.nil,.nil],.agg [.lit (.int .i64 0),.lit (.int .i64 0),.nil,.nil],.agg [.lit (.int .i64 0),.lit (.int .i64 0),.nil,.nil]]],[],places):=
 ⟨[],by kernel_rfl⟩
theorem lifted (os:Os) (started:os.Started) (H:Type) (enc:TypeId×Value→H) (F:Stop.Interp) :
 ReturnsInHanded {} Tryz.checked os 4 .any ((Rows.OpenSpec.upto Rows.toomNewsSpec).preRow enc Tryz.prog Tryz.f4 Rows.toomNewsUptoRow.domain false Rows.toomNewsUptoRow.laid) (((Rows.OpenSpec.upto Rows.toomNewsSpec).at F).post enc Tryz.prog Tryz.f4 false true false false):=by
 obtain ⟨places,hx⟩:=reads os enc
 refine returnsInHanded_of_row (C:=Tryz.checked) (s:=Rows.OpenSpec.upto Rows.toomNewsSpec) own started (by kernel_rfl) Tryz.func4
  (witness_row_at (enc:=enc) (C:=Tryz.checked) false (Dz os) _ rfl (by kernel_rfl) (by kernel_rfl) (by kernel_rfl)
   (OpenSpec.preRow_of_cond 8 hx (by kernel_rfl) (fun k hk=>by cases hk;kernel_rfl) (by kernel_rfl) (laid_met os))) ?_
 intro W base args ds gs before hval hW _ hcond _ hL _ _
 exact contract H enc W base args ds gs before hval hW (hcond _ rfl) hL
theorem facA:(Rows.toomNewsUptoRow.inPlace == Tryz.prog.inPlace 4)=true:=by kernel_rfl
theorem facB:(Rows.toomNewsUptoRow.unfollowed == Tryz.prog.unfollowed 4)=true:=by kernel_rfl
theorem facC:(Rows.toomNewsUptoRow.recurses == Tryz.prog.recurses 4)=true:=by kernel_rfl
theorem facD:(Rows.toomNewsUptoRow.named == Tryz.prog.varsNamed 4)=true:=by kernel_rfl
theorem facE:mapsRowed Tryz.prog=true:=by kernel_rfl
theorem facF:Rows.toomNewsUptoRow.wf (OpenSpec.ofChange (Rows.OpenSpec.upto Rows.toomNewsSpec).bare)=true:=by kernel_rfl
theorem facG:false=Rows.toomNewsUptoRow.goesBy Tryz.prog:=by kernel_rfl
theorem facH:Rows.toomNewsUptoRow.wfByText (Rows.OpenSpec.upto Rows.toomNewsSpec)=true:=by kernel_rfl
theorem facts:joinedFacts Tryz.prog 4 Tryz.f4 (Rows.OpenSpec.upto Rows.toomNewsSpec).bare Rows.toomNewsUptoRow=true:=by
 unfold joinedFacts
 rw [facA,facB,facC,facD,facE,facF,Vi]
 kernel_rfl
theorem said:Rows.ToomNewsUptoSaid:=
 OpenClaim.holds_of_cond 4 Tryz.f4 rfl rfl rfl rfl rfl rfl rfl ⟨rfl,rfl,rfl,rfl,rfl⟩ rfl rfl rfl rfl rfl (by kernel_rfl) Tryz.func4 facts
  (of_decide_eq_true (by kernel_rfl)) (by unfold Func.isWrapper;first | (rw [if_pos (by decide +kernel)];kernel_rfl) | (rw [if_neg (by decide +kernel)];exact ⟨rfl,rfl⟩))
  (fun os started H enc _ F=>by rw [OpenClaim.pre_eq_preRow];exact lifted os started H enc F)
theorem plain (f : FuncId) (fn : Func) (hf : Tryz.pinned.checked.prog.funcNamed "anvil/anvillaw22.ToomNews" = some f) (hfn : Tryz.pinned.checked.prog.funcs[f]? = some fn) :
 false=Tryz.pinned.checked.prog.looks []∧∀ (j:Nat) t,fn.params[j]?=some t→Tryz.pinned.checked.prog.wantsStandIn t=false:=by
 obtain rfl : f = 4 := Option.some.inj ((show Tryz.prog.funcNamed "anvil/anvillaw22.ToomNews" = some 4 by kernel_rfl).symm.trans hf) |>.symm
 obtain rfl:fn=Tryz.f4:=(Option.some.inj (Tryz.func4.symm.trans hfn)).symm
 refine ⟨by kernel_rfl,fun j t ht=>?_⟩
 rw [Tryz.params4] at ht
 have ht2:t=28:=by
  have h9:=Array.mem_of_getElem? ht
  simp at h9
  exact h9
 subst ht2
 exact (show Tryz.prog.wantsStandIn 28=false by kernel_rfl)
theorem card:Rows.ToomNewsUptoCardSaid:=
 Claim7.holds_tied_plain_at .later [] _ _ _ _ said (fun _ h=>by cases h) facH (fun _ h=>by cases h) toomNewsUpto_row_tie rfl ⟨rfl,rfl⟩ (by kernel_rfl) rfl plain facG
#print axioms card
end Go.Proofs.YtngphgeghfdjbaaGreatDoor.toomNews
