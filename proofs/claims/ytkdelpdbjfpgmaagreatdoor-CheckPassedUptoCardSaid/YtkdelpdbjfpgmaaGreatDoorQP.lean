/- CheckPassed, where what it reads is of bulk at most 1048576: the law returns true, and its arguments read as they did. Condition besides: the tables that math/bits lists read as the program's text lays them (tied by the card). -/
import Derived.Test.YtkdelpdbjfpgmaaGreatDoorMPl
import Derived.JoinedCond
namespace Go.Proofs.YtkdelpdbjfpgmaaGreatDoor.checkPassed
open Go Go.Sl Go.ChangeShapes Go.WideShapes Go.RowKit
set_option linter.unusedVariables false
set_option maxRecDepth 100000
theorem contract (H:Type) (enc:TypeId×Value→H) (W:World) (base:Nat) (args:Array Value) (ds gs:List (DataW H)) (before:List MemPlace)
 (hval:∀ (j:Nat) t v,Tryz.f9.params[j]?=some t→args[j]?=some v→Value.okWide Tryz.prog W .any base t v)
 (hW:DataW.Whole enc Tryz.prog Tryz.f9.params.toList Rows.checkPassedSpec.vars false W args.toList ds gs before) (hk:Rows.uptoSmall H (ds++gs)=true) (hL:laidMetH Tryz.prog Rows.checkPassedUptoRow.laid W) :
 Calls Tryz.prog 9 args W fun e W'=>∃ v,e=.returned v∧Rows.checkPassedSpec.post enc Tryz.prog Tryz.f9 false true false false W args v W':=by
 have hW':=hW;obtain ⟨p,q,hA,hV,rfl,hfz,hnd⟩:=hW;rw [Tryz.params9] at hA hval;obtain ⟨v0,vs0,d0,ds0,p0,q0,hargs,rfl,rfl,h0,r0⟩:=trodAll_cons hA;obtain ⟨v1,vs1,d1,ds1,p1,q1,rfl,rfl,rfl,h1,r1⟩:=trodAll_cons r0;obtain ⟨v2,vs2,d2,ds2,p2,q2,rfl,rfl,rfl,h2,r2⟩:=trodAll_cons r1;obtain ⟨rfl,rfl,rfl⟩:=trodAll_nil r2;obtain rfl:args=#[v0,v1,v2]:=by cases args;simp_all
 obtain ⟨rfl,rfl⟩:=trodVars_none hV;obtain ⟨a,c,l,rfl,ha,hc,hb⟩:=OB (hval 2 22 v2 rfl rfl) h2;have hk2:Rows.uptoSmall H [d0,d1,d2]=true:=by simpa using hk
 have hk':Rows.uptoBulkAll [d0,d1,d2]≤1048576:=of_decide_eq_true hk2;simp only [Rows.uptoBulkAll] at hk';obtain ⟨k0,rfl,rfl,rfl,w0⟩:=open_int XZ (hval 0 3 v0 rfl rfl) h0;obtain ⟨k1,rfl,rfl,rfl,w1⟩:=open_int XZ (hval 1 3 v1 rfl rfl) h1;have hWk:∀ G,TabOk G→Does Tryz.prog 10 [] G [] (fun v G' Ho=>v=.bool (decide (1=1))∧G'=G∧Ho=[]):=fun G hT=>c10 G hT;refine ID SR (by kernel_rfl) rfl ft rfl (fun ds hl=>?_) hW' ((c9 hWk (Gp W) (XO hL) k0 k1 l a c ha hc).mono fun v G' Ho _ h=>h.1)
 match ds,hl with
 | [d,d',d''],_=>rfl
theorem laid_met (os:Os):laidMet Tryz.prog Rows.checkPassedUptoRow.laid ((Ky os).forCall (fun _ _=>0) ⟨#[],#[.int .i64 0,.int .i64 0,.slice none 0 0],[]⟩).memory:=
 laidMet_of_run' 8 (by kernel_rfl) (by kernel_rfl)
theorem reads (os:Os) {H:Type} (enc:TypeId×Value→H):∃ places,DataW.whole enc Tryz.prog ((Ky os).forCall (fun _ _=>0) ⟨#[],#[.int .i64 0,.int .i64 0,.slice none 0 0],[]⟩).memory Tryz.f9.params.toList Rows.checkPassedSpec.vars false #[(.int .i64 0:Value),.int .i64 0,.slice none 0 0].toList 8=some ([.lit (.int .i64 0),.lit (.int .i64 0),.nil],[],places):=
 ⟨[],by kernel_rfl⟩
theorem lifted (os:Os) (started:os.Started) (H:Type) (enc:TypeId×Value→H) (F:Stop.Interp) :
 ReturnsInHanded {} Tryz.checked os 9 .any ((Rows.OpenSpec.upto Rows.checkPassedSpec).preRow enc Tryz.prog Tryz.f9 Rows.checkPassedUptoRow.domain false Rows.checkPassedUptoRow.laid) (((Rows.OpenSpec.upto Rows.checkPassedSpec).at F).post enc Tryz.prog Tryz.f9 false true false false):=by
 obtain ⟨places,hx⟩:=reads os enc;refine returnsInHanded_of_row (C:=Tryz.checked) (s:=Rows.OpenSpec.upto Rows.checkPassedSpec) own started (by kernel_rfl) Tryz.func9
  (witness_row_at (enc:=enc) (C:=Tryz.checked) false (Ky os) _ rfl (by kernel_rfl) (by kernel_rfl) (by kernel_rfl)
   (OpenSpec.preRow_of_cond 8 hx (by kernel_rfl) (fun k hk=>by cases hk;kernel_rfl) (by kernel_rfl) (laid_met os))) ?_
 intro W base args ds gs before hval hW _ hcond _ hL _ _;exact contract H enc W base args ds gs before hval hW (hcond _ rfl) hL
theorem said:Rows.CheckPassedUptoSaid:=
 OpenClaim.holds_of_cond 9 Tryz.f9 rfl rfl rfl rfl rfl rfl rfl ⟨rfl,rfl,rfl,rfl,rfl⟩ rfl rfl rfl rfl rfl (by kernel_rfl) Tryz.func9 (by kernel_rfl)
  (of_decide_eq_true (by kernel_rfl)) (by unfold Func.isWrapper;first | (rw [if_pos (by decide +kernel)];kernel_rfl) | (rw [if_neg (by decide +kernel)];exact ⟨rfl,rfl⟩))
  (fun os started H enc _ F=>by rw [OpenClaim.pre_eq_preRow];exact lifted os started H enc F)
theorem plain (f : FuncId) (fn : Func) (hf : Tryz.pinned.checked.prog.funcNamed "anvil/anvillaw18.CheckPassed" = some f) (hfn : Tryz.pinned.checked.prog.funcs[f]? = some fn) :
 false=Tryz.pinned.checked.prog.looks []∧∀ (j:Nat) t,fn.params[j]?=some t→Tryz.pinned.checked.prog.wantsStandIn t=false:=by
 obtain rfl : f = 9 := Option.some.inj ((show Tryz.prog.funcNamed "anvil/anvillaw18.CheckPassed" = some 9 by kernel_rfl).symm.trans hf) |>.symm;obtain rfl:fn=Tryz.f9:=(Option.some.inj (Tryz.func9.symm.trans hfn)).symm;refine ⟨by kernel_rfl,fun j t ht=>?_⟩;rw [Tryz.params9] at ht;have ht2:t=3∨t=22:=by
  have h9:=Array.mem_of_getElem? ht;simp at h9;exact h9
 rcases ht2 with rfl | rfl
 · exact (show Tryz.prog.wantsStandIn 3=false by kernel_rfl)
 exact (show Tryz.prog.wantsStandIn 22=false by kernel_rfl)
theorem card:Rows.CheckPassedUptoCardSaid:=
 Claim7.holds_tied_plain_at .later [] _ _ _ _ said (fun _ h=>by cases h) (by kernel_rfl) (fun _ h=>by cases h) checkPassedUpto_row_tie rfl ⟨rfl,rfl⟩ (by kernel_rfl) rfl plain (by kernel_rfl)
#print axioms card
end Go.Proofs.YtkdelpdbjfpgmaaGreatDoor.checkPassed
