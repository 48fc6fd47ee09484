/- ToomMuls, where what it reads is of bulk at most 1048576: the law returns true, and its arguments read as they did. Condition besides: the tables that math/bits and unicode/utf8 list read as the program's text lays them (tied by the card). -/
import Derived.Test.YtngphgeghfdjbaaGreatDoorMDm
import Derived.JoinedCond
namespace Go.Proofs.YtngphgeghfdjbaaGreatDoor.toomMuls
open Go Go.Sl Go.ChangeShapes Go.WideShapes Go.RowKit
set_option linter.unusedVariables false
set_option maxRecDepth 100000
theorem contract (H:Type) (enc:TypeId×Value→H) (W:World) (base:Nat) (args:Array Value) (ds gs:List (DataW H)) (before:List MemPlace)
 (hval:∀ (j:Nat) t v,Tryz.f3.params[j]?=some t→args[j]?=some v→Value.okWide Tryz.prog W .any base t v)
 (hW:DataW.Whole enc Tryz.prog Tryz.f3.params.toList Rows.toomMulsSpec.vars false W args.toList ds gs before) (hk:Rows.uptoSmall H (ds++gs)=true) (hL:laidMetH Tryz.prog Rows.toomMulsUptoRow.laid W) :
 Calls Tryz.prog 3 args W fun e W'=>∃ v,e=.returned v∧Rows.toomMulsSpec.post enc Tryz.prog Tryz.f3 false true false false W args v W':=by
 have hW':=hW;obtain ⟨p,q,hA,hV,rfl,hfz,hnd⟩:=hW;rw [Tryz.params3] at hA hval;obtain ⟨v0,vs0,d0,ds0,p0,q0,hargs,rfl,rfl,h0,r0⟩:=trodAll_cons hA;obtain ⟨v1,vs1,d1,ds1,p1,q1,rfl,rfl,rfl,h1,r1⟩:=trodAll_cons r0;obtain ⟨v2,vs2,d2,ds2,p2,q2,rfl,rfl,rfl,h2,r2⟩:=trodAll_cons r1;obtain ⟨v3,vs3,d3,ds3,p3,q3,rfl,rfl,rfl,h3,r3⟩:=trodAll_cons r2;obtain ⟨rfl,rfl,rfl⟩:=trodAll_nil r3;obtain rfl:args=#[v0,v1,v2,v3]:=by cases args;simp_all
 obtain ⟨rfl,rfl⟩:=trodVars_none hV;obtain ⟨k1,k2,pl,pa,pc,xp,yp,zp,xac,xao,yac,yao,zac,zao,xcc,xoc,ycc,yoc,zcc,zoc,rfl,hpa,hpc,hpb,hxc,hxo,hx1,hx2,hyc,hyo,hy1,hy2,hzc,hzo,hz1,hz2⟩:=LN (hval 0 28 v0 rfl rfl) h0;obtain ⟨aa,ca,xs,rfl,wa1,wc1,wi1,wb1⟩:=open_ints (hval 1 29 v1 rfl rfl) h1;obtain ⟨ab,cb,ys,rfl,wa2,wc2,wi2,wb2⟩:=open_ints (hval 2 29 v2 rfl rfl) h2;have hk2:Rows.uptoSmall H [d0,d1,d2,d3]=true:=by simpa using hk
 have hk':Rows.uptoBulkAll [d0,d1,d2,d3]≤1048576:=of_decide_eq_true hk2;simp only [Rows.uptoBulkAll] at hk';obtain ⟨k3,rfl,rfl,rfl,w3⟩:=open_int AS (hval 3 3 v3 rfl rfl) h3;have hWk:∀ G,TabOk G→Does Tryz.prog 16 [] G [] (fun v G' Ho=>v=.bool (decide (1=1))∧G'=G∧Ho=[]):=fun G hT=>(vg G hT).mono fun v G' Ho _ h=>⟨h.1.trans (by rw [decide_eq_true rfl]),h.2⟩
 refine KS HO (by kernel_rfl) rfl px rfl (fun ds hl=>?_) hW' ((c3 hWk (yX W) (al hL) (RC hL) ⟨k1,k2,pl,xp,yp,zp⟩ ⟨pa,pc,xac,xcc,xao,xoc,yac,ycc,yao,yoc,zac,zcc,zao,zoc⟩ ⟨hpc,hpa,hxc,hxo,hyc,hyo,hzc,hzo⟩ ⟨by show pl.length≤1048576;omega,by show xp.code.length≤1048576;omega,by show xp.outs.length≤1048576;omega,by show yp.code.length≤1048576;omega,by show yp.outs.length≤1048576;omega,by show zp.code.length≤1048576;omega,by show zp.outs.length≤1048576;omega⟩ k3 aa ab ca cb xs ys wa1 wa2 wi1 wi2).mono fun v G' Ho _ h=>h.1)
 match ds,hl with
 | [d,d',d'',d'''],_=>rfl
theorem laid_met (os:Os):laidMet Tryz.prog Rows.toomMulsUptoRow.laid ((Lc os).forCall (fun _ _=>0) ⟨#[],#[.agg #[.int .i64 0,.int .i64 0,.slice none 0 0,.int .i64 0,.int .i64 0,.slice none 0 0,.slice none 0 0,.int .i64 0,.int .i64 0,.slice none 0 0,.slice none 0 0,.int .i64 0,.int .i64 0,.slice none 0 0,.slice none 0 0],.slice none 0 0,.slice none 0 0,.int .i64 0],[]⟩).memory:=
 laidMet_of_run' 8 (by kernel_rfl) (by kernel_rfl)
theorem reads (os:Os) {H:Type} (enc:TypeId×Value→H):∃ places,DataW.whole enc Tryz.prog ((Lc os).forCall (fun _ _=>0) ⟨#[],#[.agg #[.int .i64 0,.int .i64 0,.slice none 0 0,.int .i64 0,.int .i64 0,.slice none 0 0,.slice none 0 0,.int .i64 0,.int .i64 0,.slice none 0 0,.slice none 0 0,.int .i64 0,.int .i64 0,.slice none 0 0,.slice none 0 0],.slice none 0 0,.slice none 0 0,.int .i64 0],[]⟩).memory Tryz.f3.params.toList Rows.toomMulsSpec.vars false #[(.agg #[.int .i64 0,.int .i64 0,.slice none 0 0,.int .i64 0,.int .i64 0,.slice none 0 0,.slice none 0 0,.int .i64 0,.int .i64 0,.slice none 0 0,.slice none 0 0,.int .i64 0,.int .i64 0,.slice none 0 0,.slice none 0 0]:Value),.slice none 0 0,.slice none 0 0,.int .i64 0].toList 8=some ([.agg [.lit (.int .i64 0),.lit (.int .i64 0),.nil,.agg [.lit (.int .i64 0),.lit (.int .i64 0),.nil,.nil],.agg [.lit (.int .i64 0),.lit (.int .i64 0),.nil,.nil],.agg [.lit (.int .i64 0),.lit (.int .i64 0),.nil,.nil]],.nil,.nil,.lit (.int .i64 0)],[],places):=
 ⟨[],by kernel_rfl⟩
theorem lifted (os:Os) (started:os.Started) (H:Type) (enc:TypeId×Value→H) (F:Stop.Interp) :
 ReturnsInHanded {} Tryz.checked os 3 .any ((Rows.OpenSpec.upto Rows.toomMulsSpec).preRow enc Tryz.prog Tryz.f3 Rows.toomMulsUptoRow.domain false Rows.toomMulsUptoRow.laid) (((Rows.OpenSpec.upto Rows.toomMulsSpec).at F).post enc Tryz.prog Tryz.f3 false true false false):=by
 obtain ⟨places,hx⟩:=reads os enc;refine returnsInHanded_of_row (C:=Tryz.checked) (s:=Rows.OpenSpec.upto Rows.toomMulsSpec) own started (by kernel_rfl) Tryz.func3
  (witness_row_at (enc:=enc) (C:=Tryz.checked) false (Lc os) _ rfl (by kernel_rfl) (by kernel_rfl) (by kernel_rfl)
   (OpenSpec.preRow_of_cond 8 hx (by kernel_rfl) (fun k hk=>by cases hk;kernel_rfl) (by kernel_rfl) (laid_met os))) ?_
 intro W base args ds gs before hval hW _ hcond _ hL _ _;exact contract H enc W base args ds gs before hval hW (hcond _ rfl) hL
theorem facA:(Rows.toomMulsUptoRow.inPlace == Tryz.prog.inPlace 3)=true:=by kernel_rfl
theorem facB:(Rows.toomMulsUptoRow.unfollowed == Tryz.prog.unfollowed 3)=true:=by kernel_rfl
theorem facC:(Rows.toomMulsUptoRow.recurses == Tryz.prog.recurses 3)=true:=by kernel_rfl
theorem facD:(Rows.toomMulsUptoRow.named == Tryz.prog.varsNamed 3)=true:=by kernel_rfl
theorem facE:mapsRowed Tryz.prog=true:=by kernel_rfl
theorem facF:Rows.toomMulsUptoRow.wf (OpenSpec.ofChange (Rows.OpenSpec.upto Rows.toomMulsSpec).bare)=true:=by kernel_rfl
theorem facG:false=Rows.toomMulsUptoRow.goesBy Tryz.prog:=by kernel_rfl
theorem facH:Rows.toomMulsUptoRow.wfByText (Rows.OpenSpec.upto Rows.toomMulsSpec)=true:=by kernel_rfl
theorem facts:joinedFacts Tryz.prog 3 Tryz.f3 (Rows.OpenSpec.upto Rows.toomMulsSpec).bare Rows.toomMulsUptoRow=true:=by
 unfold joinedFacts;rw [facA,facB,facC,facD,facE,facF,HO];kernel_rfl
theorem said:Rows.ToomMulsUptoSaid:=
 OpenClaim.holds_of_cond 3 Tryz.f3 rfl rfl rfl rfl rfl rfl rfl ⟨rfl,rfl,rfl,rfl,rfl⟩ rfl rfl rfl rfl rfl (by kernel_rfl) Tryz.func3 facts
  (of_decide_eq_true (by kernel_rfl)) (by unfold Func.isWrapper;first | (rw [if_pos (by decide +kernel)];kernel_rfl) | (rw [if_neg (by decide +kernel)];exact ⟨rfl,rfl⟩))
  (fun os started H enc _ F=>by rw [OpenClaim.pre_eq_preRow];exact lifted os started H enc F)
theorem plain (f : FuncId) (fn : Func) (hf : Tryz.pinned.checked.prog.funcNamed "anvil/anvillaw22.ToomMuls" = some f) (hfn : Tryz.pinned.checked.prog.funcs[f]? = some fn) :
 false=Tryz.pinned.checked.prog.looks []∧∀ (j:Nat) t,fn.params[j]?=some t→Tryz.pinned.checked.prog.wantsStandIn t=false:=by
 obtain rfl : f = 3 := Option.some.inj ((show Tryz.prog.funcNamed "anvil/anvillaw22.ToomMuls" = some 3 by kernel_rfl).symm.trans hf) |>.symm;obtain rfl:fn=Tryz.f3:=(Option.some.inj (Tryz.func3.symm.trans hfn)).symm;refine ⟨by kernel_rfl,fun j t ht=>?_⟩;rw [Tryz.params3] at ht;have ht2:t=28∨t=29∨t=3:=by
  have h9:=Array.mem_of_getElem? ht;simp at h9;first | exact h9 | (rcases h9 with h9 | h9 | h9 <;> simp [h9])
 rcases ht2 with rfl | rfl | rfl
 · exact (show Tryz.prog.wantsStandIn 28=false by kernel_rfl)
 · exact (show Tryz.prog.wantsStandIn 29=false by kernel_rfl)
 exact (show Tryz.prog.wantsStandIn 3=false by kernel_rfl)
theorem card:Rows.ToomMulsUptoCardSaid:=
 Claim7.holds_tied_plain_at .later [] _ _ _ _ said (fun _ h=>by cases h) facH (fun _ h=>by cases h) toomMulsUpto_row_tie rfl ⟨rfl,rfl⟩ (by kernel_rfl) rfl plain facG
#print axioms card
end Go.Proofs.YtngphgeghfdjbaaGreatDoor.toomMuls
