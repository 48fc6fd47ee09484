/- cK of the proof (part 13): what the rows' text needs of the texts that lead to it. -/
import Derived.Test.YtfdcckcadfhpeaaGreatDoorMAl
set_option linter.unusedVariables false
set_option linter.unusedSimpArgs false
set_option linter.unusedSectionVars false
set_option maxRecDepth 1000000
set_option maxHeartbeats 4000000
noncomputable section
set_option maxRecDepth 100000
namespace Go.Proofs.YtfdcckcadfhpeaaGreatDoor
open Go Go.Sl Go.Sl.Ev
def m16:Ent:=⟨13,10108,(.cons (.agg (.cons (.int .i64 2) (.cons (.int .i64 2) (.cons (.sl 9869 0 3 2 none) (.cons (.int .i64 2) (.cons (.int .i64 3) (.cons (.sl 9913 0 1 5 none) (.cons (.sl 9934 0 3 1 none) (.cons (.int .i64 2) (.cons (.int .i64 3) (.cons (.sl 9978 0 1 5 none) (.cons (.sl 9999 0 3 1 none) (.cons (.int .i64 3) (.cons (.int .i64 3) (.cons (.sl 10071 0 2 5 none) (.cons (.sl 10092 0 3 1 none) .nil)))))))))))))))) .nil),[⟨10092,(cI [0,1,2]),3,true,false,9828⟩,⟨10071,(cI [4,1,1,0,0,4,1,1,2,0]),91,true,false,9828⟩,⟨9999,(cI [0,2,1]),3,true,false,9828⟩,⟨9978,(cI [3,2,0,1,0]),91,true,false,9828⟩,⟨9934,(cI [0,2,1]),3,true,false,9828⟩,⟨9913,(cI [3,2,0,1,0]),91,true,false,9828⟩,⟨9869,(cI [0,1,1,1,1,0]),52,true,false,9828⟩],(.tup (cI [0,0])),[],12218⟩
theorem aTA:fL Tryz.prog TabOk m16:=cM gM (MemoOk.cons aSZ (MemoOk.cons aSY (MemoOk.cons aSX MemoOk.nil))) 1000000 m16 (by decide +kernel)
def m17:Ent:=⟨17,9826,(.cons (.sl 9825 0 63 1 none) .nil),[⟨9825,(cB [65,78,86,49,2,2,3,0,1,1,1,1,0,2,3,0,1,3,2,0,1,0,0,3,0,2,1,2,3,0,1,3,2,0,1,0,0,3,0,2,1,3,3,0,2,4,1,1,0,0,0,4,1,1,2,0,0,3,0,1,2,12,53]),5,true,false,9825⟩],(.tup (.cons (.agg (.cons (.int .i64 2) (.cons (.int .i64 2) (.cons (.sl 9869 0 3 2 none) (.cons (.int .i64 2) (.cons (.int .i64 3) (.cons (.sl 9913 0 1 5 none) (.cons (.sl 9934 0 3 1 none) (.cons (.int .i64 2) (.cons (.int .i64 3) (.cons (.sl 9978 0 1 5 none) (.cons (.sl 9999 0 3 1 none) (.cons (.int .i64 3) (.cons (.int .i64 3) (.cons (.sl 10071 0 2 5 none) (.cons (.sl 10092 0 3 1 none) .nil)))))))))))))))) (.cons (.agg (cI [0,0])) .nil))),[⟨10092,(cI [0,1,2]),3,true,false,9826⟩,⟨10071,(cI [4,1,1,0,0,4,1,1,2,0]),91,true,false,9826⟩,⟨9999,(cI [0,2,1]),3,true,false,9826⟩,⟨9978,(cI [3,2,0,1,0]),91,true,false,9826⟩,⟨9934,(cI [0,2,1]),3,true,false,9826⟩,⟨9913,(cI [3,2,0,1,0]),91,true,false,9826⟩,⟨9869,(cI [0,1,1,1,1,0]),52,true,false,9826⟩],12220⟩
theorem aTB:fL Tryz.prog TabOk m17:=cM gM (MemoOk.cons aTA (MemoOk.cons aSW MemoOk.nil)) 1000000 m17 (by decide +kernel)
theorem c10T (G:Imm) (hT:TabOk G):Does Tryz.prog 10 [] G [] (fun v G' Ho=>v=.bool true∧G'=G∧Ho=[]):=
 aFC tzP gM (MemoOk.cons aTB (MemoOk.cons aSV (MemoOk.cons m7_ok (MemoOk.cons m3_ok MemoOk.nil)))) 1000000 (by decide +kernel) G hT
end Go.Proofs.YtfdcckcadfhpeaaGreatDoor
end
