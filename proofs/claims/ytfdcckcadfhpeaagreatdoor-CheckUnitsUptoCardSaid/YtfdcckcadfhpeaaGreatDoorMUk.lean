/- Parts of the proof (part 11): what the rows' text needs of the texts that lead to it. -/
import Derived.Test.YtfdcckcadfhpeaaGreatDoorMUj
set_option linter.unusedVariables false
set_option linter.unusedSimpArgs false
set_option linter.unusedSectionVars false
set_option maxRecDepth 1000000
namespace Go.Proofs.YtfdcckcadfhpeaaGreatDoor
open Go Go.Sl Go.Sl.Ev
noncomputable def m16:Ent:=⟨13,10108,(.cons (.agg (.cons (.int .i64 2) (.cons (.int .i64 2) (.cons (.sl 9869 0 3 2 none) (.cons (.int .i64 2) (.cons (.int .i64 3) (.cons (.sl 9913 0 1 5 none) (.cons (.sl 9934 0 3 1 none) (.cons (.int .i64 2) (.cons (.int .i64 3) (.cons (.sl 9978 0 1 5 none) (.cons (.sl 9999 0 3 1 none) (.cons (.int .i64 3) (.cons (.int .i64 3) (.cons (.sl 10071 0 2 5 none) (.cons (.sl 10092 0 3 1 none) .nil)))))))))))))))) .nil),[⟨10092,(cI [0,1,2]),3,true,false,9828⟩,⟨10071,(cI [4,1,1,0,0,4,1,1,2,0]),91,true,false,9828⟩,⟨9999,(cI [0,2,1]),3,true,false,9828⟩,⟨9978,(cI [3,2,0,1,0]),91,true,false,9828⟩,⟨9934,(cI [0,2,1]),3,true,false,9828⟩,⟨9913,(cI [3,2,0,1,0]),91,true,false,9828⟩,⟨9869,(cI [0,1,1,1,1,0]),52,true,false,9828⟩],(.tup (cI [0,0])),[],12218⟩
theorem m16_ok:EntOk Tryz.prog TabOk m16:=entry_ok tz_ok (MemoOk.cons m15_ok (MemoOk.cons m14_ok (MemoOk.cons m13_ok MemoOk.nil))) 1000000 m16 (by decide +kernel)
noncomputable def m17:Ent:=⟨17,9826,(.cons (.sl 9825 0 63 1 none) .nil),[⟨9825,(cB [65,78,86,49,2,2,3,0,1,1,1,1,0,2,3,0,1,3,2,0,1,0,0,3,0,2,1,2,3,0,1,3,2,0,1,0,0,3,0,2,1,3,3,0,2,4,1,1,0,0,0,4,1,1,2,0,0,3,0,1,2,12,53]),5,true,false,9825⟩],(.tup (.cons (.agg (.cons (.int .i64 2) (.cons (.int .i64 2) (.cons (.sl 9869 0 3 2 none) (.cons (.int .i64 2) (.cons (.int .i64 3) (.cons (.sl 9913 0 1 5 none) (.cons (.sl 9934 0 3 1 none) (.cons (.int .i64 2) (.cons (.int .i64 3) (.cons (.sl 9978 0 1 5 none) (.cons (.sl 9999 0 3 1 none) (.cons (.int .i64 3) (.cons (.int .i64 3) (.cons (.sl 10071 0 2 5 none) (.cons (.sl 10092 0 3 1 none) .nil)))))))))))))))) (.cons (.agg (cI [0,0])) .nil))),[⟨10092,(cI [0,1,2]),3,true,false,9826⟩,⟨10071,(cI [4,1,1,0,0,4,1,1,2,0]),91,true,false,9826⟩,⟨9999,(cI [0,2,1]),3,true,false,9826⟩,⟨9978,(cI [3,2,0,1,0]),91,true,false,9826⟩,⟨9934,(cI [0,2,1]),3,true,false,9826⟩,⟨9913,(cI [3,2,0,1,0]),91,true,false,9826⟩,⟨9869,(cI [0,1,1,1,1,0]),52,true,false,9826⟩],12220⟩
theorem m17_ok:EntOk Tryz.prog TabOk m17:=entry_ok tz_ok (MemoOk.cons m16_ok (MemoOk.cons m12_ok MemoOk.nil)) 1000000 m17 (by decide +kernel)
end Go.Proofs.YtfdcckcadfhpeaaGreatDoor
namespace Go.Proofs.YtfdcckcadfhpeaaGreatDoor
open Go Go.Sl Go.Sl.Ev
theorem c10T (G:Imm) (hT:TabOk G):Does Tryz.prog 10 [] G [] (fun v G' Ho=>v=.bool true∧G'=G∧Ho=[]):=
 does_trueM tzP tz_ok (MemoOk.cons m17_ok (MemoOk.cons m11_ok (MemoOk.cons m7_ok (MemoOk.cons m3_ok MemoOk.nil)))) 1000000 (by decide +kernel) G hT
end Go.Proofs.YtfdcckcadfhpeaaGreatDoor
