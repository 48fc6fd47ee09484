/- uJ of the proof (part 14): what the rows' text needs of the texts that lead to it. -/
import Derived.Test.YtfdcckcadfhpeaaGreatDoorMMm
set_option linter.unusedVariables false
set_option linter.unusedSimpArgs false
set_option linter.unusedSectionVars false
set_option maxRecDepth 1000000
set_option maxHeartbeats 4000000
noncomputable section
set_option maxRecDepth 100000
namespace Go.Proofs.YtfdcckcadfhpeaaGreatDoor
open Go Go.Sl Go.Sl.Ev
def m4:E6:=⟨50,2529,(.cons (.agg (.cons (.int .i64 2) (.cons (.int .i64 6) (.cons (.sl 2246 0 4 5 none) (.cons (.sl 2240 0 3 1 none) .nil))))) .nil),[⟨2240,(cI [2,3,4]),3,true,false,2240⟩,⟨2246,(cI [1,2,0,0,0,1,3,1,0,0,3,3,3,0,0,1,4,1,0,0]),91,true,false,2246⟩],(.tup (.cons (.agg (.cons (.int .i64 2) (.cons (.int .i64 3) (.cons (.sl 3318 0 1 5 none) (.cons (.sl 3328 0 3 1 none) .nil))))) (.cons (.int .i64 0) .nil))),[⟨3328,(cI [0,2,1]),3,true,false,2529⟩,⟨3318,(cI [3,2,1,0,0]),91,true,false,2529⟩],3339⟩
theorem pf:xK Tryz.prog TabOk m4:=uL yE fR 1000000 m4 xI
def m5:E6:=⟨50,3342,(.cons (.agg (.cons (.int .i64 2) (.cons (.int .i64 6) (.cons (.sl 2299 0 4 5 none) (.cons (.sl 2293 0 3 1 none) .nil))))) .nil),[⟨2293,(cI [2,3,4]),3,true,false,2293⟩,⟨2299,(cI [1,2,0,0,0,1,3,1,0,0,3,3,3,0,0,1,4,1,0,0]),91,true,false,2299⟩],(.tup (.cons (.agg (.cons (.int .i64 2) (.cons (.int .i64 3) (.cons (.sl 4131 0 1 5 none) (.cons (.sl 4141 0 3 1 none) .nil))))) (.cons (.int .i64 0) .nil))),[⟨4141,(cI [0,2,1]),3,true,false,3342⟩,⟨4131,(cI [3,2,1,0,0]),91,true,false,3342⟩],4152⟩
theorem pg:xK Tryz.prog TabOk m5:=uL yE fR 1000000 m5 xI
def m6:E6:=⟨48,4727,(.cons (.agg (.cons (.int .i64 3) (.cons (.int .i64 10) (.cons (.sl 4706 0 14 5 none) (.cons (.sl 4708 0 3 1 none) .nil))))) .nil),[⟨4708,(cI [3,4,5]),3,true,false,4370⟩,⟨4706,(cI [1,9,0,0,0,4,1,1,9,0,2,1,1,0,0,1,3,2,0,0,2,4,3,0,0,1,6,1,0,0,3,3,3,6,0,2,5,4,0,0,1,9,3,0,0,4,4,4,4,0,4,4,4,9,0,4,3,3,3,0,1,6,0,0,0,3,3,3,6,0]),91,true,false,4370⟩],(.tup (.cons (.agg (.cons (.int .i64 3) (.cons (.int .i64 10) (.cons (.sl 5188 0 14 5 none) (.cons (.sl 5198 0 3 1 none) .nil))))) (.cons (.int .i64 0) .nil))),[⟨5198,(cI [3,4,5]),3,true,false,4727⟩,⟨5188,(cI [1,9,0,0,0,4,1,1,0,0,2,1,1,0,0,1,3,2,0,0,2,4,2,0,0,1,6,1,0,0,3,3,2,1,0,2,5,4,0,0,1,9,3,0,0,4,4,4,4,0,4,4,4,3,0,4,3,3,3,0,1,6,0,0,0,3,3,3,0,0]),91,true,false,4727⟩],5201⟩
theorem ph:xK Tryz.prog TabOk m6:=uL yE fR 1000000 m6 xI
def m7:E6:=⟨48,5828,(.cons (.agg (.cons (.int .i64 3) (.cons (.int .i64 10) (.cons (.sl 5807 0 9 5 none) (.cons (.sl 5809 0 3 1 none) .nil))))) .nil),[⟨5809,(cI [3,4,5]),3,true,false,5622⟩,⟨5807,(cI [4,1,1,0,0,2,1,1,0,0,2,4,2,0,0,3,3,2,1,0,2,5,4,0,0,4,4,4,4,0,4,4,4,3,0,4,3,3,3,0,3,3,3,0,0]),91,true,false,5622⟩],(.tup (.cons (.agg (.cons (.int .i64 3) (.cons (.int .i64 10) (.cons (.sl 6184 0 9 5 none) (.cons (.sl 6194 0 3 1 none) .nil))))) (.cons (.int .i64 0) .nil))),[⟨6194,(cI [3,4,5]),3,true,false,5828⟩,⟨6184,(cI [4,1,1,0,0,2,1,1,0,0,2,4,2,0,0,3,3,2,1,0,2,5,4,0,0,4,4,4,4,0,4,4,4,3,0,4,3,3,3,0,3,3,3,0,0]),91,true,false,5828⟩],6197⟩
theorem pi:xK Tryz.prog TabOk m7:=uL yE fR 1000000 m7 xI
end Go.Proofs.YtfdcckcadfhpeaaGreatDoor
end
