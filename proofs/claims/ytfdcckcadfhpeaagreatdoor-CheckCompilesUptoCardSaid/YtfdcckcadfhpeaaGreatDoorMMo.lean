/- uJ of the proof (part 15): what the rows' text needs of the texts that lead to it. -/
import Derived.Test.YtfdcckcadfhpeaaGreatDoorMMn
set_option linter.unusedVariables false
set_option linter.unusedSimpArgs false
set_option linter.unusedSectionVars false
set_option maxRecDepth 1000000
set_option maxHeartbeats 4000000
noncomputable section
set_option maxRecDepth 100000
namespace Go.Proofs.YtfdcckcadfhpeaaGreatDoor
open Go Go.Sl Go.Sl.Ev
def m8:E6:=⟨41,6514,(.cons (.agg (.cons (.int .i64 3) (.cons (.int .i64 10) (.cons (.sl 6493 0 9 5 none) (.cons (.sl 6495 0 3 1 none) .nil))))) .nil),[⟨6495,(cI [3,4,5]),3,true,false,6214⟩,⟨6493,(cI [4,1,1,0,0,2,1,1,0,0,2,4,2,0,0,3,3,2,1,0,2,5,4,0,0,4,4,4,4,0,4,4,4,3,0,4,3,3,3,0,3,3,3,0,0]),91,true,false,6214⟩],(.tup (.cons (.agg (.cons (.int .i64 3) (.cons (.int .i64 4) (.cons (.sl 7090 0 9 5 none) (.cons (.sl 7100 0 3 1 none) .nil))))) (.cons (.int .i64 0) .nil))),[⟨7100,(cI [0,3,2]),3,true,false,6514⟩,⟨7090,(cI [4,1,1,0,0,2,1,1,0,0,2,3,2,0,0,3,1,2,1,0,2,2,3,0,0,4,3,3,3,0,4,3,3,1,0,4,1,1,1,0,3,0,1,0,0]),91,true,false,6514⟩],7103⟩
theorem pk:xK Tryz.prog TabOk m8:=uL yE fR 1000000 m8 xI
def m9:E6:=⟨50,4155,(.cons (.agg (.cons (.int .i64 3) (.cons (.int .i64 10) (.cons (.sl 2508 0 16 5 none) (.cons (.sl 2519 0 3 1 none) .nil))))) .nil),[⟨2519,(cI [3,4,5]),3,true,false,2519⟩,⟨2508,(cI [1,9,0,0,0,4,1,1,9,0,2,1,1,0,0,2,2,2,0,0,2,2,2,0,0,1,3,2,0,0,2,4,3,0,0,1,6,1,0,0,3,3,3,6,0,2,5,4,0,0,1,9,3,0,0,4,4,4,4,0,4,4,4,9,0,4,3,3,3,0,1,6,0,0,0,3,3,3,6,0]),91,true,false,2508⟩],(.tup (.cons (.agg (.cons (.int .i64 3) (.cons (.int .i64 4) (.cons (.sl 7090 0 9 5 none) (.cons (.sl 7100 0 3 1 none) .nil))))) (.cons (.int .i64 0) .nil))),[⟨7100,(cI [0,3,2]),3,true,false,4155⟩,⟨7090,(cI [4,1,1,0,0,2,1,1,0,0,2,3,2,0,0,3,1,2,1,0,2,2,3,0,0,4,3,3,3,0,4,3,3,1,0,4,1,1,1,0,3,0,1,0,0]),91,true,false,4155⟩],7111⟩
theorem pm:xK Tryz.prog TabOk m9:=uL yE (fD pk (fD pi (fD ph fR))) 1000000 m9 xI
end Go.Proofs.YtfdcckcadfhpeaaGreatDoor
end
