/- uJ of the proof (part 13): what the rows' text needs of the texts that lead to it. -/
import Derived.Test.YtfdcckcadfhpeaaGreatDoorMMl
set_option linter.unusedVariables false
set_option linter.unusedSimpArgs false
set_option linter.unusedSectionVars false
set_option maxRecDepth 1000000
set_option maxHeartbeats 4000000
noncomputable section
set_option maxRecDepth 100000
namespace Go.Proofs.YtfdcckcadfhpeaaGreatDoor
open Go Go.Sl Go.Sl.Ev
def m0:E6:=⟨108,87,(.cons (.agg (.cons (.int .i64 2) (.cons (.int .i64 3) (.cons (.sl 1 0 1 5 (some 1)) (.cons (.sl 2 0 3 1 (some 3)) .nil))))) (.cons (.int .i64 2) (.cons (.sl 15 0 3 2 none) .nil))),[⟨15,(cI [0,1,1,1,1,0]),52,true,false,15⟩,⟨2,(cI [0,2,1]),3,false,false,2⟩,⟨1,(cI [3,2,0,1,0]),91,false,false,1⟩],(.tup (.cons (.bool true) (.cons (.int .i64 0) .nil))),[],636⟩
theorem ox:xK Tryz.prog TabOk m0:=uL yE fR 1000000 m0 xI
def m1:E6:=⟨108,646,(.cons (.agg (.cons (.int .i64 2) (.cons (.int .i64 3) (.cons (.sl 1 0 1 5 (some 1)) (.cons (.sl 2 0 3 1 (some 3)) .nil))))) (.cons (.int .i64 2) (.cons (.sl 15 0 3 2 none) .nil))),[⟨15,(cI [0,1,1,1,1,0]),52,true,false,15⟩,⟨2,(cI [0,2,1]),3,false,false,2⟩,⟨1,(cI [3,2,0,1,0]),91,false,false,1⟩],(.tup (.cons (.bool true) (.cons (.int .i64 0) .nil))),[],1195⟩
theorem oy:xK Tryz.prog TabOk m1:=uL yE fR 1000000 m1 xI
def m2:E6:=⟨111,1211,(.cons (.agg (.cons (.int .i64 3) (.cons (.int .i64 3) (.cons (.sl 5 0 2 5 (some 2)) (.cons (.sl 6 0 3 1 (some 3)) .nil))))) (.cons (.sl 15 0 3 2 none) .nil)),[⟨15,(cI [0,1,1,1,1,0]),52,true,false,15⟩,⟨6,(cI [0,1,2]),3,false,false,6⟩,⟨5,(cI [4,1,1,0,0,4,1,1,2,0]),91,false,false,5⟩],(.tup (.cons (.bool true) (.cons (.int .i64 0) .nil))),[],2127⟩
theorem oz:xK Tryz.prog TabOk m2:=uL yE fR 1000000 m2 xI
def m3:E6:=⟨13,17,(.cons (.agg (.cons (.int .i64 2) (.cons (.int .i64 2) (.cons (.sl 15 0 3 2 none) (.cons (.int .i64 2) (.cons (.int .i64 3) (.cons (.sl 1 0 1 5 (some 1)) (.cons (.sl 2 0 3 1 (some 3)) (.cons (.int .i64 2) (.cons (.int .i64 3) (.cons (.sl 1 0 1 5 (some 1)) (.cons (.sl 2 0 3 1 (some 3)) (.cons (.int .i64 3) (.cons (.int .i64 3) (.cons (.sl 5 0 2 5 (some 2)) (.cons (.sl 6 0 3 1 (some 3)) .nil)))))))))))))))) .nil),[⟨6,(cI [0,1,2]),3,false,false,6⟩,⟨5,(cI [4,1,1,0,0,4,1,1,2,0]),91,false,false,5⟩,⟨2,(cI [0,2,1]),3,false,false,2⟩,⟨1,(cI [3,2,0,1,0]),91,false,false,1⟩,⟨15,(cI [0,1,1,1,1,0]),52,true,false,15⟩],(.tup (cI [0,0])),[],2127⟩
theorem pe:xK Tryz.prog TabOk m3:=uL yE (fD oz (fD oy (fD ox fR))) 1000000 m3 xI
end Go.Proofs.YtfdcckcadfhpeaaGreatDoor
end
