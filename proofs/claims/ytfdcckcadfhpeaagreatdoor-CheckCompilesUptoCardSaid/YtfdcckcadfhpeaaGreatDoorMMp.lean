/- uJ of the proof (part 16): what the rows' text needs of the texts that lead to it. -/
import Derived.Test.YtfdcckcadfhpeaaGreatDoorMMo
set_option linter.unusedVariables false
set_option linter.unusedSimpArgs false
set_option linter.unusedSectionVars false
set_option maxRecDepth 1000000
set_option maxHeartbeats 4000000
noncomputable section
set_option maxRecDepth 100000
namespace Go.Proofs.YtfdcckcadfhpeaaGreatDoor
open Go Go.Sl Go.Sl.Ev
def m10:E6:=⟨20,2134,(.cons (.int .i64 2) (.cons (.int .i64 2) (.cons (.sl 2133 0 3 2 none) .nil))),[⟨2133,(cI [0,1,1,1,1,0]),52,true,false,2133⟩],(.tup (.cons (.agg (.cons (.int .i64 2) (.cons (.int .i64 2) (.cons (.sl 2194 0 3 2 none) (.cons (.int .i64 2) (.cons (.int .i64 3) (.cons (.sl 3318 0 1 5 none) (.cons (.sl 3328 0 3 1 none) (.cons (.int .i64 2) (.cons (.int .i64 3) (.cons (.sl 4131 0 1 5 none) (.cons (.sl 4141 0 3 1 none) (.cons (.int .i64 3) (.cons (.int .i64 4) (.cons (.sl 7090 0 9 5 none) (.cons (.sl 7100 0 3 1 none) .nil)))))))))))))))) (.cons (.int .i64 0) .nil))),[⟨7100,(cI [0,3,2]),3,true,false,2134⟩,⟨7090,(cI [4,1,1,0,0,2,1,1,0,0,2,3,2,0,0,3,1,2,1,0,2,2,3,0,0,4,3,3,3,0,4,3,3,1,0,4,1,1,1,0,3,0,1,0,0]),91,true,false,2134⟩,⟨4141,(cI [0,2,1]),3,true,false,2134⟩,⟨4131,(cI [3,2,1,0,0]),91,true,false,2134⟩,⟨3328,(cI [0,2,1]),3,true,false,2134⟩,⟨3318,(cI [3,2,1,0,0]),91,true,false,2134⟩,⟨2194,(cI [0,1,1,1,1,0]),52,true,false,2134⟩],7115⟩
theorem gn:xK Tryz.prog TabOk m10:=uL yE (fD pm (fD pg (fD pf fR))) 1000000 m10 xI
def m11:E6:=⟨108,7187,(.cons (.agg (.cons (.int .i64 2) (.cons (.int .i64 3) (.cons (.sl 3318 0 1 5 none) (.cons (.sl 3328 0 3 1 none) .nil))))) (.cons (.int .i64 2) (.cons (.sl 2194 0 3 2 none) .nil))),[⟨2194,(cI [0,1,1,1,1,0]),52,true,false,2134⟩,⟨3328,(cI [0,2,1]),3,true,false,2134⟩,⟨3318,(cI [3,2,1,0,0]),91,true,false,2134⟩],(.tup (.cons (.bool true) (.cons (.int .i64 0) .nil))),[],7736⟩
theorem gp:xK Tryz.prog TabOk m11:=uL yE fR 1000000 m11 xI
def m12:E6:=⟨108,7746,(.cons (.agg (.cons (.int .i64 2) (.cons (.int .i64 3) (.cons (.sl 4131 0 1 5 none) (.cons (.sl 4141 0 3 1 none) .nil))))) (.cons (.int .i64 2) (.cons (.sl 2194 0 3 2 none) .nil))),[⟨2194,(cI [0,1,1,1,1,0]),52,true,false,2134⟩,⟨4141,(cI [0,2,1]),3,true,false,2134⟩,⟨4131,(cI [3,2,1,0,0]),91,true,false,2134⟩],(.tup (.cons (.bool true) (.cons (.int .i64 0) .nil))),[],8295⟩
theorem gq:xK Tryz.prog TabOk m12:=uL yE fR 1000000 m12 xI
def m13:E6:=⟨111,8353,(.cons (.agg (.cons (.int .i64 3) (.cons (.int .i64 4) (.cons (.sl 7090 0 9 5 none) (.cons (.sl 7100 0 3 1 none) .nil))))) (.cons (.sl 2194 0 3 2 none) .nil)),[⟨2194,(cI [0,1,1,1,1,0]),52,true,false,2134⟩,⟨7100,(cI [0,3,2]),3,true,false,2134⟩,⟨7090,(cI [4,1,1,0,0,2,1,1,0,0,2,3,2,0,0,3,1,2,1,0,2,2,3,0,0,4,3,3,3,0,4,3,3,1,0,4,1,1,1,0,3,0,1,0,0]),91,true,false,2134⟩],(.tup (.cons (.bool true) (.cons (.int .i64 0) .nil))),[],9736⟩
theorem gr:xK Tryz.prog TabOk m13:=uL yE fR 1000000 m13 xI
end Go.Proofs.YtfdcckcadfhpeaaGreatDoor
end
