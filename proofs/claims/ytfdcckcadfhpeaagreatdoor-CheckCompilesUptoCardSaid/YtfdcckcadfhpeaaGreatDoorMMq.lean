/- uJ of the proof (part 17): what the rows' text needs of the texts that lead to it. -/
import Derived.Test.YtfdcckcadfhpeaaGreatDoorMMp
set_option linter.unusedVariables false
set_option linter.unusedSimpArgs false
set_option linter.unusedSectionVars false
set_option maxRecDepth 1000000
set_option maxHeartbeats 4000000
noncomputable section
set_option maxRecDepth 100000
namespace Go.Proofs.YtfdcckcadfhpeaaGreatDoor
open Go Go.Sl Go.Sl.Ev
def m14:E6:=⟨13,7117,(.cons (.agg (.cons (.int .i64 2) (.cons (.int .i64 2) (.cons (.sl 2194 0 3 2 none) (.cons (.int .i64 2) (.cons (.int .i64 3) (.cons (.sl 3318 0 1 5 none) (.cons (.sl 3328 0 3 1 none) (.cons (.int .i64 2) (.cons (.int .i64 3) (.cons (.sl 4131 0 1 5 none) (.cons (.sl 4141 0 3 1 none) (.cons (.int .i64 3) (.cons (.int .i64 4) (.cons (.sl 7090 0 9 5 none) (.cons (.sl 7100 0 3 1 none) .nil)))))))))))))))) .nil),[⟨7100,(cI [0,3,2]),3,true,false,2134⟩,⟨7090,(cI [4,1,1,0,0,2,1,1,0,0,2,3,2,0,0,3,1,2,1,0,2,2,3,0,0,4,3,3,3,0,4,3,3,1,0,4,1,1,1,0,3,0,1,0,0]),91,true,false,2134⟩,⟨4141,(cI [0,2,1]),3,true,false,2134⟩,⟨4131,(cI [3,2,1,0,0]),91,true,false,2134⟩,⟨3328,(cI [0,2,1]),3,true,false,2134⟩,⟨3318,(cI [3,2,1,0,0]),91,true,false,2134⟩,⟨2194,(cI [0,1,1,1,1,0]),52,true,false,2134⟩],(.tup (cI [0,0])),[],9736⟩
theorem gu:xK Tryz.prog TabOk m14:=uL yE (fD gr (fD gq (fD gp fR))) 1000000 m14 xI
def m15:E6:=⟨66,9828,(.cons (.sl 9825 0 63 1 none) .nil),[⟨9825,(cB [65,78,86,49,2,2,3,0,1,1,1,1,0,2,3,0,1,3,2,0,1,0,0,3,0,2,1,2,3,0,1,3,2,0,1,0,0,3,0,2,1,3,3,0,2,4,1,1,0,0,0,4,1,1,2,0,0,3,0,1,2,12,53]),5,true,false,9825⟩],(.tup (.cons (.agg (.cons (.int .i64 2) (.cons (.int .i64 2) (.cons (.sl 9869 0 3 2 none) (.cons (.int .i64 2) (.cons (.int .i64 3) (.cons (.sl 9913 0 1 5 none) (.cons (.sl 9934 0 3 1 none) (.cons (.int .i64 2) (.cons (.int .i64 3) (.cons (.sl 9978 0 1 5 none) (.cons (.sl 9999 0 3 1 none) (.cons (.int .i64 3) (.cons (.int .i64 3) (.cons (.sl 10071 0 2 5 none) (.cons (.sl 10092 0 3 1 none) .nil)))))))))))))))) (.cons (.agg (cI [0,0])) .nil))),[⟨10092,(cI [0,1,2]),3,true,false,9828⟩,⟨10071,(cI [4,1,1,0,0,4,1,1,2,0]),91,true,false,9828⟩,⟨9999,(cI [0,2,1]),3,true,false,9828⟩,⟨9978,(cI [3,2,0,1,0]),91,true,false,9828⟩,⟨9934,(cI [0,2,1]),3,true,false,9828⟩,⟨9913,(cI [3,2,0,1,0]),91,true,false,9828⟩,⟨9869,(cI [0,1,1,1,1,0]),52,true,false,9828⟩],10104⟩
theorem gw:xK Tryz.prog TabOk m15:=uL yE fR 1000000 m15 xI
def m16:E6:=⟨108,10178,(.cons (.agg (.cons (.int .i64 2) (.cons (.int .i64 3) (.cons (.sl 9913 0 1 5 none) (.cons (.sl 9934 0 3 1 none) .nil))))) (.cons (.int .i64 2) (.cons (.sl 9869 0 3 2 none) .nil))),[⟨9869,(cI [0,1,1,1,1,0]),52,true,false,9828⟩,⟨9934,(cI [0,2,1]),3,true,false,9828⟩,⟨9913,(cI [3,2,0,1,0]),91,true,false,9828⟩],(.tup (.cons (.bool true) (.cons (.int .i64 0) .nil))),[],10727⟩
theorem gx:xK Tryz.prog TabOk m16:=uL yE fR 1000000 m16 xI
def m17:E6:=⟨108,10737,(.cons (.agg (.cons (.int .i64 2) (.cons (.int .i64 3) (.cons (.sl 9978 0 1 5 none) (.cons (.sl 9999 0 3 1 none) .nil))))) (.cons (.int .i64 2) (.cons (.sl 9869 0 3 2 none) .nil))),[⟨9869,(cI [0,1,1,1,1,0]),52,true,false,9828⟩,⟨9999,(cI [0,2,1]),3,true,false,9828⟩,⟨9978,(cI [3,2,0,1,0]),91,true,false,9828⟩],(.tup (.cons (.bool true) (.cons (.int .i64 0) .nil))),[],11286⟩
theorem gy:xK Tryz.prog TabOk m17:=uL yE fR 1000000 m17 xI
def m18:E6:=⟨111,11302,(.cons (.agg (.cons (.int .i64 3) (.cons (.int .i64 3) (.cons (.sl 10071 0 2 5 none) (.cons (.sl 10092 0 3 1 none) .nil))))) (.cons (.sl 9869 0 3 2 none) .nil)),[⟨9869,(cI [0,1,1,1,1,0]),52,true,false,9828⟩,⟨10092,(cI [0,1,2]),3,true,false,9828⟩,⟨10071,(cI [4,1,1,0,0,4,1,1,2,0]),91,true,false,9828⟩],(.tup (.cons (.bool true) (.cons (.int .i64 0) .nil))),[],12218⟩
theorem gz:xK Tryz.prog TabOk m18:=uL yE fR 1000000 m18 xI
end Go.Proofs.YtfdcckcadfhpeaaGreatDoor
end
