/- uJ of the proof (part 18): what the rows' text needs of the texts that lead to it. -/
import Derived.Test.YtfdcckcadfhpeaaGreatDoorMMq
set_option linter.unusedVariables false
set_option linter.unusedSimpArgs false
set_option linter.unusedSectionVars false
set_option maxRecDepth 1000000
set_option maxHeartbeats 4000000
noncomputable section
set_option maxRecDepth 100000
namespace Go.Proofs.YtfdcckcadfhpeaaGreatDoor
open Go Go.Sl Go.Sl.Ev
def m19:E6:=⟨13,10108,(.cons (.agg (.cons (.int .i64 2) (.cons (.int .i64 2) (.cons (.sl 9869 0 3 2 none) (.cons (.int .i64 2) (.cons (.int .i64 3) (.cons (.sl 9913 0 1 5 none) (.cons (.sl 9934 0 3 1 none) (.cons (.int .i64 2) (.cons (.int .i64 3) (.cons (.sl 9978 0 1 5 none) (.cons (.sl 9999 0 3 1 none) (.cons (.int .i64 3) (.cons (.int .i64 3) (.cons (.sl 10071 0 2 5 none) (.cons (.sl 10092 0 3 1 none) .nil)))))))))))))))) .nil),[⟨10092,(cI [0,1,2]),3,true,false,9828⟩,⟨10071,(cI [4,1,1,0,0,4,1,1,2,0]),91,true,false,9828⟩,⟨9999,(cI [0,2,1]),3,true,false,9828⟩,⟨9978,(cI [3,2,0,1,0]),91,true,false,9828⟩,⟨9934,(cI [0,2,1]),3,true,false,9828⟩,⟨9913,(cI [3,2,0,1,0]),91,true,false,9828⟩,⟨9869,(cI [0,1,1,1,1,0]),52,true,false,9828⟩],(.tup (cI [0,0])),[],12218⟩
theorem ia:xK Tryz.prog TabOk m19:=uL yE (fD gz (fD gy (fD gx fR))) 1000000 m19 xI
def m20:E6:=⟨17,9826,(.cons (.sl 9825 0 63 1 none) .nil),[⟨9825,(cB [65,78,86,49,2,2,3,0,1,1,1,1,0,2,3,0,1,3,2,0,1,0,0,3,0,2,1,2,3,0,1,3,2,0,1,0,0,3,0,2,1,3,3,0,2,4,1,1,0,0,0,4,1,1,2,0,0,3,0,1,2,12,53]),5,true,false,9825⟩],(.tup (.cons (.agg (.cons (.int .i64 2) (.cons (.int .i64 2) (.cons (.sl 9869 0 3 2 none) (.cons (.int .i64 2) (.cons (.int .i64 3) (.cons (.sl 9913 0 1 5 none) (.cons (.sl 9934 0 3 1 none) (.cons (.int .i64 2) (.cons (.int .i64 3) (.cons (.sl 9978 0 1 5 none) (.cons (.sl 9999 0 3 1 none) (.cons (.int .i64 3) (.cons (.int .i64 3) (.cons (.sl 10071 0 2 5 none) (.cons (.sl 10092 0 3 1 none) .nil)))))))))))))))) (.cons (.agg (cI [0,0])) .nil))),[⟨10092,(cI [0,1,2]),3,true,false,9826⟩,⟨10071,(cI [4,1,1,0,0,4,1,1,2,0]),91,true,false,9826⟩,⟨9999,(cI [0,2,1]),3,true,false,9826⟩,⟨9978,(cI [3,2,0,1,0]),91,true,false,9826⟩,⟨9934,(cI [0,2,1]),3,true,false,9826⟩,⟨9913,(cI [3,2,0,1,0]),91,true,false,9826⟩,⟨9869,(cI [0,1,1,1,1,0]),52,true,false,9826⟩],12220⟩
theorem ib:xK Tryz.prog TabOk m20:=uL yE (fD ia (fD gw fR)) 1000000 m20 xI
theorem xe (G:A2) (hT:TabOk G):Does Tryz.prog 10 [] G [] (fun v G' Ho=>v=.bool true∧G'=G∧Ho=[]):=
 IU tzP yE (fD ib (fD gu (fD gn (fD pe fR)))) 1000000 xI G hT
end Go.Proofs.YtfdcckcadfhpeaaGreatDoor
end
