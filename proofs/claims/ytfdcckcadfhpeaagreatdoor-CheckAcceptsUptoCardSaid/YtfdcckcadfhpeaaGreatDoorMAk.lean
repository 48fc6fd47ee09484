/- cK of the proof (part 11): what the rows' text needs of the texts that lead to it. -/
import Derived.Test.YtfdcckcadfhpeaaGreatDoorMAj
set_option linter.unusedVariables false
set_option linter.unusedSimpArgs false
set_option linter.unusedSectionVars false
set_option maxRecDepth 1000000
set_option maxHeartbeats 4000000
noncomputable section
set_option maxRecDepth 100000
namespace Go.Proofs.YtfdcckcadfhpeaaGreatDoor
open Go Go.Sl Go.Sl.Ev
def m0:Ent:=⟨108,87,(.cons (.agg (.cons (.int .i64 2) (.cons (.int .i64 3) (.cons (.sl 1 0 1 5 (some 1)) (.cons (.sl 2 0 3 1 (some 3)) .nil))))) (.cons (.int .i64 2) (.cons (.sl 15 0 3 2 none) .nil))),[⟨15,(cI [0,1,1,1,1,0]),52,true,false,15⟩,⟨2,(cI [0,2,1]),3,false,false,2⟩,⟨1,(cI [3,2,0,1,0]),91,false,false,1⟩],(.tup (.cons (.bool true) (.cons (.int .i64 0) .nil))),[],636⟩
theorem m0_ok:fL Tryz.prog TabOk m0:=cM gM MemoOk.nil 1000000 m0 (by decide +kernel)
def m1:Ent:=⟨108,646,(.cons (.agg (.cons (.int .i64 2) (.cons (.int .i64 3) (.cons (.sl 1 0 1 5 (some 1)) (.cons (.sl 2 0 3 1 (some 3)) .nil))))) (.cons (.int .i64 2) (.cons (.sl 15 0 3 2 none) .nil))),[⟨15,(cI [0,1,1,1,1,0]),52,true,false,15⟩,⟨2,(cI [0,2,1]),3,false,false,2⟩,⟨1,(cI [3,2,0,1,0]),91,false,false,1⟩],(.tup (.cons (.bool true) (.cons (.int .i64 0) .nil))),[],1195⟩
theorem m1_ok:fL Tryz.prog TabOk m1:=cM gM MemoOk.nil 1000000 m1 (by decide +kernel)
def m2:Ent:=⟨111,1211,(.cons (.agg (.cons (.int .i64 3) (.cons (.int .i64 3) (.cons (.sl 5 0 2 5 (some 2)) (.cons (.sl 6 0 3 1 (some 3)) .nil))))) (.cons (.sl 15 0 3 2 none) .nil)),[⟨15,(cI [0,1,1,1,1,0]),52,true,false,15⟩,⟨6,(cI [0,1,2]),3,false,false,6⟩,⟨5,(cI [4,1,1,0,0,4,1,1,2,0]),91,false,false,5⟩],(.tup (.cons (.bool true) (.cons (.int .i64 0) .nil))),[],2127⟩
theorem m2_ok:fL Tryz.prog TabOk m2:=cM gM MemoOk.nil 1000000 m2 (by decide +kernel)
def m3:Ent:=⟨13,17,(.cons (.agg (.cons (.int .i64 2) (.cons (.int .i64 2) (.cons (.sl 15 0 3 2 none) (.cons (.int .i64 2) (.cons (.int .i64 3) (.cons (.sl 1 0 1 5 (some 1)) (.cons (.sl 2 0 3 1 (some 3)) (.cons (.int .i64 2) (.cons (.int .i64 3) (.cons (.sl 1 0 1 5 (some 1)) (.cons (.sl 2 0 3 1 (some 3)) (.cons (.int .i64 3) (.cons (.int .i64 3) (.cons (.sl 5 0 2 5 (some 2)) (.cons (.sl 6 0 3 1 (some 3)) .nil)))))))))))))))) .nil),[⟨6,(cI [0,1,2]),3,false,false,6⟩,⟨5,(cI [4,1,1,0,0,4,1,1,2,0]),91,false,false,5⟩,⟨2,(cI [0,2,1]),3,false,false,2⟩,⟨1,(cI [3,2,0,1,0]),91,false,false,1⟩,⟨15,(cI [0,1,1,1,1,0]),52,true,false,15⟩],(.tup (cI [0,0])),[],2127⟩
theorem m3_ok:fL Tryz.prog TabOk m3:=cM gM (MemoOk.cons m2_ok (MemoOk.cons m1_ok (MemoOk.cons m0_ok MemoOk.nil))) 1000000 m3 (by decide +kernel)
def m4:Ent:=⟨50,2529,(.cons (.agg (.cons (.int .i64 2) (.cons (.int .i64 6) (.cons (.sl 2246 0 4 5 none) (.cons (.sl 2240 0 3 1 none) .nil))))) .nil),[⟨2240,(cI [2,3,4]),3,true,false,2240⟩,⟨2246,(cI [1,2,0,0,0,1,3,1,0,0,3,3,3,0,0,1,4,1,0,0]),91,true,false,2246⟩],(.tup (.cons (.agg (.cons (.int .i64 2) (.cons (.int .i64 3) (.cons (.sl 3318 0 1 5 none) (.cons (.sl 3328 0 3 1 none) .nil))))) (.cons (.int .i64 0) .nil))),[⟨3328,(cI [0,2,1]),3,true,false,2529⟩,⟨3318,(cI [3,2,1,0,0]),91,true,false,2529⟩],3339⟩
theorem m4_ok:fL Tryz.prog TabOk m4:=cM gM MemoOk.nil 1000000 m4 (by decide +kernel)
def m5:Ent:=⟨50,3342,(.cons (.agg (.cons (.int .i64 2) (.cons (.int .i64 6) (.cons (.sl 2299 0 4 5 none) (.cons (.sl 2293 0 3 1 none) .nil))))) .nil),[⟨2293,(cI [2,3,4]),3,true,false,2293⟩,⟨2299,(cI [1,2,0,0,0,1,3,1,0,0,3,3,3,0,0,1,4,1,0,0]),91,true,false,2299⟩],(.tup (.cons (.agg (.cons (.int .i64 2) (.cons (.int .i64 3) (.cons (.sl 4131 0 1 5 none) (.cons (.sl 4141 0 3 1 none) .nil))))) (.cons (.int .i64 0) .nil))),[⟨4141,(cI [0,2,1]),3,true,false,3342⟩,⟨4131,(cI [3,2,1,0,0]),91,true,false,3342⟩],4152⟩
theorem m5_ok:fL Tryz.prog TabOk m5:=cM gM MemoOk.nil 1000000 m5 (by decide +kernel)
def m6:Ent:=⟨50,4155,(.cons (.agg (.cons (.int .i64 3) (.cons (.int .i64 10) (.cons (.sl 2508 0 16 5 none) (.cons (.sl 2519 0 3 1 none) .nil))))) .nil),[⟨2519,(cI [3,4,5]),3,true,false,2519⟩,⟨2508,(cI [1,9,0,0,0,4,1,1,9,0,2,1,1,0,0,2,2,2,0,0,2,2,2,0,0,1,3,2,0,0,2,4,3,0,0,1,6,1,0,0,3,3,3,6,0,2,5,4,0,0,1,9,3,0,0,4,4,4,4,0,4,4,4,9,0,4,3,3,3,0,1,6,0,0,0,3,3,3,6,0]),91,true,false,2508⟩],(.tup (.cons (.agg (.cons (.int .i64 3) (.cons (.int .i64 4) (.cons (.sl 7090 0 9 5 none) (.cons (.sl 7100 0 3 1 none) .nil))))) (.cons (.int .i64 0) .nil))),[⟨7100,(cI [0,3,2]),3,true,false,4155⟩,⟨7090,(cI [4,1,1,0,0,2,1,1,0,0,2,3,2,0,0,3,1,2,1,0,2,2,3,0,0,4,3,3,3,0,4,3,3,1,0,4,1,1,1,0,3,0,1,0,0]),91,true,false,4155⟩],7111⟩
theorem m6_ok:fL Tryz.prog TabOk m6:=cM gM MemoOk.nil 1000000 m6 (by decide +kernel)
end Go.Proofs.YtfdcckcadfhpeaaGreatDoor
end
