/- The closed facts on types and functions of this translation, written by program. -/
import Derived.Test.YtfleehgbpgmcnaaSlJ
import Derived.Test.YtfleehgbpgmcnaaProg
set_option maxRecDepth 100000
namespace Go.Proofs.Ytfleehgbpgmcnaa.T
open Go Go.Sl
theorem one1 : oneB Try.prog 1 = true := by kernel_rfl
theorem size1 : (Try.prog.info? 1).map (·.size) = some 1 := by kernel_rfl
theorem zero1 : ZeroOf Try.prog 1 [.nilFunc] := ZeroOf.of (by kernel_rfl)
theorem one2 : oneB Try.prog 2 = true := by kernel_rfl
theorem size2 : (Try.prog.info? 2).map (·.size) = some 1 := by kernel_rfl
theorem zero2 : ZeroOf Try.prog 2 [.int .i64 0] := ZeroOf.of (by kernel_rfl)
theorem el2 : ElemOf Try.prog 2 1 8 [.int .i64 0] := ElemOf.of (by kernel_rfl) rfl
theorem u2 : Try.prog.underlying 2 = some (.int .i64) := by kernel_rfl
theorem one3 : oneB Try.prog 3 = true := by kernel_rfl
theorem size3 : (Try.prog.info? 3).map (·.size) = some 1 := by kernel_rfl
theorem zero3 : ZeroOf Try.prog 3 [.int .i64 0] := ZeroOf.of (by kernel_rfl)
theorem el3 : ElemOf Try.prog 3 1 8 [.int .i64 0] := ElemOf.of (by kernel_rfl) rfl
theorem u3 : Try.prog.underlying 3 = some (.int .i64) := by kernel_rfl
theorem one4 : oneB Try.prog 4 = true := by kernel_rfl
theorem size4 : (Try.prog.info? 4).map (·.size) = some 1 := by kernel_rfl
theorem zero4 : ZeroOf Try.prog 4 [.bool false] := ZeroOf.of (by kernel_rfl)
theorem el4 : ElemOf Try.prog 4 1 1 [.bool false] := ElemOf.of (by kernel_rfl) rfl
theorem u4 : Try.prog.underlying 4 = some .bool := by kernel_rfl
theorem one5 : oneB Try.prog 5 = true := by kernel_rfl
theorem size5 : (Try.prog.info? 5).map (·.size) = some 1 := by kernel_rfl
theorem zero5 : ZeroOf Try.prog 5 [.int .u8 0] := ZeroOf.of (by kernel_rfl)
theorem u5 : Try.prog.underlying 5 = some (.int .u8) := by kernel_rfl
theorem one6 : oneB Try.prog 6 = true := by kernel_rfl
theorem size6 : (Try.prog.info? 6).map (·.size) = some 1 := by kernel_rfl
theorem zero6 : ZeroOf Try.prog 6 [.int .u8 0] := ZeroOf.of (by kernel_rfl)
theorem u6 : Try.prog.underlying 6 = some (.int .u8) := by kernel_rfl
theorem agg7 : aggB Try.prog 7 4 = true := by kernel_rfl
theorem size7 : (Try.prog.info? 7).map (·.size) = some 4 := by kernel_rfl
theorem zero7 : ZeroOf Try.prog 7 [.int .i64 0, .int .i64 0, .bool false, .int .u8 0] := ZeroOf.of (by kernel_rfl)
theorem fa7_0 : FieldAt Try.prog 7 0 0 := fun _ _ _ => by kernel_rfl
theorem fa7_1 : FieldAt Try.prog 7 1 1 := fun _ _ _ => by kernel_rfl
theorem fa7_2 : FieldAt Try.prog 7 2 2 := fun _ _ _ => by kernel_rfl
theorem fa7_3 : FieldAt Try.prog 7 3 3 := fun _ _ _ => by kernel_rfl
theorem st7 : StructOf Try.prog 7 [(0, 1), (1, 1), (2, 1), (3, 1)] [.int .i64 0, .int .i64 0, .bool false, .int .u8 0] := StructOf.of (Try.prog.fieldsOf 7) (by kernel_rfl) (by kernel_rfl) (by kernel_rfl)
theorem agg8 : aggB Try.prog 8 4 = true := by kernel_rfl
theorem size8 : (Try.prog.info? 8).map (·.size) = some 4 := by kernel_rfl
theorem zero8 : ZeroOf Try.prog 8 [.int .i64 0, .int .i64 0, .bool false, .int .u8 0] := ZeroOf.of (by kernel_rfl)
theorem fa8_0 : FieldAt Try.prog 8 0 0 := fun _ _ _ => by kernel_rfl
theorem fa8_1 : FieldAt Try.prog 8 1 1 := fun _ _ _ => by kernel_rfl
theorem fa8_2 : FieldAt Try.prog 8 2 2 := fun _ _ _ => by kernel_rfl
theorem fa8_3 : FieldAt Try.prog 8 3 3 := fun _ _ _ => by kernel_rfl
theorem st8 : StructOf Try.prog 8 [(0, 1), (1, 1), (2, 1), (3, 1)] [.int .i64 0, .int .i64 0, .bool false, .int .u8 0] := StructOf.of (Try.prog.fieldsOf 8) (by kernel_rfl) (by kernel_rfl) (by kernel_rfl)
theorem one9 : oneB Try.prog 9 = true := by kernel_rfl
theorem size9 : (Try.prog.info? 9).map (·.size) = some 1 := by kernel_rfl
theorem zero9 : ZeroOf Try.prog 9 [.string ByteArray.empty] := ZeroOf.of (by kernel_rfl)
theorem u9 : Try.prog.underlying 9 = some .string := by kernel_rfl
theorem one10 : oneB Try.prog 10 = true := by kernel_rfl
theorem size10 : (Try.prog.info? 10).map (·.size) = some 1 := by kernel_rfl
theorem zero10 : ZeroOf Try.prog 10 [.string ByteArray.empty] := ZeroOf.of (by kernel_rfl)
theorem u10 : Try.prog.underlying 10 = some .string := by kernel_rfl
theorem one11 : oneB Try.prog 11 = true := by kernel_rfl
theorem size11 : (Try.prog.info? 11).map (·.size) = some 1 := by kernel_rfl
theorem zero11 : ZeroOf Try.prog 11 [.string ByteArray.empty] := ZeroOf.of (by kernel_rfl)
theorem u11 : Try.prog.underlying 11 = some .string := by kernel_rfl
theorem one12 : oneB Try.prog 12 = true := by kernel_rfl
theorem size12 : (Try.prog.info? 12).map (·.size) = some 1 := by kernel_rfl
theorem zero12 : ZeroOf Try.prog 12 [.int .u64 0] := ZeroOf.of (by kernel_rfl)
theorem u12 : Try.prog.underlying 12 = some (.int .u64) := by kernel_rfl
theorem agg13 : aggB Try.prog 13 2 = true := by kernel_rfl
theorem size13 : (Try.prog.info? 13).map (·.size) = some 2 := by kernel_rfl
theorem zero13 : ZeroOf Try.prog 13 [.string ByteArray.empty, .int .u64 0] := ZeroOf.of (by kernel_rfl)
theorem fa13_0 : FieldAt Try.prog 13 0 0 := fun _ _ _ => by kernel_rfl
theorem fa13_1 : FieldAt Try.prog 13 1 1 := fun _ _ _ => by kernel_rfl
theorem st13 : StructOf Try.prog 13 [(0, 1), (1, 1)] [.string ByteArray.empty, .int .u64 0] := StructOf.of (Try.prog.fieldsOf 13) (by kernel_rfl) (by kernel_rfl) (by kernel_rfl)
theorem agg14 : aggB Try.prog 14 2 = true := by kernel_rfl
theorem size14 : (Try.prog.info? 14).map (·.size) = some 2 := by kernel_rfl
theorem zero14 : ZeroOf Try.prog 14 [.string ByteArray.empty, .int .u64 0] := ZeroOf.of (by kernel_rfl)
theorem fa14_0 : FieldAt Try.prog 14 0 0 := fun _ _ _ => by kernel_rfl
theorem fa14_1 : FieldAt Try.prog 14 1 1 := fun _ _ _ => by kernel_rfl
theorem st14 : StructOf Try.prog 14 [(0, 1), (1, 1)] [.string ByteArray.empty, .int .u64 0] := StructOf.of (Try.prog.fieldsOf 14) (by kernel_rfl) (by kernel_rfl) (by kernel_rfl)
theorem one15 : oneB Try.prog 15 = true := by kernel_rfl
theorem size15 : (Try.prog.info? 15).map (·.size) = some 1 := by kernel_rfl
theorem zero15 : ZeroOf Try.prog 15 [.pointer none] := ZeroOf.of (by kernel_rfl)
theorem one16 : oneB Try.prog 16 = true := by kernel_rfl
theorem size16 : (Try.prog.info? 16).map (·.size) = some 1 := by kernel_rfl
theorem zero16 : ZeroOf Try.prog 16 [.pointer none] := ZeroOf.of (by kernel_rfl)
theorem one17 : oneB Try.prog 17 = true := by kernel_rfl
theorem size17 : (Try.prog.info? 17).map (·.size) = some 1 := by kernel_rfl
theorem zero17 : ZeroOf Try.prog 17 [.pointer none] := ZeroOf.of (by kernel_rfl)
theorem agg18 : aggB Try.prog 18 1 = true := by kernel_rfl
theorem size18 : (Try.prog.info? 18).map (·.size) = some 1 := by kernel_rfl
theorem zero18 : ZeroOf Try.prog 18 [.pointer none] := ZeroOf.of (by kernel_rfl)
theorem fa18_0 : FieldAt Try.prog 18 0 0 := fun _ _ _ => by kernel_rfl
theorem st18 : StructOf Try.prog 18 [(0, 1)] [.pointer none] := StructOf.of (Try.prog.fieldsOf 18) (by kernel_rfl) (by kernel_rfl) (by kernel_rfl)
theorem agg19 : aggB Try.prog 19 1 = true := by kernel_rfl
theorem size19 : (Try.prog.info? 19).map (·.size) = some 1 := by kernel_rfl
theorem zero19 : ZeroOf Try.prog 19 [.pointer none] := ZeroOf.of (by kernel_rfl)
theorem fa19_0 : FieldAt Try.prog 19 0 0 := fun _ _ _ => by kernel_rfl
theorem st19 : StructOf Try.prog 19 [(0, 1)] [.pointer none] := StructOf.of (Try.prog.fieldsOf 19) (by kernel_rfl) (by kernel_rfl) (by kernel_rfl)
theorem one20 : oneB Try.prog 20 = true := by kernel_rfl
theorem size20 : (Try.prog.info? 20).map (·.size) = some 1 := by kernel_rfl
theorem zero20 : ZeroOf Try.prog 20 [.nilIface] := ZeroOf.of (by kernel_rfl)
theorem one21 : oneB Try.prog 21 = true := by kernel_rfl
theorem size21 : (Try.prog.info? 21).map (·.size) = some 1 := by kernel_rfl
theorem zero21 : ZeroOf Try.prog 21 [.int .i32 0] := ZeroOf.of (by kernel_rfl)
theorem u21 : Try.prog.underlying 21 = some (.int .i32) := by kernel_rfl
theorem one22 : oneB Try.prog 22 = true := by kernel_rfl
theorem size22 : (Try.prog.info? 22).map (·.size) = some 1 := by kernel_rfl
theorem zero22 : ZeroOf Try.prog 22 [.slice none 0 0] := ZeroOf.of (by kernel_rfl)
theorem sl22 : isSlice Try.prog 22 34 5 := ⟨by kernel_rfl, by kernel_rfl⟩
theorem bytes22 : (Try.prog.info? 34).map (·.bytes) = some 40 := by kernel_rfl
theorem one23 : oneB Try.prog 23 = true := by kernel_rfl
theorem size23 : (Try.prog.info? 23).map (·.size) = some 1 := by kernel_rfl
theorem zero23 : ZeroOf Try.prog 23 [.slice none 0 0] := ZeroOf.of (by kernel_rfl)
theorem sl23 : isSlice Try.prog 23 3 1 := ⟨by kernel_rfl, by kernel_rfl⟩
theorem bytes23 : (Try.prog.info? 3).map (·.bytes) = some 8 := by kernel_rfl
theorem agg24 : aggB Try.prog 24 4 = true := by kernel_rfl
theorem size24 : (Try.prog.info? 24).map (·.size) = some 4 := by kernel_rfl
theorem zero24 : ZeroOf Try.prog 24 [.int .i64 0, .int .i64 0, .slice none 0 0, .slice none 0 0] := ZeroOf.of (by kernel_rfl)
theorem fa24_0 : FieldAt Try.prog 24 0 0 := fun _ _ _ => by kernel_rfl
theorem fa24_1 : FieldAt Try.prog 24 1 1 := fun _ _ _ => by kernel_rfl
theorem fa24_2 : FieldAt Try.prog 24 2 2 := fun _ _ _ => by kernel_rfl
theorem fa24_3 : FieldAt Try.prog 24 3 3 := fun _ _ _ => by kernel_rfl
theorem st24 : StructOf Try.prog 24 [(0, 1), (1, 1), (2, 1), (3, 1)] [.int .i64 0, .int .i64 0, .slice none 0 0, .slice none 0 0] := StructOf.of (Try.prog.fieldsOf 24) (by kernel_rfl) (by kernel_rfl) (by kernel_rfl)
theorem agg25 : aggB Try.prog 25 4 = true := by kernel_rfl
theorem size25 : (Try.prog.info? 25).map (·.size) = some 4 := by kernel_rfl
theorem zero25 : ZeroOf Try.prog 25 [.int .i64 0, .int .i64 0, .slice none 0 0, .slice none 0 0] := ZeroOf.of (by kernel_rfl)
theorem fa25_0 : FieldAt Try.prog 25 0 0 := fun _ _ _ => by kernel_rfl
theorem fa25_1 : FieldAt Try.prog 25 1 1 := fun _ _ _ => by kernel_rfl
theorem fa25_2 : FieldAt Try.prog 25 2 2 := fun _ _ _ => by kernel_rfl
theorem fa25_3 : FieldAt Try.prog 25 3 3 := fun _ _ _ => by kernel_rfl
theorem st25 : StructOf Try.prog 25 [(0, 1), (1, 1), (2, 1), (3, 1)] [.int .i64 0, .int .i64 0, .slice none 0 0, .slice none 0 0] := StructOf.of (Try.prog.fieldsOf 25) (by kernel_rfl) (by kernel_rfl) (by kernel_rfl)
theorem one26 : oneB Try.prog 26 = true := by kernel_rfl
theorem size26 : (Try.prog.info? 26).map (·.size) = some 1 := by kernel_rfl
theorem zero26 : ZeroOf Try.prog 26 [.nilFunc] := ZeroOf.of (by kernel_rfl)
theorem one27 : oneB Try.prog 27 = true := by kernel_rfl
theorem size27 : (Try.prog.info? 27).map (·.size) = some 1 := by kernel_rfl
theorem zero27 : ZeroOf Try.prog 27 [.nilFunc] := ZeroOf.of (by kernel_rfl)
theorem one28 : oneB Try.prog 28 = true := by kernel_rfl
theorem size28 : (Try.prog.info? 28).map (·.size) = some 1 := by kernel_rfl
theorem zero28 : ZeroOf Try.prog 28 [.nilFunc] := ZeroOf.of (by kernel_rfl)
theorem one29 : oneB Try.prog 29 = true := by kernel_rfl
theorem size29 : (Try.prog.info? 29).map (·.size) = some 1 := by kernel_rfl
theorem zero29 : ZeroOf Try.prog 29 [.int .i64 0] := ZeroOf.of (by kernel_rfl)
theorem u29 : Try.prog.underlying 29 = some (.int .i64) := by kernel_rfl
theorem one31 : oneB Try.prog 31 = true := by kernel_rfl
theorem size31 : (Try.prog.info? 31).map (·.size) = some 1 := by kernel_rfl
theorem zero31 : ZeroOf Try.prog 31 [.nilFunc] := ZeroOf.of (by kernel_rfl)
theorem one32 : oneB Try.prog 32 = true := by kernel_rfl
theorem size32 : (Try.prog.info? 32).map (·.size) = some 1 := by kernel_rfl
theorem zero32 : ZeroOf Try.prog 32 [.nilFunc] := ZeroOf.of (by kernel_rfl)
theorem agg33 : aggB Try.prog 33 5 = true := by kernel_rfl
theorem size33 : (Try.prog.info? 33).map (·.size) = some 5 := by kernel_rfl
theorem zero33 : ZeroOf Try.prog 33 [.int .i64 0, .int .i64 0, .int .i64 0, .int .i64 0, .int .i64 0] := ZeroOf.of (by kernel_rfl)
theorem fa33_0 : FieldAt Try.prog 33 0 0 := fun _ _ _ => by kernel_rfl
theorem fa33_1 : FieldAt Try.prog 33 1 1 := fun _ _ _ => by kernel_rfl
theorem fa33_2 : FieldAt Try.prog 33 2 2 := fun _ _ _ => by kernel_rfl
theorem fa33_3 : FieldAt Try.prog 33 3 3 := fun _ _ _ => by kernel_rfl
theorem fa33_4 : FieldAt Try.prog 33 4 4 := fun _ _ _ => by kernel_rfl
theorem st33 : StructOf Try.prog 33 [(0, 1), (1, 1), (2, 1), (3, 1), (4, 1)] [.int .i64 0, .int .i64 0, .int .i64 0, .int .i64 0, .int .i64 0] := StructOf.of (Try.prog.fieldsOf 33) (by kernel_rfl) (by kernel_rfl) (by kernel_rfl)
theorem ai33 : AllInt Try.prog 33 5 := ⟨by kernel_rfl, by kernel_rfl, by kernel_rfl, by kernel_rfl⟩
theorem agg34 : aggB Try.prog 34 5 = true := by kernel_rfl
theorem size34 : (Try.prog.info? 34).map (·.size) = some 5 := by kernel_rfl
theorem zero34 : ZeroOf Try.prog 34 [.int .i64 0, .int .i64 0, .int .i64 0, .int .i64 0, .int .i64 0] := ZeroOf.of (by kernel_rfl)
theorem fa34_0 : FieldAt Try.prog 34 0 0 := fun _ _ _ => by kernel_rfl
theorem fa34_1 : FieldAt Try.prog 34 1 1 := fun _ _ _ => by kernel_rfl
theorem fa34_2 : FieldAt Try.prog 34 2 2 := fun _ _ _ => by kernel_rfl
theorem fa34_3 : FieldAt Try.prog 34 3 3 := fun _ _ _ => by kernel_rfl
theorem fa34_4 : FieldAt Try.prog 34 4 4 := fun _ _ _ => by kernel_rfl
theorem el34 : ElemOf Try.prog 34 5 40 [.int .i64 0, .int .i64 0, .int .i64 0, .int .i64 0, .int .i64 0] := ElemOf.of (by kernel_rfl) rfl
theorem st34 : StructOf Try.prog 34 [(0, 1), (1, 1), (2, 1), (3, 1), (4, 1)] [.int .i64 0, .int .i64 0, .int .i64 0, .int .i64 0, .int .i64 0] := StructOf.of (Try.prog.fieldsOf 34) (by kernel_rfl) (by kernel_rfl) (by kernel_rfl)
theorem ai34 : AllInt Try.prog 34 5 := ⟨by kernel_rfl, by kernel_rfl, by kernel_rfl, by kernel_rfl⟩
theorem one35 : oneB Try.prog 35 = true := by kernel_rfl
theorem size35 : (Try.prog.info? 35).map (·.size) = some 1 := by kernel_rfl
theorem zero35 : ZeroOf Try.prog 35 [.slice none 0 0] := ZeroOf.of (by kernel_rfl)
theorem sl35 : isSlice Try.prog 35 38 1 := ⟨by kernel_rfl, by kernel_rfl⟩
theorem bytes35 : (Try.prog.info? 38).map (·.bytes) = some 24 := by kernel_rfl
theorem one36 : oneB Try.prog 36 = true := by kernel_rfl
theorem size36 : (Try.prog.info? 36).map (·.size) = some 1 := by kernel_rfl
theorem zero36 : ZeroOf Try.prog 36 [.nilFunc] := ZeroOf.of (by kernel_rfl)
theorem one37 : oneB Try.prog 37 = true := by kernel_rfl
theorem size37 : (Try.prog.info? 37).map (·.size) = some 1 := by kernel_rfl
theorem zero37 : ZeroOf Try.prog 37 [.slice none 0 0] := ZeroOf.of (by kernel_rfl)
theorem sl37 : isSlice Try.prog 37 40 1 := ⟨by kernel_rfl, by kernel_rfl⟩
theorem bytes37 : (Try.prog.info? 40).map (·.bytes) = some 24 := by kernel_rfl
theorem one38 : oneB Try.prog 38 = true := by kernel_rfl
theorem size38 : (Try.prog.info? 38).map (·.size) = some 1 := by kernel_rfl
theorem zero38 : ZeroOf Try.prog 38 [.slice none 0 0] := ZeroOf.of (by kernel_rfl)
theorem sl38 : isSlice Try.prog 38 2 1 := ⟨by kernel_rfl, by kernel_rfl⟩
theorem bytes38 : (Try.prog.info? 2).map (·.bytes) = some 8 := by kernel_rfl
theorem el38 : ElemOf Try.prog 38 1 24 [.slice none 0 0] := ElemOf.of (by kernel_rfl) rfl
theorem one39 : oneB Try.prog 39 = true := by kernel_rfl
theorem size39 : (Try.prog.info? 39).map (·.size) = some 1 := by kernel_rfl
theorem zero39 : ZeroOf Try.prog 39 [.slice none 0 0] := ZeroOf.of (by kernel_rfl)
theorem sl39 : isSlice Try.prog 39 43 2 := ⟨by kernel_rfl, by kernel_rfl⟩
theorem bytes39 : (Try.prog.info? 43).map (·.bytes) = some 32 := by kernel_rfl
theorem one40 : oneB Try.prog 40 = true := by kernel_rfl
theorem size40 : (Try.prog.info? 40).map (·.size) = some 1 := by kernel_rfl
theorem zero40 : ZeroOf Try.prog 40 [.slice none 0 0] := ZeroOf.of (by kernel_rfl)
theorem sl40 : isSlice Try.prog 40 43 2 := ⟨by kernel_rfl, by kernel_rfl⟩
theorem bytes40 : (Try.prog.info? 43).map (·.bytes) = some 32 := by kernel_rfl
theorem el40 : ElemOf Try.prog 40 1 24 [.slice none 0 0] := ElemOf.of (by kernel_rfl) rfl
theorem one41 : oneB Try.prog 41 = true := by kernel_rfl
theorem size41 : (Try.prog.info? 41).map (·.size) = some 1 := by kernel_rfl
theorem zero41 : ZeroOf Try.prog 41 [.slice none 0 0] := ZeroOf.of (by kernel_rfl)
theorem sl41 : isSlice Try.prog 41 91 1 := ⟨by kernel_rfl, by kernel_rfl⟩
theorem bytes41 : (Try.prog.info? 91).map (·.bytes) = some 4 := by kernel_rfl
theorem agg42 : aggB Try.prog 42 2 = true := by kernel_rfl
theorem size42 : (Try.prog.info? 42).map (·.size) = some 2 := by kernel_rfl
theorem zero42 : ZeroOf Try.prog 42 [.bool false, .slice none 0 0] := ZeroOf.of (by kernel_rfl)
theorem fa42_0 : FieldAt Try.prog 42 0 0 := fun _ _ _ => by kernel_rfl
theorem fa42_1 : FieldAt Try.prog 42 1 1 := fun _ _ _ => by kernel_rfl
theorem st42 : StructOf Try.prog 42 [(0, 1), (1, 1)] [.bool false, .slice none 0 0] := StructOf.of (Try.prog.fieldsOf 42) (by kernel_rfl) (by kernel_rfl) (by kernel_rfl)
theorem agg43 : aggB Try.prog 43 2 = true := by kernel_rfl
theorem size43 : (Try.prog.info? 43).map (·.size) = some 2 := by kernel_rfl
theorem zero43 : ZeroOf Try.prog 43 [.bool false, .slice none 0 0] := ZeroOf.of (by kernel_rfl)
theorem fa43_0 : FieldAt Try.prog 43 0 0 := fun _ _ _ => by kernel_rfl
theorem fa43_1 : FieldAt Try.prog 43 1 1 := fun _ _ _ => by kernel_rfl
theorem el43 : ElemOf Try.prog 43 2 32 [.bool false, .slice none 0 0] := ElemOf.of (by kernel_rfl) rfl
theorem st43 : StructOf Try.prog 43 [(0, 1), (1, 1)] [.bool false, .slice none 0 0] := StructOf.of (Try.prog.fieldsOf 43) (by kernel_rfl) (by kernel_rfl) (by kernel_rfl)
theorem one44 : oneB Try.prog 44 = true := by kernel_rfl
theorem size44 : (Try.prog.info? 44).map (·.size) = some 1 := by kernel_rfl
theorem zero44 : ZeroOf Try.prog 44 [.nilFunc] := ZeroOf.of (by kernel_rfl)
theorem one46 : oneB Try.prog 46 = true := by kernel_rfl
theorem size46 : (Try.prog.info? 46).map (·.size) = some 1 := by kernel_rfl
theorem zero46 : ZeroOf Try.prog 46 [.nilFunc] := ZeroOf.of (by kernel_rfl)
theorem one47 : oneB Try.prog 47 = true := by kernel_rfl
theorem size47 : (Try.prog.info? 47).map (·.size) = some 1 := by kernel_rfl
theorem zero47 : ZeroOf Try.prog 47 [.nilFunc] := ZeroOf.of (by kernel_rfl)
theorem one48 : oneB Try.prog 48 = true := by kernel_rfl
theorem size48 : (Try.prog.info? 48).map (·.size) = some 1 := by kernel_rfl
theorem zero48 : ZeroOf Try.prog 48 [.nilFunc] := ZeroOf.of (by kernel_rfl)
theorem one50 : oneB Try.prog 50 = true := by kernel_rfl
theorem size50 : (Try.prog.info? 50).map (·.size) = some 1 := by kernel_rfl
theorem zero50 : ZeroOf Try.prog 50 [.nilFunc] := ZeroOf.of (by kernel_rfl)
theorem one51 : oneB Try.prog 51 = true := by kernel_rfl
theorem size51 : (Try.prog.info? 51).map (·.size) = some 1 := by kernel_rfl
theorem zero51 : ZeroOf Try.prog 51 [.nilFunc] := ZeroOf.of (by kernel_rfl)
theorem one52 : oneB Try.prog 52 = true := by kernel_rfl
theorem size52 : (Try.prog.info? 52).map (·.size) = some 1 := by kernel_rfl
theorem zero52 : ZeroOf Try.prog 52 [.nilFunc] := ZeroOf.of (by kernel_rfl)
theorem one53 : oneB Try.prog 53 = true := by kernel_rfl
theorem size53 : (Try.prog.info? 53).map (·.size) = some 1 := by kernel_rfl
theorem zero53 : ZeroOf Try.prog 53 [.nilFunc] := ZeroOf.of (by kernel_rfl)
theorem one54 : oneB Try.prog 54 = true := by kernel_rfl
theorem size54 : (Try.prog.info? 54).map (·.size) = some 1 := by kernel_rfl
theorem zero54 : ZeroOf Try.prog 54 [.pointer none] := ZeroOf.of (by kernel_rfl)
theorem one55 : oneB Try.prog 55 = true := by kernel_rfl
theorem size55 : (Try.prog.info? 55).map (·.size) = some 1 := by kernel_rfl
theorem zero55 : ZeroOf Try.prog 55 [.nilFunc] := ZeroOf.of (by kernel_rfl)
theorem one56 : oneB Try.prog 56 = true := by kernel_rfl
theorem size56 : (Try.prog.info? 56).map (·.size) = some 1 := by kernel_rfl
theorem zero56 : ZeroOf Try.prog 56 [.slice none 0 0] := ZeroOf.of (by kernel_rfl)
theorem sl56 : isSlice Try.prog 56 62 2 := ⟨by kernel_rfl, by kernel_rfl⟩
theorem bytes56 : (Try.prog.info? 62).map (·.bytes) = some 16 := by kernel_rfl
theorem one58 : oneB Try.prog 58 = true := by kernel_rfl
theorem size58 : (Try.prog.info? 58).map (·.size) = some 1 := by kernel_rfl
theorem zero58 : ZeroOf Try.prog 58 [.nilFunc] := ZeroOf.of (by kernel_rfl)
theorem one59 : oneB Try.prog 59 = true := by kernel_rfl
theorem size59 : (Try.prog.info? 59).map (·.size) = some 1 := by kernel_rfl
theorem zero59 : ZeroOf Try.prog 59 [.slice none 0 0] := ZeroOf.of (by kernel_rfl)
theorem sl59 : isSlice Try.prog 59 99 6 := ⟨by kernel_rfl, by kernel_rfl⟩
theorem bytes59 : (Try.prog.info? 99).map (·.bytes) = some 48 := by kernel_rfl
theorem agg60 : aggB Try.prog 60 3 = true := by kernel_rfl
theorem size60 : (Try.prog.info? 60).map (·.size) = some 3 := by kernel_rfl
theorem zero60 : ZeroOf Try.prog 60 [.slice none 0 0, .slice none 0 0, .int .i64 0] := ZeroOf.of (by kernel_rfl)
theorem fa60_0 : FieldAt Try.prog 60 0 0 := fun _ _ _ => by kernel_rfl
theorem fa60_1 : FieldAt Try.prog 60 1 1 := fun _ _ _ => by kernel_rfl
theorem fa60_2 : FieldAt Try.prog 60 2 2 := fun _ _ _ => by kernel_rfl
theorem st60 : StructOf Try.prog 60 [(0, 1), (1, 1), (2, 1)] [.slice none 0 0, .slice none 0 0, .int .i64 0] := StructOf.of (Try.prog.fieldsOf 60) (by kernel_rfl) (by kernel_rfl) (by kernel_rfl)
theorem agg61 : aggB Try.prog 61 3 = true := by kernel_rfl
theorem size61 : (Try.prog.info? 61).map (·.size) = some 3 := by kernel_rfl
theorem zero61 : ZeroOf Try.prog 61 [.slice none 0 0, .slice none 0 0, .int .i64 0] := ZeroOf.of (by kernel_rfl)
theorem fa61_0 : FieldAt Try.prog 61 0 0 := fun _ _ _ => by kernel_rfl
theorem fa61_1 : FieldAt Try.prog 61 1 1 := fun _ _ _ => by kernel_rfl
theorem fa61_2 : FieldAt Try.prog 61 2 2 := fun _ _ _ => by kernel_rfl
theorem st61 : StructOf Try.prog 61 [(0, 1), (1, 1), (2, 1)] [.slice none 0 0, .slice none 0 0, .int .i64 0] := StructOf.of (Try.prog.fieldsOf 61) (by kernel_rfl) (by kernel_rfl) (by kernel_rfl)
theorem agg62 : aggB Try.prog 62 2 = true := by kernel_rfl
theorem size62 : (Try.prog.info? 62).map (·.size) = some 2 := by kernel_rfl
theorem zero62 : ZeroOf Try.prog 62 [.int .i64 0, .int .i64 0] := ZeroOf.of (by kernel_rfl)
theorem el62 : ElemOf Try.prog 62 2 16 [.int .i64 0, .int .i64 0] := ElemOf.of (by kernel_rfl) rfl
theorem ar62 : ArrayOf Try.prog 62 2 1 [.int .i64 0, .int .i64 0] := ArrayOf.of 3 (by kernel_rfl) (by kernel_rfl) (by kernel_rfl)
theorem one63 : oneB Try.prog 63 = true := by kernel_rfl
theorem size63 : (Try.prog.info? 63).map (·.size) = some 1 := by kernel_rfl
theorem zero63 : ZeroOf Try.prog 63 [.nilFunc] := ZeroOf.of (by kernel_rfl)
theorem one64 : oneB Try.prog 64 = true := by kernel_rfl
theorem size64 : (Try.prog.info? 64).map (·.size) = some 1 := by kernel_rfl
theorem zero64 : ZeroOf Try.prog 64 [.slice none 0 0] := ZeroOf.of (by kernel_rfl)
theorem sl64 : isSlice Try.prog 64 4 1 := ⟨by kernel_rfl, by kernel_rfl⟩
theorem bytes64 : (Try.prog.info? 4).map (·.bytes) = some 1 := by kernel_rfl
theorem one66 : oneB Try.prog 66 = true := by kernel_rfl
theorem size66 : (Try.prog.info? 66).map (·.size) = some 1 := by kernel_rfl
theorem zero66 : ZeroOf Try.prog 66 [.nilFunc] := ZeroOf.of (by kernel_rfl)
theorem one67 : oneB Try.prog 67 = true := by kernel_rfl
theorem size67 : (Try.prog.info? 67).map (·.size) = some 1 := by kernel_rfl
theorem zero67 : ZeroOf Try.prog 67 [.nilFunc] := ZeroOf.of (by kernel_rfl)
theorem one68 : oneB Try.prog 68 = true := by kernel_rfl
theorem size68 : (Try.prog.info? 68).map (·.size) = some 1 := by kernel_rfl
theorem zero68 : ZeroOf Try.prog 68 [.nilFunc] := ZeroOf.of (by kernel_rfl)
theorem one69 : oneB Try.prog 69 = true := by kernel_rfl
theorem size69 : (Try.prog.info? 69).map (·.size) = some 1 := by kernel_rfl
theorem zero69 : ZeroOf Try.prog 69 [.nilFunc] := ZeroOf.of (by kernel_rfl)
theorem one70 : oneB Try.prog 70 = true := by kernel_rfl
theorem size70 : (Try.prog.info? 70).map (·.size) = some 1 := by kernel_rfl
theorem zero70 : ZeroOf Try.prog 70 [.nilFunc] := ZeroOf.of (by kernel_rfl)
theorem one71 : oneB Try.prog 71 = true := by kernel_rfl
theorem size71 : (Try.prog.info? 71).map (·.size) = some 1 := by kernel_rfl
theorem zero71 : ZeroOf Try.prog 71 [.nilFunc] := ZeroOf.of (by kernel_rfl)
theorem one72 : oneB Try.prog 72 = true := by kernel_rfl
theorem size72 : (Try.prog.info? 72).map (·.size) = some 1 := by kernel_rfl
theorem zero72 : ZeroOf Try.prog 72 [.nilFunc] := ZeroOf.of (by kernel_rfl)
theorem one73 : oneB Try.prog 73 = true := by kernel_rfl
theorem size73 : (Try.prog.info? 73).map (·.size) = some 1 := by kernel_rfl
theorem zero73 : ZeroOf Try.prog 73 [.nilFunc] := ZeroOf.of (by kernel_rfl)
theorem one75 : oneB Try.prog 75 = true := by kernel_rfl
theorem size75 : (Try.prog.info? 75).map (·.size) = some 1 := by kernel_rfl
theorem zero75 : ZeroOf Try.prog 75 [.nilFunc] := ZeroOf.of (by kernel_rfl)
theorem one76 : oneB Try.prog 76 = true := by kernel_rfl
theorem size76 : (Try.prog.info? 76).map (·.size) = some 1 := by kernel_rfl
theorem zero76 : ZeroOf Try.prog 76 [.nilFunc] := ZeroOf.of (by kernel_rfl)
theorem one77 : oneB Try.prog 77 = true := by kernel_rfl
theorem size77 : (Try.prog.info? 77).map (·.size) = some 1 := by kernel_rfl
theorem zero77 : ZeroOf Try.prog 77 [.nilFunc] := ZeroOf.of (by kernel_rfl)
theorem one79 : oneB Try.prog 79 = true := by kernel_rfl
theorem size79 : (Try.prog.info? 79).map (·.size) = some 1 := by kernel_rfl
theorem zero79 : ZeroOf Try.prog 79 [.nilFunc] := ZeroOf.of (by kernel_rfl)
theorem one80 : oneB Try.prog 80 = true := by kernel_rfl
theorem size80 : (Try.prog.info? 80).map (·.size) = some 1 := by kernel_rfl
theorem zero80 : ZeroOf Try.prog 80 [.nilFunc] := ZeroOf.of (by kernel_rfl)
theorem one81 : oneB Try.prog 81 = true := by kernel_rfl
theorem size81 : (Try.prog.info? 81).map (·.size) = some 1 := by kernel_rfl
theorem zero81 : ZeroOf Try.prog 81 [.pointer none] := ZeroOf.of (by kernel_rfl)
theorem one82 : oneB Try.prog 82 = true := by kernel_rfl
theorem size82 : (Try.prog.info? 82).map (·.size) = some 1 := by kernel_rfl
theorem zero82 : ZeroOf Try.prog 82 [.nilFunc] := ZeroOf.of (by kernel_rfl)
theorem one83 : oneB Try.prog 83 = true := by kernel_rfl
theorem size83 : (Try.prog.info? 83).map (·.size) = some 1 := by kernel_rfl
theorem zero83 : ZeroOf Try.prog 83 [.nilFunc] := ZeroOf.of (by kernel_rfl)
theorem one84 : oneB Try.prog 84 = true := by kernel_rfl
theorem size84 : (Try.prog.info? 84).map (·.size) = some 1 := by kernel_rfl
theorem zero84 : ZeroOf Try.prog 84 [.map none] := ZeroOf.of (by kernel_rfl)
theorem u84 : Try.prog.underlying 84 = some (.map 128 3) := by kernel_rfl
theorem agg85 : aggB Try.prog 85 4 = true := by kernel_rfl
theorem size85 : (Try.prog.info? 85).map (·.size) = some 4 := by kernel_rfl
theorem zero85 : ZeroOf Try.prog 85 [.slice none 0 0, .map none, .map none, .int .i64 0] := ZeroOf.of (by kernel_rfl)
theorem fa85_0 : FieldAt Try.prog 85 0 0 := fun _ _ _ => by kernel_rfl
theorem fa85_1 : FieldAt Try.prog 85 1 1 := fun _ _ _ => by kernel_rfl
theorem fa85_2 : FieldAt Try.prog 85 2 2 := fun _ _ _ => by kernel_rfl
theorem fa85_3 : FieldAt Try.prog 85 3 3 := fun _ _ _ => by kernel_rfl
theorem st85 : StructOf Try.prog 85 [(0, 1), (1, 1), (2, 1), (3, 1)] [.slice none 0 0, .map none, .map none, .int .i64 0] := StructOf.of (Try.prog.fieldsOf 85) (by kernel_rfl) (by kernel_rfl) (by kernel_rfl)
theorem agg86 : aggB Try.prog 86 4 = true := by kernel_rfl
theorem size86 : (Try.prog.info? 86).map (·.size) = some 4 := by kernel_rfl
theorem zero86 : ZeroOf Try.prog 86 [.slice none 0 0, .map none, .map none, .int .i64 0] := ZeroOf.of (by kernel_rfl)
theorem fa86_0 : FieldAt Try.prog 86 0 0 := fun _ _ _ => by kernel_rfl
theorem fa86_1 : FieldAt Try.prog 86 1 1 := fun _ _ _ => by kernel_rfl
theorem fa86_2 : FieldAt Try.prog 86 2 2 := fun _ _ _ => by kernel_rfl
theorem fa86_3 : FieldAt Try.prog 86 3 3 := fun _ _ _ => by kernel_rfl
theorem st86 : StructOf Try.prog 86 [(0, 1), (1, 1), (2, 1), (3, 1)] [.slice none 0 0, .map none, .map none, .int .i64 0] := StructOf.of (Try.prog.fieldsOf 86) (by kernel_rfl) (by kernel_rfl) (by kernel_rfl)
theorem one87 : oneB Try.prog 87 = true := by kernel_rfl
theorem size87 : (Try.prog.info? 87).map (·.size) = some 1 := by kernel_rfl
theorem zero87 : ZeroOf Try.prog 87 [.nilFunc] := ZeroOf.of (by kernel_rfl)
theorem one89 : oneB Try.prog 89 = true := by kernel_rfl
theorem size89 : (Try.prog.info? 89).map (·.size) = some 1 := by kernel_rfl
theorem zero89 : ZeroOf Try.prog 89 [.nilFunc] := ZeroOf.of (by kernel_rfl)
theorem one90 : oneB Try.prog 90 = true := by kernel_rfl
theorem size90 : (Try.prog.info? 90).map (·.size) = some 1 := by kernel_rfl
theorem zero90 : ZeroOf Try.prog 90 [.int .u64 0] := ZeroOf.of (by kernel_rfl)
theorem u90 : Try.prog.underlying 90 = some (.int .u64) := by kernel_rfl
theorem one91 : oneB Try.prog 91 = true := by kernel_rfl
theorem size91 : (Try.prog.info? 91).map (·.size) = some 1 := by kernel_rfl
theorem zero91 : ZeroOf Try.prog 91 [.int .u32 0] := ZeroOf.of (by kernel_rfl)
theorem el91 : ElemOf Try.prog 91 1 4 [.int .u32 0] := ElemOf.of (by kernel_rfl) rfl
theorem u91 : Try.prog.underlying 91 = some (.int .u32) := by kernel_rfl
theorem one92 : oneB Try.prog 92 = true := by kernel_rfl
theorem size92 : (Try.prog.info? 92).map (·.size) = some 1 := by kernel_rfl
theorem zero92 : ZeroOf Try.prog 92 [.nilFunc] := ZeroOf.of (by kernel_rfl)
theorem one93 : oneB Try.prog 93 = true := by kernel_rfl
theorem size93 : (Try.prog.info? 93).map (·.size) = some 1 := by kernel_rfl
theorem zero93 : ZeroOf Try.prog 93 [.nilFunc] := ZeroOf.of (by kernel_rfl)
theorem one95 : oneB Try.prog 95 = true := by kernel_rfl
theorem size95 : (Try.prog.info? 95).map (·.size) = some 1 := by kernel_rfl
theorem zero95 : ZeroOf Try.prog 95 [.nilFunc] := ZeroOf.of (by kernel_rfl)
theorem one96 : oneB Try.prog 96 = true := by kernel_rfl
theorem size96 : (Try.prog.info? 96).map (·.size) = some 1 := by kernel_rfl
theorem zero96 : ZeroOf Try.prog 96 [.nilFunc] := ZeroOf.of (by kernel_rfl)
theorem one97 : oneB Try.prog 97 = true := by kernel_rfl
theorem size97 : (Try.prog.info? 97).map (·.size) = some 1 := by kernel_rfl
theorem zero97 : ZeroOf Try.prog 97 [.nilFunc] := ZeroOf.of (by kernel_rfl)
theorem agg98 : aggB Try.prog 98 6 = true := by kernel_rfl
theorem size98 : (Try.prog.info? 98).map (·.size) = some 6 := by kernel_rfl
theorem zero98 : ZeroOf Try.prog 98 [.int .i64 0, .int .i64 0, .int .i64 0, .int .i64 0, .int .i64 0, .int .i64 0] := ZeroOf.of (by kernel_rfl)
theorem fa98_0 : FieldAt Try.prog 98 0 0 := fun _ _ _ => by kernel_rfl
theorem fa98_1 : FieldAt Try.prog 98 1 1 := fun _ _ _ => by kernel_rfl
theorem fa98_2 : FieldAt Try.prog 98 2 2 := fun _ _ _ => by kernel_rfl
theorem fa98_3 : FieldAt Try.prog 98 3 3 := fun _ _ _ => by kernel_rfl
theorem fa98_4 : FieldAt Try.prog 98 4 4 := fun _ _ _ => by kernel_rfl
theorem fa98_5 : FieldAt Try.prog 98 5 5 := fun _ _ _ => by kernel_rfl
theorem st98 : StructOf Try.prog 98 [(0, 1), (1, 1), (2, 1), (3, 1), (4, 1), (5, 1)] [.int .i64 0, .int .i64 0, .int .i64 0, .int .i64 0, .int .i64 0, .int .i64 0] := StructOf.of (Try.prog.fieldsOf 98) (by kernel_rfl) (by kernel_rfl) (by kernel_rfl)
theorem ai98 : AllInt Try.prog 98 6 := ⟨by kernel_rfl, by kernel_rfl, by kernel_rfl, by kernel_rfl⟩
theorem agg99 : aggB Try.prog 99 6 = true := by kernel_rfl
theorem size99 : (Try.prog.info? 99).map (·.size) = some 6 := by kernel_rfl
theorem zero99 : ZeroOf Try.prog 99 [.int .i64 0, .int .i64 0, .int .i64 0, .int .i64 0, .int .i64 0, .int .i64 0] := ZeroOf.of (by kernel_rfl)
theorem fa99_0 : FieldAt Try.prog 99 0 0 := fun _ _ _ => by kernel_rfl
theorem fa99_1 : FieldAt Try.prog 99 1 1 := fun _ _ _ => by kernel_rfl
theorem fa99_2 : FieldAt Try.prog 99 2 2 := fun _ _ _ => by kernel_rfl
theorem fa99_3 : FieldAt Try.prog 99 3 3 := fun _ _ _ => by kernel_rfl
theorem fa99_4 : FieldAt Try.prog 99 4 4 := fun _ _ _ => by kernel_rfl
theorem fa99_5 : FieldAt Try.prog 99 5 5 := fun _ _ _ => by kernel_rfl
theorem el99 : ElemOf Try.prog 99 6 48 [.int .i64 0, .int .i64 0, .int .i64 0, .int .i64 0, .int .i64 0, .int .i64 0] := ElemOf.of (by kernel_rfl) rfl
theorem st99 : StructOf Try.prog 99 [(0, 1), (1, 1), (2, 1), (3, 1), (4, 1), (5, 1)] [.int .i64 0, .int .i64 0, .int .i64 0, .int .i64 0, .int .i64 0, .int .i64 0] := StructOf.of (Try.prog.fieldsOf 99) (by kernel_rfl) (by kernel_rfl) (by kernel_rfl)
theorem ai99 : AllInt Try.prog 99 6 := ⟨by kernel_rfl, by kernel_rfl, by kernel_rfl, by kernel_rfl⟩
theorem one100 : oneB Try.prog 100 = true := by kernel_rfl
theorem size100 : (Try.prog.info? 100).map (·.size) = some 1 := by kernel_rfl
theorem zero100 : ZeroOf Try.prog 100 [.nilFunc] := ZeroOf.of (by kernel_rfl)
theorem one101 : oneB Try.prog 101 = true := by kernel_rfl
theorem size101 : (Try.prog.info? 101).map (·.size) = some 1 := by kernel_rfl
theorem zero101 : ZeroOf Try.prog 101 [.nilFunc] := ZeroOf.of (by kernel_rfl)
theorem one102 : oneB Try.prog 102 = true := by kernel_rfl
theorem size102 : (Try.prog.info? 102).map (·.size) = some 1 := by kernel_rfl
theorem zero102 : ZeroOf Try.prog 102 [.nilFunc] := ZeroOf.of (by kernel_rfl)
theorem one103 : oneB Try.prog 103 = true := by kernel_rfl
theorem size103 : (Try.prog.info? 103).map (·.size) = some 1 := by kernel_rfl
theorem zero103 : ZeroOf Try.prog 103 [.nilFunc] := ZeroOf.of (by kernel_rfl)
theorem one104 : oneB Try.prog 104 = true := by kernel_rfl
theorem size104 : (Try.prog.info? 104).map (·.size) = some 1 := by kernel_rfl
theorem zero104 : ZeroOf Try.prog 104 [.nilFunc] := ZeroOf.of (by kernel_rfl)
theorem one105 : oneB Try.prog 105 = true := by kernel_rfl
theorem size105 : (Try.prog.info? 105).map (·.size) = some 1 := by kernel_rfl
theorem zero105 : ZeroOf Try.prog 105 [.nilFunc] := ZeroOf.of (by kernel_rfl)
theorem one106 : oneB Try.prog 106 = true := by kernel_rfl
theorem size106 : (Try.prog.info? 106).map (·.size) = some 1 := by kernel_rfl
theorem zero106 : ZeroOf Try.prog 106 [.nilFunc] := ZeroOf.of (by kernel_rfl)
theorem one107 : oneB Try.prog 107 = true := by kernel_rfl
theorem size107 : (Try.prog.info? 107).map (·.size) = some 1 := by kernel_rfl
theorem zero107 : ZeroOf Try.prog 107 [.nilFunc] := ZeroOf.of (by kernel_rfl)
theorem one108 : oneB Try.prog 108 = true := by kernel_rfl
theorem size108 : (Try.prog.info? 108).map (·.size) = some 1 := by kernel_rfl
theorem zero108 : ZeroOf Try.prog 108 [.pointer none] := ZeroOf.of (by kernel_rfl)
theorem one110 : oneB Try.prog 110 = true := by kernel_rfl
theorem size110 : (Try.prog.info? 110).map (·.size) = some 1 := by kernel_rfl
theorem zero110 : ZeroOf Try.prog 110 [.nilFunc] := ZeroOf.of (by kernel_rfl)
theorem one111 : oneB Try.prog 111 = true := by kernel_rfl
theorem size111 : (Try.prog.info? 111).map (·.size) = some 1 := by kernel_rfl
theorem zero111 : ZeroOf Try.prog 111 [.pointer none] := ZeroOf.of (by kernel_rfl)
theorem one112 : oneB Try.prog 112 = true := by kernel_rfl
theorem size112 : (Try.prog.info? 112).map (·.size) = some 1 := by kernel_rfl
theorem zero112 : ZeroOf Try.prog 112 [.map none] := ZeroOf.of (by kernel_rfl)
theorem u112 : Try.prog.underlying 112 = some (.map 3 3) := by kernel_rfl
theorem agg113 : aggB Try.prog 113 2 = true := by kernel_rfl
theorem size113 : (Try.prog.info? 113).map (·.size) = some 2 := by kernel_rfl
theorem zero113 : ZeroOf Try.prog 113 [.map none, .slice none 0 0] := ZeroOf.of (by kernel_rfl)
theorem fa113_0 : FieldAt Try.prog 113 0 0 := fun _ _ _ => by kernel_rfl
theorem fa113_1 : FieldAt Try.prog 113 1 1 := fun _ _ _ => by kernel_rfl
theorem st113 : StructOf Try.prog 113 [(0, 1), (1, 1)] [.map none, .slice none 0 0] := StructOf.of (Try.prog.fieldsOf 113) (by kernel_rfl) (by kernel_rfl) (by kernel_rfl)
theorem agg114 : aggB Try.prog 114 2 = true := by kernel_rfl
theorem size114 : (Try.prog.info? 114).map (·.size) = some 2 := by kernel_rfl
theorem zero114 : ZeroOf Try.prog 114 [.map none, .slice none 0 0] := ZeroOf.of (by kernel_rfl)
theorem fa114_0 : FieldAt Try.prog 114 0 0 := fun _ _ _ => by kernel_rfl
theorem fa114_1 : FieldAt Try.prog 114 1 1 := fun _ _ _ => by kernel_rfl
theorem st114 : StructOf Try.prog 114 [(0, 1), (1, 1)] [.map none, .slice none 0 0] := StructOf.of (Try.prog.fieldsOf 114) (by kernel_rfl) (by kernel_rfl) (by kernel_rfl)
theorem one115 : oneB Try.prog 115 = true := by kernel_rfl
theorem size115 : (Try.prog.info? 115).map (·.size) = some 1 := by kernel_rfl
theorem zero115 : ZeroOf Try.prog 115 [.nilFunc] := ZeroOf.of (by kernel_rfl)
theorem agg116 : aggB Try.prog 116 10 = true := by kernel_rfl
theorem size116 : (Try.prog.info? 116).map (·.size) = some 10 := by kernel_rfl
theorem zero116 : ZeroOf Try.prog 116 [.int .i64 0, .int .i64 0, .slice none 0 0, .slice none 0 0, .slice none 0 0, .slice none 0 0, .slice none 0 0, .slice none 0 0, .slice none 0 0, .slice none 0 0] := ZeroOf.of (by kernel_rfl)
theorem fa116_0 : FieldAt Try.prog 116 0 0 := fun _ _ _ => by kernel_rfl
theorem fa116_1 : FieldAt Try.prog 116 1 4 := fun _ _ _ => by kernel_rfl
theorem fa116_2 : FieldAt Try.prog 116 2 5 := fun _ _ _ => by kernel_rfl
theorem fa116_3 : FieldAt Try.prog 116 3 6 := fun _ _ _ => by kernel_rfl
theorem fa116_4 : FieldAt Try.prog 116 4 7 := fun _ _ _ => by kernel_rfl
theorem fa116_5 : FieldAt Try.prog 116 5 8 := fun _ _ _ => by kernel_rfl
theorem fa116_6 : FieldAt Try.prog 116 6 9 := fun _ _ _ => by kernel_rfl
theorem st116 : StructOf Try.prog 116 [(0, 4), (4, 1), (5, 1), (6, 1), (7, 1), (8, 1), (9, 1)] [.int .i64 0, .int .i64 0, .slice none 0 0, .slice none 0 0, .slice none 0 0, .slice none 0 0, .slice none 0 0, .slice none 0 0, .slice none 0 0, .slice none 0 0] := StructOf.of (Try.prog.fieldsOf 116) (by kernel_rfl) (by kernel_rfl) (by kernel_rfl)
theorem agg117 : aggB Try.prog 117 10 = true := by kernel_rfl
theorem size117 : (Try.prog.info? 117).map (·.size) = some 10 := by kernel_rfl
theorem zero117 : ZeroOf Try.prog 117 [.int .i64 0, .int .i64 0, .slice none 0 0, .slice none 0 0, .slice none 0 0, .slice none 0 0, .slice none 0 0, .slice none 0 0, .slice none 0 0, .slice none 0 0] := ZeroOf.of (by kernel_rfl)
theorem fa117_0 : FieldAt Try.prog 117 0 0 := fun _ _ _ => by kernel_rfl
theorem fa117_1 : FieldAt Try.prog 117 1 4 := fun _ _ _ => by kernel_rfl
theorem fa117_2 : FieldAt Try.prog 117 2 5 := fun _ _ _ => by kernel_rfl
theorem fa117_3 : FieldAt Try.prog 117 3 6 := fun _ _ _ => by kernel_rfl
theorem fa117_4 : FieldAt Try.prog 117 4 7 := fun _ _ _ => by kernel_rfl
theorem fa117_5 : FieldAt Try.prog 117 5 8 := fun _ _ _ => by kernel_rfl
theorem fa117_6 : FieldAt Try.prog 117 6 9 := fun _ _ _ => by kernel_rfl
theorem st117 : StructOf Try.prog 117 [(0, 4), (4, 1), (5, 1), (6, 1), (7, 1), (8, 1), (9, 1)] [.int .i64 0, .int .i64 0, .slice none 0 0, .slice none 0 0, .slice none 0 0, .slice none 0 0, .slice none 0 0, .slice none 0 0, .slice none 0 0, .slice none 0 0] := StructOf.of (Try.prog.fieldsOf 117) (by kernel_rfl) (by kernel_rfl) (by kernel_rfl)
theorem one118 : oneB Try.prog 118 = true := by kernel_rfl
theorem size118 : (Try.prog.info? 118).map (·.size) = some 1 := by kernel_rfl
theorem zero118 : ZeroOf Try.prog 118 [.nilFunc] := ZeroOf.of (by kernel_rfl)
theorem one119 : oneB Try.prog 119 = true := by kernel_rfl
theorem size119 : (Try.prog.info? 119).map (·.size) = some 1 := by kernel_rfl
theorem zero119 : ZeroOf Try.prog 119 [.nilFunc] := ZeroOf.of (by kernel_rfl)
theorem one120 : oneB Try.prog 120 = true := by kernel_rfl
theorem size120 : (Try.prog.info? 120).map (·.size) = some 1 := by kernel_rfl
theorem zero120 : ZeroOf Try.prog 120 [.slice none 0 0] := ZeroOf.of (by kernel_rfl)
theorem sl120 : isSlice Try.prog 120 123 2 := ⟨by kernel_rfl, by kernel_rfl⟩
theorem bytes120 : (Try.prog.info? 123).map (·.bytes) = some 16 := by kernel_rfl
theorem one121 : oneB Try.prog 121 = true := by kernel_rfl
theorem size121 : (Try.prog.info? 121).map (·.size) = some 1 := by kernel_rfl
theorem zero121 : ZeroOf Try.prog 121 [.nilFunc] := ZeroOf.of (by kernel_rfl)
theorem agg122 : aggB Try.prog 122 2 = true := by kernel_rfl
theorem size122 : (Try.prog.info? 122).map (·.size) = some 2 := by kernel_rfl
theorem zero122 : ZeroOf Try.prog 122 [.int .i64 0, .int .i64 0] := ZeroOf.of (by kernel_rfl)
theorem fa122_0 : FieldAt Try.prog 122 0 0 := fun _ _ _ => by kernel_rfl
theorem fa122_1 : FieldAt Try.prog 122 1 1 := fun _ _ _ => by kernel_rfl
theorem st122 : StructOf Try.prog 122 [(0, 1), (1, 1)] [.int .i64 0, .int .i64 0] := StructOf.of (Try.prog.fieldsOf 122) (by kernel_rfl) (by kernel_rfl) (by kernel_rfl)
theorem ai122 : AllInt Try.prog 122 2 := ⟨by kernel_rfl, by kernel_rfl, by kernel_rfl, by kernel_rfl⟩
theorem agg123 : aggB Try.prog 123 2 = true := by kernel_rfl
theorem size123 : (Try.prog.info? 123).map (·.size) = some 2 := by kernel_rfl
theorem zero123 : ZeroOf Try.prog 123 [.int .i64 0, .int .i64 0] := ZeroOf.of (by kernel_rfl)
theorem fa123_0 : FieldAt Try.prog 123 0 0 := fun _ _ _ => by kernel_rfl
theorem fa123_1 : FieldAt Try.prog 123 1 1 := fun _ _ _ => by kernel_rfl
theorem el123 : ElemOf Try.prog 123 2 16 [.int .i64 0, .int .i64 0] := ElemOf.of (by kernel_rfl) rfl
theorem st123 : StructOf Try.prog 123 [(0, 1), (1, 1)] [.int .i64 0, .int .i64 0] := StructOf.of (Try.prog.fieldsOf 123) (by kernel_rfl) (by kernel_rfl) (by kernel_rfl)
theorem ai123 : AllInt Try.prog 123 2 := ⟨by kernel_rfl, by kernel_rfl, by kernel_rfl, by kernel_rfl⟩
theorem one124 : oneB Try.prog 124 = true := by kernel_rfl
theorem size124 : (Try.prog.info? 124).map (·.size) = some 1 := by kernel_rfl
theorem zero124 : ZeroOf Try.prog 124 [.nilFunc] := ZeroOf.of (by kernel_rfl)
theorem one125 : oneB Try.prog 125 = true := by kernel_rfl
theorem size125 : (Try.prog.info? 125).map (·.size) = some 1 := by kernel_rfl
theorem zero125 : ZeroOf Try.prog 125 [.nilFunc] := ZeroOf.of (by kernel_rfl)
theorem one126 : oneB Try.prog 126 = true := by kernel_rfl
theorem size126 : (Try.prog.info? 126).map (·.size) = some 1 := by kernel_rfl
theorem zero126 : ZeroOf Try.prog 126 [.nilFunc] := ZeroOf.of (by kernel_rfl)
theorem agg127 : aggB Try.prog 127 4 = true := by kernel_rfl
theorem size127 : (Try.prog.info? 127).map (·.size) = some 4 := by kernel_rfl
theorem zero127 : ZeroOf Try.prog 127 [.int .i64 0, .int .i64 0, .int .i64 0, .int .i64 0] := ZeroOf.of (by kernel_rfl)
theorem fa127_0 : FieldAt Try.prog 127 0 0 := fun _ _ _ => by kernel_rfl
theorem fa127_1 : FieldAt Try.prog 127 1 1 := fun _ _ _ => by kernel_rfl
theorem fa127_2 : FieldAt Try.prog 127 2 2 := fun _ _ _ => by kernel_rfl
theorem fa127_3 : FieldAt Try.prog 127 3 3 := fun _ _ _ => by kernel_rfl
theorem st127 : StructOf Try.prog 127 [(0, 1), (1, 1), (2, 1), (3, 1)] [.int .i64 0, .int .i64 0, .int .i64 0, .int .i64 0] := StructOf.of (Try.prog.fieldsOf 127) (by kernel_rfl) (by kernel_rfl) (by kernel_rfl)
theorem ai127 : AllInt Try.prog 127 4 := ⟨by kernel_rfl, by kernel_rfl, by kernel_rfl, by kernel_rfl⟩
theorem agg128 : aggB Try.prog 128 4 = true := by kernel_rfl
theorem size128 : (Try.prog.info? 128).map (·.size) = some 4 := by kernel_rfl
theorem zero128 : ZeroOf Try.prog 128 [.int .i64 0, .int .i64 0, .int .i64 0, .int .i64 0] := ZeroOf.of (by kernel_rfl)
theorem fa128_0 : FieldAt Try.prog 128 0 0 := fun _ _ _ => by kernel_rfl
theorem fa128_1 : FieldAt Try.prog 128 1 1 := fun _ _ _ => by kernel_rfl
theorem fa128_2 : FieldAt Try.prog 128 2 2 := fun _ _ _ => by kernel_rfl
theorem fa128_3 : FieldAt Try.prog 128 3 3 := fun _ _ _ => by kernel_rfl
theorem st128 : StructOf Try.prog 128 [(0, 1), (1, 1), (2, 1), (3, 1)] [.int .i64 0, .int .i64 0, .int .i64 0, .int .i64 0] := StructOf.of (Try.prog.fieldsOf 128) (by kernel_rfl) (by kernel_rfl) (by kernel_rfl)
theorem ai128 : AllInt Try.prog 128 4 := ⟨by kernel_rfl, by kernel_rfl, by kernel_rfl, by kernel_rfl⟩
theorem one129 : oneB Try.prog 129 = true := by kernel_rfl
theorem size129 : (Try.prog.info? 129).map (·.size) = some 1 := by kernel_rfl
theorem zero129 : ZeroOf Try.prog 129 [.nilFunc] := ZeroOf.of (by kernel_rfl)
theorem one130 : oneB Try.prog 130 = true := by kernel_rfl
theorem size130 : (Try.prog.info? 130).map (·.size) = some 1 := by kernel_rfl
theorem zero130 : ZeroOf Try.prog 130 [.nilFunc] := ZeroOf.of (by kernel_rfl)
theorem one131 : oneB Try.prog 131 = true := by kernel_rfl
theorem size131 : (Try.prog.info? 131).map (·.size) = some 1 := by kernel_rfl
theorem zero131 : ZeroOf Try.prog 131 [.nilFunc] := ZeroOf.of (by kernel_rfl)
theorem one132 : oneB Try.prog 132 = true := by kernel_rfl
theorem size132 : (Try.prog.info? 132).map (·.size) = some 1 := by kernel_rfl
theorem zero132 : ZeroOf Try.prog 132 [.nilFunc] := ZeroOf.of (by kernel_rfl)
theorem one133 : oneB Try.prog 133 = true := by kernel_rfl
theorem size133 : (Try.prog.info? 133).map (·.size) = some 1 := by kernel_rfl
theorem zero133 : ZeroOf Try.prog 133 [.nilFunc] := ZeroOf.of (by kernel_rfl)
theorem one134 : oneB Try.prog 134 = true := by kernel_rfl
theorem size134 : (Try.prog.info? 134).map (·.size) = some 1 := by kernel_rfl
theorem zero134 : ZeroOf Try.prog 134 [.nilFunc] := ZeroOf.of (by kernel_rfl)
theorem one135 : oneB Try.prog 135 = true := by kernel_rfl
theorem size135 : (Try.prog.info? 135).map (·.size) = some 1 := by kernel_rfl
theorem zero135 : ZeroOf Try.prog 135 [.nilFunc] := ZeroOf.of (by kernel_rfl)
theorem one136 : oneB Try.prog 136 = true := by kernel_rfl
theorem size136 : (Try.prog.info? 136).map (·.size) = some 1 := by kernel_rfl
theorem zero136 : ZeroOf Try.prog 136 [.nilFunc] := ZeroOf.of (by kernel_rfl)
theorem one137 : oneB Try.prog 137 = true := by kernel_rfl
theorem size137 : (Try.prog.info? 137).map (·.size) = some 1 := by kernel_rfl
theorem zero137 : ZeroOf Try.prog 137 [.nilFunc] := ZeroOf.of (by kernel_rfl)
theorem one138 : oneB Try.prog 138 = true := by kernel_rfl
theorem size138 : (Try.prog.info? 138).map (·.size) = some 1 := by kernel_rfl
theorem zero138 : ZeroOf Try.prog 138 [.nilFunc] := ZeroOf.of (by kernel_rfl)
theorem one139 : oneB Try.prog 139 = true := by kernel_rfl
theorem size139 : (Try.prog.info? 139).map (·.size) = some 1 := by kernel_rfl
theorem zero139 : ZeroOf Try.prog 139 [.nilFunc] := ZeroOf.of (by kernel_rfl)
theorem one140 : oneB Try.prog 140 = true := by kernel_rfl
theorem size140 : (Try.prog.info? 140).map (·.size) = some 1 := by kernel_rfl
theorem zero140 : ZeroOf Try.prog 140 [.nilFunc] := ZeroOf.of (by kernel_rfl)
theorem one142 : oneB Try.prog 142 = true := by kernel_rfl
theorem size142 : (Try.prog.info? 142).map (·.size) = some 1 := by kernel_rfl
theorem zero142 : ZeroOf Try.prog 142 [.nilFunc] := ZeroOf.of (by kernel_rfl)
theorem one143 : oneB Try.prog 143 = true := by kernel_rfl
theorem size143 : (Try.prog.info? 143).map (·.size) = some 1 := by kernel_rfl
theorem zero143 : ZeroOf Try.prog 143 [.nilFunc] := ZeroOf.of (by kernel_rfl)
theorem one145 : oneB Try.prog 145 = true := by kernel_rfl
theorem size145 : (Try.prog.info? 145).map (·.size) = some 1 := by kernel_rfl
theorem zero145 : ZeroOf Try.prog 145 [.nilFunc] := ZeroOf.of (by kernel_rfl)
theorem one146 : oneB Try.prog 146 = true := by kernel_rfl
theorem size146 : (Try.prog.info? 146).map (·.size) = some 1 := by kernel_rfl
theorem zero146 : ZeroOf Try.prog 146 [.nilFunc] := ZeroOf.of (by kernel_rfl)
theorem one148 : oneB Try.prog 148 = true := by kernel_rfl
theorem size148 : (Try.prog.info? 148).map (·.size) = some 1 := by kernel_rfl
theorem zero148 : ZeroOf Try.prog 148 [.nilFunc] := ZeroOf.of (by kernel_rfl)
theorem one149 : oneB Try.prog 149 = true := by kernel_rfl
theorem size149 : (Try.prog.info? 149).map (·.size) = some 1 := by kernel_rfl
theorem zero149 : ZeroOf Try.prog 149 [.nilFunc] := ZeroOf.of (by kernel_rfl)
theorem one150 : oneB Try.prog 150 = true := by kernel_rfl
theorem size150 : (Try.prog.info? 150).map (·.size) = some 1 := by kernel_rfl
theorem zero150 : ZeroOf Try.prog 150 [.nilFunc] := ZeroOf.of (by kernel_rfl)
theorem one151 : oneB Try.prog 151 = true := by kernel_rfl
theorem size151 : (Try.prog.info? 151).map (·.size) = some 1 := by kernel_rfl
theorem zero151 : ZeroOf Try.prog 151 [.nilFunc] := ZeroOf.of (by kernel_rfl)
theorem one152 : oneB Try.prog 152 = true := by kernel_rfl
theorem size152 : (Try.prog.info? 152).map (·.size) = some 1 := by kernel_rfl
theorem zero152 : ZeroOf Try.prog 152 [.nilFunc] := ZeroOf.of (by kernel_rfl)
theorem agg153 : aggB Try.prog 153 4 = true := by kernel_rfl
theorem size153 : (Try.prog.info? 153).map (·.size) = some 4 := by kernel_rfl
theorem zero153 : ZeroOf Try.prog 153 [.pointer none, .pointer none, .pointer none, .string ByteArray.empty] := ZeroOf.of (by kernel_rfl)
theorem fa153_0 : FieldAt Try.prog 153 0 0 := fun _ _ _ => by kernel_rfl
theorem fa153_1 : FieldAt Try.prog 153 1 1 := fun _ _ _ => by kernel_rfl
theorem fa153_2 : FieldAt Try.prog 153 2 2 := fun _ _ _ => by kernel_rfl
theorem fa153_3 : FieldAt Try.prog 153 3 3 := fun _ _ _ => by kernel_rfl
theorem st153 : StructOf Try.prog 153 [(0, 1), (1, 1), (2, 1), (3, 1)] [.pointer none, .pointer none, .pointer none, .string ByteArray.empty] := StructOf.of (Try.prog.fieldsOf 153) (by kernel_rfl) (by kernel_rfl) (by kernel_rfl)
theorem agg154 : aggB Try.prog 154 4 = true := by kernel_rfl
theorem size154 : (Try.prog.info? 154).map (·.size) = some 4 := by kernel_rfl
theorem zero154 : ZeroOf Try.prog 154 [.pointer none, .pointer none, .pointer none, .string ByteArray.empty] := ZeroOf.of (by kernel_rfl)
theorem fa154_0 : FieldAt Try.prog 154 0 0 := fun _ _ _ => by kernel_rfl
theorem fa154_1 : FieldAt Try.prog 154 1 1 := fun _ _ _ => by kernel_rfl
theorem fa154_2 : FieldAt Try.prog 154 2 2 := fun _ _ _ => by kernel_rfl
theorem fa154_3 : FieldAt Try.prog 154 3 3 := fun _ _ _ => by kernel_rfl
theorem st154 : StructOf Try.prog 154 [(0, 1), (1, 1), (2, 1), (3, 1)] [.pointer none, .pointer none, .pointer none, .string ByteArray.empty] := StructOf.of (Try.prog.fieldsOf 154) (by kernel_rfl) (by kernel_rfl) (by kernel_rfl)
theorem agg155 : aggB Try.prog 155 0 = true := by kernel_rfl
theorem size155 : (Try.prog.info? 155).map (·.size) = some 0 := by kernel_rfl
theorem zero155 : ZeroOf Try.prog 155 [] := ZeroOf.of (by kernel_rfl)
theorem ar155 : ArrayOf Try.prog 155 0 1 [] := ArrayOf.of 16 (by kernel_rfl) (by kernel_rfl) (by kernel_rfl)
theorem agg156 : aggB Try.prog 156 0 = true := by kernel_rfl
theorem size156 : (Try.prog.info? 156).map (·.size) = some 0 := by kernel_rfl
theorem zero156 : ZeroOf Try.prog 156 [] := ZeroOf.of (by kernel_rfl)
theorem st156 : StructOf Try.prog 156 [(0, 0)] [] := StructOf.of (Try.prog.fieldsOf 156) (by kernel_rfl) (by kernel_rfl) (by kernel_rfl)
theorem agg157 : aggB Try.prog 157 0 = true := by kernel_rfl
theorem size157 : (Try.prog.info? 157).map (·.size) = some 0 := by kernel_rfl
theorem zero157 : ZeroOf Try.prog 157 [] := ZeroOf.of (by kernel_rfl)
theorem st157 : StructOf Try.prog 157 [(0, 0)] [] := StructOf.of (Try.prog.fieldsOf 157) (by kernel_rfl) (by kernel_rfl) (by kernel_rfl)
theorem one158 : oneB Try.prog 158 = true := by kernel_rfl
theorem size158 : (Try.prog.info? 158).map (·.size) = some 1 := by kernel_rfl
theorem zero158 : ZeroOf Try.prog 158 [.nilFunc] := ZeroOf.of (by kernel_rfl)
theorem one159 : oneB Try.prog 159 = true := by kernel_rfl
theorem size159 : (Try.prog.info? 159).map (·.size) = some 1 := by kernel_rfl
theorem zero159 : ZeroOf Try.prog 159 [.int .u8 0] := ZeroOf.of (by kernel_rfl)
theorem u159 : Try.prog.underlying 159 = some (.int .u8) := by kernel_rfl
theorem one160 : oneB Try.prog 160 = true := by kernel_rfl
theorem size160 : (Try.prog.info? 160).map (·.size) = some 1 := by kernel_rfl
theorem zero160 : ZeroOf Try.prog 160 [.int .u8 0] := ZeroOf.of (by kernel_rfl)
theorem u160 : Try.prog.underlying 160 = some (.int .u8) := by kernel_rfl
theorem one161 : oneB Try.prog 161 = true := by kernel_rfl
theorem size161 : (Try.prog.info? 161).map (·.size) = some 1 := by kernel_rfl
theorem zero161 : ZeroOf Try.prog 161 [.nilFunc] := ZeroOf.of (by kernel_rfl)
theorem one162 : oneB Try.prog 162 = true := by kernel_rfl
theorem size162 : (Try.prog.info? 162).map (·.size) = some 1 := by kernel_rfl
theorem zero162 : ZeroOf Try.prog 162 [.pointer none] := ZeroOf.of (by kernel_rfl)
theorem one163 : oneB Try.prog 163 = true := by kernel_rfl
theorem size163 : (Try.prog.info? 163).map (·.size) = some 1 := by kernel_rfl
theorem zero163 : ZeroOf Try.prog 163 [.int .i32 0] := ZeroOf.of (by kernel_rfl)
theorem u163 : Try.prog.underlying 163 = some (.int .i32) := by kernel_rfl
theorem one164 : oneB Try.prog 164 = true := by kernel_rfl
theorem size164 : (Try.prog.info? 164).map (·.size) = some 1 := by kernel_rfl
theorem zero164 : ZeroOf Try.prog 164 [.int .i32 0] := ZeroOf.of (by kernel_rfl)
theorem u164 : Try.prog.underlying 164 = some (.int .i32) := by kernel_rfl
theorem agg165 : aggB Try.prog 165 11 = true := by kernel_rfl
theorem size165 : (Try.prog.info? 165).map (·.size) = some 11 := by kernel_rfl
theorem zero165 : ZeroOf Try.prog 165 [.int .u64 0, .int .u64 0, .int .u32 0, .int .u8 0, .int .u8 0, .int .u8 0, .int .u8 0, .nilFunc, .pointer none, .int .i32 0, .int .i32 0] := ZeroOf.of (by kernel_rfl)
theorem fa165_0 : FieldAt Try.prog 165 0 0 := fun _ _ _ => by kernel_rfl
theorem fa165_1 : FieldAt Try.prog 165 1 1 := fun _ _ _ => by kernel_rfl
theorem fa165_2 : FieldAt Try.prog 165 2 2 := fun _ _ _ => by kernel_rfl
theorem fa165_3 : FieldAt Try.prog 165 3 3 := fun _ _ _ => by kernel_rfl
theorem fa165_4 : FieldAt Try.prog 165 4 4 := fun _ _ _ => by kernel_rfl
theorem fa165_5 : FieldAt Try.prog 165 5 5 := fun _ _ _ => by kernel_rfl
theorem fa165_6 : FieldAt Try.prog 165 6 6 := fun _ _ _ => by kernel_rfl
theorem fa165_7 : FieldAt Try.prog 165 7 7 := fun _ _ _ => by kernel_rfl
theorem fa165_8 : FieldAt Try.prog 165 8 8 := fun _ _ _ => by kernel_rfl
theorem fa165_9 : FieldAt Try.prog 165 9 9 := fun _ _ _ => by kernel_rfl
theorem fa165_10 : FieldAt Try.prog 165 10 10 := fun _ _ _ => by kernel_rfl
theorem st165 : StructOf Try.prog 165 [(0, 1), (1, 1), (2, 1), (3, 1), (4, 1), (5, 1), (6, 1), (7, 1), (8, 1), (9, 1), (10, 1)] [.int .u64 0, .int .u64 0, .int .u32 0, .int .u8 0, .int .u8 0, .int .u8 0, .int .u8 0, .nilFunc, .pointer none, .int .i32 0, .int .i32 0] := StructOf.of (Try.prog.fieldsOf 165) (by kernel_rfl) (by kernel_rfl) (by kernel_rfl)
theorem agg166 : aggB Try.prog 166 11 = true := by kernel_rfl
theorem size166 : (Try.prog.info? 166).map (·.size) = some 11 := by kernel_rfl
theorem zero166 : ZeroOf Try.prog 166 [.int .u64 0, .int .u64 0, .int .u32 0, .int .u8 0, .int .u8 0, .int .u8 0, .int .u8 0, .nilFunc, .pointer none, .int .i32 0, .int .i32 0] := ZeroOf.of (by kernel_rfl)
theorem fa166_0 : FieldAt Try.prog 166 0 0 := fun _ _ _ => by kernel_rfl
theorem fa166_1 : FieldAt Try.prog 166 1 1 := fun _ _ _ => by kernel_rfl
theorem fa166_2 : FieldAt Try.prog 166 2 2 := fun _ _ _ => by kernel_rfl
theorem fa166_3 : FieldAt Try.prog 166 3 3 := fun _ _ _ => by kernel_rfl
theorem fa166_4 : FieldAt Try.prog 166 4 4 := fun _ _ _ => by kernel_rfl
theorem fa166_5 : FieldAt Try.prog 166 5 5 := fun _ _ _ => by kernel_rfl
theorem fa166_6 : FieldAt Try.prog 166 6 6 := fun _ _ _ => by kernel_rfl
theorem fa166_7 : FieldAt Try.prog 166 7 7 := fun _ _ _ => by kernel_rfl
theorem fa166_8 : FieldAt Try.prog 166 8 8 := fun _ _ _ => by kernel_rfl
theorem fa166_9 : FieldAt Try.prog 166 9 9 := fun _ _ _ => by kernel_rfl
theorem fa166_10 : FieldAt Try.prog 166 10 10 := fun _ _ _ => by kernel_rfl
theorem st166 : StructOf Try.prog 166 [(0, 1), (1, 1), (2, 1), (3, 1), (4, 1), (5, 1), (6, 1), (7, 1), (8, 1), (9, 1), (10, 1)] [.int .u64 0, .int .u64 0, .int .u32 0, .int .u8 0, .int .u8 0, .int .u8 0, .int .u8 0, .nilFunc, .pointer none, .int .i32 0, .int .i32 0] := StructOf.of (Try.prog.fieldsOf 166) (by kernel_rfl) (by kernel_rfl) (by kernel_rfl)
theorem one167 : oneB Try.prog 167 = true := by kernel_rfl
theorem size167 : (Try.prog.info? 167).map (·.size) = some 1 := by kernel_rfl
theorem zero167 : ZeroOf Try.prog 167 [.pointer none] := ZeroOf.of (by kernel_rfl)
theorem mp84 : MapT Try.prog 84 128 K4 := ⟨⟨3, by kernel_rfl, fun _ => by kernel_rfl⟩, KeyT.k4 ai128⟩
theorem mp112 : MapT Try.prog 112 3 Int := ⟨⟨3, by kernel_rfl, fun _ => by kernel_rfl⟩, KeyT.int u3⟩
theorem fn3 : isFn Try.prog 3 := ⟨Try.f3, Try.func3, rfl, by kernel_rfl⟩
theorem fn4 : isFn Try.prog 4 := ⟨Try.f4, Try.func4, rfl, by kernel_rfl⟩
theorem fn5 : isFn Try.prog 5 := ⟨Try.f5, Try.func5, rfl, by kernel_rfl⟩
theorem fn6 : isFn Try.prog 6 := ⟨Try.f6, Try.func6, rfl, by kernel_rfl⟩
theorem fn7 : isFn Try.prog 7 := ⟨Try.f7, Try.func7, rfl, by kernel_rfl⟩
theorem fn8 : isFn Try.prog 8 := ⟨Try.f8, Try.func8, rfl, by kernel_rfl⟩
theorem fn9 : isFn Try.prog 9 := ⟨Try.f9, Try.func9, rfl, by kernel_rfl⟩
theorem fn10 : isFn Try.prog 10 := ⟨Try.f10, Try.func10, rfl, by kernel_rfl⟩
theorem fn11 : isFn Try.prog 11 := ⟨Try.f11, Try.func11, rfl, by kernel_rfl⟩
theorem fn12 : isFn Try.prog 12 := ⟨Try.f12, Try.func12, rfl, by kernel_rfl⟩
theorem fn13 : isFn Try.prog 13 := ⟨Try.f13, Try.func13, rfl, by kernel_rfl⟩
theorem fn14 : isFn Try.prog 14 := ⟨Try.f14, Try.func14, rfl, by kernel_rfl⟩
theorem fn15 : isFn Try.prog 15 := ⟨Try.f15, Try.func15, rfl, by kernel_rfl⟩
theorem fn16 : isFn Try.prog 16 := ⟨Try.f16, Try.func16, rfl, by kernel_rfl⟩
theorem fn17 : isFn Try.prog 17 := ⟨Try.f17, Try.func17, rfl, by kernel_rfl⟩
theorem fn18 : isFn Try.prog 18 := ⟨Try.f18, Try.func18, rfl, by kernel_rfl⟩
theorem fn19 : isFn Try.prog 19 := ⟨Try.f19, Try.func19, rfl, by kernel_rfl⟩
theorem fn20 : isFn Try.prog 20 := ⟨Try.f20, Try.func20, rfl, by kernel_rfl⟩
theorem fn21 : isFn Try.prog 21 := ⟨Try.f21, Try.func21, rfl, by kernel_rfl⟩
theorem fn22 : isFn Try.prog 22 := ⟨Try.f22, Try.func22, rfl, by kernel_rfl⟩
theorem fn23 : isFn Try.prog 23 := ⟨Try.f23, Try.func23, rfl, by kernel_rfl⟩
theorem fn24 : isFn Try.prog 24 := ⟨Try.f24, Try.func24, rfl, by kernel_rfl⟩
theorem fn25 : isFn Try.prog 25 := ⟨Try.f25, Try.func25, rfl, by kernel_rfl⟩
theorem fn26 : isFn Try.prog 26 := ⟨Try.f26, Try.func26, rfl, by kernel_rfl⟩
theorem fn27 : isFn Try.prog 27 := ⟨Try.f27, Try.func27, rfl, by kernel_rfl⟩
theorem fn28 : isFn Try.prog 28 := ⟨Try.f28, Try.func28, rfl, by kernel_rfl⟩
theorem fn29 : isFn Try.prog 29 := ⟨Try.f29, Try.func29, rfl, by kernel_rfl⟩
theorem fn30 : isFn Try.prog 30 := ⟨Try.f30, Try.func30, rfl, by kernel_rfl⟩
theorem fn31 : isFn Try.prog 31 := ⟨Try.f31, Try.func31, rfl, by kernel_rfl⟩
theorem fn32 : isFn Try.prog 32 := ⟨Try.f32, Try.func32, rfl, by kernel_rfl⟩
theorem fn33 : isFn Try.prog 33 := ⟨Try.f33, Try.func33, rfl, by kernel_rfl⟩
theorem fn34 : isFn Try.prog 34 := ⟨Try.f34, Try.func34, rfl, by kernel_rfl⟩
theorem fn35 : isFn Try.prog 35 := ⟨Try.f35, Try.func35, rfl, by kernel_rfl⟩
theorem fn36 : isFn Try.prog 36 := ⟨Try.f36, Try.func36, rfl, by kernel_rfl⟩
theorem fn37 : isFn Try.prog 37 := ⟨Try.f37, Try.func37, rfl, by kernel_rfl⟩
theorem fn38 : isFn Try.prog 38 := ⟨Try.f38, Try.func38, rfl, by kernel_rfl⟩
theorem fn39 : isFn Try.prog 39 := ⟨Try.f39, Try.func39, rfl, by kernel_rfl⟩
theorem fn40 : isFn Try.prog 40 := ⟨Try.f40, Try.func40, rfl, by kernel_rfl⟩
theorem fn41 : isFn Try.prog 41 := ⟨Try.f41, Try.func41, rfl, by kernel_rfl⟩
theorem fn42 : isFn Try.prog 42 := ⟨Try.f42, Try.func42, rfl, by kernel_rfl⟩
theorem fn43 : isFn Try.prog 43 := ⟨Try.f43, Try.func43, rfl, by kernel_rfl⟩
theorem fn44 : isFn Try.prog 44 := ⟨Try.f44, Try.func44, rfl, by kernel_rfl⟩
theorem fn45 : isFn Try.prog 45 := ⟨Try.f45, Try.func45, rfl, by kernel_rfl⟩
theorem fn46 : isFn Try.prog 46 := ⟨Try.f46, Try.func46, rfl, by kernel_rfl⟩
theorem fn47 : isFn Try.prog 47 := ⟨Try.f47, Try.func47, rfl, by kernel_rfl⟩
theorem fn48 : isFn Try.prog 48 := ⟨Try.f48, Try.func48, rfl, by kernel_rfl⟩
theorem fn49 : isFn Try.prog 49 := ⟨Try.f49, Try.func49, rfl, by kernel_rfl⟩
theorem fn50 : isFn Try.prog 50 := ⟨Try.f50, Try.func50, rfl, by kernel_rfl⟩
theorem fn51 : isFn Try.prog 51 := ⟨Try.f51, Try.func51, rfl, by kernel_rfl⟩
theorem fn52 : isFn Try.prog 52 := ⟨Try.f52, Try.func52, rfl, by kernel_rfl⟩
theorem fn53 : isFn Try.prog 53 := ⟨Try.f53, Try.func53, rfl, by kernel_rfl⟩
theorem fn54 : isFn Try.prog 54 := ⟨Try.f54, Try.func54, rfl, by kernel_rfl⟩
theorem fn55 : isFn Try.prog 55 := ⟨Try.f55, Try.func55, rfl, by kernel_rfl⟩
theorem fn56 : isFn Try.prog 56 := ⟨Try.f56, Try.func56, rfl, by kernel_rfl⟩
theorem fn57 : isFn Try.prog 57 := ⟨Try.f57, Try.func57, rfl, by kernel_rfl⟩
theorem fn58 : isFn Try.prog 58 := ⟨Try.f58, Try.func58, rfl, by kernel_rfl⟩
theorem fn59 : isFn Try.prog 59 := ⟨Try.f59, Try.func59, rfl, by kernel_rfl⟩
theorem fn60 : isFn Try.prog 60 := ⟨Try.f60, Try.func60, rfl, by kernel_rfl⟩
theorem fn61 : isFn Try.prog 61 := ⟨Try.f61, Try.func61, rfl, by kernel_rfl⟩
theorem fn62 : isFn Try.prog 62 := ⟨Try.f62, Try.func62, rfl, by kernel_rfl⟩
theorem fn63 : isFn Try.prog 63 := ⟨Try.f63, Try.func63, rfl, by kernel_rfl⟩
theorem fn64 : isFn Try.prog 64 := ⟨Try.f64, Try.func64, rfl, by kernel_rfl⟩
theorem fn65 : isFn Try.prog 65 := ⟨Try.f65, Try.func65, rfl, by kernel_rfl⟩
theorem fn66 : isFn Try.prog 66 := ⟨Try.f66, Try.func66, rfl, by kernel_rfl⟩
theorem fn67 : isFn Try.prog 67 := ⟨Try.f67, Try.func67, rfl, by kernel_rfl⟩
theorem fn68 : isFn Try.prog 68 := ⟨Try.f68, Try.func68, rfl, by kernel_rfl⟩
theorem fn69 : isFn Try.prog 69 := ⟨Try.f69, Try.func69, rfl, by kernel_rfl⟩
theorem fn70 : isFn Try.prog 70 := ⟨Try.f70, Try.func70, rfl, by kernel_rfl⟩
theorem fn71 : isFn Try.prog 71 := ⟨Try.f71, Try.func71, rfl, by kernel_rfl⟩
theorem fn72 : isFn Try.prog 72 := ⟨Try.f72, Try.func72, rfl, by kernel_rfl⟩
theorem fn73 : isFn Try.prog 73 := ⟨Try.f73, Try.func73, rfl, by kernel_rfl⟩
theorem fn74 : isFn Try.prog 74 := ⟨Try.f74, Try.func74, rfl, by kernel_rfl⟩
theorem fn75 : isFn Try.prog 75 := ⟨Try.f75, Try.func75, rfl, by kernel_rfl⟩
theorem fn76 : isFn Try.prog 76 := ⟨Try.f76, Try.func76, rfl, by kernel_rfl⟩
theorem fn77 : isFn Try.prog 77 := ⟨Try.f77, Try.func77, rfl, by kernel_rfl⟩
theorem fn78 : isFn Try.prog 78 := ⟨Try.f78, Try.func78, rfl, by kernel_rfl⟩
theorem fn79 : isFn Try.prog 79 := ⟨Try.f79, Try.func79, rfl, by kernel_rfl⟩
theorem fn80 : isFn Try.prog 80 := ⟨Try.f80, Try.func80, rfl, by kernel_rfl⟩
theorem fn81 : isFn Try.prog 81 := ⟨Try.f81, Try.func81, rfl, by kernel_rfl⟩
theorem fn82 : isFn Try.prog 82 := ⟨Try.f82, Try.func82, rfl, by kernel_rfl⟩
theorem fn83 : isFn Try.prog 83 := ⟨Try.f83, Try.func83, rfl, by kernel_rfl⟩
theorem fn84 : isFn Try.prog 84 := ⟨Try.f84, Try.func84, rfl, by kernel_rfl⟩
theorem fn85 : isFn Try.prog 85 := ⟨Try.f85, Try.func85, rfl, by kernel_rfl⟩
theorem fn86 : isFn Try.prog 86 := ⟨Try.f86, Try.func86, rfl, by kernel_rfl⟩
theorem fn87 : isFn Try.prog 87 := ⟨Try.f87, Try.func87, rfl, by kernel_rfl⟩
theorem fn88 : isFn Try.prog 88 := ⟨Try.f88, Try.func88, rfl, by kernel_rfl⟩
theorem fn89 : isFn Try.prog 89 := ⟨Try.f89, Try.func89, rfl, by kernel_rfl⟩
theorem fn90 : isFn Try.prog 90 := ⟨Try.f90, Try.func90, rfl, by kernel_rfl⟩
theorem fn91 : isFn Try.prog 91 := ⟨Try.f91, Try.func91, rfl, by kernel_rfl⟩
theorem fn92 : isFn Try.prog 92 := ⟨Try.f92, Try.func92, rfl, by kernel_rfl⟩
theorem fn93 : isFn Try.prog 93 := ⟨Try.f93, Try.func93, rfl, by kernel_rfl⟩
theorem fn94 : isFn Try.prog 94 := ⟨Try.f94, Try.func94, rfl, by kernel_rfl⟩
theorem fn95 : isFn Try.prog 95 := ⟨Try.f95, Try.func95, rfl, by kernel_rfl⟩
theorem fn96 : isFn Try.prog 96 := ⟨Try.f96, Try.func96, rfl, by kernel_rfl⟩
theorem fn97 : isFn Try.prog 97 := ⟨Try.f97, Try.func97, rfl, by kernel_rfl⟩
theorem fn98 : isFn Try.prog 98 := ⟨Try.f98, Try.func98, rfl, by kernel_rfl⟩
theorem fn99 : isFn Try.prog 99 := ⟨Try.f99, Try.func99, rfl, by kernel_rfl⟩
theorem fn100 : isFn Try.prog 100 := ⟨Try.f100, Try.func100, rfl, by kernel_rfl⟩
theorem fn101 : isFn Try.prog 101 := ⟨Try.f101, Try.func101, rfl, by kernel_rfl⟩
theorem fn102 : isFn Try.prog 102 := ⟨Try.f102, Try.func102, rfl, by kernel_rfl⟩
theorem fn103 : isFn Try.prog 103 := ⟨Try.f103, Try.func103, rfl, by kernel_rfl⟩
theorem fn104 : isFn Try.prog 104 := ⟨Try.f104, Try.func104, rfl, by kernel_rfl⟩
theorem fn105 : isFn Try.prog 105 := ⟨Try.f105, Try.func105, rfl, by kernel_rfl⟩
theorem fn106 : isFn Try.prog 106 := ⟨Try.f106, Try.func106, rfl, by kernel_rfl⟩
theorem fn107 : isFn Try.prog 107 := ⟨Try.f107, Try.func107, rfl, by kernel_rfl⟩
theorem fn108 : isFn Try.prog 108 := ⟨Try.f108, Try.func108, rfl, by kernel_rfl⟩
theorem fn109 : isFn Try.prog 109 := ⟨Try.f109, Try.func109, rfl, by kernel_rfl⟩
theorem fn110 : isFn Try.prog 110 := ⟨Try.f110, Try.func110, rfl, by kernel_rfl⟩
theorem fn111 : isFn Try.prog 111 := ⟨Try.f111, Try.func111, rfl, by kernel_rfl⟩
theorem mixed : Try.prog.follows .mixedOrders = true := by kernel_rfl
end Go.Proofs.Ytfleehgbpgmcnaa.T
