/- The closed facts on types and functions of this translation, written by program. -/
import Derived.Test.YtfleehgbpgmcnaaDoorSlJ
import Derived.Test.YtfleehgbpgmcnaaDoorProg
set_option maxRecDepth 100000
namespace Go.Proofs.YtfleehgbpgmcnaaDoor.T
open Go Go.Sl
theorem one1 : oneB Tryd.prog 1 = true := by kernel_rfl
theorem size1 : (Tryd.prog.info? 1).map (·.size) = some 1 := by kernel_rfl
theorem zero1 : ZeroOf Tryd.prog 1 [.nilFunc] := ZeroOf.of (by kernel_rfl)
theorem one2 : oneB Tryd.prog 2 = true := by kernel_rfl
theorem size2 : (Tryd.prog.info? 2).map (·.size) = some 1 := by kernel_rfl
theorem zero2 : ZeroOf Tryd.prog 2 [.int .i64 0] := ZeroOf.of (by kernel_rfl)
theorem u2 : Tryd.prog.underlying 2 = some (.int .i64) := by kernel_rfl
theorem one3 : oneB Tryd.prog 3 = true := by kernel_rfl
theorem size3 : (Tryd.prog.info? 3).map (·.size) = some 1 := by kernel_rfl
theorem zero3 : ZeroOf Tryd.prog 3 [.int .i64 0] := ZeroOf.of (by kernel_rfl)
theorem el3 : ElemOf Tryd.prog 3 1 8 [.int .i64 0] := ElemOf.of (by kernel_rfl) rfl
theorem u3 : Tryd.prog.underlying 3 = some (.int .i64) := by kernel_rfl
theorem one4 : oneB Tryd.prog 4 = true := by kernel_rfl
theorem size4 : (Tryd.prog.info? 4).map (·.size) = some 1 := by kernel_rfl
theorem zero4 : ZeroOf Tryd.prog 4 [.bool false] := ZeroOf.of (by kernel_rfl)
theorem u4 : Tryd.prog.underlying 4 = some .bool := by kernel_rfl
theorem one5 : oneB Tryd.prog 5 = true := by kernel_rfl
theorem size5 : (Tryd.prog.info? 5).map (·.size) = some 1 := by kernel_rfl
theorem zero5 : ZeroOf Tryd.prog 5 [.int .u8 0] := ZeroOf.of (by kernel_rfl)
theorem u5 : Tryd.prog.underlying 5 = some (.int .u8) := by kernel_rfl
theorem one6 : oneB Tryd.prog 6 = true := by kernel_rfl
theorem size6 : (Tryd.prog.info? 6).map (·.size) = some 1 := by kernel_rfl
theorem zero6 : ZeroOf Tryd.prog 6 [.int .u8 0] := ZeroOf.of (by kernel_rfl)
theorem u6 : Tryd.prog.underlying 6 = some (.int .u8) := by kernel_rfl
theorem agg7 : aggB Tryd.prog 7 4 = true := by kernel_rfl
theorem size7 : (Tryd.prog.info? 7).map (·.size) = some 4 := by kernel_rfl
theorem zero7 : ZeroOf Tryd.prog 7 [.int .i64 0, .int .i64 0, .bool false, .int .u8 0] := ZeroOf.of (by kernel_rfl)
theorem fa7_0 : FieldAt Tryd.prog 7 0 0 := fun _ _ _ => by kernel_rfl
theorem fa7_1 : FieldAt Tryd.prog 7 1 1 := fun _ _ _ => by kernel_rfl
theorem fa7_2 : FieldAt Tryd.prog 7 2 2 := fun _ _ _ => by kernel_rfl
theorem fa7_3 : FieldAt Tryd.prog 7 3 3 := fun _ _ _ => by kernel_rfl
theorem st7 : StructOf Tryd.prog 7 [(0, 1), (1, 1), (2, 1), (3, 1)] [.int .i64 0, .int .i64 0, .bool false, .int .u8 0] := StructOf.of (Tryd.prog.fieldsOf 7) (by kernel_rfl) (by kernel_rfl) (by kernel_rfl)
theorem agg8 : aggB Tryd.prog 8 4 = true := by kernel_rfl
theorem size8 : (Tryd.prog.info? 8).map (·.size) = some 4 := by kernel_rfl
theorem zero8 : ZeroOf Tryd.prog 8 [.int .i64 0, .int .i64 0, .bool false, .int .u8 0] := ZeroOf.of (by kernel_rfl)
theorem fa8_0 : FieldAt Tryd.prog 8 0 0 := fun _ _ _ => by kernel_rfl
theorem fa8_1 : FieldAt Tryd.prog 8 1 1 := fun _ _ _ => by kernel_rfl
theorem fa8_2 : FieldAt Tryd.prog 8 2 2 := fun _ _ _ => by kernel_rfl
theorem fa8_3 : FieldAt Tryd.prog 8 3 3 := fun _ _ _ => by kernel_rfl
theorem st8 : StructOf Tryd.prog 8 [(0, 1), (1, 1), (2, 1), (3, 1)] [.int .i64 0, .int .i64 0, .bool false, .int .u8 0] := StructOf.of (Tryd.prog.fieldsOf 8) (by kernel_rfl) (by kernel_rfl) (by kernel_rfl)
theorem one9 : oneB Tryd.prog 9 = true := by kernel_rfl
theorem size9 : (Tryd.prog.info? 9).map (·.size) = some 1 := by kernel_rfl
theorem zero9 : ZeroOf Tryd.prog 9 [.string ByteArray.empty] := ZeroOf.of (by kernel_rfl)
theorem u9 : Tryd.prog.underlying 9 = some .string := by kernel_rfl
theorem one10 : oneB Tryd.prog 10 = true := by kernel_rfl
theorem size10 : (Tryd.prog.info? 10).map (·.size) = some 1 := by kernel_rfl
theorem zero10 : ZeroOf Tryd.prog 10 [.string ByteArray.empty] := ZeroOf.of (by kernel_rfl)
theorem u10 : Tryd.prog.underlying 10 = some .string := by kernel_rfl
theorem one11 : oneB Tryd.prog 11 = true := by kernel_rfl
theorem size11 : (Tryd.prog.info? 11).map (·.size) = some 1 := by kernel_rfl
theorem zero11 : ZeroOf Tryd.prog 11 [.string ByteArray.empty] := ZeroOf.of (by kernel_rfl)
theorem u11 : Tryd.prog.underlying 11 = some .string := by kernel_rfl
theorem one12 : oneB Tryd.prog 12 = true := by kernel_rfl
theorem size12 : (Tryd.prog.info? 12).map (·.size) = some 1 := by kernel_rfl
theorem zero12 : ZeroOf Tryd.prog 12 [.int .u64 0] := ZeroOf.of (by kernel_rfl)
theorem u12 : Tryd.prog.underlying 12 = some (.int .u64) := by kernel_rfl
theorem agg13 : aggB Tryd.prog 13 2 = true := by kernel_rfl
theorem size13 : (Tryd.prog.info? 13).map (·.size) = some 2 := by kernel_rfl
theorem zero13 : ZeroOf Tryd.prog 13 [.string ByteArray.empty, .int .u64 0] := ZeroOf.of (by kernel_rfl)
theorem fa13_0 : FieldAt Tryd.prog 13 0 0 := fun _ _ _ => by kernel_rfl
theorem fa13_1 : FieldAt Tryd.prog 13 1 1 := fun _ _ _ => by kernel_rfl
theorem st13 : StructOf Tryd.prog 13 [(0, 1), (1, 1)] [.string ByteArray.empty, .int .u64 0] := StructOf.of (Tryd.prog.fieldsOf 13) (by kernel_rfl) (by kernel_rfl) (by kernel_rfl)
theorem agg14 : aggB Tryd.prog 14 2 = true := by kernel_rfl
theorem size14 : (Tryd.prog.info? 14).map (·.size) = some 2 := by kernel_rfl
theorem zero14 : ZeroOf Tryd.prog 14 [.string ByteArray.empty, .int .u64 0] := ZeroOf.of (by kernel_rfl)
theorem fa14_0 : FieldAt Tryd.prog 14 0 0 := fun _ _ _ => by kernel_rfl
theorem fa14_1 : FieldAt Tryd.prog 14 1 1 := fun _ _ _ => by kernel_rfl
theorem st14 : StructOf Tryd.prog 14 [(0, 1), (1, 1)] [.string ByteArray.empty, .int .u64 0] := StructOf.of (Tryd.prog.fieldsOf 14) (by kernel_rfl) (by kernel_rfl) (by kernel_rfl)
theorem one15 : oneB Tryd.prog 15 = true := by kernel_rfl
theorem size15 : (Tryd.prog.info? 15).map (·.size) = some 1 := by kernel_rfl
theorem zero15 : ZeroOf Tryd.prog 15 [.pointer none] := ZeroOf.of (by kernel_rfl)
theorem one16 : oneB Tryd.prog 16 = true := by kernel_rfl
theorem size16 : (Tryd.prog.info? 16).map (·.size) = some 1 := by kernel_rfl
theorem zero16 : ZeroOf Tryd.prog 16 [.pointer none] := ZeroOf.of (by kernel_rfl)
theorem one17 : oneB Tryd.prog 17 = true := by kernel_rfl
theorem size17 : (Tryd.prog.info? 17).map (·.size) = some 1 := by kernel_rfl
theorem zero17 : ZeroOf Tryd.prog 17 [.pointer none] := ZeroOf.of (by kernel_rfl)
theorem agg18 : aggB Tryd.prog 18 1 = true := by kernel_rfl
theorem size18 : (Tryd.prog.info? 18).map (·.size) = some 1 := by kernel_rfl
theorem zero18 : ZeroOf Tryd.prog 18 [.pointer none] := ZeroOf.of (by kernel_rfl)
theorem fa18_0 : FieldAt Tryd.prog 18 0 0 := fun _ _ _ => by kernel_rfl
theorem st18 : StructOf Tryd.prog 18 [(0, 1)] [.pointer none] := StructOf.of (Tryd.prog.fieldsOf 18) (by kernel_rfl) (by kernel_rfl) (by kernel_rfl)
theorem agg19 : aggB Tryd.prog 19 1 = true := by kernel_rfl
theorem size19 : (Tryd.prog.info? 19).map (·.size) = some 1 := by kernel_rfl
theorem zero19 : ZeroOf Tryd.prog 19 [.pointer none] := ZeroOf.of (by kernel_rfl)
theorem fa19_0 : FieldAt Tryd.prog 19 0 0 := fun _ _ _ => by kernel_rfl
theorem st19 : StructOf Tryd.prog 19 [(0, 1)] [.pointer none] := StructOf.of (Tryd.prog.fieldsOf 19) (by kernel_rfl) (by kernel_rfl) (by kernel_rfl)
theorem one20 : oneB Tryd.prog 20 = true := by kernel_rfl
theorem size20 : (Tryd.prog.info? 20).map (·.size) = some 1 := by kernel_rfl
theorem zero20 : ZeroOf Tryd.prog 20 [.nilIface] := ZeroOf.of (by kernel_rfl)
theorem one21 : oneB Tryd.prog 21 = true := by kernel_rfl
theorem size21 : (Tryd.prog.info? 21).map (·.size) = some 1 := by kernel_rfl
theorem zero21 : ZeroOf Tryd.prog 21 [.int .i32 0] := ZeroOf.of (by kernel_rfl)
theorem u21 : Tryd.prog.underlying 21 = some (.int .i32) := by kernel_rfl
theorem one22 : oneB Tryd.prog 22 = true := by kernel_rfl
theorem size22 : (Tryd.prog.info? 22).map (·.size) = some 1 := by kernel_rfl
theorem zero22 : ZeroOf Tryd.prog 22 [.slice none 0 0] := ZeroOf.of (by kernel_rfl)
theorem sl22 : isSlice Tryd.prog 22 34 5 := ⟨by kernel_rfl, by kernel_rfl⟩
theorem bytes22 : (Tryd.prog.info? 34).map (·.bytes) = some 40 := by kernel_rfl
theorem one23 : oneB Tryd.prog 23 = true := by kernel_rfl
theorem size23 : (Tryd.prog.info? 23).map (·.size) = some 1 := by kernel_rfl
theorem zero23 : ZeroOf Tryd.prog 23 [.slice none 0 0] := ZeroOf.of (by kernel_rfl)
theorem sl23 : isSlice Tryd.prog 23 3 1 := ⟨by kernel_rfl, by kernel_rfl⟩
theorem bytes23 : (Tryd.prog.info? 3).map (·.bytes) = some 8 := by kernel_rfl
theorem agg24 : aggB Tryd.prog 24 4 = true := by kernel_rfl
theorem size24 : (Tryd.prog.info? 24).map (·.size) = some 4 := by kernel_rfl
theorem zero24 : ZeroOf Tryd.prog 24 [.int .i64 0, .int .i64 0, .slice none 0 0, .slice none 0 0] := ZeroOf.of (by kernel_rfl)
theorem fa24_0 : FieldAt Tryd.prog 24 0 0 := fun _ _ _ => by kernel_rfl
theorem fa24_1 : FieldAt Tryd.prog 24 1 1 := fun _ _ _ => by kernel_rfl
theorem fa24_2 : FieldAt Tryd.prog 24 2 2 := fun _ _ _ => by kernel_rfl
theorem fa24_3 : FieldAt Tryd.prog 24 3 3 := fun _ _ _ => by kernel_rfl
theorem st24 : StructOf Tryd.prog 24 [(0, 1), (1, 1), (2, 1), (3, 1)] [.int .i64 0, .int .i64 0, .slice none 0 0, .slice none 0 0] := StructOf.of (Tryd.prog.fieldsOf 24) (by kernel_rfl) (by kernel_rfl) (by kernel_rfl)
theorem agg25 : aggB Tryd.prog 25 4 = true := by kernel_rfl
theorem size25 : (Tryd.prog.info? 25).map (·.size) = some 4 := by kernel_rfl
theorem zero25 : ZeroOf Tryd.prog 25 [.int .i64 0, .int .i64 0, .slice none 0 0, .slice none 0 0] := ZeroOf.of (by kernel_rfl)
theorem fa25_0 : FieldAt Tryd.prog 25 0 0 := fun _ _ _ => by kernel_rfl
theorem fa25_1 : FieldAt Tryd.prog 25 1 1 := fun _ _ _ => by kernel_rfl
theorem fa25_2 : FieldAt Tryd.prog 25 2 2 := fun _ _ _ => by kernel_rfl
theorem fa25_3 : FieldAt Tryd.prog 25 3 3 := fun _ _ _ => by kernel_rfl
theorem st25 : StructOf Tryd.prog 25 [(0, 1), (1, 1), (2, 1), (3, 1)] [.int .i64 0, .int .i64 0, .slice none 0 0, .slice none 0 0] := StructOf.of (Tryd.prog.fieldsOf 25) (by kernel_rfl) (by kernel_rfl) (by kernel_rfl)
theorem one26 : oneB Tryd.prog 26 = true := by kernel_rfl
theorem size26 : (Tryd.prog.info? 26).map (·.size) = some 1 := by kernel_rfl
theorem zero26 : ZeroOf Tryd.prog 26 [.nilFunc] := ZeroOf.of (by kernel_rfl)
theorem one27 : oneB Tryd.prog 27 = true := by kernel_rfl
theorem size27 : (Tryd.prog.info? 27).map (·.size) = some 1 := by kernel_rfl
theorem zero27 : ZeroOf Tryd.prog 27 [.nilFunc] := ZeroOf.of (by kernel_rfl)
theorem one28 : oneB Tryd.prog 28 = true := by kernel_rfl
theorem size28 : (Tryd.prog.info? 28).map (·.size) = some 1 := by kernel_rfl
theorem zero28 : ZeroOf Tryd.prog 28 [.nilFunc] := ZeroOf.of (by kernel_rfl)
theorem one29 : oneB Tryd.prog 29 = true := by kernel_rfl
theorem size29 : (Tryd.prog.info? 29).map (·.size) = some 1 := by kernel_rfl
theorem zero29 : ZeroOf Tryd.prog 29 [.int .i64 0] := ZeroOf.of (by kernel_rfl)
theorem u29 : Tryd.prog.underlying 29 = some (.int .i64) := by kernel_rfl
theorem one31 : oneB Tryd.prog 31 = true := by kernel_rfl
theorem size31 : (Tryd.prog.info? 31).map (·.size) = some 1 := by kernel_rfl
theorem zero31 : ZeroOf Tryd.prog 31 [.nilFunc] := ZeroOf.of (by kernel_rfl)
theorem one32 : oneB Tryd.prog 32 = true := by kernel_rfl
theorem size32 : (Tryd.prog.info? 32).map (·.size) = some 1 := by kernel_rfl
theorem zero32 : ZeroOf Tryd.prog 32 [.nilFunc] := ZeroOf.of (by kernel_rfl)
theorem agg33 : aggB Tryd.prog 33 5 = true := by kernel_rfl
theorem size33 : (Tryd.prog.info? 33).map (·.size) = some 5 := by kernel_rfl
theorem zero33 : ZeroOf Tryd.prog 33 [.int .i64 0, .int .i64 0, .int .i64 0, .int .i64 0, .int .i64 0] := ZeroOf.of (by kernel_rfl)
theorem fa33_0 : FieldAt Tryd.prog 33 0 0 := fun _ _ _ => by kernel_rfl
theorem fa33_1 : FieldAt Tryd.prog 33 1 1 := fun _ _ _ => by kernel_rfl
theorem fa33_2 : FieldAt Tryd.prog 33 2 2 := fun _ _ _ => by kernel_rfl
theorem fa33_3 : FieldAt Tryd.prog 33 3 3 := fun _ _ _ => by kernel_rfl
theorem fa33_4 : FieldAt Tryd.prog 33 4 4 := fun _ _ _ => by kernel_rfl
theorem st33 : StructOf Tryd.prog 33 [(0, 1), (1, 1), (2, 1), (3, 1), (4, 1)] [.int .i64 0, .int .i64 0, .int .i64 0, .int .i64 0, .int .i64 0] := StructOf.of (Tryd.prog.fieldsOf 33) (by kernel_rfl) (by kernel_rfl) (by kernel_rfl)
theorem ai33 : AllInt Tryd.prog 33 5 := ⟨by kernel_rfl, by kernel_rfl, by kernel_rfl, by kernel_rfl⟩
theorem agg34 : aggB Tryd.prog 34 5 = true := by kernel_rfl
theorem size34 : (Tryd.prog.info? 34).map (·.size) = some 5 := by kernel_rfl
theorem zero34 : ZeroOf Tryd.prog 34 [.int .i64 0, .int .i64 0, .int .i64 0, .int .i64 0, .int .i64 0] := ZeroOf.of (by kernel_rfl)
theorem fa34_0 : FieldAt Tryd.prog 34 0 0 := fun _ _ _ => by kernel_rfl
theorem fa34_1 : FieldAt Tryd.prog 34 1 1 := fun _ _ _ => by kernel_rfl
theorem fa34_2 : FieldAt Tryd.prog 34 2 2 := fun _ _ _ => by kernel_rfl
theorem fa34_3 : FieldAt Tryd.prog 34 3 3 := fun _ _ _ => by kernel_rfl
theorem fa34_4 : FieldAt Tryd.prog 34 4 4 := fun _ _ _ => by kernel_rfl
theorem el34 : ElemOf Tryd.prog 34 5 40 [.int .i64 0, .int .i64 0, .int .i64 0, .int .i64 0, .int .i64 0] := ElemOf.of (by kernel_rfl) rfl
theorem st34 : StructOf Tryd.prog 34 [(0, 1), (1, 1), (2, 1), (3, 1), (4, 1)] [.int .i64 0, .int .i64 0, .int .i64 0, .int .i64 0, .int .i64 0] := StructOf.of (Tryd.prog.fieldsOf 34) (by kernel_rfl) (by kernel_rfl) (by kernel_rfl)
theorem ai34 : AllInt Tryd.prog 34 5 := ⟨by kernel_rfl, by kernel_rfl, by kernel_rfl, by kernel_rfl⟩
theorem one35 : oneB Tryd.prog 35 = true := by kernel_rfl
theorem size35 : (Tryd.prog.info? 35).map (·.size) = some 1 := by kernel_rfl
theorem zero35 : ZeroOf Tryd.prog 35 [.nilFunc] := ZeroOf.of (by kernel_rfl)
theorem agg36 : aggB Tryd.prog 36 11 = true := by kernel_rfl
theorem size36 : (Tryd.prog.info? 36).map (·.size) = some 11 := by kernel_rfl
theorem zero36 : ZeroOf Tryd.prog 36 [.int .i64 0, .int .i64 0, .int .i64 0, .int .i64 0, .int .i64 0, .int .i64 0, .int .i64 0, .int .i64 0, .int .i64 0, .int .i64 0, .bool false] := ZeroOf.of (by kernel_rfl)
theorem fa36_0 : FieldAt Tryd.prog 36 0 0 := fun _ _ _ => by kernel_rfl
theorem fa36_1 : FieldAt Tryd.prog 36 1 5 := fun _ _ _ => by kernel_rfl
theorem fa36_2 : FieldAt Tryd.prog 36 2 10 := fun _ _ _ => by kernel_rfl
theorem el36 : ElemOf Tryd.prog 36 11 88 [.int .i64 0, .int .i64 0, .int .i64 0, .int .i64 0, .int .i64 0, .int .i64 0, .int .i64 0, .int .i64 0, .int .i64 0, .int .i64 0, .bool false] := ElemOf.of (by kernel_rfl) rfl
theorem st36 : StructOf Tryd.prog 36 [(0, 5), (5, 5), (10, 1)] [.int .i64 0, .int .i64 0, .int .i64 0, .int .i64 0, .int .i64 0, .int .i64 0, .int .i64 0, .int .i64 0, .int .i64 0, .int .i64 0, .bool false] := StructOf.of (Tryd.prog.fieldsOf 36) (by kernel_rfl) (by kernel_rfl) (by kernel_rfl)
theorem one37 : oneB Tryd.prog 37 = true := by kernel_rfl
theorem size37 : (Tryd.prog.info? 37).map (·.size) = some 1 := by kernel_rfl
theorem zero37 : ZeroOf Tryd.prog 37 [.slice none 0 0] := ZeroOf.of (by kernel_rfl)
theorem sl37 : isSlice Tryd.prog 37 36 11 := ⟨by kernel_rfl, by kernel_rfl⟩
theorem bytes37 : (Tryd.prog.info? 36).map (·.bytes) = some 88 := by kernel_rfl
theorem one39 : oneB Tryd.prog 39 = true := by kernel_rfl
theorem size39 : (Tryd.prog.info? 39).map (·.size) = some 1 := by kernel_rfl
theorem zero39 : ZeroOf Tryd.prog 39 [.nilFunc] := ZeroOf.of (by kernel_rfl)
theorem agg40 : aggB Tryd.prog 40 16 = true := by kernel_rfl
theorem size40 : (Tryd.prog.info? 40).map (·.size) = some 16 := by kernel_rfl
theorem zero40 : ZeroOf Tryd.prog 40 [.int .i64 0, .int .i64 0, .int .i64 0, .int .i64 0, .int .i64 0, .int .i64 0, .int .i64 0, .int .i64 0, .int .i64 0, .int .i64 0, .int .i64 0, .int .i64 0, .int .i64 0, .int .i64 0, .int .i64 0, .bool false] := ZeroOf.of (by kernel_rfl)
theorem fa40_0 : FieldAt Tryd.prog 40 0 0 := fun _ _ _ => by kernel_rfl
theorem fa40_1 : FieldAt Tryd.prog 40 1 5 := fun _ _ _ => by kernel_rfl
theorem fa40_2 : FieldAt Tryd.prog 40 2 10 := fun _ _ _ => by kernel_rfl
theorem fa40_3 : FieldAt Tryd.prog 40 3 15 := fun _ _ _ => by kernel_rfl
theorem el40 : ElemOf Tryd.prog 40 16 128 [.int .i64 0, .int .i64 0, .int .i64 0, .int .i64 0, .int .i64 0, .int .i64 0, .int .i64 0, .int .i64 0, .int .i64 0, .int .i64 0, .int .i64 0, .int .i64 0, .int .i64 0, .int .i64 0, .int .i64 0, .bool false] := ElemOf.of (by kernel_rfl) rfl
theorem st40 : StructOf Tryd.prog 40 [(0, 5), (5, 5), (10, 5), (15, 1)] [.int .i64 0, .int .i64 0, .int .i64 0, .int .i64 0, .int .i64 0, .int .i64 0, .int .i64 0, .int .i64 0, .int .i64 0, .int .i64 0, .int .i64 0, .int .i64 0, .int .i64 0, .int .i64 0, .int .i64 0, .bool false] := StructOf.of (Tryd.prog.fieldsOf 40) (by kernel_rfl) (by kernel_rfl) (by kernel_rfl)
theorem one41 : oneB Tryd.prog 41 = true := by kernel_rfl
theorem size41 : (Tryd.prog.info? 41).map (·.size) = some 1 := by kernel_rfl
theorem zero41 : ZeroOf Tryd.prog 41 [.slice none 0 0] := ZeroOf.of (by kernel_rfl)
theorem sl41 : isSlice Tryd.prog 41 40 16 := ⟨by kernel_rfl, by kernel_rfl⟩
theorem bytes41 : (Tryd.prog.info? 40).map (·.bytes) = some 128 := by kernel_rfl
theorem one42 : oneB Tryd.prog 42 = true := by kernel_rfl
theorem size42 : (Tryd.prog.info? 42).map (·.size) = some 1 := by kernel_rfl
theorem zero42 : ZeroOf Tryd.prog 42 [.nilFunc] := ZeroOf.of (by kernel_rfl)
theorem one43 : oneB Tryd.prog 43 = true := by kernel_rfl
theorem size43 : (Tryd.prog.info? 43).map (·.size) = some 1 := by kernel_rfl
theorem zero43 : ZeroOf Tryd.prog 43 [.nilFunc] := ZeroOf.of (by kernel_rfl)
theorem one44 : oneB Tryd.prog 44 = true := by kernel_rfl
theorem size44 : (Tryd.prog.info? 44).map (·.size) = some 1 := by kernel_rfl
theorem zero44 : ZeroOf Tryd.prog 44 [.nilFunc] := ZeroOf.of (by kernel_rfl)
theorem one45 : oneB Tryd.prog 45 = true := by kernel_rfl
theorem size45 : (Tryd.prog.info? 45).map (·.size) = some 1 := by kernel_rfl
theorem zero45 : ZeroOf Tryd.prog 45 [.nilFunc] := ZeroOf.of (by kernel_rfl)
theorem agg46 : aggB Tryd.prog 46 5 = true := by kernel_rfl
theorem size46 : (Tryd.prog.info? 46).map (·.size) = some 5 := by kernel_rfl
theorem zero46 : ZeroOf Tryd.prog 46 [.int .i64 0, .int .i64 0, .int .i64 0, .int .i64 0, .int .i64 0] := ZeroOf.of (by kernel_rfl)
theorem fa46_0 : FieldAt Tryd.prog 46 0 0 := fun _ _ _ => by kernel_rfl
theorem fa46_1 : FieldAt Tryd.prog 46 1 1 := fun _ _ _ => by kernel_rfl
theorem fa46_2 : FieldAt Tryd.prog 46 2 2 := fun _ _ _ => by kernel_rfl
theorem fa46_3 : FieldAt Tryd.prog 46 3 3 := fun _ _ _ => by kernel_rfl
theorem fa46_4 : FieldAt Tryd.prog 46 4 4 := fun _ _ _ => by kernel_rfl
theorem st46 : StructOf Tryd.prog 46 [(0, 1), (1, 1), (2, 1), (3, 1), (4, 1)] [.int .i64 0, .int .i64 0, .int .i64 0, .int .i64 0, .int .i64 0] := StructOf.of (Tryd.prog.fieldsOf 46) (by kernel_rfl) (by kernel_rfl) (by kernel_rfl)
theorem ai46 : AllInt Tryd.prog 46 5 := ⟨by kernel_rfl, by kernel_rfl, by kernel_rfl, by kernel_rfl⟩
theorem agg47 : aggB Tryd.prog 47 5 = true := by kernel_rfl
theorem size47 : (Tryd.prog.info? 47).map (·.size) = some 5 := by kernel_rfl
theorem zero47 : ZeroOf Tryd.prog 47 [.int .i64 0, .int .i64 0, .int .i64 0, .int .i64 0, .int .i64 0] := ZeroOf.of (by kernel_rfl)
theorem fa47_0 : FieldAt Tryd.prog 47 0 0 := fun _ _ _ => by kernel_rfl
theorem fa47_1 : FieldAt Tryd.prog 47 1 1 := fun _ _ _ => by kernel_rfl
theorem fa47_2 : FieldAt Tryd.prog 47 2 2 := fun _ _ _ => by kernel_rfl
theorem fa47_3 : FieldAt Tryd.prog 47 3 3 := fun _ _ _ => by kernel_rfl
theorem fa47_4 : FieldAt Tryd.prog 47 4 4 := fun _ _ _ => by kernel_rfl
theorem st47 : StructOf Tryd.prog 47 [(0, 1), (1, 1), (2, 1), (3, 1), (4, 1)] [.int .i64 0, .int .i64 0, .int .i64 0, .int .i64 0, .int .i64 0] := StructOf.of (Tryd.prog.fieldsOf 47) (by kernel_rfl) (by kernel_rfl) (by kernel_rfl)
theorem ai47 : AllInt Tryd.prog 47 5 := ⟨by kernel_rfl, by kernel_rfl, by kernel_rfl, by kernel_rfl⟩
theorem one49 : oneB Tryd.prog 49 = true := by kernel_rfl
theorem size49 : (Tryd.prog.info? 49).map (·.size) = some 1 := by kernel_rfl
theorem zero49 : ZeroOf Tryd.prog 49 [.nilFunc] := ZeroOf.of (by kernel_rfl)
theorem one51 : oneB Tryd.prog 51 = true := by kernel_rfl
theorem size51 : (Tryd.prog.info? 51).map (·.size) = some 1 := by kernel_rfl
theorem zero51 : ZeroOf Tryd.prog 51 [.nilFunc] := ZeroOf.of (by kernel_rfl)
theorem one52 : oneB Tryd.prog 52 = true := by kernel_rfl
theorem size52 : (Tryd.prog.info? 52).map (·.size) = some 1 := by kernel_rfl
theorem zero52 : ZeroOf Tryd.prog 52 [.nilFunc] := ZeroOf.of (by kernel_rfl)
theorem one54 : oneB Tryd.prog 54 = true := by kernel_rfl
theorem size54 : (Tryd.prog.info? 54).map (·.size) = some 1 := by kernel_rfl
theorem zero54 : ZeroOf Tryd.prog 54 [.nilFunc] := ZeroOf.of (by kernel_rfl)
theorem one55 : oneB Tryd.prog 55 = true := by kernel_rfl
theorem size55 : (Tryd.prog.info? 55).map (·.size) = some 1 := by kernel_rfl
theorem zero55 : ZeroOf Tryd.prog 55 [.nilFunc] := ZeroOf.of (by kernel_rfl)
theorem one56 : oneB Tryd.prog 56 = true := by kernel_rfl
theorem size56 : (Tryd.prog.info? 56).map (·.size) = some 1 := by kernel_rfl
theorem zero56 : ZeroOf Tryd.prog 56 [.nilFunc] := ZeroOf.of (by kernel_rfl)
theorem one57 : oneB Tryd.prog 57 = true := by kernel_rfl
theorem size57 : (Tryd.prog.info? 57).map (·.size) = some 1 := by kernel_rfl
theorem zero57 : ZeroOf Tryd.prog 57 [.nilFunc] := ZeroOf.of (by kernel_rfl)
theorem one58 : oneB Tryd.prog 58 = true := by kernel_rfl
theorem size58 : (Tryd.prog.info? 58).map (·.size) = some 1 := by kernel_rfl
theorem zero58 : ZeroOf Tryd.prog 58 [.nilFunc] := ZeroOf.of (by kernel_rfl)
theorem one59 : oneB Tryd.prog 59 = true := by kernel_rfl
theorem size59 : (Tryd.prog.info? 59).map (·.size) = some 1 := by kernel_rfl
theorem zero59 : ZeroOf Tryd.prog 59 [.nilFunc] := ZeroOf.of (by kernel_rfl)
theorem one60 : oneB Tryd.prog 60 = true := by kernel_rfl
theorem size60 : (Tryd.prog.info? 60).map (·.size) = some 1 := by kernel_rfl
theorem zero60 : ZeroOf Tryd.prog 60 [.nilFunc] := ZeroOf.of (by kernel_rfl)
theorem one61 : oneB Tryd.prog 61 = true := by kernel_rfl
theorem size61 : (Tryd.prog.info? 61).map (·.size) = some 1 := by kernel_rfl
theorem zero61 : ZeroOf Tryd.prog 61 [.nilFunc] := ZeroOf.of (by kernel_rfl)
theorem one63 : oneB Tryd.prog 63 = true := by kernel_rfl
theorem size63 : (Tryd.prog.info? 63).map (·.size) = some 1 := by kernel_rfl
theorem zero63 : ZeroOf Tryd.prog 63 [.nilFunc] := ZeroOf.of (by kernel_rfl)
theorem one64 : oneB Tryd.prog 64 = true := by kernel_rfl
theorem size64 : (Tryd.prog.info? 64).map (·.size) = some 1 := by kernel_rfl
theorem zero64 : ZeroOf Tryd.prog 64 [.nilFunc] := ZeroOf.of (by kernel_rfl)
theorem one65 : oneB Tryd.prog 65 = true := by kernel_rfl
theorem size65 : (Tryd.prog.info? 65).map (·.size) = some 1 := by kernel_rfl
theorem zero65 : ZeroOf Tryd.prog 65 [.nilFunc] := ZeroOf.of (by kernel_rfl)
theorem one66 : oneB Tryd.prog 66 = true := by kernel_rfl
theorem size66 : (Tryd.prog.info? 66).map (·.size) = some 1 := by kernel_rfl
theorem zero66 : ZeroOf Tryd.prog 66 [.int .u64 0] := ZeroOf.of (by kernel_rfl)
theorem u66 : Tryd.prog.underlying 66 = some (.int .u64) := by kernel_rfl
theorem one67 : oneB Tryd.prog 67 = true := by kernel_rfl
theorem size67 : (Tryd.prog.info? 67).map (·.size) = some 1 := by kernel_rfl
theorem zero67 : ZeroOf Tryd.prog 67 [.nilFunc] := ZeroOf.of (by kernel_rfl)
theorem one68 : oneB Tryd.prog 68 = true := by kernel_rfl
theorem size68 : (Tryd.prog.info? 68).map (·.size) = some 1 := by kernel_rfl
theorem zero68 : ZeroOf Tryd.prog 68 [.int .u32 0] := ZeroOf.of (by kernel_rfl)
theorem u68 : Tryd.prog.underlying 68 = some (.int .u32) := by kernel_rfl
theorem one69 : oneB Tryd.prog 69 = true := by kernel_rfl
theorem size69 : (Tryd.prog.info? 69).map (·.size) = some 1 := by kernel_rfl
theorem zero69 : ZeroOf Tryd.prog 69 [.nilFunc] := ZeroOf.of (by kernel_rfl)
theorem one70 : oneB Tryd.prog 70 = true := by kernel_rfl
theorem size70 : (Tryd.prog.info? 70).map (·.size) = some 1 := by kernel_rfl
theorem zero70 : ZeroOf Tryd.prog 70 [.int .u64 0] := ZeroOf.of (by kernel_rfl)
theorem u70 : Tryd.prog.underlying 70 = some (.int .u64) := by kernel_rfl
theorem agg71 : aggB Tryd.prog 71 32 = true := by kernel_rfl
theorem size71 : (Tryd.prog.info? 71).map (·.size) = some 32 := by kernel_rfl
theorem zero71 : ZeroOf Tryd.prog 71 [.int .u8 0, .int .u8 0, .int .u8 0, .int .u8 0, .int .u8 0, .int .u8 0, .int .u8 0, .int .u8 0, .int .u8 0, .int .u8 0, .int .u8 0, .int .u8 0, .int .u8 0, .int .u8 0, .int .u8 0, .int .u8 0, .int .u8 0, .int .u8 0, .int .u8 0, .int .u8 0, .int .u8 0, .int .u8 0, .int .u8 0, .int .u8 0, .int .u8 0, .int .u8 0, .int .u8 0, .int .u8 0, .int .u8 0, .int .u8 0, .int .u8 0, .int .u8 0] := ZeroOf.of (by kernel_rfl)
theorem ar71 : ArrayOf Tryd.prog 71 32 1 [.int .u8 0, .int .u8 0, .int .u8 0, .int .u8 0, .int .u8 0, .int .u8 0, .int .u8 0, .int .u8 0, .int .u8 0, .int .u8 0, .int .u8 0, .int .u8 0, .int .u8 0, .int .u8 0, .int .u8 0, .int .u8 0, .int .u8 0, .int .u8 0, .int .u8 0, .int .u8 0, .int .u8 0, .int .u8 0, .int .u8 0, .int .u8 0, .int .u8 0, .int .u8 0, .int .u8 0, .int .u8 0, .int .u8 0, .int .u8 0, .int .u8 0, .int .u8 0] := ArrayOf.of 5 (by kernel_rfl) (by kernel_rfl) (by kernel_rfl)
theorem agg72 : aggB Tryd.prog 72 64 = true := by kernel_rfl
theorem size72 : (Tryd.prog.info? 72).map (·.size) = some 64 := by kernel_rfl
theorem one73 : oneB Tryd.prog 73 = true := by kernel_rfl
theorem size73 : (Tryd.prog.info? 73).map (·.size) = some 1 := by kernel_rfl
theorem zero73 : ZeroOf Tryd.prog 73 [.nilFunc] := ZeroOf.of (by kernel_rfl)
theorem agg74 : aggB Tryd.prog 74 4 = true := by kernel_rfl
theorem size74 : (Tryd.prog.info? 74).map (·.size) = some 4 := by kernel_rfl
theorem zero74 : ZeroOf Tryd.prog 74 [.pointer none, .pointer none, .pointer none, .string ByteArray.empty] := ZeroOf.of (by kernel_rfl)
theorem fa74_0 : FieldAt Tryd.prog 74 0 0 := fun _ _ _ => by kernel_rfl
theorem fa74_1 : FieldAt Tryd.prog 74 1 1 := fun _ _ _ => by kernel_rfl
theorem fa74_2 : FieldAt Tryd.prog 74 2 2 := fun _ _ _ => by kernel_rfl
theorem fa74_3 : FieldAt Tryd.prog 74 3 3 := fun _ _ _ => by kernel_rfl
theorem st74 : StructOf Tryd.prog 74 [(0, 1), (1, 1), (2, 1), (3, 1)] [.pointer none, .pointer none, .pointer none, .string ByteArray.empty] := StructOf.of (Tryd.prog.fieldsOf 74) (by kernel_rfl) (by kernel_rfl) (by kernel_rfl)
theorem agg75 : aggB Tryd.prog 75 4 = true := by kernel_rfl
theorem size75 : (Tryd.prog.info? 75).map (·.size) = some 4 := by kernel_rfl
theorem zero75 : ZeroOf Tryd.prog 75 [.pointer none, .pointer none, .pointer none, .string ByteArray.empty] := ZeroOf.of (by kernel_rfl)
theorem fa75_0 : FieldAt Tryd.prog 75 0 0 := fun _ _ _ => by kernel_rfl
theorem fa75_1 : FieldAt Tryd.prog 75 1 1 := fun _ _ _ => by kernel_rfl
theorem fa75_2 : FieldAt Tryd.prog 75 2 2 := fun _ _ _ => by kernel_rfl
theorem fa75_3 : FieldAt Tryd.prog 75 3 3 := fun _ _ _ => by kernel_rfl
theorem st75 : StructOf Tryd.prog 75 [(0, 1), (1, 1), (2, 1), (3, 1)] [.pointer none, .pointer none, .pointer none, .string ByteArray.empty] := StructOf.of (Tryd.prog.fieldsOf 75) (by kernel_rfl) (by kernel_rfl) (by kernel_rfl)
theorem agg76 : aggB Tryd.prog 76 0 = true := by kernel_rfl
theorem size76 : (Tryd.prog.info? 76).map (·.size) = some 0 := by kernel_rfl
theorem zero76 : ZeroOf Tryd.prog 76 [] := ZeroOf.of (by kernel_rfl)
theorem ar76 : ArrayOf Tryd.prog 76 0 1 [] := ArrayOf.of 16 (by kernel_rfl) (by kernel_rfl) (by kernel_rfl)
theorem agg77 : aggB Tryd.prog 77 0 = true := by kernel_rfl
theorem size77 : (Tryd.prog.info? 77).map (·.size) = some 0 := by kernel_rfl
theorem zero77 : ZeroOf Tryd.prog 77 [] := ZeroOf.of (by kernel_rfl)
theorem st77 : StructOf Tryd.prog 77 [(0, 0)] [] := StructOf.of (Tryd.prog.fieldsOf 77) (by kernel_rfl) (by kernel_rfl) (by kernel_rfl)
theorem agg78 : aggB Tryd.prog 78 0 = true := by kernel_rfl
theorem size78 : (Tryd.prog.info? 78).map (·.size) = some 0 := by kernel_rfl
theorem zero78 : ZeroOf Tryd.prog 78 [] := ZeroOf.of (by kernel_rfl)
theorem st78 : StructOf Tryd.prog 78 [(0, 0)] [] := StructOf.of (Tryd.prog.fieldsOf 78) (by kernel_rfl) (by kernel_rfl) (by kernel_rfl)
theorem one79 : oneB Tryd.prog 79 = true := by kernel_rfl
theorem size79 : (Tryd.prog.info? 79).map (·.size) = some 1 := by kernel_rfl
theorem zero79 : ZeroOf Tryd.prog 79 [.nilFunc] := ZeroOf.of (by kernel_rfl)
theorem one80 : oneB Tryd.prog 80 = true := by kernel_rfl
theorem size80 : (Tryd.prog.info? 80).map (·.size) = some 1 := by kernel_rfl
theorem zero80 : ZeroOf Tryd.prog 80 [.int .u8 0] := ZeroOf.of (by kernel_rfl)
theorem u80 : Tryd.prog.underlying 80 = some (.int .u8) := by kernel_rfl
theorem one81 : oneB Tryd.prog 81 = true := by kernel_rfl
theorem size81 : (Tryd.prog.info? 81).map (·.size) = some 1 := by kernel_rfl
theorem zero81 : ZeroOf Tryd.prog 81 [.int .u8 0] := ZeroOf.of (by kernel_rfl)
theorem u81 : Tryd.prog.underlying 81 = some (.int .u8) := by kernel_rfl
theorem one82 : oneB Tryd.prog 82 = true := by kernel_rfl
theorem size82 : (Tryd.prog.info? 82).map (·.size) = some 1 := by kernel_rfl
theorem zero82 : ZeroOf Tryd.prog 82 [.nilFunc] := ZeroOf.of (by kernel_rfl)
theorem one83 : oneB Tryd.prog 83 = true := by kernel_rfl
theorem size83 : (Tryd.prog.info? 83).map (·.size) = some 1 := by kernel_rfl
theorem zero83 : ZeroOf Tryd.prog 83 [.pointer none] := ZeroOf.of (by kernel_rfl)
theorem one84 : oneB Tryd.prog 84 = true := by kernel_rfl
theorem size84 : (Tryd.prog.info? 84).map (·.size) = some 1 := by kernel_rfl
theorem zero84 : ZeroOf Tryd.prog 84 [.int .i32 0] := ZeroOf.of (by kernel_rfl)
theorem u84 : Tryd.prog.underlying 84 = some (.int .i32) := by kernel_rfl
theorem one85 : oneB Tryd.prog 85 = true := by kernel_rfl
theorem size85 : (Tryd.prog.info? 85).map (·.size) = some 1 := by kernel_rfl
theorem zero85 : ZeroOf Tryd.prog 85 [.int .i32 0] := ZeroOf.of (by kernel_rfl)
theorem u85 : Tryd.prog.underlying 85 = some (.int .i32) := by kernel_rfl
theorem agg86 : aggB Tryd.prog 86 11 = true := by kernel_rfl
theorem size86 : (Tryd.prog.info? 86).map (·.size) = some 11 := by kernel_rfl
theorem zero86 : ZeroOf Tryd.prog 86 [.int .u64 0, .int .u64 0, .int .u32 0, .int .u8 0, .int .u8 0, .int .u8 0, .int .u8 0, .nilFunc, .pointer none, .int .i32 0, .int .i32 0] := ZeroOf.of (by kernel_rfl)
theorem fa86_0 : FieldAt Tryd.prog 86 0 0 := fun _ _ _ => by kernel_rfl
theorem fa86_1 : FieldAt Tryd.prog 86 1 1 := fun _ _ _ => by kernel_rfl
theorem fa86_2 : FieldAt Tryd.prog 86 2 2 := fun _ _ _ => by kernel_rfl
theorem fa86_3 : FieldAt Tryd.prog 86 3 3 := fun _ _ _ => by kernel_rfl
theorem fa86_4 : FieldAt Tryd.prog 86 4 4 := fun _ _ _ => by kernel_rfl
theorem fa86_5 : FieldAt Tryd.prog 86 5 5 := fun _ _ _ => by kernel_rfl
theorem fa86_6 : FieldAt Tryd.prog 86 6 6 := fun _ _ _ => by kernel_rfl
theorem fa86_7 : FieldAt Tryd.prog 86 7 7 := fun _ _ _ => by kernel_rfl
theorem fa86_8 : FieldAt Tryd.prog 86 8 8 := fun _ _ _ => by kernel_rfl
theorem fa86_9 : FieldAt Tryd.prog 86 9 9 := fun _ _ _ => by kernel_rfl
theorem fa86_10 : FieldAt Tryd.prog 86 10 10 := fun _ _ _ => by kernel_rfl
theorem st86 : StructOf Tryd.prog 86 [(0, 1), (1, 1), (2, 1), (3, 1), (4, 1), (5, 1), (6, 1), (7, 1), (8, 1), (9, 1), (10, 1)] [.int .u64 0, .int .u64 0, .int .u32 0, .int .u8 0, .int .u8 0, .int .u8 0, .int .u8 0, .nilFunc, .pointer none, .int .i32 0, .int .i32 0] := StructOf.of (Tryd.prog.fieldsOf 86) (by kernel_rfl) (by kernel_rfl) (by kernel_rfl)
theorem agg87 : aggB Tryd.prog 87 11 = true := by kernel_rfl
theorem size87 : (Tryd.prog.info? 87).map (·.size) = some 11 := by kernel_rfl
theorem zero87 : ZeroOf Tryd.prog 87 [.int .u64 0, .int .u64 0, .int .u32 0, .int .u8 0, .int .u8 0, .int .u8 0, .int .u8 0, .nilFunc, .pointer none, .int .i32 0, .int .i32 0] := ZeroOf.of (by kernel_rfl)
theorem fa87_0 : FieldAt Tryd.prog 87 0 0 := fun _ _ _ => by kernel_rfl
theorem fa87_1 : FieldAt Tryd.prog 87 1 1 := fun _ _ _ => by kernel_rfl
theorem fa87_2 : FieldAt Tryd.prog 87 2 2 := fun _ _ _ => by kernel_rfl
theorem fa87_3 : FieldAt Tryd.prog 87 3 3 := fun _ _ _ => by kernel_rfl
theorem fa87_4 : FieldAt Tryd.prog 87 4 4 := fun _ _ _ => by kernel_rfl
theorem fa87_5 : FieldAt Tryd.prog 87 5 5 := fun _ _ _ => by kernel_rfl
theorem fa87_6 : FieldAt Tryd.prog 87 6 6 := fun _ _ _ => by kernel_rfl
theorem fa87_7 : FieldAt Tryd.prog 87 7 7 := fun _ _ _ => by kernel_rfl
theorem fa87_8 : FieldAt Tryd.prog 87 8 8 := fun _ _ _ => by kernel_rfl
theorem fa87_9 : FieldAt Tryd.prog 87 9 9 := fun _ _ _ => by kernel_rfl
theorem fa87_10 : FieldAt Tryd.prog 87 10 10 := fun _ _ _ => by kernel_rfl
theorem st87 : StructOf Tryd.prog 87 [(0, 1), (1, 1), (2, 1), (3, 1), (4, 1), (5, 1), (6, 1), (7, 1), (8, 1), (9, 1), (10, 1)] [.int .u64 0, .int .u64 0, .int .u32 0, .int .u8 0, .int .u8 0, .int .u8 0, .int .u8 0, .nilFunc, .pointer none, .int .i32 0, .int .i32 0] := StructOf.of (Tryd.prog.fieldsOf 87) (by kernel_rfl) (by kernel_rfl) (by kernel_rfl)
theorem one88 : oneB Tryd.prog 88 = true := by kernel_rfl
theorem size88 : (Tryd.prog.info? 88).map (·.size) = some 1 := by kernel_rfl
theorem zero88 : ZeroOf Tryd.prog 88 [.pointer none] := ZeroOf.of (by kernel_rfl)
theorem fn3 : isFn Tryd.prog 3 := ⟨Tryd.f3, Tryd.func3, rfl, by kernel_rfl⟩
theorem fn4 : isFn Tryd.prog 4 := ⟨Tryd.f4, Tryd.func4, rfl, by kernel_rfl⟩
theorem fn5 : isFn Tryd.prog 5 := ⟨Tryd.f5, Tryd.func5, rfl, by kernel_rfl⟩
theorem fn6 : isFn Tryd.prog 6 := ⟨Tryd.f6, Tryd.func6, rfl, by kernel_rfl⟩
theorem fn7 : isFn Tryd.prog 7 := ⟨Tryd.f7, Tryd.func7, rfl, by kernel_rfl⟩
theorem fn8 : isFn Tryd.prog 8 := ⟨Tryd.f8, Tryd.func8, rfl, by kernel_rfl⟩
theorem fn9 : isFn Tryd.prog 9 := ⟨Tryd.f9, Tryd.func9, rfl, by kernel_rfl⟩
theorem fn10 : isFn Tryd.prog 10 := ⟨Tryd.f10, Tryd.func10, rfl, by kernel_rfl⟩
theorem fn11 : isFn Tryd.prog 11 := ⟨Tryd.f11, Tryd.func11, rfl, by kernel_rfl⟩
theorem fn12 : isFn Tryd.prog 12 := ⟨Tryd.f12, Tryd.func12, rfl, by kernel_rfl⟩
theorem fn13 : isFn Tryd.prog 13 := ⟨Tryd.f13, Tryd.func13, rfl, by kernel_rfl⟩
theorem fn14 : isFn Tryd.prog 14 := ⟨Tryd.f14, Tryd.func14, rfl, by kernel_rfl⟩
theorem fn15 : isFn Tryd.prog 15 := ⟨Tryd.f15, Tryd.func15, rfl, by kernel_rfl⟩
theorem fn16 : isFn Tryd.prog 16 := ⟨Tryd.f16, Tryd.func16, rfl, by kernel_rfl⟩
theorem fn17 : isFn Tryd.prog 17 := ⟨Tryd.f17, Tryd.func17, rfl, by kernel_rfl⟩
theorem fn18 : isFn Tryd.prog 18 := ⟨Tryd.f18, Tryd.func18, rfl, by kernel_rfl⟩
theorem fn19 : isFn Tryd.prog 19 := ⟨Tryd.f19, Tryd.func19, rfl, by kernel_rfl⟩
theorem fn20 : isFn Tryd.prog 20 := ⟨Tryd.f20, Tryd.func20, rfl, by kernel_rfl⟩
theorem fn21 : isFn Tryd.prog 21 := ⟨Tryd.f21, Tryd.func21, rfl, by kernel_rfl⟩
theorem fn22 : isFn Tryd.prog 22 := ⟨Tryd.f22, Tryd.func22, rfl, by kernel_rfl⟩
theorem fn23 : isFn Tryd.prog 23 := ⟨Tryd.f23, Tryd.func23, rfl, by kernel_rfl⟩
theorem fn24 : isFn Tryd.prog 24 := ⟨Tryd.f24, Tryd.func24, rfl, by kernel_rfl⟩
theorem fn25 : isFn Tryd.prog 25 := ⟨Tryd.f25, Tryd.func25, rfl, by kernel_rfl⟩
theorem fn26 : isFn Tryd.prog 26 := ⟨Tryd.f26, Tryd.func26, rfl, by kernel_rfl⟩
theorem fn27 : isFn Tryd.prog 27 := ⟨Tryd.f27, Tryd.func27, rfl, by kernel_rfl⟩
theorem fn28 : isFn Tryd.prog 28 := ⟨Tryd.f28, Tryd.func28, rfl, by kernel_rfl⟩
theorem fn29 : isFn Tryd.prog 29 := ⟨Tryd.f29, Tryd.func29, rfl, by kernel_rfl⟩
theorem fn30 : isFn Tryd.prog 30 := ⟨Tryd.f30, Tryd.func30, rfl, by kernel_rfl⟩
theorem fn31 : isFn Tryd.prog 31 := ⟨Tryd.f31, Tryd.func31, rfl, by kernel_rfl⟩
theorem fn32 : isFn Tryd.prog 32 := ⟨Tryd.f32, Tryd.func32, rfl, by kernel_rfl⟩
theorem fn33 : isFn Tryd.prog 33 := ⟨Tryd.f33, Tryd.func33, rfl, by kernel_rfl⟩
theorem fn34 : isFn Tryd.prog 34 := ⟨Tryd.f34, Tryd.func34, rfl, by kernel_rfl⟩
theorem fn35 : isFn Tryd.prog 35 := ⟨Tryd.f35, Tryd.func35, rfl, by kernel_rfl⟩
theorem fn36 : isFn Tryd.prog 36 := ⟨Tryd.f36, Tryd.func36, rfl, by kernel_rfl⟩
theorem fn37 : isFn Tryd.prog 37 := ⟨Tryd.f37, Tryd.func37, rfl, by kernel_rfl⟩
theorem fn38 : isFn Tryd.prog 38 := ⟨Tryd.f38, Tryd.func38, rfl, by kernel_rfl⟩
theorem fn39 : isFn Tryd.prog 39 := ⟨Tryd.f39, Tryd.func39, rfl, by kernel_rfl⟩
theorem fn40 : isFn Tryd.prog 40 := ⟨Tryd.f40, Tryd.func40, rfl, by kernel_rfl⟩
theorem fn41 : isFn Tryd.prog 41 := ⟨Tryd.f41, Tryd.func41, rfl, by kernel_rfl⟩
theorem fn42 : isFn Tryd.prog 42 := ⟨Tryd.f42, Tryd.func42, rfl, by kernel_rfl⟩
theorem fn43 : isFn Tryd.prog 43 := ⟨Tryd.f43, Tryd.func43, rfl, by kernel_rfl⟩
theorem fn44 : isFn Tryd.prog 44 := ⟨Tryd.f44, Tryd.func44, rfl, by kernel_rfl⟩
theorem fn45 : isFn Tryd.prog 45 := ⟨Tryd.f45, Tryd.func45, rfl, by kernel_rfl⟩
theorem mixed : Tryd.prog.follows .mixedOrders = true := by kernel_rfl
end Go.Proofs.YtfleehgbpgmcnaaDoor.T
