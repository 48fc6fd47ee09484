/- Parts of the proof (part 2): what the rows' text needs of the texts that lead to it. -/
import Derived.Test.YtbppmiimeccclaaDoorMRa
set_option maxRecDepth 100000
namespace Go.Proofs.YtbppmiimeccclaaDoor.T
open Go Go.Sl
theorem one2 : oneB Tryd.prog 2 = true := by kernel_rfl
theorem u2 : Tryd.prog.underlying 2 = some (.int .i64) := by kernel_rfl
theorem one3 : oneB Tryd.prog 3 = true := by kernel_rfl
theorem size3 : (Tryd.prog.info? 3).map (·.size) = some 1 := by kernel_rfl
theorem zero3 : ZeroOf Tryd.prog 3 [.int .i64 0] := ZeroOf.of (by kernel_rfl)
theorem el3 : ElemOf Tryd.prog 3 1 8 [.int .i64 0] := ElemOf.of (by kernel_rfl) rfl
theorem u3 : Tryd.prog.underlying 3 = some (.int .i64) := by kernel_rfl
theorem one4 : oneB Tryd.prog 4 = true := by kernel_rfl
theorem size4 : (Tryd.prog.info? 4).map (·.size) = some 1 := by kernel_rfl
theorem zero4 : ZeroOf Tryd.prog 4 [.bool false] := ZeroOf.of (by kernel_rfl)
theorem el4 : ElemOf Tryd.prog 4 1 1 [.bool false] := ElemOf.of (by kernel_rfl) rfl
theorem u4 : Tryd.prog.underlying 4 = some .bool := by kernel_rfl
theorem one5 : oneB Tryd.prog 5 = true := by kernel_rfl
theorem u5 : Tryd.prog.underlying 5 = some (.int .u8) := by kernel_rfl
theorem u6 : Tryd.prog.underlying 6 = some (.int .u8) := by kernel_rfl
theorem one9 : oneB Tryd.prog 9 = true := by kernel_rfl
theorem one22 : oneB Tryd.prog 22 = true := by kernel_rfl
theorem sl22 : isSlice Tryd.prog 22 55 5 := ⟨by kernel_rfl, by kernel_rfl⟩
theorem one23 : oneB Tryd.prog 23 = true := by kernel_rfl
theorem sl23 : isSlice Tryd.prog 23 3 1 := ⟨by kernel_rfl, by kernel_rfl⟩
theorem agg25 : aggB Tryd.prog 25 4 = true := by kernel_rfl
theorem size25 : (Tryd.prog.info? 25).map (·.size) = some 4 := by kernel_rfl
theorem zero25 : ZeroOf Tryd.prog 25 [.int .i64 0, .int .i64 0, .slice none 0 0, .slice none 0 0] := ZeroOf.of (by kernel_rfl)
theorem fa25_0 : FieldAt Tryd.prog 25 0 0 := fun _ _ _ => by kernel_rfl
theorem fa25_1 : FieldAt Tryd.prog 25 1 1 := fun _ _ _ => by kernel_rfl
theorem fa25_2 : FieldAt Tryd.prog 25 2 2 := fun _ _ _ => by kernel_rfl
theorem fa25_3 : FieldAt Tryd.prog 25 3 3 := fun _ _ _ => by kernel_rfl
theorem st25 : StructOf Tryd.prog 25 [(0, 1), (1, 1), (2, 1), (3, 1)] [.int .i64 0, .int .i64 0, .slice none 0 0, .slice none 0 0] := StructOf.of (Tryd.prog.fieldsOf 25) (by kernel_rfl) (by kernel_rfl) (by kernel_rfl)
theorem one26 : oneB Tryd.prog 26 = true := by kernel_rfl
theorem sl26 : isSlice Tryd.prog 26 2 1 := ⟨by kernel_rfl, by kernel_rfl⟩
theorem one31 : oneB Tryd.prog 31 = true := by kernel_rfl
theorem sl41 : isSlice Tryd.prog 41 26 1 := ⟨by kernel_rfl, by kernel_rfl⟩
theorem one42 : oneB Tryd.prog 42 = true := by kernel_rfl
theorem zero42 : ZeroOf Tryd.prog 42 [.slice none 0 0] := ZeroOf.of (by kernel_rfl)
theorem sl42 : isSlice Tryd.prog 42 80 1 := ⟨by kernel_rfl, by kernel_rfl⟩
theorem agg55 : aggB Tryd.prog 55 5 = true := by kernel_rfl
theorem size55 : (Tryd.prog.info? 55).map (·.size) = some 5 := by kernel_rfl
theorem zero55 : ZeroOf Tryd.prog 55 [.int .i64 0, .int .i64 0, .int .i64 0, .int .i64 0, .int .i64 0] := ZeroOf.of (by kernel_rfl)
theorem fa55_0 : FieldAt Tryd.prog 55 0 0 := fun _ _ _ => by kernel_rfl
theorem fa55_1 : FieldAt Tryd.prog 55 1 1 := fun _ _ _ => by kernel_rfl
theorem fa55_2 : FieldAt Tryd.prog 55 2 2 := fun _ _ _ => by kernel_rfl
theorem fa55_3 : FieldAt Tryd.prog 55 3 3 := fun _ _ _ => by kernel_rfl
theorem fa55_4 : FieldAt Tryd.prog 55 4 4 := fun _ _ _ => by kernel_rfl
theorem el55 : ElemOf Tryd.prog 55 5 40 [.int .i64 0, .int .i64 0, .int .i64 0, .int .i64 0, .int .i64 0] := ElemOf.of (by kernel_rfl) rfl
theorem st55 : StructOf Tryd.prog 55 [(0, 1), (1, 1), (2, 1), (3, 1), (4, 1)] [.int .i64 0, .int .i64 0, .int .i64 0, .int .i64 0, .int .i64 0] := StructOf.of (Tryd.prog.fieldsOf 55) (by kernel_rfl) (by kernel_rfl) (by kernel_rfl)
theorem ai55 : AllInt Tryd.prog 55 5 := ⟨by kernel_rfl, by kernel_rfl, by kernel_rfl, by kernel_rfl⟩
theorem one65 : oneB Tryd.prog 65 = true := by kernel_rfl
theorem sl65 : isSlice Tryd.prog 65 128 1 := ⟨by kernel_rfl, by kernel_rfl⟩
theorem one80 : oneB Tryd.prog 80 = true := by kernel_rfl
theorem size80 : (Tryd.prog.info? 80).map (·.size) = some 1 := by kernel_rfl
theorem sl80 : isSlice Tryd.prog 80 82 2 := ⟨by kernel_rfl, by kernel_rfl⟩
theorem el80 : ElemOf Tryd.prog 80 1 24 [.slice none 0 0] := ElemOf.of (by kernel_rfl) rfl
theorem agg82 : aggB Tryd.prog 82 2 = true := by kernel_rfl
theorem size82 : (Tryd.prog.info? 82).map (·.size) = some 2 := by kernel_rfl
theorem zero82 : ZeroOf Tryd.prog 82 [.bool false, .slice none 0 0] := ZeroOf.of (by kernel_rfl)
theorem fa82_0 : FieldAt Tryd.prog 82 0 0 := fun _ _ _ => by kernel_rfl
theorem fa82_1 : FieldAt Tryd.prog 82 1 1 := fun _ _ _ => by kernel_rfl
theorem el82 : ElemOf Tryd.prog 82 2 32 [.bool false, .slice none 0 0] := ElemOf.of (by kernel_rfl) rfl
theorem st82 : StructOf Tryd.prog 82 [(0, 1), (1, 1)] [.bool false, .slice none 0 0] := StructOf.of (Tryd.prog.fieldsOf 82) (by kernel_rfl) (by kernel_rfl) (by kernel_rfl)
theorem agg86 : aggB Tryd.prog 86 2 = true := by kernel_rfl
theorem size86 : (Tryd.prog.info? 86).map (·.size) = some 2 := by kernel_rfl
theorem zero86 : ZeroOf Tryd.prog 86 [.string ByteArray.empty, .nilFunc] := ZeroOf.of (by kernel_rfl)
theorem fa86_0 : FieldAt Tryd.prog 86 0 0 := fun _ _ _ => by kernel_rfl
theorem fa86_1 : FieldAt Tryd.prog 86 1 1 := fun _ _ _ => by kernel_rfl
theorem el86 : ElemOf Tryd.prog 86 2 24 [.string ByteArray.empty, .nilFunc] := ElemOf.of (by kernel_rfl) rfl
theorem st86 : StructOf Tryd.prog 86 [(0, 1), (1, 1)] [.string ByteArray.empty, .nilFunc] := StructOf.of (Tryd.prog.fieldsOf 86) (by kernel_rfl) (by kernel_rfl) (by kernel_rfl)
theorem sl87 : isSlice Tryd.prog 87 86 2 := ⟨by kernel_rfl, by kernel_rfl⟩
theorem one94 : oneB Tryd.prog 94 = true := by kernel_rfl
theorem one95 : oneB Tryd.prog 95 = true := by kernel_rfl
theorem zero95 : ZeroOf Tryd.prog 95 [.slice none 0 0] := ZeroOf.of (by kernel_rfl)
theorem sl95 : isSlice Tryd.prog 95 4 1 := ⟨by kernel_rfl, by kernel_rfl⟩
theorem fa97_0 : FieldAt Tryd.prog 97 0 0 := fun _ _ _ => by kernel_rfl
theorem fa97_1 : FieldAt Tryd.prog 97 1 1 := fun _ _ _ => by kernel_rfl
theorem st97 : StructOf Tryd.prog 97 [(0, 1), (1, 1)] [.map none, .slice none 0 0] := StructOf.of (Tryd.prog.fieldsOf 97) (by kernel_rfl) (by kernel_rfl) (by kernel_rfl)
theorem fa100_1 : FieldAt Tryd.prog 100 1 4 := fun _ _ _ => by kernel_rfl
theorem fa100_2 : FieldAt Tryd.prog 100 2 5 := fun _ _ _ => by kernel_rfl
theorem fa100_3 : FieldAt Tryd.prog 100 3 6 := fun _ _ _ => by kernel_rfl
theorem fa100_4 : FieldAt Tryd.prog 100 4 7 := fun _ _ _ => by kernel_rfl
theorem fa100_5 : FieldAt Tryd.prog 100 5 8 := fun _ _ _ => by kernel_rfl
theorem fa100_6 : FieldAt Tryd.prog 100 6 9 := fun _ _ _ => by kernel_rfl
theorem st100 : StructOf Tryd.prog 100 [(0, 4), (4, 1), (5, 1), (6, 1), (7, 1), (8, 1), (9, 1)] [.int .i64 0, .int .i64 0, .slice none 0 0, .slice none 0 0, .slice none 0 0, .slice none 0 0, .slice none 0 0, .slice none 0 0, .slice none 0 0, .slice none 0 0] := StructOf.of (Tryd.prog.fieldsOf 100) (by kernel_rfl) (by kernel_rfl) (by kernel_rfl)
theorem ar102 : ArrayOf Tryd.prog 102 2 1 [.int .i64 0, .int .i64 0] := ArrayOf.of 3 (by kernel_rfl) (by kernel_rfl) (by kernel_rfl)
theorem one108 : oneB Tryd.prog 108 = true := by kernel_rfl
theorem fa110_0 : FieldAt Tryd.prog 110 0 0 := fun _ _ _ => by kernel_rfl
theorem fa110_1 : FieldAt Tryd.prog 110 1 1 := fun _ _ _ => by kernel_rfl
theorem fa110_2 : FieldAt Tryd.prog 110 2 2 := fun _ _ _ => by kernel_rfl
theorem fa110_3 : FieldAt Tryd.prog 110 3 3 := fun _ _ _ => by kernel_rfl
theorem st110 : StructOf Tryd.prog 110 [(0, 1), (1, 1), (2, 1), (3, 1)] [.slice none 0 0, .map none, .map none, .int .i64 0] := StructOf.of (Tryd.prog.fieldsOf 110) (by kernel_rfl) (by kernel_rfl) (by kernel_rfl)
theorem u126 : Tryd.prog.underlying 126 = some (.int .u64) := by kernel_rfl
theorem one128 : oneB Tryd.prog 128 = true := by kernel_rfl
theorem size128 : (Tryd.prog.info? 128).map (·.size) = some 1 := by kernel_rfl
theorem el128 : ElemOf Tryd.prog 128 1 4 [.int .u32 0] := ElemOf.of (by kernel_rfl) rfl
theorem u128 : Tryd.prog.underlying 128 = some (.int .u32) := by kernel_rfl
theorem u129 : Tryd.prog.underlying 129 = some (.int .u64) := by kernel_rfl
theorem agg138 : aggB Tryd.prog 138 4 = true := by kernel_rfl
theorem size138 : (Tryd.prog.info? 138).map (·.size) = some 4 := by kernel_rfl
theorem zero138 : ZeroOf Tryd.prog 138 [.int .i64 0, .int .i64 0, .int .i64 0, .int .i64 0] := ZeroOf.of (by kernel_rfl)
theorem fa138_1 : FieldAt Tryd.prog 138 1 1 := fun _ _ _ => by kernel_rfl
theorem fa138_2 : FieldAt Tryd.prog 138 2 2 := fun _ _ _ => by kernel_rfl
theorem st138 : StructOf Tryd.prog 138 [(0, 1), (1, 1), (2, 1), (3, 1)] [.int .i64 0, .int .i64 0, .int .i64 0, .int .i64 0] := StructOf.of (Tryd.prog.fieldsOf 138) (by kernel_rfl) (by kernel_rfl) (by kernel_rfl)
theorem ai138 : AllInt Tryd.prog 138 4 := ⟨by kernel_rfl, by kernel_rfl, by kernel_rfl, by kernel_rfl⟩
theorem one155 : oneB Tryd.prog 155 = true := by kernel_rfl
theorem mp94 : MapT Tryd.prog 94 3 Int := ⟨⟨3, by kernel_rfl, fun _ => by kernel_rfl⟩, KeyT.int u3⟩
theorem mp108 : MapT Tryd.prog 108 138 K4 := ⟨⟨3, by kernel_rfl, fun _ => by kernel_rfl⟩, KeyT.k4 ai138⟩
theorem fn7 : isFn Tryd.prog 7 := ⟨Tryd.f7, Tryd.func7, rfl, by kernel_rfl⟩
theorem fn8 : isFn Tryd.prog 8 := ⟨Tryd.f8, Tryd.func8, rfl, by kernel_rfl⟩
theorem fn12 : isFn Tryd.prog 12 := ⟨Tryd.f12, Tryd.func12, rfl, by kernel_rfl⟩
theorem fn13 : isFn Tryd.prog 13 := ⟨Tryd.f13, Tryd.func13, rfl, by kernel_rfl⟩
theorem fn14 : isFn Tryd.prog 14 := ⟨Tryd.f14, Tryd.func14, rfl, by kernel_rfl⟩
theorem fn15 : isFn Tryd.prog 15 := ⟨Tryd.f15, Tryd.func15, rfl, by kernel_rfl⟩
theorem fn16 : isFn Tryd.prog 16 := ⟨Tryd.f16, Tryd.func16, rfl, by kernel_rfl⟩
theorem fn17 : isFn Tryd.prog 17 := ⟨Tryd.f17, Tryd.func17, rfl, by kernel_rfl⟩
theorem fn18 : isFn Tryd.prog 18 := ⟨Tryd.f18, Tryd.func18, rfl, by kernel_rfl⟩
theorem fn19 : isFn Tryd.prog 19 := ⟨Tryd.f19, Tryd.func19, rfl, by kernel_rfl⟩
theorem fn20 : isFn Tryd.prog 20 := ⟨Tryd.f20, Tryd.func20, rfl, by kernel_rfl⟩
theorem fn21 : isFn Tryd.prog 21 := ⟨Tryd.f21, Tryd.func21, rfl, by kernel_rfl⟩
theorem fn22 : isFn Tryd.prog 22 := ⟨Tryd.f22, Tryd.func22, rfl, by kernel_rfl⟩
theorem fn23 : isFn Tryd.prog 23 := ⟨Tryd.f23, Tryd.func23, rfl, by kernel_rfl⟩
theorem fn24 : isFn Tryd.prog 24 := ⟨Tryd.f24, Tryd.func24, rfl, by kernel_rfl⟩
theorem fn25 : isFn Tryd.prog 25 := ⟨Tryd.f25, Tryd.func25, rfl, by kernel_rfl⟩
theorem fn26 : isFn Tryd.prog 26 := ⟨Tryd.f26, Tryd.func26, rfl, by kernel_rfl⟩
theorem fn27 : isFn Tryd.prog 27 := ⟨Tryd.f27, Tryd.func27, rfl, by kernel_rfl⟩
theorem fn28 : isFn Tryd.prog 28 := ⟨Tryd.f28, Tryd.func28, rfl, by kernel_rfl⟩
theorem fn29 : isFn Tryd.prog 29 := ⟨Tryd.f29, Tryd.func29, rfl, by kernel_rfl⟩
theorem fn30 : isFn Tryd.prog 30 := ⟨Tryd.f30, Tryd.func30, rfl, by kernel_rfl⟩
theorem fn31 : isFn Tryd.prog 31 := ⟨Tryd.f31, Tryd.func31, rfl, by kernel_rfl⟩
theorem fn32 : isFn Tryd.prog 32 := ⟨Tryd.f32, Tryd.func32, rfl, by kernel_rfl⟩
theorem fn33 : isFn Tryd.prog 33 := ⟨Tryd.f33, Tryd.func33, rfl, by kernel_rfl⟩
theorem fn42 : isFn Tryd.prog 42 := ⟨Tryd.f42, Tryd.func42, rfl, by kernel_rfl⟩
theorem fn43 : isFn Tryd.prog 43 := ⟨Tryd.f43, Tryd.func43, rfl, by kernel_rfl⟩
theorem fn44 : isFn Tryd.prog 44 := ⟨Tryd.f44, Tryd.func44, rfl, by kernel_rfl⟩
theorem fn45 : isFn Tryd.prog 45 := ⟨Tryd.f45, Tryd.func45, rfl, by kernel_rfl⟩
theorem fn46 : isFn Tryd.prog 46 := ⟨Tryd.f46, Tryd.func46, rfl, by kernel_rfl⟩
theorem fn47 : isFn Tryd.prog 47 := ⟨Tryd.f47, Tryd.func47, rfl, by kernel_rfl⟩
theorem fn48 : isFn Tryd.prog 48 := ⟨Tryd.f48, Tryd.func48, rfl, by kernel_rfl⟩
theorem fn49 : isFn Tryd.prog 49 := ⟨Tryd.f49, Tryd.func49, rfl, by kernel_rfl⟩
theorem fn50 : isFn Tryd.prog 50 := ⟨Tryd.f50, Tryd.func50, rfl, by kernel_rfl⟩
theorem fn51 : isFn Tryd.prog 51 := ⟨Tryd.f51, Tryd.func51, rfl, by kernel_rfl⟩
theorem fn52 : isFn Tryd.prog 52 := ⟨Tryd.f52, Tryd.func52, rfl, by kernel_rfl⟩
theorem fn53 : isFn Tryd.prog 53 := ⟨Tryd.f53, Tryd.func53, rfl, by kernel_rfl⟩
theorem fn54 : isFn Tryd.prog 54 := ⟨Tryd.f54, Tryd.func54, rfl, by kernel_rfl⟩
theorem fn55 : isFn Tryd.prog 55 := ⟨Tryd.f55, Tryd.func55, rfl, by kernel_rfl⟩
theorem fn56 : isFn Tryd.prog 56 := ⟨Tryd.f56, Tryd.func56, rfl, by kernel_rfl⟩
theorem fn57 : isFn Tryd.prog 57 := ⟨Tryd.f57, Tryd.func57, rfl, by kernel_rfl⟩
theorem fn58 : isFn Tryd.prog 58 := ⟨Tryd.f58, Tryd.func58, rfl, by kernel_rfl⟩
theorem fn59 : isFn Tryd.prog 59 := ⟨Tryd.f59, Tryd.func59, rfl, by kernel_rfl⟩
theorem fn60 : isFn Tryd.prog 60 := ⟨Tryd.f60, Tryd.func60, rfl, by kernel_rfl⟩
theorem fn61 : isFn Tryd.prog 61 := ⟨Tryd.f61, Tryd.func61, rfl, by kernel_rfl⟩
theorem fn62 : isFn Tryd.prog 62 := ⟨Tryd.f62, Tryd.func62, rfl, by kernel_rfl⟩
theorem fn63 : isFn Tryd.prog 63 := ⟨Tryd.f63, Tryd.func63, rfl, by kernel_rfl⟩
theorem fn64 : isFn Tryd.prog 64 := ⟨Tryd.f64, Tryd.func64, rfl, by kernel_rfl⟩
theorem fn75 : isFn Tryd.prog 75 := ⟨Tryd.f75, Tryd.func75, rfl, by kernel_rfl⟩
theorem fn76 : isFn Tryd.prog 76 := ⟨Tryd.f76, Tryd.func76, rfl, by kernel_rfl⟩
theorem fn77 : isFn Tryd.prog 77 := ⟨Tryd.f77, Tryd.func77, rfl, by kernel_rfl⟩
theorem fn78 : isFn Tryd.prog 78 := ⟨Tryd.f78, Tryd.func78, rfl, by kernel_rfl⟩
theorem fn79 : isFn Tryd.prog 79 := ⟨Tryd.f79, Tryd.func79, rfl, by kernel_rfl⟩
theorem fn80 : isFn Tryd.prog 80 := ⟨Tryd.f80, Tryd.func80, rfl, by kernel_rfl⟩
theorem fn81 : isFn Tryd.prog 81 := ⟨Tryd.f81, Tryd.func81, rfl, by kernel_rfl⟩
theorem fn82 : isFn Tryd.prog 82 := ⟨Tryd.f82, Tryd.func82, rfl, by kernel_rfl⟩
theorem fn83 : isFn Tryd.prog 83 := ⟨Tryd.f83, Tryd.func83, rfl, by kernel_rfl⟩
theorem fn84 : isFn Tryd.prog 84 := ⟨Tryd.f84, Tryd.func84, rfl, by kernel_rfl⟩
theorem fn85 : isFn Tryd.prog 85 := ⟨Tryd.f85, Tryd.func85, rfl, by kernel_rfl⟩
theorem fn86 : isFn Tryd.prog 86 := ⟨Tryd.f86, Tryd.func86, rfl, by kernel_rfl⟩
theorem fn87 : isFn Tryd.prog 87 := ⟨Tryd.f87, Tryd.func87, rfl, by kernel_rfl⟩
theorem fn97 : isFn Tryd.prog 97 := ⟨Tryd.f97, Tryd.func97, rfl, by kernel_rfl⟩
theorem fn98 : isFn Tryd.prog 98 := ⟨Tryd.f98, Tryd.func98, rfl, by kernel_rfl⟩
theorem fn99 : isFn Tryd.prog 99 := ⟨Tryd.f99, Tryd.func99, rfl, by kernel_rfl⟩
theorem fn100 : isFn Tryd.prog 100 := ⟨Tryd.f100, Tryd.func100, rfl, by kernel_rfl⟩
theorem fn101 : isFn Tryd.prog 101 := ⟨Tryd.f101, Tryd.func101, rfl, by kernel_rfl⟩
theorem fn102 : isFn Tryd.prog 102 := ⟨Tryd.f102, Tryd.func102, rfl, by kernel_rfl⟩
theorem fn103 : isFn Tryd.prog 103 := ⟨Tryd.f103, Tryd.func103, rfl, by kernel_rfl⟩
theorem fn104 : isFn Tryd.prog 104 := ⟨Tryd.f104, Tryd.func104, rfl, by kernel_rfl⟩
theorem fn105 : isFn Tryd.prog 105 := ⟨Tryd.f105, Tryd.func105, rfl, by kernel_rfl⟩
theorem fn106 : isFn Tryd.prog 106 := ⟨Tryd.f106, Tryd.func106, rfl, by kernel_rfl⟩
theorem fn108 : isFn Tryd.prog 108 := ⟨Tryd.f108, Tryd.func108, rfl, by kernel_rfl⟩
theorem fn115 : isFn Tryd.prog 115 := ⟨Tryd.f115, Tryd.func115, rfl, by kernel_rfl⟩
theorem fn116 : isFn Tryd.prog 116 := ⟨Tryd.f116, Tryd.func116, rfl, by kernel_rfl⟩
theorem fn117 : isFn Tryd.prog 117 := ⟨Tryd.f117, Tryd.func117, rfl, by kernel_rfl⟩
theorem fn118 : isFn Tryd.prog 118 := ⟨Tryd.f118, Tryd.func118, rfl, by kernel_rfl⟩
theorem fn121 : isFn Tryd.prog 121 := ⟨Tryd.f121, Tryd.func121, rfl, by kernel_rfl⟩
theorem fn122 : isFn Tryd.prog 122 := ⟨Tryd.f122, Tryd.func122, rfl, by kernel_rfl⟩
theorem fn123 : isFn Tryd.prog 123 := ⟨Tryd.f123, Tryd.func123, rfl, by kernel_rfl⟩
theorem fn124 : isFn Tryd.prog 124 := ⟨Tryd.f124, Tryd.func124, rfl, by kernel_rfl⟩
theorem fn125 : isFn Tryd.prog 125 := ⟨Tryd.f125, Tryd.func125, rfl, by kernel_rfl⟩
theorem fn126 : isFn Tryd.prog 126 := ⟨Tryd.f126, Tryd.func126, rfl, by kernel_rfl⟩
theorem fn127 : isFn Tryd.prog 127 := ⟨Tryd.f127, Tryd.func127, rfl, by kernel_rfl⟩
theorem fn128 : isFn Tryd.prog 128 := ⟨Tryd.f128, Tryd.func128, rfl, by kernel_rfl⟩
theorem fn129 : isFn Tryd.prog 129 := ⟨Tryd.f129, Tryd.func129, rfl, by kernel_rfl⟩
theorem fn130 : isFn Tryd.prog 130 := ⟨Tryd.f130, Tryd.func130, rfl, by kernel_rfl⟩
theorem fn131 : isFn Tryd.prog 131 := ⟨Tryd.f131, Tryd.func131, rfl, by kernel_rfl⟩
theorem mixed : Tryd.prog.follows .mixedOrders = true := by kernel_rfl
end Go.Proofs.YtbppmiimeccclaaDoor.T
namespace Go.Proofs.YtbppmiimeccclaaDoor
open Go Go.Sl
set_option maxRecDepth 100000
theorem c63 (G : Imm) (op : Int) : Does Tryd.prog 63 [.int .i64 op] G [] (fun v G' Ho => v = .bool (decide (op = 3 ∨ op = 4)) ∧ G' = G ∧ Ho = []) := by
 refine Does.enter Tryd.func63 rfl Tryd.ntmps63 rfl (fun w => ?_)
 refine Wc.seq (Wc.region rfl (Wl.q rfl (Qy.assign rfl) (Wl.done (Ar.next (Wc.seq (Wc.region rfl (Wl.q rfl (Qy.move rfl) (Wl.q rfl (Qy.eql rfl rfl) (Wl.q rfl (Qy.move rfl) ?_)))))))))
 apply Wl.joinOr 3 5 8 rfl
 intro hg1
 refine Wl.want rfl rfl (Wl.q rfl (Qy.move rfl) (Wl.want rfl rfl (Wl.q rfl (Qy.eql rfl rfl) (Wl.q rfl (Qy.pick rfl rfl) ?_))))
 exact Wl.back 3 0 rfl rfl rfl rfl rfl
 intro hg1
 refine Wl.pass rfl rfl rfl (Wl.pass rfl rfl rfl (Wl.q rfl (Qy.pick rfl rfl) ?_))
 exact Wl.back 3 0 rfl rfl rfl rfl rfl
 refine Wl.q rfl (Qy.assign rfl) (Wl.done (Ar.next (Wc.ret ?_)))
 refine Ar.out1 (.inr rfl) (Ho := Hp.only _ []) rfl (.tmp rfl) (Hp.sub_only _ _) ?_
 exact ⟨by simp, rfl, rfl⟩
def constOk (op c : Int) : Bool :=
 if op = 5 ∨ op = 6 then decide (c ≠ 0 ∧ -512 ≤ c ∧ c ≤ 512) else if op = 7 ∨ op = 8 then decide (1 ≤ c ∧ c ≤ 64) else decide (c = 0)
theorem c64 (G : Imm) (i : Sl.Instr) : Does Tryd.prog 64 [.agg (Cells.enc i).toArray] G [] (fun v G' Ho => v = .bool (decide (constOk i.op i.c = true)) ∧ G' = G ∧ Ho = []) := by
 refine Does.enter Tryd.func64 rfl Tryd.ntmps64 rfl (fun w => ?_)
 refine Wc.seq (Wc.region rfl ?_)
 refine Wl.box 0 rfl rfl rfl (fun b1 => ?_)
 refine Wl.q rfl (Qy.assign rfl) (Wl.done (Ar.next (Wc.seq (Wc.seq (Wc.region rfl (Wl.q rfl (Qy.fieldAddr T.fa55_0 rfl) (Wl.q rfl (Qy.load 0 T.one3 rfl rfl rfl) (Wl.done (Ar.next (Wc.block (Wc.seq (Wc.seq (Wc.region rfl (Wl.q rfl (Qy.eql rfl rfl) (Wl.q rfl (Qy.assign rfl) ?_)))))))))))))))
 refine Wl.done (Ar.next ?_)
 refine Wc.cond rfl (fun hc1 => ?_) (fun hc1 => ?_)
 refine Wc.skip (Ar.next (Wc.condP rfl (by first | assumption | omega) ?_))
 refine Wc.seq (Wc.region rfl (Wl.q rfl (Qy.fieldAddr T.fa55_4 rfl) (Wl.q rfl (Qy.load 0 T.one3 rfl rfl rfl) (Wl.q rfl (Qy.neq rfl rfl) (Wl.q rfl (Qy.move rfl) ?_)))))
 apply Wl.joinAnd 4 11 15 rfl
 intro hg1
 refine Wl.want rfl rfl (Wl.q rfl (Qy.fieldAddr T.fa55_4 rfl) (Wl.want rfl rfl (Wl.q rfl (Qy.load 0 T.one3 rfl rfl rfl) (Wl.want rfl rfl (Wl.q rfl (Qy.geq rfl rfl) (Wl.q rfl (Qy.pick rfl rfl) ?_))))))
 exact Wl.back 4 0 rfl rfl rfl rfl rfl
 intro hg1
 refine Wl.pass rfl rfl rfl (Wl.pass rfl rfl rfl (Wl.pass rfl rfl rfl (Wl.q rfl (Qy.pick rfl rfl) ?_)))
 exact Wl.back 4 0 rfl rfl rfl rfl rfl
 refine Wl.q rfl (Qy.move rfl) ?_
 apply Wl.joinAnd 4 16 20 rfl
 intro hg1
 refine Wl.want rfl rfl (Wl.q rfl (Qy.fieldAddr T.fa55_4 rfl) (Wl.want rfl rfl (Wl.q rfl (Qy.load 0 T.one3 rfl rfl rfl) (Wl.want rfl rfl (Wl.q rfl (Qy.leq rfl rfl) (Wl.q rfl (Qy.pick rfl rfl) ?_))))))
 exact Wl.back 4 0 rfl rfl rfl rfl rfl
 intro hg1
 refine Wl.pass rfl rfl rfl (Wl.pass rfl rfl rfl (Wl.pass rfl rfl rfl (Wl.q rfl (Qy.pick rfl rfl) ?_)))
 exact Wl.back 4 0 rfl rfl rfl rfl rfl
 refine Wl.q rfl (Qy.assign rfl) (Wl.done (Ar.next (Wc.ret ?_)))
 refine Ar.outRet ?_
 refine Ar.passRet ?_
 refine Ar.out1 (.inr rfl) (Ho := Hp.only _ []) rfl (.tmp rfl) (Hp.sub_only _ _) ?_
 rotate_left
 refine Wc.region rfl (Wl.q rfl (Qy.eql rfl rfl) (Wl.q rfl (Qy.assign rfl) (Wl.done (Ar.next ?_))))
 refine Wc.cond rfl (fun hc2 => ?_) (fun hc2 => ?_)
 refine Wc.seq (Wc.region rfl (Wl.q rfl (Qy.fieldAddr T.fa55_4 rfl) (Wl.q rfl (Qy.load 0 T.one3 rfl rfl rfl) (Wl.q rfl (Qy.neq rfl rfl) (Wl.q rfl (Qy.move rfl) ?_)))))
 apply Wl.joinAnd 4 11 15 rfl
 intro hg1
 refine Wl.want rfl rfl (Wl.q rfl (Qy.fieldAddr T.fa55_4 rfl) (Wl.want rfl rfl (Wl.q rfl (Qy.load 0 T.one3 rfl rfl rfl) (Wl.want rfl rfl (Wl.q rfl (Qy.geq rfl rfl) (Wl.q rfl (Qy.pick rfl rfl) ?_))))))
 exact Wl.back 4 0 rfl rfl rfl rfl rfl
 intro hg1
 refine Wl.pass rfl rfl rfl (Wl.pass rfl rfl rfl (Wl.pass rfl rfl rfl (Wl.q rfl (Qy.pick rfl rfl) ?_)))
 exact Wl.back 4 0 rfl rfl rfl rfl rfl
 refine Wl.q rfl (Qy.move rfl) ?_
 apply Wl.joinAnd 4 16 20 rfl
 intro hg1
 refine Wl.want rfl rfl (Wl.q rfl (Qy.fieldAddr T.fa55_4 rfl) (Wl.want rfl rfl (Wl.q rfl (Qy.load 0 T.one3 rfl rfl rfl) (Wl.want rfl rfl (Wl.q rfl (Qy.leq rfl rfl) (Wl.q rfl (Qy.pick rfl rfl) ?_))))))
 exact Wl.back 4 0 rfl rfl rfl rfl rfl
 intro hg1
 refine Wl.pass rfl rfl rfl (Wl.pass rfl rfl rfl (Wl.pass rfl rfl rfl (Wl.q rfl (Qy.pick rfl rfl) ?_)))
 exact Wl.back 4 0 rfl rfl rfl rfl rfl
 refine Wl.q rfl (Qy.assign rfl) (Wl.done (Ar.next (Wc.ret ?_)))
 refine Ar.outRet ?_
 refine Ar.passRet ?_
 refine Ar.out1 (.inr rfl) (Ho := Hp.only _ []) rfl (.tmp rfl) (Hp.sub_only _ _) ?_
 rotate_left
 refine Wc.seq (Wc.seq (Wc.region rfl (Wl.q rfl (Qy.eql rfl rfl) (Wl.q rfl (Qy.assign rfl) (Wl.done (Ar.next ?_))))))
 refine Wc.cond rfl (fun hc3 => ?_) (fun hc3 => ?_)
 refine Wc.skip (Ar.next (Wc.condP rfl (by first | assumption | omega) ?_))
 refine Wc.seq (Wc.region rfl (Wl.q rfl (Qy.fieldAddr T.fa55_4 rfl) (Wl.q rfl (Qy.load 0 T.one3 rfl rfl rfl) (Wl.q rfl (Qy.geq rfl rfl) (Wl.q rfl (Qy.move rfl) ?_)))))
 apply Wl.joinAnd 4 27 31 rfl
 intro hg1
 refine Wl.want rfl rfl (Wl.q rfl (Qy.fieldAddr T.fa55_4 rfl) (Wl.want rfl rfl (Wl.q rfl (Qy.load 0 T.one3 rfl rfl rfl) (Wl.want rfl rfl (Wl.q rfl (Qy.leq rfl rfl) (Wl.q rfl (Qy.pick rfl rfl) ?_))))))
 exact Wl.back 4 0 rfl rfl rfl rfl rfl
 intro hg1
 refine Wl.pass rfl rfl rfl (Wl.pass rfl rfl rfl (Wl.pass rfl rfl rfl (Wl.q rfl (Qy.pick rfl rfl) ?_)))
 exact Wl.back 4 0 rfl rfl rfl rfl rfl
 refine Wl.q rfl (Qy.assign rfl) (Wl.done (Ar.next (Wc.ret ?_)))
 refine Ar.outRet ?_
 refine Ar.passRet ?_
 refine Ar.out1 (.inr rfl) (Ho := Hp.only _ []) rfl (.tmp rfl) (Hp.sub_only _ _) ?_
 rotate_left
 refine Wc.region rfl (Wl.q rfl (Qy.eql rfl rfl) (Wl.q rfl (Qy.assign rfl) (Wl.done (Ar.next ?_))))
 refine Wc.cond rfl (fun hc4 => ?_) (fun hc4 => ?_)
 refine Wc.seq (Wc.region rfl (Wl.q rfl (Qy.fieldAddr T.fa55_4 rfl) (Wl.q rfl (Qy.load 0 T.one3 rfl rfl rfl) (Wl.q rfl (Qy.geq rfl rfl) (Wl.q rfl (Qy.move rfl) ?_)))))
 apply Wl.joinAnd 4 27 31 rfl
 intro hg1
 refine Wl.want rfl rfl (Wl.q rfl (Qy.fieldAddr T.fa55_4 rfl) (Wl.want rfl rfl (Wl.q rfl (Qy.load 0 T.one3 rfl rfl rfl) (Wl.want rfl rfl (Wl.q rfl (Qy.leq rfl rfl) (Wl.q rfl (Qy.pick rfl rfl) ?_))))))
 exact Wl.back 4 0 rfl rfl rfl rfl rfl
 intro hg1
 refine Wl.pass rfl rfl rfl (Wl.pass rfl rfl rfl (Wl.pass rfl rfl rfl (Wl.q rfl (Qy.pick rfl rfl) ?_)))
 exact Wl.back 4 0 rfl rfl rfl rfl rfl
 refine Wl.q rfl (Qy.assign rfl) (Wl.done (Ar.next (Wc.ret ?_)))
 refine Ar.outRet ?_
 refine Ar.passRet ?_
 refine Ar.out1 (.inr rfl) (Ho := Hp.only _ []) rfl (.tmp rfl) (Hp.sub_only _ _) ?_
 rotate_left
 refine Wc.skip ?_
 refine Ar.outNormal ?_
 refine Ar.next (Wc.seq (Wc.region rfl (Wl.q rfl (Qy.fieldAddr T.fa55_4 rfl) (Wl.q rfl (Qy.load 0 T.one3 rfl rfl rfl) (Wl.q rfl (Qy.eql rfl rfl) (Wl.q rfl (Qy.assign rfl) (Wl.done (Ar.next (Wc.ret ?_)))))))))
 refine Ar.out1 (.inr rfl) (Ho := Hp.only _ []) rfl (.tmp rfl) (Hp.sub_only _ _) ?_
 rotate_left
 all_goals refine ⟨?_, rfl, rfl⟩
 all_goals simp [constOk, *]
 all_goals first | (split <;> first | rfl | omega) | omega | (simp only [Bool.and_assoc]; rfl) | (simp only [Bool.and_assoc]) | skip
def asks (i : Sl.Instr) : List Int := if i.op = 3 ∨ i.op = 4 then [i.a, i.b] else if 1 ≤ i.op ∧ i.op ≤ 8 then [i.a] else []
theorem c49 (G : Imm) (i : Sl.Instr) : Does Tryd.prog 49 [.agg (Cells.enc i).toArray] G [] (fun v G' Ho => ∃ a c junk, v = .slice a (asks i).length c ∧ OwnA a c (asks i) junk ∧ Ho = [(1, a.map (·.block), Row 3 (asks i) junk)] ∧ G' = G) := by
 refine Does.enter Tryd.func49 rfl Tryd.ntmps49 rfl (fun w => ?_)
 refine Wc.seq (Wc.region rfl ?_)
 refine Wl.box 0 rfl rfl rfl (fun b1 => ?_)
 refine Wl.q rfl (Qy.assign rfl) (Wl.done (Ar.next (Wc.seq (Wc.seq (Wc.region rfl (Wl.q rfl (Qy.fieldAddr T.fa55_0 rfl) (Wl.q rfl (Qy.load 0 T.one3 rfl rfl rfl) (Wl.done (Ar.next (Wc.block (Wc.seq (Wc.seq (Wc.region rfl (Wl.q rfl (Qy.eql rfl rfl) (Wl.q rfl (Qy.assign rfl) ?_)))))))))))))))
 refine Wl.done (Ar.next ?_)
 refine Wc.cond rfl (fun hc1 => ?_) (fun hc1 => ?_)
 refine Wc.skip (Ar.next (Wc.condP rfl (by first | assumption | omega) ?_))
 refine Wc.seq (Wc.region rfl (Wl.q rfl (Qy.fieldAddr T.fa55_2 rfl) (Wl.q rfl (Qy.load 0 T.one3 rfl rfl rfl) (Wl.q rfl (Qy.fieldAddr T.fa55_3 rfl) (Wl.q rfl (Qy.load 0 T.one3 rfl rfl rfl) ?_)))))
 refine Wl.lit (α := Int) 1 [(Go.Sl.Instr.a i), (Go.Sl.Instr.b i)] rfl T.sl23 T.el3 rfl rfl rfl rfl rfl (fun b2 => ?_)
 refine Wl.q rfl (Qy.assign rfl) (Wl.done (Ar.next (Wc.ret ?_)))
 refine Ar.outRet ?_
 refine Ar.passRet ?_
 rotate_left
 refine Wc.region rfl (Wl.q rfl (Qy.eql rfl rfl) (Wl.q rfl (Qy.assign rfl) (Wl.done (Ar.next ?_))))
 refine Wc.cond rfl (fun hc2 => ?_) (fun hc2 => ?_)
 refine Wc.seq (Wc.region rfl (Wl.q rfl (Qy.fieldAddr T.fa55_2 rfl) (Wl.q rfl (Qy.load 0 T.one3 rfl rfl rfl) (Wl.q rfl (Qy.fieldAddr T.fa55_3 rfl) (Wl.q rfl (Qy.load 0 T.one3 rfl rfl rfl) ?_)))))
 refine Wl.lit (α := Int) 1 [(Go.Sl.Instr.a i), (Go.Sl.Instr.b i)] rfl T.sl23 T.el3 rfl rfl rfl rfl rfl (fun b2 => ?_)
 refine Wl.q rfl (Qy.assign rfl) (Wl.done (Ar.next (Wc.ret ?_)))
 refine Ar.outRet ?_
 refine Ar.passRet ?_
 rotate_left
 refine Wc.seq (Wc.seq (Wc.region rfl (Wl.q rfl (Qy.eql rfl rfl) (Wl.q rfl (Qy.assign rfl) (Wl.done (Ar.next ?_))))))
 refine Wc.cond rfl (fun hc3 => ?_) (fun hc3 => ?_)
 refine Wc.skip (Ar.next (Wc.condP rfl (by first | assumption | omega) ?_))
 refine Wc.seq (Wc.region rfl (Wl.q rfl (Qy.fieldAddr T.fa55_2 rfl) (Wl.q rfl (Qy.load 0 T.one3 rfl rfl rfl) ?_)))
 refine Wl.lit (α := Int) 1 [(Go.Sl.Instr.a i)] rfl T.sl23 T.el3 rfl rfl rfl rfl rfl (fun b2 => ?_)
 refine Wl.q rfl (Qy.assign rfl) (Wl.done (Ar.next (Wc.ret ?_)))
 refine Ar.outRet ?_
 refine Ar.passRet ?_
 rotate_left
 refine Wc.seq (Wc.region rfl (Wl.q rfl (Qy.eql rfl rfl) (Wl.q rfl (Qy.assign rfl) (Wl.done (Ar.next ?_)))))
 refine Wc.cond rfl (fun hc4 => ?_) (fun hc4 => ?_)
 refine Wc.skip (Ar.next (Wc.condP rfl (by first | assumption | omega) ?_))
 refine Wc.seq (Wc.region rfl (Wl.q rfl (Qy.fieldAddr T.fa55_2 rfl) (Wl.q rfl (Qy.load 0 T.one3 rfl rfl rfl) ?_)))
 refine Wl.lit (α := Int) 1 [(Go.Sl.Instr.a i)] rfl T.sl23 T.el3 rfl rfl rfl rfl rfl (fun b2 => ?_)
 refine Wl.q rfl (Qy.assign rfl) (Wl.done (Ar.next (Wc.ret ?_)))
 refine Ar.outRet ?_
 refine Ar.passRet ?_
 rotate_left
 refine Wc.seq (Wc.region rfl (Wl.q rfl (Qy.eql rfl rfl) (Wl.q rfl (Qy.assign rfl) (Wl.done (Ar.next ?_)))))
 refine Wc.cond rfl (fun hc5 => ?_) (fun hc5 => ?_)
 refine Wc.skip (Ar.next (Wc.condP rfl (by first | assumption | omega) ?_))
 refine Wc.seq (Wc.region rfl (Wl.q rfl (Qy.fieldAddr T.fa55_2 rfl) (Wl.q rfl (Qy.load 0 T.one3 rfl rfl rfl) ?_)))
 refine Wl.lit (α := Int) 1 [(Go.Sl.Instr.a i)] rfl T.sl23 T.el3 rfl rfl rfl rfl rfl (fun b2 => ?_)
 refine Wl.q rfl (Qy.assign rfl) (Wl.done (Ar.next (Wc.ret ?_)))
 refine Ar.outRet ?_
 refine Ar.passRet ?_
 rotate_left
 refine Wc.seq (Wc.region rfl (Wl.q rfl (Qy.eql rfl rfl) (Wl.q rfl (Qy.assign rfl) (Wl.done (Ar.next ?_)))))
 refine Wc.cond rfl (fun hc6 => ?_) (fun hc6 => ?_)
 refine Wc.skip (Ar.next (Wc.condP rfl (by first | assumption | omega) ?_))
 refine Wc.seq (Wc.region rfl (Wl.q rfl (Qy.fieldAddr T.fa55_2 rfl) (Wl.q rfl (Qy.load 0 T.one3 rfl rfl rfl) ?_)))
 refine Wl.lit (α := Int) 1 [(Go.Sl.Instr.a i)] rfl T.sl23 T.el3 rfl rfl rfl rfl rfl (fun b2 => ?_)
 refine Wl.q rfl (Qy.assign rfl) (Wl.done (Ar.next (Wc.ret ?_)))
 refine Ar.outRet ?_
 refine Ar.passRet ?_
 rotate_left
 refine Wc.seq (Wc.region rfl (Wl.q rfl (Qy.eql rfl rfl) (Wl.q rfl (Qy.assign rfl) (Wl.done (Ar.next ?_)))))
 refine Wc.cond rfl (fun hc7 => ?_) (fun hc7 => ?_)
 refine Wc.skip (Ar.next (Wc.condP rfl (by first | assumption | omega) ?_))
 refine Wc.seq (Wc.region rfl (Wl.q rfl (Qy.fieldAddr T.fa55_2 rfl) (Wl.q rfl (Qy.load 0 T.one3 rfl rfl rfl) ?_)))
 refine Wl.lit (α := Int) 1 [(Go.Sl.Instr.a i)] rfl T.sl23 T.el3 rfl rfl rfl rfl rfl (fun b2 => ?_)
 refine Wl.q rfl (Qy.assign rfl) (Wl.done (Ar.next (Wc.ret ?_)))
 refine Ar.outRet ?_
 refine Ar.passRet ?_
 rotate_left
 refine Wc.region rfl (Wl.q rfl (Qy.eql rfl rfl) (Wl.q rfl (Qy.assign rfl) (Wl.done (Ar.next ?_))))
 refine Wc.cond rfl (fun hc8 => ?_) (fun hc8 => ?_)
 refine Wc.seq (Wc.region rfl (Wl.q rfl (Qy.fieldAddr T.fa55_2 rfl) (Wl.q rfl (Qy.load 0 T.one3 rfl rfl rfl) ?_)))
 refine Wl.lit (α := Int) 1 [(Go.Sl.Instr.a i)] rfl T.sl23 T.el3 rfl rfl rfl rfl rfl (fun b2 => ?_)
 refine Wl.q rfl (Qy.assign rfl) (Wl.done (Ar.next (Wc.ret ?_)))
 refine Ar.outRet ?_
 refine Ar.passRet ?_
 rotate_left
 refine Wc.skip ?_
 refine Ar.outNormal ?_
 refine Ar.next (Wc.seq (Wc.region rfl (Wl.q rfl (Qy.assign rfl) (Wl.done (Ar.next (Wc.ret ?_))))))
 rotate_left
 rotate_right
 · have h : asks i = [] := by unfold asks; rw [if_neg (by omega), if_neg (by omega)]
   refine Ar.nilRow 1 (Row 3 ([] : List Int) []) ?_
   refine Ar.out1 (.inr rfl) (Ho := Hp.only _ [1]) rfl (.tmp rfl) (Hp.sub_only _ _) ?_
   rw [h]; exact ⟨_, _, _, rfl, OwnA.nil, rfl, rfl⟩
 all_goals first | refine Ar.out1 (.inr rfl) (Ho := Hp.only _ [1]) rfl (.tmp rfl) (Hp.sub_only _ _) ?_
 all_goals first
  | (have h : asks i = [i.a, i.b] := by unfold asks; rw [if_pos (by omega)]
     rw [h]; exact ⟨_, _, _, rfl, OwnA.made (by simp [maxLen]), rfl, rfl⟩)
  | (have h : asks i = [i.a] := by unfold asks; rw [if_neg (by omega), if_pos (by omega)]
     rw [h]; exact ⟨_, _, _, rfl, OwnA.made (by simp [maxLen]), rfl, rfl⟩)
  | skip
def mayOk (i : Sl.Instr) (regs : Int) : Bool :=
 decide (1 ≤ i.op ∧ i.op ≤ 8 ∧ 0 ≤ i.to ∧ i.to < regs ∧ (i.op = 3 ∨ i.op = 4 ∨ i.b = 0)) && constOk i.op i.c && (asks i).all fun r => decide (0 ≤ r ∧ r < regs)
theorem all_step {α : Type} [Inhabited α] (p : α → Bool) {l : List α} {k : Nat} (h : k < l.length) : (l.take (k + 1)).all p = ((l.take k).all p && p (l[((k : Nat) : Int).toNat]?.getD default)) := by
 have : l.take (k + 1) = l.take k ++ [l[((k : Nat) : Int).toNat]?.getD default] := by
  rw [List.take_add_one, Int.toNat_natCast, List.getElem?_eq_getElem h]; rfl
 rw [this, List.all_append]; simp
theorem c33 (G : Imm) (i : Sl.Instr) (regs : Int) : Does Tryd.prog 33 [.agg (Cells.enc i).toArray, .int .i64 regs] G [] (fun v G' Ho => v = .bool (decide (mayOk i regs = true)) ∧ G' = G ∧ Ho = []) := by
 refine Does.enter Tryd.func33 rfl Tryd.ntmps33 rfl (fun w => ?_)
 refine Wc.seq (Wc.region rfl ?_)
 refine Wl.box 0 rfl rfl rfl (fun b1 => ?_)
 refine Wl.q rfl (Qy.assign rfl) (Wl.done (Ar.next (Wc.seq (Wc.seq (Wc.region rfl (Wl.q rfl (Qy.fieldAddr T.fa55_0 rfl) (Wl.q rfl (Qy.load 0 T.one3 rfl rfl rfl) (Wl.q rfl (Qy.lss rfl rfl) (Wl.q rfl (Qy.move rfl) ?_)))))))))
 apply Wl.joinOr 4 10 14 rfl
 intro hg1
 refine Wl.want rfl rfl (Wl.q rfl (Qy.fieldAddr T.fa55_0 rfl) (Wl.want rfl rfl (Wl.q rfl (Qy.load 0 T.one3 rfl rfl rfl) (Wl.want rfl rfl (Wl.q rfl (Qy.gtr rfl rfl) (Wl.q rfl (Qy.pick rfl rfl) ?_))))))
 exact Wl.back 4 0 rfl rfl rfl rfl rfl
 intro hg1
 refine Wl.pass rfl rfl rfl (Wl.pass rfl rfl rfl (Wl.pass rfl rfl rfl (Wl.q rfl (Qy.pick rfl rfl) ?_)))
 exact Wl.back 4 0 rfl rfl rfl rfl rfl
 refine Wl.q rfl (Qy.move rfl) ?_
 apply Wl.joinOr 4 15 19 rfl
 intro hg1
 refine Wl.want rfl rfl (Wl.q rfl (Qy.fieldAddr T.fa55_1 rfl) (Wl.want rfl rfl (Wl.q rfl (Qy.load 0 T.one3 rfl rfl rfl) (Wl.want rfl rfl (Wl.q rfl (Qy.lss rfl rfl) (Wl.q rfl (Qy.pick rfl rfl) ?_))))))
 exact Wl.back 4 0 rfl rfl rfl rfl rfl
 intro hg1
 refine Wl.pass rfl rfl rfl (Wl.pass rfl rfl rfl (Wl.pass rfl rfl rfl (Wl.q rfl (Qy.pick rfl rfl) ?_)))
 exact Wl.back 4 0 rfl rfl rfl rfl rfl
 refine Wl.q rfl (Qy.move rfl) ?_
 apply Wl.joinOr 5 20 25 rfl
 intro hg1
 refine Wl.want rfl rfl (Wl.q rfl (Qy.fieldAddr T.fa55_1 rfl) (Wl.want rfl rfl (Wl.q rfl (Qy.load 0 T.one3 rfl rfl rfl) (Wl.want rfl rfl (Wl.q rfl (Qy.move rfl) (Wl.want rfl rfl (Wl.q rfl (Qy.geq rfl rfl) (Wl.q rfl (Qy.pick rfl rfl) ?_))))))))
 exact Wl.back 5 0 rfl rfl rfl rfl rfl
 intro hg1
 refine Wl.pass rfl rfl rfl (Wl.pass rfl rfl rfl (Wl.pass rfl rfl rfl (Wl.pass rfl rfl rfl (Wl.q rfl (Qy.pick rfl rfl) ?_))))
 exact Wl.back 5 0 rfl rfl rfl rfl rfl
 refine Wl.q rfl (Qy.move rfl) ?_
 apply Wl.joinOr 10 26 36 rfl
 intro hg1
 refine Wl.want rfl rfl (Wl.q rfl (Qy.fieldAddr T.fa55_0 rfl) (Wl.want rfl rfl (Wl.q rfl (Qy.load 0 T.one3 rfl rfl rfl) (Wl.want rfl rfl ?_))))
 refine Wl.call0 rfl T.fn63 rfl (c63 _ _) ?_
 refine Wl.want rfl rfl (Wl.q rfl (Qy.notD rfl) (Wl.want rfl rfl (Wl.q rfl (Qy.move rfl) ?_)))
 apply Wl.joinAnd 4 31 35 rfl
 intro hg1
 refine Wl.want rfl rfl (Wl.q rfl (Qy.fieldAddr T.fa55_3 rfl) (Wl.want rfl rfl (Wl.q rfl (Qy.load 0 T.one3 rfl rfl rfl) (Wl.want rfl rfl (Wl.q rfl (Qy.neq rfl rfl) (Wl.want rfl rfl (Wl.q rfl (Qy.pick rfl rfl) ?_)))))))
 exact Wl.back 4 0 rfl rfl rfl rfl rfl
 intro hg1
 refine Wl.pass rfl rfl rfl (Wl.pass rfl rfl rfl (Wl.pass rfl rfl rfl (Wl.want rfl rfl (Wl.q rfl (Qy.pick rfl rfl) ?_))))
 exact Wl.back 4 0 rfl rfl rfl rfl rfl
 refine Wl.q rfl (Qy.pick rfl rfl) ?_
 exact Wl.back 7 0 rfl rfl rfl rfl rfl
 intro hg1
 refine Wl.pass rfl rfl rfl (Wl.pass rfl rfl rfl (Wl.pass rfl rfl rfl (Wl.pass rfl rfl rfl (Wl.pass rfl rfl rfl (Wl.passU rfl rfl rfl (Wl.passU rfl rfl rfl (Wl.passU rfl rfl rfl (Wl.pass rfl rfl rfl (Wl.q rfl (Qy.pick rfl rfl) ?_)))))))))
 exact Wl.back 10 0 rfl rfl rfl rfl rfl
 refine Wl.q rfl (Qy.move rfl) ?_
 apply Wl.joinOr 4 37 41 rfl
 intro hg1
 refine Wl.want rfl rfl (Wl.q rfl (Qy.loadAll 0 T.agg55 rfl rfl rfl) (Wl.want rfl rfl ?_))
 refine Wl.call0 rfl T.fn64 rfl (c64 _ _) ?_
 refine Wl.want rfl rfl (Wl.q rfl (Qy.notD rfl) (Wl.q rfl (Qy.pick rfl rfl) ?_))
 exact Wl.back 4 0 rfl rfl rfl rfl rfl
 intro hg1
 refine Wl.pass rfl rfl rfl (Wl.pass rfl rfl rfl (Wl.pass rfl rfl rfl (Wl.q rfl (Qy.pick rfl rfl) ?_)))
 exact Wl.back 4 0 rfl rfl rfl rfl rfl
 refine Wl.done (Ar.next ?_)
 refine Wc.cond rfl (fun hc1 => ?_) (fun hc1 => ?_)
 refine Wc.seq (Wc.region rfl (Wl.q rfl (Qy.assign rfl) (Wl.done (Ar.next (Wc.ret (Ar.passRet ?_))))))
 refine Ar.out1 (.inr rfl) (Ho := Hp.only _ []) rfl (.tmp rfl) (Hp.sub_only _ _) ?_
 rotate_left
 refine Wc.skip (Ar.next (Wc.seq (Wc.seq (Wc.region rfl (Wl.q rfl (Qy.loadAll 0 T.agg55 rfl rfl rfl) ?_)))))
 refine Wl.call 1 rfl T.fn49 rfl (c49 _ _) (tags_of trivial) (fun v1 G1 Ho1 hle1 hp => ?_)
 obtain ⟨ad1, cd1, junk1, rfl, hoa1, rfl, rfl⟩ := hp
 refine Wl.q rfl (Qy.len T.sl23 rfl) (Wl.q rfl (Qy.move rfl) (Wl.done (Ar.next (Wc.block ?_))))
 rotate_left
 · refine ⟨?_, rfl, rfl⟩
   have : mayOk i regs = false := by
    unfold mayOk
    rcases hc1 with ((((h | h) | h) | h) | h) | h
    all_goals first | (rw [decide_eq_false (by omega)]; rfl) | simp [h]
   simp [this]
 · have hasks : (asks i).length ≤ 2 := by unfold asks; split <;> (try split) <;> simp
   refine Wc.loop (ι := Nat) (fun k => ([(45, .int .i64 (k : Int)), (44, Go.Value.int Go.IntKind.i64 (↑(List.length (asks i)) : Int)), (43, Go.Value.slice ad1 (List.length (asks i)) cd1), (1, Go.Value.int Go.IntKind.i64 regs)], [(2, Option.map (fun x => Go.Addr.block x) ad1, Go.Sl.Row (α := Int) 3 (asks i) (junk1)), (0, Option.some b1, Go.Obj.cells (List.toArray (Go.Sl.Cells.enc i)) 55)])) (fun k => k ≤ (asks i).length ∧ ((asks i).take k).all (fun r => decide (0 ≤ r ∧ r < regs)) = true) (fun k => (asks i).length - k) (0) (⟨Nat.zero_le _, rfl⟩) ⟨rfl, rfl, rfl, rfl, trivial⟩ ⟨rfl, rfl, trivial⟩ (fun k => fun (hk : k ≤ (asks i).length ∧ ((asks i).take k).all (fun r => decide (0 ≤ r ∧ r < regs)) = true) => ?_)
   obtain ⟨hk1, hk2⟩ := hk
   refine Wc.seq (Wc.region rfl (Wl.q rfl (Qy.lss rfl rfl) (Wl.done (Ar.next (Wc.seq ?_)))))
   refine Wc.cond rfl (fun hc2 => ?_) (fun hc2 => ?_)
   refine Wc.skip (Ar.next (Wc.seq (Wc.block (Wc.seq (Wc.region rfl (Wl.q rfl (Qy.indexAddrO (α := Int) T.sl23 rfl rfl (by assumption) (by omega)) ?_))))))
   refine Wl.q rfl (Qy.loadO 2 0 T.one3 rfl rfl (by assumption) (by omega) rfl rfl) ?_
   refine Wl.q rfl (Qy.assign rfl) (Wl.done (Ar.next (Wc.seq (Wc.region rfl (Wl.q rfl (Qy.move rfl) (Wl.q rfl (Qy.lss rfl rfl) (Wl.q rfl (Qy.move rfl) ?_)))))))
   apply Wl.joinOr 4 51 55 rfl
   intro hg1
   refine Wl.want rfl rfl (Wl.q rfl (Qy.move rfl) (Wl.want rfl rfl (Wl.q rfl (Qy.move rfl) (Wl.want rfl rfl (Wl.q rfl (Qy.geq rfl rfl) (Wl.q rfl (Qy.pick rfl rfl) ?_))))))
   exact Wl.back 4 0 rfl rfl rfl rfl rfl
   intro hg1
   refine Wl.pass rfl rfl rfl (Wl.pass rfl rfl rfl (Wl.pass rfl rfl rfl (Wl.q rfl (Qy.pick rfl rfl) ?_)))
   exact Wl.back 4 0 rfl rfl rfl rfl rfl
   refine Wl.done (Ar.next ?_)
   refine Wc.cond rfl (fun hc3 => ?_) (fun hc3 => ?_)
   refine Wc.seq (Wc.region rfl (Wl.q rfl (Qy.assign rfl) (Wl.done (Ar.next (Wc.ret ?_)))))
   refine Ar.outRet ?_
   refine Ar.passRet ?_
   refine Ar.passRet ?_
   refine Ar.outRet ?_
   refine Ar.passRet ?_
   refine Ar.out1 (.inr rfl) (Ho := Hp.only _ []) rfl (.tmp rfl) (Hp.sub_only _ _) ?_
   rotate_left
   refine Wc.skip ?_
   refine Ar.outNormal ?_
   refine Ar.next (Wc.region rfl (Wl.q rfl (Qy.add rfl rfl (by omega)) ?_))
   refine Wl.q rfl (Qy.move rfl) (Wl.done ?_)
   rotate_left
   refine Wc.exit (Ar.passExit ?_)
   refine Ar.passExit ?_
   refine Ar.here ?_
   refine Ar.next (Wc.seq (Wc.region rfl (Wl.q rfl (Qy.assign rfl) (Wl.done (Ar.next (Wc.ret ?_))))))
   refine Ar.out1 (.inr rfl) (Ho := Hp.only _ []) rfl (.tmp rfl) (Hp.sub_only _ _) ?_
   rotate_left
   · refine ⟨?_, rfl, rfl⟩
     have hl : k < (asks i).length := by omega
     have hx : (asks i)[((k : Nat) : Int).toNat]?.getD default ∈ asks i := by rw [Int.toNat_natCast, List.getElem?_eq_getElem hl]; simp
     have hf : ((asks i).all fun r => decide (0 ≤ r ∧ r < regs)) = false := by
      rw [List.all_eq_false]
      exact ⟨_, hx, by simp only [decide_eq_true_eq]; omega⟩
     have : mayOk i regs = false := by unfold mayOk; rw [hf]; simp
     simp [this]
   · refine Ar.again (k + 1) ?_ ?_ rfl ⟨rfl, rfl, rfl, rfl, trivial⟩ ⟨rfl, rfl, trivial⟩
     · refine ⟨by omega, ?_⟩
       rw [all_step _ (by omega), hk2]
       simp only [Bool.true_and, decide_eq_true_eq]
       omega
     · omega
   · refine ⟨?_, rfl, rfl⟩
     have hk : k = (asks i).length := by omega
     subst hk
     rw [List.take_length] at hk2
     have : mayOk i regs = true := by
      unfold mayOk
      rw [hk2]
      simp only [not_or] at hc1
      simp only [Bool.and_true, Bool.and_eq_true, decide_eq_true_eq]
      refine ⟨by omega, ?_⟩
      have := hc1.2
      simpa using this
     simp [this]
structure PV where
 ins : Int
 regs : Int
 code : List Sl.Instr
 outs : List Int
def headOk (p : PV) : Bool := decide (1 ≤ p.ins ∧ p.ins ≤ p.regs ∧ p.regs ≤ 128 ∧ p.code.length ≤ 16384 ∧ 1 ≤ p.outs.length ∧ p.outs.length ≤ 128) && p.outs.all fun r => decide (0 ≤ r ∧ r < p.regs)
def badAt (p : PV) : Option Nat := p.code.findIdx? fun i => !mayOk i p.regs
def checkP (p : PV) : Int × Bool := if headOk p = false then (-1, true) else match badAt p with | some k => (k, true) | none => (0, false)
theorem find_bad {α : Type} [Inhabited α] {p : α → Bool} {l : List α} {k : Nat} (h : k < l.length) (h1 : (l.take k).all p = true) (h2 : ¬ p (l[((k : Nat) : Int).toNat]?.getD default) = true) : l.findIdx? (fun i => !p i) = some k := by
 rw [List.findIdx?_eq_some_iff_getElem]
 rw [Int.toNat_natCast, List.getElem?_eq_getElem h, Option.getD_some] at h2
 refine ⟨h, by simpa using h2, fun j hj => ?_⟩
 have hm : l[j]'(by omega) ∈ l.take k := by rw [List.mem_take_iff_getElem]; exact ⟨j, by omega, rfl⟩
 have := List.all_eq_true.1 h1 _ hm
 simpa using this
theorem find_none {α : Type} {p : α → Bool} {l : List α} (h1 : l.all p = true) : l.findIdx? (fun i => !p i) = none := by
 rw [List.findIdx?_eq_none_iff]
 intro x hx
 simpa using List.all_eq_true.1 h1 x hx
theorem c8 (G : Imm) (p : PV) (ac ao : Option Addr) (cc co : Nat) (hc : Arr G ac p.code) (ho : Arr G ao p.outs) (h1 : p.code.length ≤ 1099511627776) (h2 : p.outs.length ≤ 1099511627776) :
 Does Tryd.prog 8 [.agg #[.int .i64 p.ins, .int .i64 p.regs, .slice ac p.code.length cc, .slice ao p.outs.length co]] G [] (fun v G' Ho => v = .tuple #[.int .i64 (checkP p).1, .int .i64 (if (checkP p).2 then 80 else 0)] ∧ G' = G ∧ Ho = []) := by
 refine Does.enter Tryd.func8 rfl Tryd.ntmps8 rfl (fun w => ?_)
 refine Wc.seq (Wc.region rfl ?_)
 refine Wl.box 0 rfl rfl rfl (fun b1 => ?_)
 refine Wl.q rfl (Qy.assign rfl) (Wl.q rfl (Qy.assign rfl) (Wl.done (Ar.next (Wc.seq (Wc.seq (Wc.region rfl (Wl.q rfl (Qy.fieldAddr T.fa25_0 rfl) (Wl.q rfl (Qy.load 0 T.one3 rfl rfl rfl) (Wl.q rfl (Qy.lss rfl rfl) (Wl.q rfl (Qy.move rfl) ?_))))))))))
 apply Wl.joinOr 6 11 17 rfl
 intro hg1
 refine Wl.want rfl rfl (Wl.q rfl (Qy.fieldAddr T.fa25_0 rfl) (Wl.want rfl rfl (Wl.q rfl (Qy.load 0 T.one3 rfl rfl rfl) (Wl.want rfl rfl (Wl.q rfl (Qy.fieldAddr T.fa25_1 rfl) (Wl.want rfl rfl (Wl.q rfl (Qy.load 0 T.one3 rfl rfl rfl) (Wl.want rfl rfl (Wl.q rfl (Qy.gtr rfl rfl) ?_)))))))))
 refine Wl.q rfl (Qy.pick rfl rfl) ?_
 exact Wl.back 6 0 rfl rfl rfl rfl rfl
 intro hg1
 refine Wl.pass rfl rfl rfl (Wl.pass rfl rfl rfl (Wl.pass rfl rfl rfl (Wl.pass rfl rfl rfl (Wl.pass rfl rfl rfl (Wl.q rfl (Qy.pick rfl rfl) ?_)))))
 exact Wl.back 6 0 rfl rfl rfl rfl rfl
 refine Wl.q rfl (Qy.move rfl) ?_
 apply Wl.joinOr 4 18 22 rfl
 intro hg1
 refine Wl.want rfl rfl (Wl.q rfl (Qy.fieldAddr T.fa25_1 rfl) (Wl.want rfl rfl (Wl.q rfl (Qy.load 0 T.one3 rfl rfl rfl) (Wl.want rfl rfl (Wl.q rfl (Qy.gtr rfl rfl) (Wl.q rfl (Qy.pick rfl rfl) ?_))))))
 exact Wl.back 4 0 rfl rfl rfl rfl rfl
 intro hg1
 refine Wl.pass rfl rfl rfl (Wl.pass rfl rfl rfl (Wl.pass rfl rfl rfl (Wl.q rfl (Qy.pick rfl rfl) ?_)))
 exact Wl.back 4 0 rfl rfl rfl rfl rfl
 refine Wl.q rfl (Qy.move rfl) ?_
 apply Wl.joinOr 5 23 28 rfl
 intro hg1
 refine Wl.want rfl rfl (Wl.q rfl (Qy.fieldAddr T.fa25_2 rfl) (Wl.want rfl rfl (Wl.q rfl (Qy.load 0 T.one22 rfl rfl rfl) (Wl.want rfl rfl (Wl.q rfl (Qy.len T.sl22 rfl) (Wl.want rfl rfl (Wl.q rfl (Qy.gtr rfl rfl) (Wl.q rfl (Qy.pick rfl rfl) ?_))))))))
 exact Wl.back 5 0 rfl rfl rfl rfl rfl
 intro hg1
 refine Wl.pass rfl rfl rfl (Wl.pass rfl rfl rfl (Wl.pass rfl rfl rfl (Wl.pass rfl rfl rfl (Wl.q rfl (Qy.pick rfl rfl) ?_))))
 exact Wl.back 5 0 rfl rfl rfl rfl rfl
 refine Wl.q rfl (Qy.move rfl) ?_
 apply Wl.joinOr 5 29 34 rfl
 intro hg1
 refine Wl.want rfl rfl (Wl.q rfl (Qy.fieldAddr T.fa25_3 rfl) (Wl.want rfl rfl (Wl.q rfl (Qy.load 0 T.one23 rfl rfl rfl) (Wl.want rfl rfl (Wl.q rfl (Qy.len T.sl23 rfl) (Wl.want rfl rfl (Wl.q rfl (Qy.lss rfl rfl) (Wl.q rfl (Qy.pick rfl rfl) ?_))))))))
 exact Wl.back 5 0 rfl rfl rfl rfl rfl
 intro hg1
 refine Wl.pass rfl rfl rfl (Wl.pass rfl rfl rfl (Wl.pass rfl rfl rfl (Wl.pass rfl rfl rfl (Wl.q rfl (Qy.pick rfl rfl) ?_))))
 exact Wl.back 5 0 rfl rfl rfl rfl rfl
 refine Wl.q rfl (Qy.move rfl) ?_
 apply Wl.joinOr 5 35 40 rfl
 intro hg1
 refine Wl.want rfl rfl (Wl.q rfl (Qy.fieldAddr T.fa25_3 rfl) (Wl.want rfl rfl (Wl.q rfl (Qy.load 0 T.one23 rfl rfl rfl) (Wl.want rfl rfl (Wl.q rfl (Qy.len T.sl23 rfl) (Wl.want rfl rfl (Wl.q rfl (Qy.gtr rfl rfl) (Wl.q rfl (Qy.pick rfl rfl) ?_))))))))
 exact Wl.back 5 0 rfl rfl rfl rfl rfl
 intro hg1
 refine Wl.pass rfl rfl rfl (Wl.pass rfl rfl rfl (Wl.pass rfl rfl rfl (Wl.pass rfl rfl rfl (Wl.q rfl (Qy.pick rfl rfl) ?_))))
 exact Wl.back 5 0 rfl rfl rfl rfl rfl
 refine Wl.done (Ar.next ?_)
 refine Wc.cond rfl (fun hc1 => ?_) (fun hc1 => ?_)
 refine Wc.seq (Wc.region rfl (Wl.q rfl (Qy.assign rfl) (Wl.q rfl (Qy.assign rfl) (Wl.done (Ar.next (Wc.ret (Ar.passRet ?_)))))))
 refine Ar.out2 (.inr rfl) (Ho := Hp.only _ []) rfl (.tmp rfl) (.tmp rfl) (Hp.sub_only _ _) ?_
 rotate_left
 refine Wc.skip (Ar.next (Wc.seq (Wc.seq (Wc.region rfl (Wl.q rfl (Qy.fieldAddr T.fa25_3 rfl) (Wl.q rfl (Qy.load 0 T.one23 rfl rfl rfl) (Wl.q rfl (Qy.len T.sl23 rfl) (Wl.q rfl (Qy.move rfl) (Wl.done (Ar.next (Wc.block ?_)))))))))))
 rotate_left
 · refine ⟨?_, rfl, rfl⟩
   have : headOk p = false := by unfold headOk; rw [decide_eq_false (by omega)]; rfl
   simp [checkP, this]
 · refine Wc.loop (ι := Nat) (fun k => ([(44, .int .i64 (k : Int)), (43, Go.Value.int Go.IntKind.i64 (↑(List.length (PV.outs p)) : Int)), (42, Go.Value.slice ao (List.length (PV.outs p)) co), (1, Go.Value.pointer (Option.some (Go.Addr.mk b1 0 Option.none)))], [(0, Option.some b1, Go.Obj.cells #[Go.Value.int Go.IntKind.i64 (PV.ins p), Go.Value.int Go.IntKind.i64 (PV.regs p), Go.Value.slice ac (List.length (PV.code p)) cc, Go.Value.slice ao (List.length (PV.outs p)) co] 25)])) (fun k => k ≤ p.outs.length ∧ (p.outs.take k).all (fun r => decide (0 ≤ r ∧ r < p.regs)) = true) (fun k => p.outs.length - k) (0) (⟨Nat.zero_le _, rfl⟩) ⟨rfl, rfl, rfl, rfl, trivial⟩ ⟨rfl, trivial⟩ (fun k => fun (hk : k ≤ p.outs.length ∧ (p.outs.take k).all (fun r => decide (0 ≤ r ∧ r < p.regs)) = true) => ?_)
   obtain ⟨hk1, hk2⟩ := hk
   refine Wc.seq (Wc.region rfl (Wl.q rfl (Qy.lss rfl rfl) (Wl.done (Ar.next (Wc.seq ?_)))))
   refine Wc.cond rfl (fun hc2 => ?_) (fun hc2 => ?_)
   refine Wc.skip (Ar.next (Wc.seq (Wc.block (Wc.seq (Wc.region rfl (Wl.q rfl (Qy.at (α := Int) T.sl23 rfl rfl (by assumption) (by omega)) ?_))))))
   refine Wl.q rfl (Qy.loadG T.one3 rfl (Arr.cell (by assumption) (by omega) 0 rfl rfl)) ?_
   refine Wl.q rfl (Qy.assign rfl) (Wl.done (Ar.next (Wc.seq (Wc.region rfl (Wl.q rfl (Qy.move rfl) (Wl.q rfl (Qy.lss rfl rfl) (Wl.q rfl (Qy.move rfl) ?_)))))))
   apply Wl.joinOr 5 50 55 rfl
   intro hg1
   refine Wl.want rfl rfl (Wl.q rfl (Qy.move rfl) (Wl.want rfl rfl (Wl.q rfl (Qy.fieldAddr T.fa25_1 rfl) (Wl.want rfl rfl (Wl.q rfl (Qy.load 0 T.one3 rfl rfl rfl) (Wl.want rfl rfl (Wl.q rfl (Qy.geq rfl rfl) (Wl.q rfl (Qy.pick rfl rfl) ?_))))))))
   exact Wl.back 5 0 rfl rfl rfl rfl rfl
   intro hg1
   refine Wl.pass rfl rfl rfl (Wl.pass rfl rfl rfl (Wl.pass rfl rfl rfl (Wl.pass rfl rfl rfl (Wl.q rfl (Qy.pick rfl rfl) ?_))))
   exact Wl.back 5 0 rfl rfl rfl rfl rfl
   refine Wl.done (Ar.next ?_)
   refine Wc.cond rfl (fun hc3 => ?_) (fun hc3 => ?_)
   refine Wc.seq (Wc.region rfl (Wl.q rfl (Qy.assign rfl) (Wl.q rfl (Qy.assign rfl) (Wl.done (Ar.next (Wc.ret ?_))))))
   refine Ar.outRet ?_
   refine Ar.passRet ?_
   refine Ar.passRet ?_
   refine Ar.outRet ?_
   refine Ar.passRet ?_
   refine Ar.out2 (.inr rfl) (Ho := Hp.only _ []) rfl (.tmp rfl) (.tmp rfl) (Hp.sub_only _ _) ?_
   rotate_left
   refine Wc.skip ?_
   refine Ar.outNormal ?_
   refine Ar.next (Wc.region rfl (Wl.q rfl (Qy.add rfl rfl (by omega)) ?_))
   refine Wl.q rfl (Qy.move rfl) (Wl.done ?_)
   rotate_left
   refine Wc.exit (Ar.passExit ?_)
   refine Ar.passExit ?_
   refine Ar.here ?_
   refine Ar.next (Wc.seq (Wc.seq (Wc.region rfl (Wl.q rfl (Qy.fieldAddr T.fa25_2 rfl) (Wl.q rfl (Qy.load 0 T.one22 rfl rfl rfl) (Wl.q rfl (Qy.len T.sl22 rfl) (Wl.q rfl (Qy.move rfl) (Wl.done (Ar.next (Wc.block ?_))))))))))
   rotate_left
   · refine ⟨?_, rfl, rfl⟩
     have hl : k < p.outs.length := by omega
     have hx : p.outs[((k : Nat) : Int).toNat]?.getD default ∈ p.outs := by rw [Int.toNat_natCast, List.getElem?_eq_getElem hl]; simp
     have hf : (p.outs.all fun r => decide (0 ≤ r ∧ r < p.regs)) = false := by
      rw [List.all_eq_false]
      exact ⟨_, hx, by simp only [decide_eq_true_eq]; omega⟩
     have : headOk p = false := by unfold headOk; rw [hf, Bool.and_false]
     simp [checkP, this]
   · refine Ar.again (k + 1) ?_ ?_ rfl ⟨rfl, rfl, rfl, rfl, trivial⟩ ⟨rfl, trivial⟩
     · refine ⟨by omega, ?_⟩
       rw [all_step _ (by omega), hk2]
       simp only [Bool.true_and, decide_eq_true_eq]
       omega
     · omega
   · have hk : k = p.outs.length := by omega
     subst hk
     rw [List.take_length] at hk2
     have hh : headOk p = true := by
      unfold headOk
      rw [hk2, Bool.and_true, decide_eq_true_eq]
      omega
     clear hk1 hk2 hc2
     refine Wc.loop (ι := Nat) (fun k => ([(60, .int .i64 (k : Int)), (59, Go.Value.int Go.IntKind.i64 (↑(List.length (PV.code p)) : Int)), (58, Go.Value.slice ac (List.length (PV.code p)) cc), (1, Go.Value.pointer (Option.some (Go.Addr.mk b1 0 Option.none)))], [(0, Option.some b1, Go.Obj.cells #[Go.Value.int Go.IntKind.i64 (PV.ins p), Go.Value.int Go.IntKind.i64 (PV.regs p), Go.Value.slice ac (List.length (PV.code p)) cc, Go.Value.slice ao (List.length (PV.outs p)) co] 25)])) (fun k => k ≤ p.code.length ∧ (p.code.take k).all (fun i => mayOk i p.regs) = true) (fun k => p.code.length - k) (0) (⟨Nat.zero_le _, rfl⟩) ⟨rfl, rfl, rfl, rfl, trivial⟩ ⟨rfl, trivial⟩ (fun k => fun (hk : k ≤ p.code.length ∧ (p.code.take k).all (fun i => mayOk i p.regs) = true) => ?_)
     obtain ⟨hk1, hk2⟩ := hk
     refine Wc.seq (Wc.region rfl (Wl.q rfl (Qy.lss rfl rfl) (Wl.done (Ar.next (Wc.seq ?_)))))
     refine Wc.cond rfl (fun hc2 => ?_) (fun hc2 => ?_)
     refine Wc.skip (Ar.next (Wc.seq (Wc.block (Wc.seq (Wc.region rfl (Wl.q rfl (Qy.move rfl) (Wl.q rfl (Qy.at (α := Instr) T.sl22 rfl rfl (by assumption) (by omega)) ?_)))))))
     refine Wl.q rfl (Qy.loadsG T.agg55 rfl (Arr.elem (by assumption) (by omega)) rfl) ?_
     refine Wl.alloc 1 rfl T.zero55 (fun b2 => ?_)
     refine Wl.q rfl (Qy.assign rfl) ?_
     refine Wl.storeAll 1 T.size55 rfl rfl rfl rfl rfl rfl ?_
     refine Wl.done (Ar.next (Wc.seq (Wc.region rfl (Wl.q rfl (Qy.loadAll 1 T.agg55 rfl rfl rfl) (Wl.q rfl (Qy.fieldAddr T.fa25_1 rfl) (Wl.q rfl (Qy.load 0 T.one3 rfl rfl rfl) ?_))))))
     refine Wl.call0 rfl T.fn33 rfl (c33 _ _ _) ?_
     refine Wl.q rfl (Qy.notD rfl) (Wl.done (Ar.next ?_))
     refine Wc.cond rfl (fun hc3 => ?_) (fun hc3 => ?_)
     refine Wc.seq (Wc.region rfl (Wl.q rfl (Qy.move rfl) (Wl.q rfl (Qy.assign rfl) (Wl.q rfl (Qy.assign rfl) (Wl.done (Ar.next (Wc.ret ?_)))))))
     refine Ar.outRet ?_
     refine Ar.passRet ?_
     refine Ar.passRet ?_
     refine Ar.outRet ?_
     refine Ar.passRet ?_
     refine Ar.out2 (.inr rfl) (Ho := Hp.only _ []) rfl (.tmp rfl) (.tmp rfl) (Hp.sub_only _ _) ?_
     rotate_left
     refine Wc.skip ?_
     refine Ar.outNormal ?_
     refine Ar.next (Wc.region rfl (Wl.q rfl (Qy.add rfl rfl (by omega)) ?_))
     refine Wl.q rfl (Qy.move rfl) (Wl.done ?_)
     rotate_left
     refine Wc.exit (Ar.passExit ?_)
     refine Ar.passExit ?_
     refine Ar.here ?_
     refine Ar.next (Wc.seq (Wc.region rfl (Wl.q rfl (Qy.assign rfl) (Wl.q rfl (Qy.assign rfl) (Wl.done (Ar.next (Wc.ret ?_)))))))
     refine Ar.out2 (.inr rfl) (Ho := Hp.only _ []) rfl (.tmp rfl) (.tmp rfl) (Hp.sub_only _ _) ?_
     rotate_left
     · refine ⟨?_, rfl, rfl⟩
       have hl : k < p.code.length := by omega
       have : badAt p = some k := find_bad hl hk2 hc3
       simp [checkP, hh, this]
     · refine Ar.again (k + 1) ?_ ?_ rfl ⟨rfl, rfl, rfl, rfl, trivial⟩ ⟨rfl, trivial⟩
       · refine ⟨by omega, ?_⟩
         rw [all_step _ (by omega), hk2]
         simpa using hc3
       · omega
     · refine ⟨?_, rfl, rfl⟩
       have hk : k = p.code.length := by omega
       subst hk
       rw [List.take_length] at hk2
       have : badAt p = none := find_none hk2
       simp [checkP, hh, this]
def rightP (p : PV) : Bool := !(checkP p).2
theorem c97 (G : Imm) (p : PV) (ac ao : Option Addr) (cc co : Nat) (hc : Arr G ac p.code) (ho : Arr G ao p.outs) (h1 : p.code.length ≤ 1099511627776) (h2 : p.outs.length ≤ 1099511627776) :
 Does Tryd.prog 97 [.agg #[.int .i64 p.ins, .int .i64 p.regs, .slice ac p.code.length cc, .slice ao p.outs.length co]] G [] (fun v G' Ho => v = .bool (decide (rightP p = true)) ∧ G' = G ∧ Ho = []) := by
 refine Does.enter Tryd.func97 rfl Tryd.ntmps97 rfl (fun w => ?_)
 refine Wc.seq (Wc.region rfl ?_)
 refine Wl.box 0 rfl rfl rfl (fun b1 => ?_)
 refine Wl.q rfl (Qy.assign rfl) (Wl.done (Ar.next (Wc.seq (Wc.region rfl (Wl.q rfl (Qy.loadAll 0 T.agg25 rfl rfl rfl) ?_)))))
 refine Wl.call0 rfl T.fn8 rfl (c8 _ _ _ _ _ _ (by assumption) (by assumption) (by omega) (by omega)) ?_
 refine Wl.q rfl (Qy.move rfl) (Wl.q rfl (Qy.extract rfl rfl) (Wl.q rfl (Qy.extract rfl rfl) (Wl.q rfl (Qy.assign rfl) (Wl.q rfl (Qy.assign rfl) (Wl.done (Ar.next (Wc.seq (Wc.region rfl (Wl.q rfl (Qy.move rfl) (Wl.q rfl (Qy.eql rfl rfl) (Wl.q rfl (Qy.assign rfl) ?_)))))))))))
 refine Wl.done (Ar.next (Wc.ret ?_))
 refine Ar.out1 (.inr rfl) (Ho := Hp.only _ []) rfl (.tmp rfl) (Hp.sub_only _ _) ?_
 refine ⟨?_, rfl, rfl⟩
 cases h : (checkP p).2 <;> simp [rightP, h]
theorem mayOk_iff (i : Sl.Instr) (regs : Int) : mayOk i regs = true ↔ (1 ≤ i.op ∧ i.op ≤ 8 ∧ 0 ≤ i.to ∧ i.to < regs ∧ 0 ≤ i.a ∧ i.a < regs) ∧
 (if i.op = 3 ∨ i.op = 4 then 0 ≤ i.b ∧ i.b < regs ∧ i.c = 0 else i.b = 0 ∧ (if i.op = 5 ∨ i.op = 6 then i.c ≠ 0 ∧ -512 ≤ i.c ∧ i.c ≤ 512 else if i.op = 7 ∨ i.op = 8 then 1 ≤ i.c ∧ i.c ≤ 64 else i.c = 0)) := by
 unfold mayOk constOk asks
 by_cases h3 : i.op = 3 ∨ i.op = 4
 · have h5 : ¬ (i.op = 5 ∨ i.op = 6) := by omega
   have h7 : ¬ (i.op = 7 ∨ i.op = 8) := by omega
   simp only [if_pos h3, if_neg h5, if_neg h7, List.all_cons, List.all_nil, Bool.and_true, Bool.and_eq_true, decide_eq_true_eq]
   omega
 · by_cases h1 : 1 ≤ i.op ∧ i.op ≤ 8
   · simp only [if_neg h3, if_pos h1, List.all_cons, List.all_nil, Bool.and_true, Bool.and_eq_true, decide_eq_true_eq]
     by_cases h5 : i.op = 5 ∨ i.op = 6
     · simp only [if_pos h5, decide_eq_true_eq]; omega
     · by_cases h7 : i.op = 7 ∨ i.op = 8
       · simp only [if_neg h5, if_pos h7, decide_eq_true_eq]; omega
       · simp only [if_neg h5, if_neg h7, decide_eq_true_eq]; omega
   · simp only [if_neg h3, if_neg h1, List.all_nil, Bool.and_true, Bool.and_eq_true, decide_eq_true_eq]
     constructor <;> (intro h; omega)
theorem c78 (G : Imm) (i : Sl.Instr) (regs : Int) : Does Tryd.prog 78 [.agg (Cells.enc i).toArray, .int .i64 regs] G [] (fun v G' Ho => v = .bool (decide (mayOk i regs = true)) ∧ G' = G ∧ Ho = []) := by
 refine Does.enter Tryd.func78 rfl Tryd.ntmps78 rfl (fun w => ?_)
 refine Wc.seq (Wc.region rfl ?_)
 refine Wl.box 0 rfl rfl rfl (fun b1 => ?_)
 refine Wl.q rfl (Qy.assign rfl) (Wl.done (Ar.next (Wc.seq (Wc.seq (Wc.region rfl (Wl.q rfl (Qy.fieldAddr T.fa55_0 rfl) (Wl.q rfl (Qy.load 0 T.one3 rfl rfl rfl) (Wl.q rfl (Qy.lss rfl rfl) (Wl.q rfl (Qy.move rfl) ?_)))))))))
 apply Wl.joinOr 4 8 12 rfl
 intro hg1
 refine Wl.want rfl rfl (Wl.q rfl (Qy.fieldAddr T.fa55_0 rfl) (Wl.want rfl rfl (Wl.q rfl (Qy.load 0 T.one3 rfl rfl rfl) (Wl.want rfl rfl (Wl.q rfl (Qy.gtr rfl rfl) (Wl.q rfl (Qy.pick rfl rfl) ?_))))))
 exact Wl.back 4 0 rfl rfl rfl rfl rfl
 intro hg1
 refine Wl.pass rfl rfl rfl (Wl.pass rfl rfl rfl (Wl.pass rfl rfl rfl (Wl.q rfl (Qy.pick rfl rfl) ?_)))
 exact Wl.back 4 0 rfl rfl rfl rfl rfl
 refine Wl.q rfl (Qy.move rfl) ?_
 apply Wl.joinOr 4 13 17 rfl
 intro hg1
 refine Wl.want rfl rfl (Wl.q rfl (Qy.fieldAddr T.fa55_1 rfl) (Wl.want rfl rfl (Wl.q rfl (Qy.load 0 T.one3 rfl rfl rfl) (Wl.want rfl rfl (Wl.q rfl (Qy.lss rfl rfl) (Wl.q rfl (Qy.pick rfl rfl) ?_))))))
 exact Wl.back 4 0 rfl rfl rfl rfl rfl
 intro hg1
 refine Wl.pass rfl rfl rfl (Wl.pass rfl rfl rfl (Wl.pass rfl rfl rfl (Wl.q rfl (Qy.pick rfl rfl) ?_)))
 exact Wl.back 4 0 rfl rfl rfl rfl rfl
 refine Wl.q rfl (Qy.move rfl) ?_
 apply Wl.joinOr 5 18 23 rfl
 intro hg1
 refine Wl.want rfl rfl (Wl.q rfl (Qy.fieldAddr T.fa55_1 rfl) (Wl.want rfl rfl (Wl.q rfl (Qy.load 0 T.one3 rfl rfl rfl) (Wl.want rfl rfl (Wl.q rfl (Qy.move rfl) (Wl.want rfl rfl (Wl.q rfl (Qy.geq rfl rfl) (Wl.q rfl (Qy.pick rfl rfl) ?_))))))))
 exact Wl.back 5 0 rfl rfl rfl rfl rfl
 intro hg1
 refine Wl.pass rfl rfl rfl (Wl.pass rfl rfl rfl (Wl.pass rfl rfl rfl (Wl.pass rfl rfl rfl (Wl.q rfl (Qy.pick rfl rfl) ?_))))
 exact Wl.back 5 0 rfl rfl rfl rfl rfl
 refine Wl.q rfl (Qy.move rfl) ?_
 apply Wl.joinOr 4 24 28 rfl
 intro hg1
 refine Wl.want rfl rfl (Wl.q rfl (Qy.fieldAddr T.fa55_2 rfl) (Wl.want rfl rfl (Wl.q rfl (Qy.load 0 T.one3 rfl rfl rfl) (Wl.want rfl rfl (Wl.q rfl (Qy.lss rfl rfl) (Wl.q rfl (Qy.pick rfl rfl) ?_))))))
 exact Wl.back 4 0 rfl rfl rfl rfl rfl
 intro hg1
 refine Wl.pass rfl rfl rfl (Wl.pass rfl rfl rfl (Wl.pass rfl rfl rfl (Wl.q rfl (Qy.pick rfl rfl) ?_)))
 exact Wl.back 4 0 rfl rfl rfl rfl rfl
 refine Wl.q rfl (Qy.move rfl) ?_
 apply Wl.joinOr 5 29 34 rfl
 intro hg1
 refine Wl.want rfl rfl (Wl.q rfl (Qy.fieldAddr T.fa55_2 rfl) (Wl.want rfl rfl (Wl.q rfl (Qy.load 0 T.one3 rfl rfl rfl) (Wl.want rfl rfl (Wl.q rfl (Qy.move rfl) (Wl.want rfl rfl (Wl.q rfl (Qy.geq rfl rfl) (Wl.q rfl (Qy.pick rfl rfl) ?_))))))))
 exact Wl.back 5 0 rfl rfl rfl rfl rfl
 intro hg1
 refine Wl.pass rfl rfl rfl (Wl.pass rfl rfl rfl (Wl.pass rfl rfl rfl (Wl.pass rfl rfl rfl (Wl.q rfl (Qy.pick rfl rfl) ?_))))
 exact Wl.back 5 0 rfl rfl rfl rfl rfl
 refine Wl.done (Ar.next ?_)
 refine Wc.cond rfl (fun hc1 => ?_) (fun hc1 => ?_)
 refine Wc.seq (Wc.region rfl (Wl.q rfl (Qy.assign rfl) (Wl.done (Ar.next (Wc.ret (Ar.passRet ?_))))))
 refine Ar.out1 (.inr rfl) (Ho := Hp.only _ []) rfl (.tmp rfl) (Hp.sub_only _ _) ?_
 rotate_left
 refine Wc.skip (Ar.next (Wc.seq (Wc.seq (Wc.region rfl (Wl.q rfl (Qy.fieldAddr T.fa55_0 rfl) (Wl.q rfl (Qy.load 0 T.one3 rfl rfl rfl) (Wl.q rfl (Qy.eql rfl rfl) (Wl.q rfl (Qy.move rfl) ?_))))))))
 apply Wl.joinOr 4 38 42 rfl
 intro hg1
 refine Wl.want rfl rfl (Wl.q rfl (Qy.fieldAddr T.fa55_0 rfl) (Wl.want rfl rfl (Wl.q rfl (Qy.load 0 T.one3 rfl rfl rfl) (Wl.want rfl rfl (Wl.q rfl (Qy.eql rfl rfl) (Wl.q rfl (Qy.pick rfl rfl) ?_))))))
 exact Wl.back 4 0 rfl rfl rfl rfl rfl
 intro hg1
 refine Wl.pass rfl rfl rfl (Wl.pass rfl rfl rfl (Wl.pass rfl rfl rfl (Wl.q rfl (Qy.pick rfl rfl) ?_)))
 exact Wl.back 4 0 rfl rfl rfl rfl rfl
 refine Wl.done (Ar.next ?_)
 refine Wc.cond rfl (fun hc2 => ?_) (fun hc2 => ?_)
 refine Wc.seq (Wc.region rfl (Wl.q rfl (Qy.fieldAddr T.fa55_3 rfl) (Wl.q rfl (Qy.load 0 T.one3 rfl rfl rfl) (Wl.q rfl (Qy.geq rfl rfl) (Wl.q rfl (Qy.move rfl) ?_)))))
 apply Wl.joinAnd 5 46 51 rfl
 intro hg1
 refine Wl.want rfl rfl (Wl.q rfl (Qy.fieldAddr T.fa55_3 rfl) (Wl.want rfl rfl (Wl.q rfl (Qy.load 0 T.one3 rfl rfl rfl) (Wl.want rfl rfl (Wl.q rfl (Qy.move rfl) (Wl.want rfl rfl (Wl.q rfl (Qy.lss rfl rfl) (Wl.q rfl (Qy.pick rfl rfl) ?_))))))))
 exact Wl.back 5 0 rfl rfl rfl rfl rfl
 intro hg1
 refine Wl.pass rfl rfl rfl (Wl.pass rfl rfl rfl (Wl.pass rfl rfl rfl (Wl.pass rfl rfl rfl (Wl.q rfl (Qy.pick rfl rfl) ?_))))
 exact Wl.back 5 0 rfl rfl rfl rfl rfl
 refine Wl.q rfl (Qy.move rfl) ?_
 apply Wl.joinAnd 4 52 56 rfl
 intro hg1
 refine Wl.want rfl rfl (Wl.q rfl (Qy.fieldAddr T.fa55_4 rfl) (Wl.want rfl rfl (Wl.q rfl (Qy.load 0 T.one3 rfl rfl rfl) (Wl.want rfl rfl (Wl.q rfl (Qy.eql rfl rfl) (Wl.q rfl (Qy.pick rfl rfl) ?_))))))
 exact Wl.back 4 0 rfl rfl rfl rfl rfl
 intro hg1
 refine Wl.pass rfl rfl rfl (Wl.pass rfl rfl rfl (Wl.pass rfl rfl rfl (Wl.q rfl (Qy.pick rfl rfl) ?_)))
 exact Wl.back 4 0 rfl rfl rfl rfl rfl
 refine Wl.q rfl (Qy.assign rfl) (Wl.done (Ar.next (Wc.ret (Ar.passRet ?_))))
 refine Ar.out1 (.inr rfl) (Ho := Hp.only _ []) rfl (.tmp rfl) (Hp.sub_only _ _) ?_
 rotate_left
 refine Wc.skip (Ar.next (Wc.seq (Wc.seq (Wc.region rfl (Wl.q rfl (Qy.fieldAddr T.fa55_3 rfl) (Wl.q rfl (Qy.load 0 T.one3 rfl rfl rfl) (Wl.q rfl (Qy.neq rfl rfl) (Wl.done (Ar.next ?_)))))))))
 refine Wc.cond rfl (fun hc3 => ?_) (fun hc3 => ?_)
 refine Wc.seq (Wc.region rfl (Wl.q rfl (Qy.assign rfl) (Wl.done (Ar.next (Wc.ret (Ar.passRet ?_))))))
 refine Ar.out1 (.inr rfl) (Ho := Hp.only _ []) rfl (.tmp rfl) (Hp.sub_only _ _) ?_
 rotate_left
 refine Wc.skip (Ar.next (Wc.seq (Wc.seq (Wc.region rfl (Wl.q rfl (Qy.fieldAddr T.fa55_0 rfl) (Wl.q rfl (Qy.load 0 T.one3 rfl rfl rfl) (Wl.q rfl (Qy.eql rfl rfl) (Wl.q rfl (Qy.move rfl) ?_))))))))
 apply Wl.joinOr 4 63 67 rfl
 intro hg1
 refine Wl.want rfl rfl (Wl.q rfl (Qy.fieldAddr T.fa55_0 rfl) (Wl.want rfl rfl (Wl.q rfl (Qy.load 0 T.one3 rfl rfl rfl) (Wl.want rfl rfl (Wl.q rfl (Qy.eql rfl rfl) (Wl.q rfl (Qy.pick rfl rfl) ?_))))))
 exact Wl.back 4 0 rfl rfl rfl rfl rfl
 intro hg1
 refine Wl.pass rfl rfl rfl (Wl.pass rfl rfl rfl (Wl.pass rfl rfl rfl (Wl.q rfl (Qy.pick rfl rfl) ?_)))
 exact Wl.back 4 0 rfl rfl rfl rfl rfl
 refine Wl.done (Ar.next ?_)
 refine Wc.cond rfl (fun hc4 => ?_) (fun hc4 => ?_)
 refine Wc.seq (Wc.region rfl (Wl.q rfl (Qy.fieldAddr T.fa55_4 rfl) (Wl.q rfl (Qy.load 0 T.one3 rfl rfl rfl) (Wl.q rfl (Qy.neq rfl rfl) (Wl.q rfl (Qy.move rfl) ?_)))))
 apply Wl.joinAnd 4 71 75 rfl
 intro hg1
 refine Wl.want rfl rfl (Wl.q rfl (Qy.fieldAddr T.fa55_4 rfl) (Wl.want rfl rfl (Wl.q rfl (Qy.load 0 T.one3 rfl rfl rfl) (Wl.want rfl rfl (Wl.q rfl (Qy.geq rfl rfl) (Wl.q rfl (Qy.pick rfl rfl) ?_))))))
 exact Wl.back 4 0 rfl rfl rfl rfl rfl
 intro hg1
 refine Wl.pass rfl rfl rfl (Wl.pass rfl rfl rfl (Wl.pass rfl rfl rfl (Wl.q rfl (Qy.pick rfl rfl) ?_)))
 exact Wl.back 4 0 rfl rfl rfl rfl rfl
 refine Wl.q rfl (Qy.move rfl) ?_
 apply Wl.joinAnd 4 76 80 rfl
 intro hg1
 refine Wl.want rfl rfl (Wl.q rfl (Qy.fieldAddr T.fa55_4 rfl) (Wl.want rfl rfl (Wl.q rfl (Qy.load 0 T.one3 rfl rfl rfl) (Wl.want rfl rfl (Wl.q rfl (Qy.leq rfl rfl) (Wl.q rfl (Qy.pick rfl rfl) ?_))))))
 exact Wl.back 4 0 rfl rfl rfl rfl rfl
 intro hg1
 refine Wl.pass rfl rfl rfl (Wl.pass rfl rfl rfl (Wl.pass rfl rfl rfl (Wl.q rfl (Qy.pick rfl rfl) ?_)))
 exact Wl.back 4 0 rfl rfl rfl rfl rfl
 refine Wl.q rfl (Qy.assign rfl) (Wl.done (Ar.next (Wc.ret (Ar.passRet ?_))))
 refine Ar.out1 (.inr rfl) (Ho := Hp.only _ []) rfl (.tmp rfl) (Hp.sub_only _ _) ?_
 rotate_left
 refine Wc.skip (Ar.next (Wc.seq (Wc.seq (Wc.region rfl (Wl.q rfl (Qy.fieldAddr T.fa55_0 rfl) (Wl.q rfl (Qy.load 0 T.one3 rfl rfl rfl) (Wl.q rfl (Qy.eql rfl rfl) (Wl.q rfl (Qy.move rfl) ?_))))))))
 apply Wl.joinOr 4 84 88 rfl
 intro hg1
 refine Wl.want rfl rfl (Wl.q rfl (Qy.fieldAddr T.fa55_0 rfl) (Wl.want rfl rfl (Wl.q rfl (Qy.load 0 T.one3 rfl rfl rfl) (Wl.want rfl rfl (Wl.q rfl (Qy.eql rfl rfl) (Wl.q rfl (Qy.pick rfl rfl) ?_))))))
 exact Wl.back 4 0 rfl rfl rfl rfl rfl
 intro hg1
 refine Wl.pass rfl rfl rfl (Wl.pass rfl rfl rfl (Wl.pass rfl rfl rfl (Wl.q rfl (Qy.pick rfl rfl) ?_)))
 exact Wl.back 4 0 rfl rfl rfl rfl rfl
 refine Wl.done (Ar.next ?_)
 refine Wc.cond rfl (fun hc5 => ?_) (fun hc5 => ?_)
 refine Wc.seq (Wc.region rfl (Wl.q rfl (Qy.fieldAddr T.fa55_4 rfl) (Wl.q rfl (Qy.load 0 T.one3 rfl rfl rfl) (Wl.q rfl (Qy.geq rfl rfl) (Wl.q rfl (Qy.move rfl) ?_)))))
 apply Wl.joinAnd 4 92 96 rfl
 intro hg1
 refine Wl.want rfl rfl (Wl.q rfl (Qy.fieldAddr T.fa55_4 rfl) (Wl.want rfl rfl (Wl.q rfl (Qy.load 0 T.one3 rfl rfl rfl) (Wl.want rfl rfl (Wl.q rfl (Qy.leq rfl rfl) (Wl.q rfl (Qy.pick rfl rfl) ?_))))))
 exact Wl.back 4 0 rfl rfl rfl rfl rfl
 intro hg1
 refine Wl.pass rfl rfl rfl (Wl.pass rfl rfl rfl (Wl.pass rfl rfl rfl (Wl.q rfl (Qy.pick rfl rfl) ?_)))
 exact Wl.back 4 0 rfl rfl rfl rfl rfl
 refine Wl.q rfl (Qy.assign rfl) (Wl.done (Ar.next (Wc.ret (Ar.passRet ?_))))
 refine Ar.out1 (.inr rfl) (Ho := Hp.only _ []) rfl (.tmp rfl) (Hp.sub_only _ _) ?_
 rotate_left
 refine Wc.skip (Ar.next (Wc.seq (Wc.region rfl (Wl.q rfl (Qy.fieldAddr T.fa55_4 rfl) (Wl.q rfl (Qy.load 0 T.one3 rfl rfl rfl) (Wl.q rfl (Qy.eql rfl rfl) (Wl.q rfl (Qy.assign rfl) (Wl.done (Ar.next (Wc.ret ?_))))))))))
 refine Ar.out1 (.inr rfl) (Ho := Hp.only _ []) rfl (.tmp rfl) (Hp.sub_only _ _) ?_
 rotate_left
 all_goals refine ⟨?_, rfl, rfl⟩
 all_goals simp only [mayOk_iff, Value.bool.injEq]
 all_goals first | rw [decide_eq_decide] | (symm; rw [decide_eq_false_iff_not])
 all_goals try simp only [*, if_true, if_false, not_false_eq_true]
 all_goals first | omega | (rintro ⟨_, h, _⟩; first | exact h | exact hc3 h)
theorem head_out {p : PV} {k : Nat} (h : k ≤ p.outs.length) (h' : (k : Int) < (p.outs.length : Int)) (hb : p.outs[((k : Nat) : Int).toNat]?.getD default < 0 ∨ p.regs ≤ p.outs[((k : Nat) : Int).toNat]?.getD default) : headOk p = false := by
 have hl : k < p.outs.length := by omega
 have hx : p.outs[((k : Nat) : Int).toNat]?.getD default ∈ p.outs := by rw [Int.toNat_natCast, List.getElem?_eq_getElem hl]; simp
 have hf : (p.outs.all fun r => decide (0 ≤ r ∧ r < p.regs)) = false := by
  rw [List.all_eq_false]
  exact ⟨_, hx, by simp only [decide_eq_true_eq]; omega⟩
 unfold headOk; rw [hf, Bool.and_false]
theorem c46 (G : Imm) (p : PV) (ac ao : Option Addr) (cc co : Nat) (hc : Arr G ac p.code) (ho : Arr G ao p.outs) (h1 : p.code.length ≤ 1099511627776) (h2 : p.outs.length ≤ 1099511627776) :
 Does Tryd.prog 46 [.agg #[.int .i64 p.ins, .int .i64 p.regs, .slice ac p.code.length cc, .slice ao p.outs.length co]] G [] (fun v G' Ho => v = .tuple #[.int .i64 (checkP p).1, .bool (decide ((checkP p).2 = true))] ∧ G' = G ∧ Ho = []) := by
 refine Does.enter Tryd.func46 rfl Tryd.ntmps46 rfl (fun w => ?_)
 refine Wc.seq (Wc.region rfl ?_)
 refine Wl.box 0 rfl rfl rfl (fun b1 => ?_)
 refine Wl.q rfl (Qy.assign rfl) (Wl.q rfl (Qy.assign rfl) (Wl.done (Ar.next (Wc.seq (Wc.seq (Wc.region rfl (Wl.q rfl (Qy.fieldAddr T.fa25_0 rfl) (Wl.q rfl (Qy.load 0 T.one3 rfl rfl rfl) (Wl.q rfl (Qy.lss rfl rfl) (Wl.q rfl (Qy.move rfl) ?_))))))))))
 apply Wl.joinOr 6 9 15 rfl
 intro hg1
 refine Wl.want rfl rfl (Wl.q rfl (Qy.fieldAddr T.fa25_0 rfl) (Wl.want rfl rfl (Wl.q rfl (Qy.load 0 T.one3 rfl rfl rfl) (Wl.want rfl rfl (Wl.q rfl (Qy.fieldAddr T.fa25_1 rfl) (Wl.want rfl rfl (Wl.q rfl (Qy.load 0 T.one3 rfl rfl rfl) (Wl.want rfl rfl (Wl.q rfl (Qy.gtr rfl rfl) ?_)))))))))
 refine Wl.q rfl (Qy.pick rfl rfl) ?_
 exact Wl.back 6 0 rfl rfl rfl rfl rfl
 intro hg1
 refine Wl.pass rfl rfl rfl (Wl.pass rfl rfl rfl (Wl.pass rfl rfl rfl (Wl.pass rfl rfl rfl (Wl.pass rfl rfl rfl (Wl.q rfl (Qy.pick rfl rfl) ?_)))))
 exact Wl.back 6 0 rfl rfl rfl rfl rfl
 refine Wl.q rfl (Qy.move rfl) ?_
 apply Wl.joinOr 4 16 20 rfl
 intro hg1
 refine Wl.want rfl rfl (Wl.q rfl (Qy.fieldAddr T.fa25_1 rfl) (Wl.want rfl rfl (Wl.q rfl (Qy.load 0 T.one3 rfl rfl rfl) (Wl.want rfl rfl (Wl.q rfl (Qy.gtr rfl rfl) (Wl.q rfl (Qy.pick rfl rfl) ?_))))))
 exact Wl.back 4 0 rfl rfl rfl rfl rfl
 intro hg1
 refine Wl.pass rfl rfl rfl (Wl.pass rfl rfl rfl (Wl.pass rfl rfl rfl (Wl.q rfl (Qy.pick rfl rfl) ?_)))
 exact Wl.back 4 0 rfl rfl rfl rfl rfl
 refine Wl.q rfl (Qy.move rfl) ?_
 apply Wl.joinOr 5 21 26 rfl
 intro hg1
 refine Wl.want rfl rfl (Wl.q rfl (Qy.fieldAddr T.fa25_2 rfl) (Wl.want rfl rfl (Wl.q rfl (Qy.load 0 T.one22 rfl rfl rfl) (Wl.want rfl rfl (Wl.q rfl (Qy.len T.sl22 rfl) (Wl.want rfl rfl (Wl.q rfl (Qy.gtr rfl rfl) (Wl.q rfl (Qy.pick rfl rfl) ?_))))))))
 exact Wl.back 5 0 rfl rfl rfl rfl rfl
 intro hg1
 refine Wl.pass rfl rfl rfl (Wl.pass rfl rfl rfl (Wl.pass rfl rfl rfl (Wl.pass rfl rfl rfl (Wl.q rfl (Qy.pick rfl rfl) ?_))))
 exact Wl.back 5 0 rfl rfl rfl rfl rfl
 refine Wl.q rfl (Qy.move rfl) ?_
 apply Wl.joinOr 5 27 32 rfl
 intro hg1
 refine Wl.want rfl rfl (Wl.q rfl (Qy.fieldAddr T.fa25_3 rfl) (Wl.want rfl rfl (Wl.q rfl (Qy.load 0 T.one23 rfl rfl rfl) (Wl.want rfl rfl (Wl.q rfl (Qy.len T.sl23 rfl) (Wl.want rfl rfl (Wl.q rfl (Qy.lss rfl rfl) (Wl.q rfl (Qy.pick rfl rfl) ?_))))))))
 exact Wl.back 5 0 rfl rfl rfl rfl rfl
 intro hg1
 refine Wl.pass rfl rfl rfl (Wl.pass rfl rfl rfl (Wl.pass rfl rfl rfl (Wl.pass rfl rfl rfl (Wl.q rfl (Qy.pick rfl rfl) ?_))))
 exact Wl.back 5 0 rfl rfl rfl rfl rfl
 refine Wl.q rfl (Qy.move rfl) ?_
 apply Wl.joinOr 5 33 38 rfl
 intro hg1
 refine Wl.want rfl rfl (Wl.q rfl (Qy.fieldAddr T.fa25_3 rfl) (Wl.want rfl rfl (Wl.q rfl (Qy.load 0 T.one23 rfl rfl rfl) (Wl.want rfl rfl (Wl.q rfl (Qy.len T.sl23 rfl) (Wl.want rfl rfl (Wl.q rfl (Qy.gtr rfl rfl) (Wl.q rfl (Qy.pick rfl rfl) ?_))))))))
 exact Wl.back 5 0 rfl rfl rfl rfl rfl
 intro hg1
 refine Wl.pass rfl rfl rfl (Wl.pass rfl rfl rfl (Wl.pass rfl rfl rfl (Wl.pass rfl rfl rfl (Wl.q rfl (Qy.pick rfl rfl) ?_))))
 exact Wl.back 5 0 rfl rfl rfl rfl rfl
 refine Wl.done (Ar.next ?_)
 refine Wc.cond rfl (fun hc1 => ?_) (fun hc1 => ?_)
 refine Wc.seq (Wc.region rfl (Wl.q rfl (Qy.assign rfl) (Wl.q rfl (Qy.assign rfl) (Wl.done (Ar.next (Wc.ret (Ar.passRet ?_)))))))
 refine Ar.out2 (.inr rfl) (Ho := Hp.only _ []) rfl (.tmp rfl) (.tmp rfl) (Hp.sub_only _ _) ?_
 rotate_left
 refine Wc.skip (Ar.next (Wc.seq (Wc.seq (Wc.region rfl (Wl.q rfl (Qy.assign rfl) (Wl.done (Ar.next (Wc.block ?_))))))))
 rotate_left
 · refine ⟨?_, rfl, rfl⟩
   have : headOk p = false := by unfold headOk; rw [decide_eq_false (by omega)]; rfl
   simp [checkP, this]
 · refine Wc.loop (ι := Nat) (fun k => ([(4, .int .i64 (k : Int)), (1, Go.Value.pointer (Option.some (Go.Addr.mk b1 0 Option.none)))], [(0, Option.some b1, Go.Obj.cells #[Go.Value.int Go.IntKind.i64 (PV.ins p), Go.Value.int Go.IntKind.i64 (PV.regs p), Go.Value.slice ac (List.length (PV.code p)) cc, Go.Value.slice ao (List.length (PV.outs p)) co] 25)])) (fun k => k ≤ p.outs.length ∧ (p.outs.take k).all (fun r => decide (0 ≤ r ∧ r < p.regs)) = true) (fun k => p.outs.length - k) (0) (⟨Nat.zero_le _, rfl⟩) ⟨rfl, rfl, trivial⟩ ⟨rfl, trivial⟩ (fun k => fun (hk : k ≤ p.outs.length ∧ (p.outs.take k).all (fun r => decide (0 ≤ r ∧ r < p.regs)) = true) => ?_)
   obtain ⟨hk1, hk2⟩ := hk
   refine Wc.seq (Wc.seq (Wc.region rfl (Wl.q rfl (Qy.move rfl) (Wl.q rfl (Qy.fieldAddr T.fa25_3 rfl) (Wl.q rfl (Qy.load 0 T.one23 rfl rfl rfl) (Wl.q rfl (Qy.len T.sl23 rfl) (Wl.q rfl (Qy.lss rfl rfl) (Wl.done (Ar.next ?_)))))))))
   refine Wc.cond rfl (fun hc2 => ?_) (fun hc2 => ?_)
   refine Wc.skip (Ar.next (Wc.seq (Wc.block (Wc.seq (Wc.draw [0] [] T.mixed rfl ?_)))))
   refine Gm.q 0 [] (by kernel_rfl) rfl rfl (Qy.fieldAddr T.fa25_3 rfl) (Gm.q 1 [0] (by kernel_rfl) rfl rfl (Qy.load 0 T.one23 rfl rfl rfl) (Gm.q 2 [] (by kernel_rfl) rfl rfl (Qy.move rfl) (Gm.q 3 [] (by kernel_rfl) rfl rfl (Qy.at (α := Int) T.sl23 rfl rfl (by assumption) (by omega)) ?_)))
   refine Gm.q 4 [0] (by kernel_rfl) rfl rfl (Qy.loadG T.one3 rfl (Arr.cell (by assumption) (by omega) 0 rfl rfl)) ?_
   refine Gm.q 5 [] (by kernel_rfl) rfl rfl (Qy.lss rfl rfl) ?_
   refine Gm.q 6 [] (by kernel_rfl) rfl rfl (Qy.move rfl) (Gm.cases 52 rfl (fun hg1 => ?_) (fun hg1 => ?_))
   refine Gm.qNo 7 (by kernel_rfl) rfl rfl rfl rfl ?_
   refine Gm.qNo 8 (by kernel_rfl) rfl rfl rfl rfl ?_
   refine Gm.qNo 9 (by kernel_rfl) rfl rfl rfl rfl ?_
   refine Gm.qNo 10 (by kernel_rfl) rfl rfl rfl rfl ?_
   refine Gm.qNo 11 (by kernel_rfl) rfl rfl rfl rfl ?_
   refine Gm.qNo 12 (by kernel_rfl) rfl rfl rfl rfl ?_
   refine Gm.qNo 13 (by kernel_rfl) rfl rfl rfl rfl ?_
   refine Gm.qNo 14 (by kernel_rfl) rfl rfl rfl rfl ?_
   refine Gm.q 15 [] (by kernel_rfl) rfl rfl (Qy.pick rfl rfl) ?_
   refine Gm.doneA (by kernel_rfl) ⟨rfl, trivial⟩ (by first | exact Imm.le_refl _ | assumption) ?_
   refine Ar.next (Wc.condT rfl ?_)
   refine Wc.seq (Wc.region rfl (Wl.q rfl (Qy.assign rfl) (Wl.q rfl (Qy.assign rfl) (Wl.done (Ar.next (Wc.ret ?_))))))
   refine Ar.outRet ?_
   refine Ar.passRet ?_
   refine Ar.passRet ?_
   refine Ar.outRet ?_
   refine Ar.passRet ?_
   refine Ar.out2 (.inr rfl) (Ho := Hp.only _ []) rfl (.tmp rfl) (.tmp rfl) (Hp.sub_only _ _) ?_
   rotate_left
   refine Gm.qYes 7 [] (by kernel_rfl) rfl rfl rfl rfl (Qy.fieldAddr T.fa25_3 rfl) ?_
   refine Gm.qYes 8 [0] (by kernel_rfl) rfl rfl rfl rfl (Qy.load 0 T.one23 rfl rfl rfl) ?_
   refine Gm.qYes 9 [] (by kernel_rfl) rfl rfl rfl rfl (Qy.move rfl) ?_
   refine Gm.qYes 10 [] (by kernel_rfl) rfl rfl rfl rfl (Qy.at (α := Int) T.sl23 rfl rfl (by assumption) (by omega)) ?_
   refine Gm.qYes 11 [0] (by kernel_rfl) rfl rfl rfl rfl (Qy.loadG T.one3 rfl (Arr.cell (by assumption) (by omega) 0 rfl rfl)) ?_
   refine Gm.qYes 12 [] (by kernel_rfl) rfl rfl rfl rfl (Qy.fieldAddr T.fa25_1 rfl) ?_
   refine Gm.qYes 13 [0] (by kernel_rfl) rfl rfl rfl rfl (Qy.load 0 T.one3 rfl rfl rfl) ?_
   refine Gm.qYes 14 [] (by kernel_rfl) rfl rfl rfl rfl (Qy.geq rfl rfl) ?_
   refine Gm.q 15 [] (by kernel_rfl) rfl rfl (Qy.pick rfl rfl) ?_
   refine Gm.doneA (by kernel_rfl) ⟨rfl, trivial⟩ (by first | exact Imm.le_refl _ | assumption) ?_
   refine Ar.next ?_
   refine Wc.cond rfl (fun hc3 => ?_) (fun hc3 => ?_)
   refine Wc.seq (Wc.region rfl (Wl.q rfl (Qy.assign rfl) (Wl.q rfl (Qy.assign rfl) (Wl.done (Ar.next (Wc.ret ?_))))))
   refine Ar.outRet ?_
   refine Ar.passRet ?_
   refine Ar.passRet ?_
   refine Ar.outRet ?_
   refine Ar.passRet ?_
   refine Ar.out2 (.inr rfl) (Ho := Hp.only _ []) rfl (.tmp rfl) (.tmp rfl) (Hp.sub_only _ _) ?_
   rotate_left
   refine Wc.skip ?_
   refine Ar.outNormal ?_
   refine Ar.next (Wc.region rfl (Wl.q rfl (Qy.move rfl) (Wl.q rfl (Qy.add rfl rfl (by omega)) ?_)))
   refine Wl.q rfl (Qy.assign rfl) (Wl.done ?_)
   rotate_left
   refine Wc.exit (Ar.passExit ?_)
   refine Ar.passExit ?_
   refine Ar.here ?_
   refine Ar.next (Wc.seq (Wc.seq (Wc.region rfl (Wl.q rfl (Qy.assign rfl) (Wl.done (Ar.next (Wc.block ?_)))))))
   rotate_left
   · refine ⟨?_, rfl, rfl⟩
     simp [checkP, head_out hk1 hc2 (.inl hg1)]
   · refine ⟨?_, rfl, rfl⟩
     simp [checkP, head_out hk1 hc2 (.inr hc3)]
   · refine Ar.again (k + 1) ?_ ?_ rfl ⟨rfl, rfl, trivial⟩ ⟨rfl, trivial⟩
     · refine ⟨by omega, ?_⟩
       rw [all_step _ (by omega), hk2]
       simp only [Bool.true_and, decide_eq_true_eq]
       omega
     · omega
   · have hk : k = p.outs.length := by omega
     subst hk
     rw [List.take_length] at hk2
     have hh : headOk p = true := by
      unfold headOk
      rw [hk2, Bool.and_true, decide_eq_true_eq]
      omega
     clear hk1 hk2 hc2
     refine Wc.loop (ι := Nat) (fun k => ([(5, .int .i64 (k : Int)), (1, Go.Value.pointer (Option.some (Go.Addr.mk b1 0 Option.none)))], [(0, Option.some b1, Go.Obj.cells #[Go.Value.int Go.IntKind.i64 (PV.ins p), Go.Value.int Go.IntKind.i64 (PV.regs p), Go.Value.slice ac (List.length (PV.code p)) cc, Go.Value.slice ao (List.length (PV.outs p)) co] 25)])) (fun k => k ≤ p.code.length ∧ (p.code.take k).all (fun i => mayOk i p.regs) = true) (fun k => p.code.length - k) (0) (⟨Nat.zero_le _, rfl⟩) ⟨rfl, rfl, trivial⟩ ⟨rfl, trivial⟩ (fun k => fun (hk : k ≤ p.code.length ∧ (p.code.take k).all (fun i => mayOk i p.regs) = true) => ?_)
     obtain ⟨hk1, hk2⟩ := hk
     refine Wc.seq (Wc.seq (Wc.region rfl (Wl.q rfl (Qy.move rfl) (Wl.q rfl (Qy.fieldAddr T.fa25_2 rfl) (Wl.q rfl (Qy.load 0 T.one22 rfl rfl rfl) (Wl.q rfl (Qy.len T.sl22 rfl) (Wl.q rfl (Qy.lss rfl rfl) (Wl.done (Ar.next ?_)))))))))
     refine Wc.cond rfl (fun hc2 => ?_) (fun hc2 => ?_)
     refine Wc.skip (Ar.next (Wc.seq (Wc.block (Wc.seq (Wc.draw [0] [] T.mixed rfl ?_)))))
     refine Gm.q 0 [] (by kernel_rfl) rfl rfl (Qy.fieldAddr T.fa25_2 rfl) (Gm.q 1 [0] (by kernel_rfl) rfl rfl (Qy.load 0 T.one22 rfl rfl rfl) (Gm.q 2 [] (by kernel_rfl) rfl rfl (Qy.move rfl) (Gm.q 3 [] (by kernel_rfl) rfl rfl (Qy.at (α := Instr) T.sl22 rfl rfl (by assumption) (by omega)) ?_)))
     refine Gm.q 4 [] (by kernel_rfl) rfl rfl (Qy.loadsG T.agg55 rfl (Arr.elem (by assumption) (by omega)) rfl) ?_
     refine Gm.q 5 [] (by kernel_rfl) rfl rfl (Qy.fieldAddr T.fa25_1 rfl) (Gm.q 6 [0] (by kernel_rfl) rfl rfl (Qy.load 0 T.one3 rfl rfl rfl) (Gm.one 7 ⟨rfl, trivial⟩ (by first | exact Imm.le_refl _ | assumption) (by kernel_rfl) rfl ?_))
     refine Wl.call0 rfl T.fn78 rfl (c78 _ _ _) ?_
     refine Wl.on0 ?_
     refine Gm.q 8 [] (by kernel_rfl) rfl rfl (Qy.notD rfl) ?_
     refine Gm.doneA (by kernel_rfl) ⟨rfl, trivial⟩ (by first | exact Imm.le_refl _ | assumption) ?_
     refine Ar.next ?_
     refine Wc.cond rfl (fun hc3 => ?_) (fun hc3 => ?_)
     refine Wc.seq (Wc.region rfl (Wl.q rfl (Qy.move rfl) (Wl.q rfl (Qy.assign rfl) (Wl.q rfl (Qy.assign rfl) (Wl.done (Ar.next (Wc.ret ?_)))))))
     refine Ar.outRet ?_
     refine Ar.passRet ?_
     refine Ar.passRet ?_
     refine Ar.outRet ?_
     refine Ar.passRet ?_
     refine Ar.out2 (.inr rfl) (Ho := Hp.only _ []) rfl (.tmp rfl) (.tmp rfl) (Hp.sub_only _ _) ?_
     rotate_left
     refine Wc.skip ?_
     refine Ar.outNormal ?_
     refine Ar.next (Wc.region rfl (Wl.q rfl (Qy.move rfl) (Wl.q rfl (Qy.add rfl rfl (by omega)) ?_)))
     refine Wl.q rfl (Qy.assign rfl) (Wl.done ?_)
     rotate_left
     refine Wc.exit (Ar.passExit ?_)
     refine Ar.passExit ?_
     refine Ar.here ?_
     refine Ar.next (Wc.seq (Wc.region rfl (Wl.q rfl (Qy.assign rfl) (Wl.q rfl (Qy.assign rfl) (Wl.done (Ar.next (Wc.ret ?_)))))))
     refine Ar.out2 (.inr rfl) (Ho := Hp.only _ []) rfl (.tmp rfl) (.tmp rfl) (Hp.sub_only _ _) ?_
     rotate_left
     · refine ⟨?_, rfl, rfl⟩
       have hl : k < p.code.length := by omega
       have : badAt p = some k := find_bad hl hk2 hc3
       simp [checkP, hh, this]
     · refine Ar.again (k + 1) ?_ ?_ rfl ⟨rfl, rfl, trivial⟩ ⟨rfl, trivial⟩
       · refine ⟨by omega, ?_⟩
         rw [all_step _ (by omega), hk2]
         simpa using hc3
       · omega
     · refine ⟨?_, rfl, rfl⟩
       have hk : k = p.code.length := by omega
       subst hk
       rw [List.take_length] at hk2
       have : badAt p = none := find_none hk2
       simp [checkP, hh, this]
theorem c19 (G : Imm) (p : PV) (ac ao : Option Addr) (cc co : Nat) (hc : Arr G ac p.code) (ho : Arr G ao p.outs) (h1 : p.code.length ≤ 1099511627776) (h2 : p.outs.length ≤ 1099511627776) :
 Does Tryd.prog 19 [.agg #[.int .i64 p.ins, .int .i64 p.regs, .slice ac p.code.length cc, .slice ao p.outs.length co]] G [] (fun v G' Ho => v = .bool (decide (rightP p = true)) ∧ G' = G ∧ Ho = []) := by
 refine Does.enter Tryd.func19 rfl Tryd.ntmps19 rfl (fun w => ?_)
 refine Wc.seq (Wc.region rfl ?_)
 refine Wl.box 0 rfl rfl rfl (fun b1 => ?_)
 refine Wl.q rfl (Qy.assign rfl) (Wl.done (Ar.next (Wc.seq (Wc.region rfl (Wl.q rfl (Qy.loadAll 0 T.agg25 rfl rfl rfl) ?_)))))
 refine Wl.call0 rfl T.fn46 rfl (c46 _ _ _ _ _ _ (by assumption) (by assumption) (by omega) (by omega)) ?_
 refine Wl.q rfl (Qy.move rfl) (Wl.q rfl (Qy.extract rfl rfl) (Wl.q rfl (Qy.extract rfl rfl) (Wl.q rfl (Qy.assign rfl) (Wl.q rfl (Qy.assign rfl) (Wl.done (Ar.next (Wc.seq (Wc.region rfl (Wl.q rfl (Qy.move rfl) (Wl.q rfl (Qy.notD rfl) (Wl.q rfl (Qy.assign rfl) (Wl.done ?_))))))))))))
 refine Ar.next (Wc.ret ?_)
 refine Ar.out1 (.inr rfl) (Ho := Hp.only _ []) rfl (.tmp rfl) (Hp.sub_only _ _) ?_
 refine ⟨?_, rfl, rfl⟩
 cases h : (checkP p).2 <;> simp [rightP, h]
end Go.Proofs.YtbppmiimeccclaaDoor
namespace Go.Proofs.YtbppmiimeccclaaDoor
open Go Go.Sl Go.ChangeShapes Go.WideShapes Go.RowKit Go.Joins
set_option linter.unusedVariables false
set_option maxRecDepth 100000
theorem bulk_one {H : Type} (d : DataW H) : 1 ≤ Rows.uptoBulk d := by
 cases d with
 | lit l => cases l <;> simp [Rows.uptoBulk]
 | nil => simp [Rows.uptoBulk]
 | ptr d => simp [Rows.uptoBulk]
 | slice elems spare => simp [Rows.uptoBulk]
 | agg parts => simp [Rows.uptoBulk]
 | iface t d => simp [Rows.uptoBulk]
 | map entries => simp [Rows.uptoBulk]
 | held h => simp [Rows.uptoBulk]
theorem bulk_len {H : Type} (l : List (DataW H)) : l.length ≤ Rows.uptoBulkAll l := by
 induction l with
 | nil => simp [Rows.uptoBulkAll]
 | cons x r ih => have := bulk_one x; simp only [Rows.uptoBulkAll, List.length_cons]; omega
theorem bulk_slice {H : Type} (l r : List (DataW H)) : l.length ≤ Rows.uptoBulk (.slice l r) := by
 have := bulk_len l
 simp only [Rows.uptoBulk]; omega
theorem und3 : Tryd.prog.underlying 3 = some (.int .i64) := by kernel_rfl
theorem und4 : Tryd.prog.underlying 4 = some .bool := by kernel_rfl
theorem laidOut : laidOutB Tryd.prog = true := by kernel_rfl
theorem cells3 : Tryd.prog.cellsOf 3 = 1 := by kernel_rfl
theorem cells25 : Tryd.prog.cellsOf 25 = 4 := by kernel_rfl
theorem cells72 : Tryd.prog.cellsOf 55 = 5 := by kernel_rfl
theorem fields25 : Deep.oneCellFields Tryd.prog #[{ name := "Ins", type := 3, offset := 0, embedded := false, tag := "", pkgPath := "", byteOffset := 0 },
 { name := "Regs", type := 3, offset := 1, embedded := false, tag := "", pkgPath := "", byteOffset := 8 },
 { name := "Code", type := 22, offset := 2, embedded := false, tag := "", pkgPath := "", byteOffset := 16 },
 { name := "Outs", type := 23, offset := 3, embedded := false, tag := "", pkgPath := "", byteOffset := 40 }] = true := by kernel_rfl
section
variable {H : Type} {enc : TypeId × Value → H}
theorem open_prog {W : World} {r : Reach} {b0 : Nat} {v : Value} {d : DataW H} {ps : List MemPlace} (hv : Value.okWide Tryd.prog W r b0 25 v) (h : DataW.Trod enc Tryd.prog W 0 (fun _ => true) true 25 v d ps) :
 ∃ (p : PV) (ac ao : Option Addr) (cc co : Nat), v = .agg #[.int .i64 p.ins, .int .i64 p.regs, .slice ac p.code.length cc, .slice ao p.outs.length co] ∧ Arr (heapG W) ac p.code ∧ Arr (heapG W) ao p.outs ∧
  p.code.length + p.outs.length ≤ Rows.uptoBulk d := by
 obtain ⟨v0, v1, v2, v3, y0, y1, y2, y3, n, rfl, rfl, rfl, h0, h1, h2, h3⟩ := open_agg4 Tryd.underlying25 fields25 cells25 hv h
 obtain ⟨k0, e0, _, _⟩ := DataW.trod_int und3 h0
 obtain ⟨k1, e1, _, _⟩ := DataW.trod_int und3 h1
 obtain ⟨a2, c2, xs, e2, ha2, hl2, hd2⟩ := open_arr (α := Sl.Instr) Tryd.underlying22 cells72 (by decide) (dec_instr und3 Tryd.underlying55 ⟨rfl, rfl⟩ ⟨rfl, rfl⟩ ⟨rfl, rfl⟩ ⟨rfl, rfl⟩ ⟨rfl, rfl⟩ cells3 cells72) h2
 obtain ⟨a3, c3, ys, e3, ha3, hl3, hd3⟩ := open_arr (α := Int) Tryd.underlying23 cells3 (by decide) (dec_int und3) h3
 simp only [List.cons.injEq, and_true] at e0 e1 e2 e3
 subst e0 e1 e2 e3
 refine ⟨⟨k0, k1, xs, ys⟩, a2, a3, c2, c3, rfl, ha2, ha3, ?_⟩
 have b2 : xs.length ≤ Rows.uptoBulk y2.1 := by
  rcases hd2 with ⟨_, rfl⟩ | ⟨l, r, e, hl, _⟩
  · exact Nat.zero_le _
  · rw [e, ← hl]; exact bulk_slice l r
 have b3 : ys.length ≤ Rows.uptoBulk y3.1 := by
  rcases hd3 with ⟨_, rfl⟩ | ⟨l, r, e, hl, _⟩
  · exact Nat.zero_le _
  · rw [e, ← hl]; exact bulk_slice l r
 simp only [Rows.uptoBulk, Rows.uptoBulkAll]
 omega
theorem und2 : Tryd.prog.underlying 2 = some (.int .i64) := by kernel_rfl
theorem cells2 : Tryd.prog.cellsOf 2 = 1 := by kernel_rfl
end
theorem own : ownKnob Tryd.prog.godebug = none := by kernel_rfl
end Go.Proofs.YtbppmiimeccclaaDoor
set_option linter.unusedVariables false
namespace Go.Sl
open Go
def lrec (q : Loop) (s : LoopState) (p : Option Code) : Obj := .loop { q with state := s, pending := p }
def YieldDoes (P : Program) (l : Nat) (vs : List Value) (G : Imm) (Hi : Hp) (post : Value → Imm → Hp → Prop) : Prop :=
 ∀ w, HoldH Hi G w → ∃ f tmps assign body, (Instr.yield l vs.toArray).run P w = .ok (.round l f tmps assign body) w ∧ RoundIn Fence.wide 0 P l f tmps assign body w (DoesPost G Hi w post)
def IterDoes {β : Type} (P : Program) (f : FuncId) (caps : List Value) (G : Imm) (enc : β → List Value) (xs : List β) : Prop :=
 ∀ (ι : Type) (J : ι → Hp) (inv : Nat → ι → Prop) (stop : ι → Prop) (l : Nat) (i0 : ι), inv 0 i0 →
  (∀ k x i, xs[k]? = some x → inv k i → YieldDoes P l (enc x) G (J i) (fun v G' Ho => G' = G ∧ ∃ j, Ho = J j ∧ ((v = .bool true ∧ inv (k + 1) j) ∨ (v = .bool false ∧ stop j)))) →
  Does P f (.func (.yield l) #[] #[] :: caps) G (J i0) (fun v G' Ho => G' = G ∧ ∃ j, Ho = J j ∧ (inv xs.length j ∨ stop j))
def Hp.below (K : Nat) : Hp → Bool
 | [] => true
 | (t, _) :: h => Nat.ble (t + 1) K && Hp.below K h
theorem Hp.below_get {K : Nat} : ∀ {A : Hp}, Hp.below K A = true → ∀ t, K ≤ t → A.get t = none
 | [], _, t, _ => rfl
 | (i, x) :: A, h, t, ht => by
   simp only [Hp.below, Bool.and_eq_true] at h
   have h1 := Nat.le_of_ble_eq_true h.1
   rw [Hp.get_cons, if_neg (by omega)]
   exact Hp.below_get h.2 t ht
section
variable {P : Program} {ops : Array Oper} {rest : List Oper} {B : Bs} {e : Env} {D : List Deferred} {H : Hp} {G : Imm} {K : Act → World → Prop}
 {ty : TypeId} {pos : String} {after : Array Edge} {d : Nat}
theorem Hp.get_kill_lt (k : Nat) : ∀ (L : Hp) (t : Nat), t < k → (Hp.kill k L).get t = none
 | [], _, _ => rfl
 | (j, z) :: L, t, h => by
   show Hp.get ((k + j, none, default) :: Hp.kill k L) t = none
   rw [Hp.get_cons, if_neg (by omega)]
   exact Hp.get_kill_lt k L t h
theorem Hold.tail {a : Act} {w : World} (k : Nat) {A Hi Ho : Hp} {G' : Imm} (hA : Hp.below k A = true) (hh : Hold B ⟨e, D, Ho.shift k ++ (Hi.kill k ++ (A ++ Hi.shift k)), G'⟩ a w) : Hold B ⟨e, D, A ++ Ho.shift k, G'⟩ a w := by
 refine hh.weaken (fun _ _ h => h) (fun t x hx => ?_)
 rw [Hp.get_append] at hx
 rw [Hp.get_append, Hp.get_append, Hp.get_append]
 rcases Nat.lt_or_ge t k with ht | ht
 · have h1 : (Ho.shift k).get t = none := by rw [Hp.get_shift, if_neg (by omega)]
   have h2 : (Hi.shift k).get t = none := by rw [Hp.get_shift, if_neg (by omega)]
   have h3 : (Hi.kill k).get t = none := Hp.get_kill_lt k Hi t ht
   rw [h1, h2, h3]
   rw [h1] at hx
   simpa using hx
 · rw [Hp.below_get hA t ht] at hx
   simp only [Option.none_or] at hx
   rw [hx]; rfl
theorem Wl.yield {g : Operand} {l : Nat} {xs : Array Operand} {ats : Array TypeId} {vs : List Value} {A Hi : Hp} {post : Value → Imm → Hp → Prop} (k : Nat)
 (hn : Nat.ble (d + 1) B.n = true) (hg : e.ev g = some (.func (.yield l) #[] #[])) (hx : e.evs xs.toList = some vs) (hH : H = A ++ Hi.shift k) (hA : Hp.below k A = true)
 (hF : YieldDoes P l vs G Hi post) (h : ∀ v G' Ho, G.le G' → post v G' Ho → Wl P ops rest B ⟨(d, v) :: e, D, A ++ Ho.shift k, G'⟩ K) :
 Wl P ops (⟨some d, .call { callee := .value g, args := xs, argTypes := ats }, ty, pos, after, none⟩ :: rest) B ⟨e, D, H, G⟩ K := by
 intro a w hh
 subst hH
 unfold lstWp
 rw [if_pos (by simp [Region.wanted])]
 unfold opWp
 have hHi : ∀ t x, Hi.get t = some x → Hp.get (A ++ Hi.shift k) (k + t) = some x := fun t x hx => by
  rw [Hp.get_append, Hp.below_get hA (k + t) (by omega), Option.none_or, Hp.get_shift, if_pos (by omega), Nat.add_sub_cancel_left]; exact hx
 have hw : HoldH Hi G w := ⟨fun t b o x => hh.mem.own _ b o (hHi _ _ x), fun t t' b o o' x y => by have := hh.mem.one _ _ b _ _ (hHi _ _ x) (hHi _ _ y); omega, hh.mem.imm, fun t b o x => hh.mem.off _ b o (hHi _ _ x)⟩
 obtain ⟨f, tmps, assign, body, hy, hR⟩ := hF w hw
 have hrun : (execOp a.eval ⟨some d, .call { callee := .value g, args := xs, argTypes := ats }, ty, pos, after, none⟩).run P w = .ok (.round l f tmps assign body) w := by
  simp [execOp, resolve, Deferred.ofValue, invoke, hh.eval hg, hh.args hx, hy]
 rw [hrun]
 refine hR.mono fun x w' ⟨v, G', Ho, h1, h2, h3, h4, h5, h6, h7⟩ => ⟨v, h1, ?_⟩
 exact h v G' Ho h3 h7 _ _ (((hh.called k hHi h2 h3 h4 h5 h6).tail k hA).put hn v)
def Hp.tl (H : Hp) (k : Nat) (T : Hp) : Prop := ∀ t x, (T.shift k).get t = some x → H.get t = some x
theorem Hp.tl_self (k : Nat) (T : Hp) : Hp.tl (T.shift k) k T := fun _ _ h => h
theorem Hp.tl_cons {k t : Nat} {x : Option Nat × Obj} {H T : Hp} (ht : Nat.ble (t + 1) k = true) (h : Hp.tl H k T) : Hp.tl ((t, x) :: H) k T := fun i y hi => by
 have hk : k ≤ i := by
  rcases Nat.lt_or_ge i k with h1 | h1
  · rw [Hp.get_shift, if_neg (by omega)] at hi; cases hi
  · exact h1
 have := Nat.le_of_ble_eq_true ht
 rw [Hp.get_cons, if_neg (by omega)]
 exact h i y hi
theorem Hold.cutT {a : Act} {w : World} {e' : Env} {A T : Hp} {k : Nat} (hh : Hold B ⟨e, D, H, G⟩ a w) (he : e.sub e') (hH : H.sub A) (ht : H.tl k T) : Hold B ⟨e', D, A ++ T.shift k, G⟩ a w := by
 refine hh.weaken (Env.sub_get he) (fun t x hx => ?_)
 rw [Hp.get_append] at hx
 cases hA : A.get t with
 | some y =>
   rw [hA] at hx
   have hx' : y = x := by simpa using hx
   subst hx'
   exact Hp.sub_get hH t y hA
 | none => rw [hA] at hx; exact ht t x (by simpa using hx)
theorem Wl.yieldT {g : Operand} {l : Nat} {xs : Array Operand} {ats : Array TypeId} {vs : List Value} {A Hi : Hp} {post : Value → Imm → Hp → Prop} (k : Nat)
 (hn : Nat.ble (d + 1) B.n = true) (hg : e.ev g = some (.func (.yield l) #[] #[])) (hx : e.evs xs.toList = some vs) (hH : H.sub A) (ht : H.tl k Hi) (hA : Hp.below k A = true)
 (hF : YieldDoes P l vs G Hi post) (h : ∀ v G' Ho, G.le G' → post v G' Ho → Wl P ops rest B ⟨(d, v) :: e, D, A ++ Ho.shift k, G'⟩ K) :
 Wl P ops (⟨some d, .call { callee := .value g, args := xs, argTypes := ats }, ty, pos, after, none⟩ :: rest) B ⟨e, D, H, G⟩ K := by
 intro a w hh
 refine Wl.yield (H := A ++ Hi.shift k) k hn hg hx rfl hA hF h a w (hh.weaken (fun _ _ h => h) (fun t x hx => ?_))
 rw [Hp.get_append] at hx
 cases hA : A.get t with
 | some y =>
   rw [hA] at hx
   have hx' : y = x := by simpa using hx
   subst hx'
   exact Hp.sub_get hH t y hA
 | none => rw [hA] at hx; exact ht t x (by simpa using hx)
theorem Wc.loopT {ι : Type} {r : Option Nat} {c : Code} {Q : Exit → Act → World → Prop} (k : Nat) (I : ι → Env × Hp) (T : ι → Hp) (φ : ι → Prop) (μ : ι → Nat) (i0 : ι) (h0 : φ i0)
 (he : e.sub (I i0).1) (hH : H.sub (I i0).2) (ht : H.tl k (T i0))
 (hb : ∀ i, φ i → Wc r P c B ⟨(I i).1, D, (I i).2 ++ (T i).shift k, G⟩ (Exit.then (Again B (fun i => ⟨(I i).1, D, (I i).2 ++ (T i).shift k, G⟩) φ μ (μ i)) Q)) : Wc r P (.loop c) B ⟨e, D, H, G⟩ Q :=
 Wc.loopS (fun i => ⟨(I i).1, D, (I i).2 ++ (T i).shift k, G⟩) φ μ i0 h0 (fun _ _ h => h.cutT he hH ht) hb
theorem Ar.againT {ι : Type} {I : ι → Env × Hp} {T : ι → Hp} {k : Nat} {φ : ι → Prop} {μ : ι → Nat} {m : Nat} {Q : Exit → Act → World → Prop} (j : ι) (hφ : φ j) (hμ : μ j < m)
 (he : e.sub (I j).1) (hH : H.sub (I j).2) (ht : H.tl k (T j)) : Ar (Exit.then (Again B (fun i => ⟨(I i).1, D, (I i).2 ++ (T i).shift k, G⟩) φ μ m) Q) .normal B ⟨e, D, H, G⟩ :=
 fun a w hh => ⟨j, hφ, hμ, hh.cutT he hH ht⟩
theorem Wc.lift {r : Option Nat} {c : Code} {Q : Exit → Act → World → Prop} (k : Nat) (h : Wc r P c B ⟨e, D, H.shift k, G⟩ Q) : Wc r P c B ⟨e, D, H, G⟩ Q := by
 intro a w hh
 have hg : ∀ t x, (H.shift k).get t = some x → k ≤ t ∧ H.get (t - k) = some x := fun t x hx => by
  rw [Hp.get_shift] at hx
  split at hx
  · rename_i h1; exact ⟨h1, hx⟩
  · cases hx
 refine h a w ⟨hh.size, hh.defers, hh.env, ⟨?_, ?_, hh.mem.imm, ?_⟩, hh.upd, ?_, hh.le, hh.new⟩
 · intro t b o hx; exact hh.mem.own _ b o (hg _ _ hx).2
 · intro t t' b o o' hx hy
   have h1 := hg _ _ hx; have h2 := hg _ _ hy
   have := hh.mem.one _ _ b _ _ h1.2 h2.2; omega
 · intro t b o hx; exact hh.mem.off _ b o (hg _ _ hx).2
 · intro t b o hx; exact hh.mine _ b o (hg _ _ hx).2
theorem Hp.got {H L : Hp} (h : H.sub L) : ∀ t x, L.get t = some x → H.get t = some x := Hp.sub_get h
theorem Hp.got_app {H A T : Hp} {k : Nat} (h : H.sub A) (ht : H.tl k T) : ∀ t x, Hp.get (A ++ T.shift k) t = some x → H.get t = some x := fun t x hx => by
 rw [Hp.get_append] at hx
 cases hA : A.get t with
 | some y =>
   rw [hA] at hx
   have hx' : y = x := by simpa using hx
   subst hx'
   exact Hp.sub_get h t y hA
 | none => rw [hA] at hx; exact ht t x (by simpa using hx)
theorem Hp.got_cons {H L : Hp} {i : Nat} {y : Option Nat × Obj} (h : H.get i = some y) (hL : ∀ t x, L.get t = some x → H.get t = some x) : ∀ t x, Hp.get ((i, y) :: L) t = some x → H.get t = some x := fun t x hx => by
 rw [Hp.get_cons] at hx
 split at hx
 · rename_i he; subst he; cases hx; exact h
 · exact hL t x hx
theorem Hp.none_app {A T : Hp} {k t : Nat} (h : A.get t = none) (hk : Nat.ble (t + 1) k = true) : Hp.get (A ++ T.shift k) t = none := by
 have := Nat.le_of_ble_eq_true hk
 rw [Hp.get_append, h, Option.none_or, Hp.get_shift, if_neg (by omega)]
theorem Ar.outT {fn : Func} {G0 : Imm} {Hi Ho : Hp} {w0 : World} {post : Value → Imm → Hp → Prop} {n k : Nat} {x : Exit} (hx : x = .normal ∨ x = .ret) (hres : fn.results = #[]) (ht : H.tl k Ho) (hp : post (.tuple #[]) G Ho) :
 Ar (Out P fn G0 Hi w0 post) x ⟨n, w0, Hi.has, G0⟩ ⟨e, [], H, G⟩ := by
 intro a w hh
 have key : a.defers = [] ∧ ∃ v, (results fn a.tmps).run P w = .ok v w ∧ DoesPost G0 Hi w0 post (.returned v) w := by
  have hg : ∀ t x, Ho.get t = some x → H.get (k + t) = some x := fun t x hx => ht _ _ (by rw [Hp.get_shift, if_pos (by omega), Nat.add_sub_cancel_left]; exact hx)
  refine ⟨hh.defers, .tuple #[], by simp [results_eq, hres], .tuple #[], G, Ho, rfl, ⟨?_, ?_, hh.mem.imm, ?_⟩, hh.le, hh.upd, hh.new, ?_, hp⟩
  · intro t b o h; exact hh.mem.own _ b o (hg _ _ h)
  · intro t t' b o o' h h'; have := hh.mem.one _ _ b _ _ (hg _ _ h) (hg _ _ h'); omega
  · intro t b o h; exact hh.mem.off _ b o (hg _ _ h)
  · intro t b o h; exact hh.mine _ b o (hg _ _ h)
 rcases hx with rfl | rfl <;> exact key
def OutM (P : Program) (fn : Func) (G : Imm) (Hi : Hp) (w : World) (post : Value → Imm → Hp → Prop) : Exit → Act → World → Prop := bodyPostM (FF none) 0 P fn (DoesPost G Hi w post)
theorem Does.enterM {f : FuncId} {fn : Func} {c : Code} {n : Nat} {args : List Value} {Hi : Hp} {post : Value → Imm → Hp → Prop} (hf : P.funcs[f]? = some fn) (hb : fn.body = some c) (hn : fn.ntmps = n)
 (hl : Nat.ble args.length n = true) (h : ∀ w, Wc none P c ⟨n, w, Hi.has, G⟩ ⟨Env.ofArgs 0 args, [], Hi, G⟩ (OutM P fn G Hi w post)) : Does P f args G Hi post := by
 intro w hw
 have hl' := Nat.le_of_ble_eq_true hl
 refine callsIn_FF.1 (callsIn_of_wp_marks (F := FF none) (n := 0) hf hb trivial (h w _ w ?_))
 refine ⟨?_, rfl, ?_, hw, Upd.refl _ _, fun t b o hx => .inr ⟨t, o, hx⟩, Imm.le_refl _, fun b h1 h2 => (h1 h2).elim⟩
 · simp [hn]; omega
 · intro i v hi
   obtain ⟨_, h2⟩ := Env.get_ofArgs args 0 i v hi
   have h2' : args[i]? = some v := by simpa using h2
   have hlt : i < args.length := (List.getElem?_eq_some_iff.1 h2').1
   show (args.toArray ++ Array.replicate (fn.ntmps - args.toArray.size) undef)[i]? = some v
   rw [Array.getElem?_append_left (by simpa using hlt)]
   simpa using h2'
def mark (b : Nat) : Deferred := { target := .collected b, args := #[] }
theorem putObj_upd (w : World) (b : Nat) (o : Obj) : Upd (· = b) w (w.putObj b o) := ⟨rfl, rfl, rfl, by simp, fun k _ hk => World.putObj_heap_other hk⟩
section out
variable {fn : Func} {G0 : Imm} {Hi : Hp} {w0 : World} {post : Value → Imm → Hp → Prop} {x : Exit}
theorem Ar.collect (hx : x = .normal ∨ x = .ret) (t : Nat) {b : Nat} (ht : H.get t = some (some b, .deferred (some []))) (h : Ar (OutM P fn G0 Hi w0 post) .ret B ⟨e, D, (t, some b, .deferred none) :: H, G⟩) :
 Ar (OutM P fn G0 Hi w0 post) x B ⟨e, mark b :: D, H, G⟩ := by
 intro a w hh
 have hb : w.heap[b]? = some (.deferred (some [])) := hh.mem.own t b _ ht
 have hlt := (Array.getElem?_eq_some_iff.1 hb).1
 have hh1 : Hold B ⟨e, D, H, G⟩ { a with defers := D } w := ⟨hh.size, rfl, hh.env, hh.mem, hh.upd, hh.mine, hh.le, hh.new⟩
 have h1 := h _ _ (hh1.set ht (putObj_upd w b (.deferred none)) (World.putObj_heap_same hlt))
 have key : LeavesInM (FF none) 0 P fn a.tmps (DoesPost G0 Hi w0 post) a.defers .returning w := by
  rw [hh.defers]
  exact ⟨by simp, .inl ⟨b, _, rfl, run_takeDeferred hb, h1⟩⟩
 rcases hx with rfl | rfl <;> exact key
theorem Ar.outOf (hx : x = .normal ∨ x = .ret) (h : Ar (Out P fn G0 Hi w0 post) .ret B ⟨e, [], H, G⟩) : Ar (OutM P fn G0 Hi w0 post) x B ⟨e, [], H, G⟩ := by
 intro a w hh
 obtain ⟨hd, v, hr, hR⟩ := h a w hh
 have key : LeavesInM (FF none) 0 P fn a.tmps (DoesPost G0 Hi w0 post) a.defers .returning w := by
  rw [hd]; exact ⟨v, hr, hR⟩
 rcases hx with rfl | rfl <;> exact key
end out
def Env.ps : List Nat → List Value → Env → Env
 | t :: ts, v :: vs, e => Env.ps ts vs ((t, v) :: e)
 | _, _, e => e
def RoundQ (P : Program) (l : Nat) (body : Code) (R : Ending → World → Prop) : Exit → Act → World → Prop :=
 Exit.then (fun a₁ w₁ => ∃ w₂, (Instr.beginRound l).run P w₁ = .ok () w₂ ∧ body.wpIn (FF (some l)) 0 P (roundPost P l R) a₁ w₂) (fun _ _ _ => False)
theorem Ar.begin {l : Nat} {body : Code} {R : Ending → World → Prop} {q : Loop} {p : Option Code} (t : Nat) (ht : H.get t = some (some l, lrec q .ready p))
 (h : Wc (some l) P body B ⟨e, D, (t, some l, lrec q .busy p) :: H, G⟩ (roundPost P l R)) : Ar (RoundQ P l body R) .normal B ⟨e, D, H, G⟩ := by
 intro a w hh
 have hb := hh.mem.own t l _ ht
 have hlt := (Array.getElem?_eq_some_iff.1 hb).1
 refine ⟨_, run_beginRound hb rfl, ?_⟩
 exact h _ _ (hh.set ht (putObj_upd w l _) (World.putObj_heap_same hlt))
section round
variable {ι : Type} {x : Exit} {l n : Nat} {w0 : World} {Hi : Hp} {G0 : Imm} {post : Value → Imm → Hp → Prop} {q : Loop} {p : Option Code}
theorem Ar.roundEnd (c : Option Code) (hx : (x = .normal ∧ c = none) ∨ (x = .ret ∧ c = some .ret) ∨ ∃ id, x = .exit id ∧ c = some (.exit id)) (t : Nat) (ht : H.get t = some (some l, lrec q .busy p)) {Ho : Hp}
 (hp : post (.bool c.isNone) G Ho) (hHo : ∀ i y, Ho.get i = some y → Hp.get ((t, some l, lrec q (if c.isNone then .ready else .done) c) :: H) i = some y) :
 Ar (roundPost P l (DoesPost G0 Hi w0 post)) x ⟨n, w0, Hi.has, G0⟩ ⟨e, D, H, G⟩ := by
 intro a w hh
 have hb := hh.mem.own t l _ ht
 have hlt := (Array.getElem?_eq_some_iff.1 hb).1
 have h2 := hh.set ht (o' := lrec q (if c.isNone then .ready else .done) c) (putObj_upd w l _) (World.putObj_heap_same hlt)
 have h3 := h2.weaken (e' := e) (H' := Ho) (fun _ _ h => h) hHo
 have key : ∃ v w', (Instr.endRound l c).run P w = .ok v w' ∧ DoesPost G0 Hi w0 post (.returned v) w' :=
  ⟨_, _, run_endRound c hb, .bool c.isNone, G, Ho, rfl, h3.mem, h3.le, h3.upd, h3.new, h3.mine, hp⟩
 rcases hx with ⟨rfl, rfl⟩ | ⟨rfl, rfl⟩ | ⟨id, rfl, rfl⟩ <;> exact key
end round
theorem Env.ps_hold {n : Nat} : ∀ (ts : List Nat) (vs : List Value) (e : Env) (tmps : Array Value), tmps.size = n → (∀ i v, e.get i = some v → tmps[i]? = some v) → ts.all (fun t => Nat.ble (t + 1) n) = true →
 ((ts.zip vs).foldl (fun t (p : Nat × Value) => t.setIfInBounds p.1 p.2) tmps).size = n ∧ ∀ i v, (Env.ps ts vs e).get i = some v → ((ts.zip vs).foldl (fun t (p : Nat × Value) => t.setIfInBounds p.1 p.2) tmps)[i]? = some v
 | [], vs, e, tmps, hs, he, _ => by
   have : Env.ps [] vs e = e := by cases vs <;> rfl
   rw [this]; simpa using ⟨hs, he⟩
 | t :: ts, [], e, tmps, hs, he, _ => by simpa [Env.ps] using ⟨hs, he⟩
 | t :: ts, v :: vs, e, tmps, hs, he, hb => by
   simp only [List.all_cons, Bool.and_eq_true] at hb
   have ht := Nat.le_of_ble_eq_true hb.1
   refine Env.ps_hold ts vs ((t, v) :: e) (tmps.setIfInBounds t v) (by simpa using hs) (fun i u hu => ?_) hb.2
   rw [Env.get_cons] at hu
   rw [Array.getElem?_setIfInBounds]
   by_cases hi : t = i
   · rw [if_pos hi] at hu ⊢; rw [if_pos (by omega)]; exact hu
   · rw [if_neg hi] at hu ⊢; exact he i u hu
section stmt
variable {β ι : Type} {Q : Exit → Act → World → Prop} {f : FuncId} {fst caps : List Value} {enc : β → List Value} {xs : List β} {ps : List Nat} {assign body : Code} {g : Operand}
def rst : Option Code → LoopState | none => .ready | some _ => .done
abbrev RJ (tl td : Nat) (q : Loop) (l dd : Nat) (A : Hp) (p : Option Code) : Hp := (tl, some l, lrec q (rst p) p) :: (td, some dd, .deferred (some [])) :: A
theorem Wc.rangeFunc (tl td : Nat) (I : ι → Hp) (inv : Nat → ι → Prop) (stop : Code → ι → Prop) (i0 : ι) (hg : e.ev g = some (.func (.func f) #[] caps.toArray)) (hf : isFn P f)
 (hps : ∀ x, (enc x).length = ps.length) (hpb : ps.all (fun t => Nat.ble (t + 1) B.n) = true) (hit : IterDoes P f caps G enc xs) (h0 : inv 0 i0) (hH : ∀ t x, (I i0).get t = some x → H.get t = some x)
 (htl : Nat.beq tl td = false ∧ ∀ i, (I i).get tl = none)
 (hround : ∀ k x i l dd q w0, xs[k]? = some x → inv k i → Wc (some l) P assign ⟨B.n, w0, (RJ tl td q l dd (I i) none).has, G⟩ ⟨Env.ps ps (enc x) e, [], RJ tl td q l dd (I i) none, G⟩
  (RoundQ P l body (DoesPost G (RJ tl td q l dd (I i) none) w0 (fun v G' Ho => G' = G ∧ ∃ j : ι × Option Code, Ho = RJ tl td q l dd (I j.1) j.2 ∧ ((v = .bool true ∧ j.2 = none ∧ inv (k + 1) j.1) ∨ (v = .bool false ∧ ∃ c, j.2 = some c ∧ stop c j.1))))))
 (hdone : ∀ j dd, inv xs.length j → Ar Q .normal B ⟨e, mark dd :: D, (td, some dd, .deferred (some [])) :: I j, G⟩)
 (hstop : ∀ j dd c, stop c j → Wc none P c B ⟨e, mark dd :: D, (td, some dd, .deferred (some [])) :: I j, G⟩ Q) :
 Wc none P (.rangeFunc g ps.toArray assign body) B ⟨e, D, H, G⟩ Q := by
 intro a w hh
 refine wpIn_rangeFunc fun fn _ => ?_
 obtain ⟨q, hq⟩ : ∃ q : Loop, q = { state := .ready, pending := none, fn, tmps := a.tmps, params := ps.toArray, assign, body, defers := w.heap.size } := ⟨_, rfl⟩
 obtain ⟨fnn, hf1, hf2, hf3⟩ := hf
 obtain ⟨ht3, htI⟩ := htl
 have hne : tl ≠ td := fun h => by subst h; simp at ht3
 have hA := hh.alloc td (.deferred (some []))
 have hB := hA.alloc tl (lrec q .ready none)
 rw [World.size_alloc] at hB
 refine ⟨w.heap.size + 1, [mark w.heap.size], (w.alloc (.deferred (some []))).alloc (lrec q .ready none), { target := .fn (.func f) caps.toArray, args := #[.func (.yield (w.heap.size + 1)) #[] #[]] }, (w.alloc (.deferred (some []))).alloc (lrec q .ready none), f,
  (.func (.yield (w.heap.size + 1)) #[] #[] :: caps).toArray, (w.alloc (.deferred (some []))).alloc (lrec q .ready none), ?_, ?_, ?_, ?_, fun h => by simp [FF] at h, ?_⟩
 · have := run_enterLoop_outer (P := P) (w := w) fn a.tmps ps.toArray assign body
   rw [hq]; exact this
 · have hev : Act.eval a g = .func (.func f) #[] caps.toArray := hh.eval hg
   simp only [resolve, hev]
   simp [go_sem]
 · intro f' hf'; trivial
 · simp [invoke, run_callFunc _ _ hf1 hf2 hf3]
 · have hB' : Hold B ⟨e, D, RJ tl td q (w.heap.size + 1) w.heap.size (I i0) none, G⟩ a ((w.alloc (.deferred (some []))).alloc (lrec q .ready none)) := by
    refine hB.weaken (fun _ _ h => h) (fun t x hx => ?_)
    rw [Hp.get_cons] at hx ⊢
    split at hx <;> rename_i h1
    · rw [if_pos h1]; exact hx
    · rw [if_neg h1]
      rw [Hp.get_cons] at hx ⊢
      split at hx <;> rename_i h2
      · rw [if_pos h2]; exact hx
      · rw [if_neg h2]; exact hH t x hx
   have hC := hit (ι × Option Code) (fun s => RJ tl td q (w.heap.size + 1) w.heap.size (I s.1) s.2) (fun k j => j.2 = none ∧ inv k j.1) (fun j => ∃ c, j.2 = some c ∧ stop c j.1) (w.heap.size + 1) (i0, none) ⟨rfl, h0⟩ (fun k x i hx hi => ?_)
   · refine callsIn_FF.2 ((hC _ hB'.mem).mono fun ex w' ⟨v, G', Ho, h1, h2, h3, h4, h5, h6, h7, j, h8, h9⟩ => ?_)
     subst h1 h7
     have hcl := hB'.called 0 (Hi := RJ tl td q (w.heap.size + 1) w.heap.size (I i0) none) (fun t x hx => by rw [Nat.zero_add]; exact hx) h2 h3 h4 h5 h6
     have hD : Hold B ⟨e, D, Ho, G'⟩ a w' := hcl.weaken (fun _ _ h => h) (fun t x hx => by
      rw [Hp.get_append, Hp.get_shift, if_pos (Nat.zero_le _), Nat.sub_zero, hx]; rfl)
     rw [h8] at hD
     obtain ⟨ji, jp⟩ := j
     have hget : Hp.get (RJ tl td q (w.heap.size + 1) w.heap.size (I ji) jp) tl = some (some (w.heap.size + 1), lrec q (rst jp) jp) := by
      rw [Hp.get_cons, if_pos rfl]
     have hbk := hD.mem.own tl _ _ hget
     have hlt := (Array.getElem?_eq_some_iff.1 hbk).1
     have hE := hD.set hget (o' := lrec q .exhausted jp) (putObj_upd w' _ _) (World.putObj_heap_same hlt)
     have hF : Hold B ⟨e, D, (td, some w.heap.size, .deferred (some [])) :: I ji, G'⟩ a (w'.putObj (w.heap.size + 1) (lrec q .exhausted jp)) := by
      refine hE.weaken (fun _ _ h => h) (fun t x hx => ?_)
      rw [Hp.get_cons] at hx ⊢
      have htn : tl ≠ t := fun h => by
       subst h
       rw [if_neg (Ne.symm hne)] at hx
       have := htI ji
       rw [hx] at this; cases this
      rw [if_neg htn]
      rw [Hp.get_cons, if_neg htn, Hp.get_cons]
      exact hx
     have hG : Hold B ⟨e, mark w.heap.size :: D, (td, some w.heap.size, .deferred (some [])) :: I ji, G'⟩ { a with defers := [mark w.heap.size] ++ a.defers } (w'.putObj (w.heap.size + 1) (lrec q .exhausted jp)) :=
      ⟨hF.size, by show [mark w.heap.size] ++ a.defers = _; rw [hF.defers]; rfl, hF.env, hF.mem, hF.upd, hF.mine, hF.le, hF.new⟩
     have hend : (Instr.endLoop (w.heap.size + 1)).run P w' = .ok jp (w'.putObj (w.heap.size + 1) (lrec q .exhausted jp)) := run_endLoop hbk (by cases jp <;> simp [rst])
     refine ⟨jp, _, hend, ?_⟩
     rcases h9 with ⟨hj, hi⟩ | ⟨c, hj, hs⟩
     · have hj' : jp = none := hj
       subst hj'
       exact hdone ji _ hi _ _ hG
     · have hj' : jp = some c := hj
       subst hj'
       exact hstop ji _ c hs _ _ hG
   · obtain ⟨i, ip⟩ := i
     obtain ⟨hip, hi⟩ := hi
     have hip' : ip = none := hip
     subst hip'
     intro w2 hw2
     have hl2 : w2.heap[w.heap.size + 1]? = some (lrec q .ready none) := hw2.own tl _ _ (by rw [Hp.get_cons, if_pos rfl]; rfl)
     have hq2 : q.params = ps.toArray ∧ q.tmps = a.tmps ∧ q.assign = assign ∧ q.body = body := by rw [hq]; exact ⟨rfl, rfl, rfl, rfl⟩
     have hy := run_yield (P := P) (args := (enc x).toArray) hl2 (by show _ = q.params.size; rw [hq2.1]; simp [hps x])
     refine ⟨_, _, _, _, hy, roundIn_of_wpIn (F := Fence.wide) (n := 0) trivial ?_⟩
     have hz := Env.ps_hold ps (enc x) e a.tmps hh.size hh.env hpb
     have hr := hround k x i (w.heap.size + 1) w.heap.size q w2 hx hi
     have hhold : Hold ⟨B.n, w2, (RJ tl td q (w.heap.size + 1) w.heap.size (I i) none).has, G⟩ ⟨Env.ps ps (enc x) e, [], RJ tl td q (w.heap.size + 1) w.heap.size (I i) none, G⟩
      { tmps := (q.params.zip (enc x).toArray).foldl (fun tmps (t, a) => tmps.setIfInBounds t a) q.tmps, defers := [] } w2 := by
      refine ⟨?_, rfl, ?_, hw2, Upd.refl _ _, fun t b o hx => .inr ⟨t, o, hx⟩, Imm.le_refl _, fun b h1 h2 => (h1 h2).elim⟩
      · show ((q.params.zip (enc x).toArray).foldl _ q.tmps).size = B.n
        rw [hq2.1, hq2.2.1]
        have := hz.1
        simpa using this
      · intro i v hv
        show ((q.params.zip (enc x).toArray).foldl _ q.tmps)[i]? = some v
        rw [hq2.1, hq2.2.1]
        have := hz.2 i v hv
        simpa using this
     have h := hr _ w2 hhold
     show q.assign.wpIn (FF (some (w.heap.size + 1))) 0 P (RoundQ P (w.heap.size + 1) q.body _) _ _
     rw [hq2.2.2.1, hq2.2.2.2]
     exact h
end stmt
end
end Go.Sl
set_option linter.unusedVariables false
namespace Go.Sl
open Go
section
variable {P : Program} {e : Env} {H : Hp} {G : Imm} {ty : TypeId}
def isFuncT (P : Program) (t : TypeId) : Bool := match P.underlying t with | some (.func _ _ _) => true | _ => false
theorem run_equalIn_funcNil {t : TypeId} {f : Fn} {fs cs : Array Value} (ht : isFuncT P t = true) (d : Nat) (w : World) : (Op.equalIn (d + 1) t (.func f fs cs) .nilFunc).run P w = .ok false w := by
 unfold isFuncT at ht
 split at ht
 · rename_i a1 a2 a3 hu
   simp [Op.equalIn, run_underlying hu]
 · cases ht
theorem Qy.eqlFuncNil {t t' : TypeId} {x y : Operand} {f : Fn} {fs cs : Array Value} (ht : isFuncT P t = true) (hx : e.ev x = some (.func f fs cs)) (hy : e.ev y = some .nilFunc) : Qy P (.binOp .eql t x y t') ty e H G (.bool false) := fun a w _ _ _ _ hh => by
 have := run_equalIn_funcNil (P := P) (f := f) (fs := fs) (cs := cs) ht 9999 w
 simp [execOp, hh.eval hx, hh.eval hy, binOp, eqGuard, Op.equal, Op.maxDepth, this]
theorem run_equalIn_sliceNil {t E : TypeId} {a : Option Addr} {n c : Nat} (ht : P.underlying t = some (.slice E)) (d : Nat) (w : World) : (Op.equalIn (d + 1) t (.slice a n c) (.slice none 0 0)).run P w = .ok a.isNone w := by
 cases a <;> simp [Op.equalIn, run_underlying ht]
theorem Qy.eqlSliceNil {t t' : TypeId} {x y : Operand} {a : Option Addr} {n c E sz : Nat} (ht : isSlice P t E sz) (hx : e.ev x = some (.slice a n c)) (hy : e.ev y = some (.slice none 0 0)) : Qy P (.binOp .eql t x y t') ty e H G (.bool (decide (a = none))) := fun w0 w _ _ _ _ hh => by
 have := run_equalIn_sliceNil (P := P) (a := a) (n := n) (c := c) ht.1 9999 w
 simp [execOp, hh.eval hx, hh.eval hy, binOp, eqGuard, Op.equal, Op.maxDepth, this]
 cases a <;> rfl
theorem Qy.indexAddrA {T : TypeId} {x i : Operand} {b o n sz : Nat} {zs : List Value} {k : IntKind} {m : Int} (j : Nat) (hT : ArrayOf P T n sz zs) (hx : e.ev x = some (.pointer (some ⟨b, o, none⟩))) (hi : e.ev i = some (.int k m))
 (hb : decide (0 ≤ m ∧ m < n) = true) (hj : Nat.beq (m.toNat * sz) j = true) : Qy P (.indexAddr T x i) ty e H G (.pointer (some ⟨b, o + j, none⟩)) := fun a w _ _ _ _ hh => by
 obtain ⟨z, E, hu, _, _, hs⟩ := hT
 have hb' := of_decide_eq_true hb
 have hj' := Nat.eq_of_beq_eq_true hj
 simp [execOp, Instr.indexAt, Instr.sureAddr, hh.eval hx, hh.eval hi, asIntOf, run_underlying hu, hb', run_sizeOf w hs, add_lit, hj']
end
section
variable {P : Program} {B : Bs} {e : Env} {D : List Deferred} {H : Hp} {G : Imm}
theorem Hold.base {a : Act} {w : World} (hh : Hold B ⟨e, D, H, G⟩ a w) : Hold B ⟨e, D, H, B.G0⟩ a w := by
 refine ⟨hh.size, hh.defers, hh.env, ⟨hh.mem.own, hh.mem.one, fun b o h => hh.mem.imm b o (hh.le b o h), fun t b o h => ?_⟩, hh.upd, hh.mine, Imm.le_refl _, fun b h h0 => (h h0).elim⟩
 have h1 : G b = none := hh.mem.off t b o h
 show B.G0 b = none
 cases hg : B.G0 b with
 | none => rfl
 | some x => have h2 : G b = some x := hh.le b x hg; rw [h1] at h2; cases h2
theorem Ar.base {Q : Exit → Act → World → Prop} {x : Exit} (h : Ar Q x B ⟨e, D, H, B.G0⟩) : Ar Q x B ⟨e, D, H, G⟩ := fun a w hh => h a w hh.base
theorem Wc.base {r : Option Nat} {c : Code} {Q : Exit → Act → World → Prop} (h : Wc r P c B ⟨e, D, H, B.G0⟩ Q) : Wc r P c B ⟨e, D, H, G⟩ Q := fun a w hh => h a w hh.base
theorem HoldH.less {Hi : Hp} {G G' : Imm} {w : World} (hw : HoldH Hi G' w) (hl : G.le G') : HoldH Hi G w := by
 refine ⟨hw.own, hw.one, fun b o h => hw.imm b o (hl b o h), fun t b o h => ?_⟩
 have h1 := hw.off t b o h
 cases hg : G b with
 | none => rfl
 | some x => have := hl b x hg; rw [h1] at this; cases this
theorem DoesPost.up {G G' : Imm} {Hi : Hp} {w w' : World} {q : Value → Hp → Prop} (hw : HoldH Hi G' w) {x : Ending} (h : DoesPost G Hi w (fun v G1 Ho => G1 = G ∧ q v Ho) x w') :
 DoesPost G' Hi w (fun v G1 Ho => G1 = G' ∧ q v Ho) x w' := by
 obtain ⟨v, G1, Ho, h1, h2, h3, h4, h5, h6, h7, h8⟩ := h
 have hnot : ∀ b o, G' b = some o → ¬ Hi.has b := fun b o hb ⟨t, o', ht⟩ => by have := hw.off t b o' ht; rw [hb] at this; cases this
 refine ⟨v, G', Ho, h1, ⟨h2.own, h2.one, fun b o hb => ?_, fun t b o ht => ?_⟩, Imm.le_refl _, h4, fun b h0 h0' => (h0 h0').elim, h6, rfl, h8⟩
 · rw [h4.same b (hw.ltG hb) (hnot b o hb)]; exact hw.imm b o hb
 · cases hg : G' b with
   | none => rfl
   | some y =>
     rcases h6 t b o ht with h | h
     · have : b < w.heap.size := hw.ltG hg; omega
     · exact (hnot b y hg h).elim
theorem YieldDoes.up {l : Nat} {vs : List Value} {G G' : Imm} {Hi : Hp} {q : Value → Hp → Prop} (hl : G.le G') (h : YieldDoes P l vs G Hi (fun v G1 Ho => G1 = G ∧ q v Ho)) : YieldDoes P l vs G' Hi (fun v G1 Ho => G1 = G' ∧ q v Ho) := by
 intro w hw
 obtain ⟨f, tmps, assign, body, h1, h2⟩ := h w (hw.less hl)
 exact ⟨f, tmps, assign, body, h1, h2.mono fun x w' hp => hp.up hw⟩
theorem Does.up {f : FuncId} {args : List Value} {G G' : Imm} {Hi : Hp} {q : Value → Hp → Prop} (hl : G.le G') (h : Does P f args G Hi (fun v G1 Ho => G1 = G ∧ q v Ho)) : Does P f args G' Hi (fun v G1 Ho => G1 = G' ∧ q v Ho) := by
 intro w hw
 exact (h w (hw.less hl)).mono fun x w' hp => hp.up hw
end
def AtLoop (r : Option Nat) (P : Program) (c : Code) (Q : Exit → Act → World → Prop) (a : Act) (w : World) : Prop :=
 ∀ (b : Frame) (k : List Item) (cs : List Frame), b.roundOf = (FF r).round → (FF r).fn b.fn → (FF r).room (cs.length + 1 + 0) →
  ∃ e a' w', Q e a' w' ∧ ArrivesIn (Machine.fenced P (FF r)) P (lone (b.atR a (.code c :: .inLoop c :: k)) cs w) b k cs e a' w'
def La (r : Option Nat) (P : Program) (c : Code) (B : Bs) (S : St) (Q : Exit → Act → World → Prop) : Prop := ∀ a w, Hold B S a w → AtLoop r P c Q a w
section
variable {r : Option Nat} {P : Program} {B : Bs} {S : St} {Q : Exit → Act → World → Prop} {c : Code}
theorem La.round (h : Wc r P c B S (Exit.then (AtLoop r P c Q) Q)) : La r P c B S Q := by
 intro a w hh b k cs hro hb' hr
 obtain ⟨x, a₁, w₁, hq, harr⟩ := h a w hh b (.inLoop c :: k) cs hro hb' hr
 cases x with
 | normal =>
   obtain ⟨e₂, a₂, w₂, hq₂, harr₂⟩ := hq b k cs hro hb' hr
   exact ⟨e₂, a₂, w₂, hq₂, .of_steps (StepsIn.trans harr (.one (fenced_calm hb' hr rfl) stepR_inLoop)) harr₂⟩
 | exit id => exact ⟨_, a₁, w₁, hq, .pass (x := .inLoop c) rfl (fun _ _ => .inl (by simp)) harr⟩
 | goto l => exact ⟨_, a₁, w₁, hq, .pass (x := .inLoop c) rfl (fun _ _ => .inl (by simp)) harr⟩
 | ret => exact ⟨_, a₁, w₁, hq, .pass (x := .inLoop c) rfl (fun _ _ => .inl (by simp)) harr⟩
 | panic ch => exact ⟨_, a₁, w₁, hq, .pass (x := .inLoop c) rfl (fun _ _ => .inl (by simp)) harr⟩
 | outgrown => exact ⟨_, a₁, w₁, hq, .pass (x := .inLoop c) rfl (fun _ _ => .inl (by simp)) harr⟩
end
end Go.Sl
set_option linter.unusedVariables false
namespace Go.Sl
open Go
theorem HoldH.freezeRow {α : Type} [Cells α] {H : Hp} {G : Imm} {w : World} (hh : HoldH H G w) {t : Nat} {ad : Option Addr} {c : Nat} {E : TypeId} {xs : List α} {junk : List Value} (ht : H.get t = some (ad.map (·.block), Row E xs junk)) (ho : OwnA ad c xs junk) :
 ∃ G', G.le G' ∧ Arr G' ad xs ∧ HoldH ((t, none, default) :: H) G' w ∧ ∀ b, G' b ≠ none → G b = none → ∃ o, H.get t = some (some b, o) := by
 have hB : Hold ⟨0, w, fun b => H.has b, G⟩ ⟨[], [], H, G⟩ { tmps := #[], defers := [] } w :=
  ⟨rfl, rfl, fun i v h => by simp [Env.get] at h, hh, Upd.refl _ _, fun t b o h => .inr ⟨t, o, h⟩, Imm.le_refl _, fun b h h0 => (h h0).elim⟩
 rcases ho with ⟨rfl, rfl, rfl, _⟩ | ⟨b, rfl, hrest⟩
 · exact ⟨G, Imm.le_refl _, Arr.nil G, (hB.noBlock t default).mem, fun b h h0 => (h h0).elim⟩
 · have ht' : H.get t = some (some b, Row E xs junk) := ht
   obtain ⟨h1, h2⟩ := hB.freeze ht'
   refine ⟨_, h2, row_arr (E := E) (junk := junk) (by simp [Imm.with]), h1.mem, fun b' hb h0 => ?_⟩
   have hb' : (if b' = b then some (Row E xs junk) else G b') ≠ none := hb
   split at hb'
   · rename_i h; subst h; exact ⟨_, ht'⟩
   · exact (hb' h0).elim
theorem Does.frz2 {α β : Type} [Cells α] [Cells β] {P : Program} {f : FuncId} {args : List Value} {G : Imm} {E E' : TypeId} {q : Value → Option Addr → Nat → List α → Option Addr → Nat → List β → Prop}
 (h : Does P f args G [] (fun v G' Ho => ∃ (a : Option Addr) (c : Nat) (xs : List α) (j : List Value) (b : Option Addr) (d : Nat) (ys : List β) (j' : List Value), q v a c xs b d ys ∧ OwnA a c xs j ∧ OwnA b d ys j' ∧ Ho = [(0, a.map (·.block), Row E xs j), (1, b.map (·.block), Row E' ys j')] ∧ G' = G)) :
 Does P f args G [] (fun v G' Ho => ∃ (a : Option Addr) (c : Nat) (xs : List α) (b : Option Addr) (d : Nat) (ys : List β), q v a c xs b d ys ∧ Arr G' a xs ∧ Arr G' b ys ∧ Ho = []) := by
 intro w hw
 refine (h w hw).mono fun x w' ⟨v, G', Ho, h1, h2, h3, h4, h5, h6, a, c, xs, j, b, d, ys, j', hq, ho, ho', hHo, hG⟩ => ?_
 subst hHo hG
 obtain ⟨G1, g1, g2, g3, g4⟩ := h2.freezeRow (t := 0) rfl ho
 obtain ⟨G2, k1, k2, k3, k4⟩ := g3.freezeRow (t := 1) (ad := b) (E := E') (xs := ys) (junk := j') rfl ho'
 have hnil : ∀ t b o, Hp.get [] t = some (some b, o) → False := fun t b o hx => by simp [Hp.get] at hx
 refine ⟨v, G2, [], h1, ⟨fun t b o hx => (hnil t b o hx).elim, fun t t' b o o' hx => (hnil t b o hx).elim, k3.imm, fun t b o hx => (hnil t b o hx).elim⟩, Imm.le_trans g1 k1, h4, fun bb hb h0 => ?_, fun t b o hx => (hnil t b o hx).elim, a, c, xs, b, d, ys, hq, g2.up k1, k2, rfl⟩
 by_cases hg1 : G1 bb = none
 · obtain ⟨o, ho2⟩ := k4 bb hb hg1
   have ho3 : Hp.get [(0, a.map (·.block), Row E xs j), (1, b.map (·.block), Row E' ys j')] 1 = some (some bb, o) := by
    rw [Hp.get_cons, if_neg (by decide)] at ho2; exact ho2
   exact h6 1 bb o ho3
 · obtain ⟨o, ho2⟩ := g4 bb hg1 h0
   exact h6 0 bb o ho2
end Go.Sl
set_option linter.unusedVariables false
namespace Go.Sl
open Go
section
variable {P : Program} {ops : Array Oper} {rest : List Oper} {B : Bs} {e : Env} {D : List Deferred} {H : Hp} {G : Imm} {K : Act → World → Prop} {ty : TypeId} {pos : String} {after : Array Edge} {d : Nat}
theorem Qy.indexAddrKn {T : TypeId} {x i : Operand} {a : Option Addr} {n c sz : Nat} {cs : List Value} {k : IntKind} {m : Int} {E : Nat} (hT : isSlice P T E sz) (hx : e.ev x = some (.slice a n c)) (hi : e.ev i = some (.int k m)) (hb : Blk a c sz cs) (hn : n ≤ c) (hm : 0 ≤ m ∧ m < n) :
 Qy P (.indexAddr T x i) ty e H G (.pointer (some ⟨ab a, 0 + m.toNat * sz, none⟩)) := by
 have ha := hb.addr (by omega)
 rw [ha] at hx
 exact Qy.indexAddr hT hx hi hm
theorem Wl.storeKj {T : TypeId} {x y : Operand} {a : Option Addr} {c sz : Nat} {m : Int} {cs vs : List Value} {bt : TypeId} {v : Value} (t j k : Nat) (hs : (P.info? T).map (·.size) = some k)
 (hx : e.ev x = some (.pointer (some ⟨ab a, 0 + m.toNat * sz + j, none⟩))) (hy : e.ev y = some v) (hv : v.cells = vs.toArray) (hk : vs.length = k) (h1 : vs.all (·.oneCell') = true) (ht : H.get t = some (a.map (·.block), .cells cs.toArray bt (0, 0))) (hb : Blk a c sz cs) (hm : 0 ≤ m ∧ m < c) (hj : j + k ≤ sz)
 (h : ∀ cs' : List Value, Blk a c sz cs' → Wl P ops rest B ⟨e, D, (t, a.map (·.block), .cells cs'.toArray bt (0, 0)) :: H, G⟩ K) : Wl P ops (⟨none, .store T x y, ty, pos, after, none⟩ :: rest) B ⟨e, D, H, G⟩ K := by
 have ha := hb.addr (by omega)
 have hbl : a.map (·.block) = some (ab a) := by rw [ha]; rfl
 rw [hbl] at ht h
 refine Wl.storeR t hs hx hy hv hk h1 ht ?_ fun cs' hl => h cs' ⟨by rw [hl]; exact hb.1, hb.2⟩
 rw [hb.1, Nat.zero_add]
 have h2 : m.toNat + 1 ≤ c := by omega
 have := Nat.mul_le_mul_right sz h2
 rw [Nat.succ_mul] at this
 omega
end
end Go.Sl
namespace Go.Proofs.YtbppmiimeccclaaDoor
open Go Go.Sl
set_option maxRecDepth 100000
instance : DecidableEq PV := fun a b => by
 cases a; cases b; simp only [PV.mk.injEq]; infer_instance
theorem take_eq_step {α : Type} [Inhabited α] {l m : List α} {k : Nat} (hl : k < l.length) (hm : k < m.length) (h : l.take k = m.take k)
 (he : l[((k : Nat) : Int).toNat]?.getD default = m[((k : Nat) : Int).toNat]?.getD default) : l.take (k + 1) = m.take (k + 1) := by
 rw [Int.toNat_natCast, List.getElem?_eq_getElem hl, List.getElem?_eq_getElem hm] at he
 rw [List.take_add_one, List.take_add_one, h, List.getElem?_eq_getElem hl, List.getElem?_eq_getElem hm]
 simp only [Option.getD_some] at he
 rw [he]
theorem c22 (G : Imm) (p q : PV) (ac ao bc bo : Option Addr) (cc co dc do_ : Nat) (hc : Arr G ac p.code) (ho : Arr G ao p.outs) (hc' : Arr G bc q.code) (ho' : Arr G bo q.outs) (h1 : p.code.length ≤ 1099511627776) (h2 : p.outs.length ≤ 1099511627776) :
 Does Tryd.prog 22 [.agg #[.int .i64 p.ins, .int .i64 p.regs, .slice ac p.code.length cc, .slice ao p.outs.length co], .agg #[.int .i64 q.ins, .int .i64 q.regs, .slice bc q.code.length dc, .slice bo q.outs.length do_]] G []
  (fun v G' Ho => v = .bool (decide (p = q)) ∧ G' = G ∧ Ho = []) := by
 refine Does.enter Tryd.func22 rfl Tryd.ntmps22 rfl (fun w => ?_)
 refine Wc.seq (Wc.region rfl ?_)
 refine Wl.box 0 rfl rfl rfl (fun b1 => ?_)
 refine Wl.box 1 rfl rfl rfl (fun b2 => ?_)
 refine Wl.q rfl (Qy.assign rfl) (Wl.done (Ar.next (Wc.seq (Wc.seq (Wc.region rfl (Wl.q rfl (Qy.fieldAddr T.fa25_0 rfl) (Wl.q rfl (Qy.load 0 T.one3 rfl rfl rfl) (Wl.q rfl (Qy.fieldAddr T.fa25_0 rfl) (Wl.q rfl (Qy.load 1 T.one3 rfl rfl rfl) (Wl.q rfl (Qy.neq rfl rfl) ?_))))))))))
 refine Wl.q rfl (Qy.move rfl) ?_
 apply Wl.joinOr 6 12 18 rfl
 intro hg1
 refine Wl.want rfl rfl (Wl.q rfl (Qy.fieldAddr T.fa25_1 rfl) (Wl.want rfl rfl (Wl.q rfl (Qy.load 0 T.one3 rfl rfl rfl) (Wl.want rfl rfl (Wl.q rfl (Qy.fieldAddr T.fa25_1 rfl) (Wl.want rfl rfl (Wl.q rfl (Qy.load 1 T.one3 rfl rfl rfl) (Wl.want rfl rfl (Wl.q rfl (Qy.neq rfl rfl) ?_)))))))))
 refine Wl.q rfl (Qy.pick rfl rfl) ?_
 exact Wl.back 6 0 rfl rfl rfl rfl rfl
 intro hg1
 refine Wl.pass rfl rfl rfl (Wl.pass rfl rfl rfl (Wl.pass rfl rfl rfl (Wl.pass rfl rfl rfl (Wl.pass rfl rfl rfl (Wl.q rfl (Qy.pick rfl rfl) ?_)))))
 exact Wl.back 6 0 rfl rfl rfl rfl rfl
 refine Wl.q rfl (Qy.move rfl) ?_
 apply Wl.joinOr 8 19 27 rfl
 intro hg1
 refine Wl.want rfl rfl (Wl.q rfl (Qy.fieldAddr T.fa25_2 rfl) (Wl.want rfl rfl (Wl.q rfl (Qy.load 0 T.one22 rfl rfl rfl) (Wl.want rfl rfl (Wl.q rfl (Qy.len T.sl22 rfl) (Wl.want rfl rfl (Wl.q rfl (Qy.fieldAddr T.fa25_2 rfl) (Wl.want rfl rfl (Wl.q rfl (Qy.load 1 T.one22 rfl rfl rfl) ?_)))))))))
 refine Wl.want rfl rfl (Wl.q rfl (Qy.len T.sl22 rfl) (Wl.want rfl rfl (Wl.q rfl (Qy.neq rfl rfl) (Wl.q rfl (Qy.pick rfl rfl) ?_))))
 exact Wl.back 8 0 rfl rfl rfl rfl rfl
 intro hg1
 refine Wl.pass rfl rfl rfl (Wl.pass rfl rfl rfl (Wl.pass rfl rfl rfl (Wl.pass rfl rfl rfl (Wl.pass rfl rfl rfl (Wl.pass rfl rfl rfl (Wl.pass rfl rfl rfl (Wl.q rfl (Qy.pick rfl rfl) ?_)))))))
 exact Wl.back 8 0 rfl rfl rfl rfl rfl
 refine Wl.q rfl (Qy.move rfl) ?_
 apply Wl.joinOr 8 28 36 rfl
 intro hg1
 refine Wl.want rfl rfl (Wl.q rfl (Qy.fieldAddr T.fa25_3 rfl) (Wl.want rfl rfl (Wl.q rfl (Qy.load 0 T.one23 rfl rfl rfl) (Wl.want rfl rfl (Wl.q rfl (Qy.len T.sl23 rfl) (Wl.want rfl rfl (Wl.q rfl (Qy.fieldAddr T.fa25_3 rfl) (Wl.want rfl rfl (Wl.q rfl (Qy.load 1 T.one23 rfl rfl rfl) ?_)))))))))
 refine Wl.want rfl rfl (Wl.q rfl (Qy.len T.sl23 rfl) (Wl.want rfl rfl (Wl.q rfl (Qy.neq rfl rfl) (Wl.q rfl (Qy.pick rfl rfl) ?_))))
 exact Wl.back 8 0 rfl rfl rfl rfl rfl
 intro hg1
 refine Wl.pass rfl rfl rfl (Wl.pass rfl rfl rfl (Wl.pass rfl rfl rfl (Wl.pass rfl rfl rfl (Wl.pass rfl rfl rfl (Wl.pass rfl rfl rfl (Wl.pass rfl rfl rfl (Wl.q rfl (Qy.pick rfl rfl) ?_)))))))
 exact Wl.back 8 0 rfl rfl rfl rfl rfl
 refine Wl.done (Ar.next ?_)
 refine Wc.cond rfl (fun hc1 => ?_) (fun hc1 => ?_)
 refine Wc.seq (Wc.region rfl (Wl.q rfl (Qy.assign rfl) (Wl.done (Ar.next (Wc.ret (Ar.passRet ?_))))))
 refine Ar.out1 (.inr rfl) (Ho := Hp.only _ []) rfl (.tmp rfl) (Hp.sub_only _ _) ?_
 rotate_left
 refine Wc.skip (Ar.next (Wc.seq (Wc.seq (Wc.region rfl (Wl.q rfl (Qy.assign rfl) (Wl.done (Ar.next (Wc.block ?_))))))))
 rotate_left
 · refine ⟨?_, rfl, rfl⟩
   have : p ≠ q := by rintro rfl; omega
   simp [this]
 · simp only [not_or, ne_eq, Decidable.not_not] at hc1
   obtain ⟨⟨⟨e1, e2⟩, e3⟩, e4⟩ := hc1
   refine Wc.loop (ι := Nat) (fun k => ([(5, .int .i64 (k : Int)), (3, Go.Value.pointer (Option.some (Go.Addr.mk b2 0 Option.none))), (2, Go.Value.pointer (Option.some (Go.Addr.mk b1 0 Option.none)))], [(1, Option.some b2, Go.Obj.cells #[Go.Value.int Go.IntKind.i64 (PV.ins q), Go.Value.int Go.IntKind.i64 (PV.regs q), Go.Value.slice bc (List.length (PV.code q)) dc, Go.Value.slice bo (List.length (PV.outs q)) do_] 25), (0, Option.some b1, Go.Obj.cells #[Go.Value.int Go.IntKind.i64 (PV.ins p), Go.Value.int Go.IntKind.i64 (PV.regs p), Go.Value.slice ac (List.length (PV.code p)) cc, Go.Value.slice ao (List.length (PV.outs p)) co] 25)])) (fun k => k ≤ p.code.length ∧ p.code.take k = q.code.take k) (fun k => p.code.length - k) (0) (⟨Nat.zero_le _, rfl⟩) ⟨rfl, rfl, rfl, trivial⟩ ⟨rfl, rfl, trivial⟩ (fun k => fun (hk : k ≤ p.code.length ∧ p.code.take k = q.code.take k) => ?_)
   obtain ⟨hk1, hk2⟩ := hk
   refine Wc.seq (Wc.seq (Wc.region rfl (Wl.q rfl (Qy.move rfl) (Wl.q rfl (Qy.fieldAddr T.fa25_2 rfl) (Wl.q rfl (Qy.load 0 T.one22 rfl rfl rfl) (Wl.q rfl (Qy.len T.sl22 rfl) (Wl.q rfl (Qy.lss rfl rfl) (Wl.done (Ar.next ?_)))))))))
   refine Wc.cond rfl (fun hc1 => ?_) (fun hc1 => ?_)
   refine Wc.skip (Ar.next (Wc.seq (Wc.block (Wc.seq (Wc.draw [0, 1] [] T.mixed rfl ?_)))))
   refine Gm.q 0 [] (by kernel_rfl) rfl rfl (Qy.fieldAddr T.fa25_2 rfl) (Gm.q 1 [0] (by kernel_rfl) rfl rfl (Qy.load 0 T.one22 rfl rfl rfl) (Gm.q 2 [] (by kernel_rfl) rfl rfl (Qy.move rfl) (Gm.q 3 [] (by kernel_rfl) rfl rfl (Qy.at (α := Instr) T.sl22 rfl rfl (by assumption) (by omega)) ?_)))
   refine Gm.q 4 [] (by kernel_rfl) rfl rfl (Qy.loadsG T.agg55 rfl (Arr.elem (by assumption) (by omega)) rfl) ?_
   refine Gm.q 5 [] (by kernel_rfl) rfl rfl (Qy.fieldAddr T.fa25_2 rfl) (Gm.q 6 [1] (by kernel_rfl) rfl rfl (Qy.load 1 T.one22 rfl rfl rfl) (Gm.q 7 [] (by kernel_rfl) rfl rfl (Qy.move rfl) (Gm.q 8 [] (by kernel_rfl) rfl rfl (Qy.at (α := Instr) T.sl22 rfl rfl (by assumption) (by omega)) ?_)))
   refine Gm.q 9 [] (by kernel_rfl) rfl rfl (Qy.loadsG T.agg55 rfl (Arr.elem (by assumption) (by omega)) rfl) ?_
   refine Gm.q 10 [] (by kernel_rfl) rfl rfl (Qy.neqInstr T.ai55 rfl rfl) ?_
   refine Gm.doneA (by kernel_rfl) ⟨rfl, rfl, trivial⟩ (by first | exact Imm.le_refl _ | assumption) ?_
   refine Ar.next ?_
   refine Wc.cond rfl (fun hc2 => ?_) (fun hc2 => ?_)
   refine Wc.seq (Wc.region rfl (Wl.q rfl (Qy.assign rfl) (Wl.done (Ar.next (Wc.ret ?_)))))
   refine Ar.outRet ?_
   refine Ar.passRet ?_
   refine Ar.passRet ?_
   refine Ar.outRet ?_
   refine Ar.passRet ?_
   refine Ar.out1 (.inr rfl) (Ho := Hp.only _ []) rfl (.tmp rfl) (Hp.sub_only _ _) ?_
   rotate_left
   refine Wc.skip ?_
   refine Ar.outNormal ?_
   refine Ar.next (Wc.region rfl (Wl.q rfl (Qy.move rfl) (Wl.q rfl (Qy.add rfl rfl (by omega)) ?_)))
   refine Wl.q rfl (Qy.assign rfl) (Wl.done ?_)
   rotate_left
   refine Wc.exit (Ar.passExit ?_)
   refine Ar.passExit ?_
   refine Ar.here ?_
   refine Ar.next (Wc.seq (Wc.seq (Wc.region rfl (Wl.q rfl (Qy.assign rfl) (Wl.done (Ar.next (Wc.block ?_)))))))
   rotate_left
   · refine ⟨?_, rfl, rfl⟩
     have : p ≠ q := by rintro rfl; exact hc2 rfl
     simp [this]
   · refine Ar.again (k + 1) ?_ ?_ rfl ⟨rfl, rfl, rfl, trivial⟩ ⟨rfl, rfl, trivial⟩
     · exact ⟨by omega, take_eq_step (by omega) (by omega) hk2 (Decidable.not_not.1 hc2)⟩
     · omega
   · have hcode : p.code = q.code := by
      have : k = p.code.length := by omega
      subst this
      rw [List.take_length, List.take_of_length_le (by omega)] at hk2
      exact hk2
     clear hk1 hk2 hc1
     refine Wc.loop (ι := Nat) (fun k => ([(6, .int .i64 (k : Int)), (3, Go.Value.pointer (Option.some (Go.Addr.mk b2 0 Option.none))), (2, Go.Value.pointer (Option.some (Go.Addr.mk b1 0 Option.none)))], [(1, Option.some b2, Go.Obj.cells #[Go.Value.int Go.IntKind.i64 (PV.ins q), Go.Value.int Go.IntKind.i64 (PV.regs q), Go.Value.slice bc (List.length (PV.code q)) dc, Go.Value.slice bo (List.length (PV.outs q)) do_] 25), (0, Option.some b1, Go.Obj.cells #[Go.Value.int Go.IntKind.i64 (PV.ins p), Go.Value.int Go.IntKind.i64 (PV.regs p), Go.Value.slice ac (List.length (PV.code p)) cc, Go.Value.slice ao (List.length (PV.outs p)) co] 25)])) (fun k => k ≤ p.outs.length ∧ p.outs.take k = q.outs.take k) (fun k => p.outs.length - k) (0) (⟨Nat.zero_le _, rfl⟩) ⟨rfl, rfl, rfl, trivial⟩ ⟨rfl, rfl, trivial⟩ (fun k => fun (hk : k ≤ p.outs.length ∧ p.outs.take k = q.outs.take k) => ?_)
     obtain ⟨hk1, hk2⟩ := hk
     refine Wc.seq (Wc.seq (Wc.region rfl (Wl.q rfl (Qy.move rfl) (Wl.q rfl (Qy.fieldAddr T.fa25_3 rfl) (Wl.q rfl (Qy.load 0 T.one23 rfl rfl rfl) (Wl.q rfl (Qy.len T.sl23 rfl) (Wl.q rfl (Qy.lss rfl rfl) (Wl.done (Ar.next ?_)))))))))
     refine Wc.cond rfl (fun hc1 => ?_) (fun hc1 => ?_)
     refine Wc.skip (Ar.next (Wc.seq (Wc.block (Wc.seq (Wc.draw [0, 1] [] T.mixed rfl ?_)))))
     refine Gm.q 0 [] (by kernel_rfl) rfl rfl (Qy.fieldAddr T.fa25_3 rfl) (Gm.q 1 [0] (by kernel_rfl) rfl rfl (Qy.load 0 T.one23 rfl rfl rfl) (Gm.q 2 [] (by kernel_rfl) rfl rfl (Qy.move rfl) (Gm.q 3 [] (by kernel_rfl) rfl rfl (Qy.at (α := Int) T.sl23 rfl rfl (by assumption) (by omega)) ?_)))
     refine Gm.q 4 [0] (by kernel_rfl) rfl rfl (Qy.loadG T.one3 rfl (Arr.cell (by assumption) (by omega) 0 rfl rfl)) ?_
     refine Gm.q 5 [] (by kernel_rfl) rfl rfl (Qy.fieldAddr T.fa25_3 rfl) (Gm.q 6 [1] (by kernel_rfl) rfl rfl (Qy.load 1 T.one23 rfl rfl rfl) (Gm.q 7 [] (by kernel_rfl) rfl rfl (Qy.move rfl) (Gm.q 8 [] (by kernel_rfl) rfl rfl (Qy.at (α := Int) T.sl23 rfl rfl (by assumption) (by omega)) ?_)))
     refine Gm.q 9 [0] (by kernel_rfl) rfl rfl (Qy.loadG T.one3 rfl (Arr.cell (by assumption) (by omega) 0 rfl rfl)) ?_
     refine Gm.q 10 [] (by kernel_rfl) rfl rfl (Qy.neq rfl rfl) ?_
     refine Gm.doneA (by kernel_rfl) ⟨rfl, rfl, trivial⟩ (by first | exact Imm.le_refl _ | assumption) ?_
     refine Ar.next ?_
     refine Wc.cond rfl (fun hc2 => ?_) (fun hc2 => ?_)
     refine Wc.seq (Wc.region rfl (Wl.q rfl (Qy.assign rfl) (Wl.done (Ar.next (Wc.ret ?_)))))
     refine Ar.outRet ?_
     refine Ar.passRet ?_
     refine Ar.passRet ?_
     refine Ar.outRet ?_
     refine Ar.passRet ?_
     refine Ar.out1 (.inr rfl) (Ho := Hp.only _ []) rfl (.tmp rfl) (Hp.sub_only _ _) ?_
     rotate_left
     refine Wc.skip ?_
     refine Ar.outNormal ?_
     refine Ar.next (Wc.region rfl (Wl.q rfl (Qy.move rfl) (Wl.q rfl (Qy.add rfl rfl (by omega)) ?_)))
     refine Wl.q rfl (Qy.assign rfl) (Wl.done ?_)
     rotate_left
     refine Wc.exit (Ar.passExit ?_)
     refine Ar.passExit ?_
     refine Ar.here ?_
     refine Ar.next (Wc.seq (Wc.region rfl (Wl.q rfl (Qy.assign rfl) (Wl.done (Ar.next (Wc.ret ?_))))))
     refine Ar.out1 (.inr rfl) (Ho := Hp.only _ []) rfl (.tmp rfl) (Hp.sub_only _ _) ?_
     rotate_left
     · refine ⟨?_, rfl, rfl⟩
       have : p ≠ q := by rintro rfl; exact hc2 rfl
       simp [this]
     · refine Ar.again (k + 1) ?_ ?_ rfl ⟨rfl, rfl, rfl, trivial⟩ ⟨rfl, rfl, trivial⟩
       · exact ⟨by omega, take_eq_step (by omega) (by omega) hk2 (Decidable.not_not.1 hc2)⟩
       · omega
     · refine ⟨?_, rfl, rfl⟩
       have houts : p.outs = q.outs := by
        have : k = p.outs.length := by omega
        subst this
        rw [List.take_length, List.take_of_length_le (by omega)] at hk2
        exact hk2
       have : p = q := by cases p; cases q; simp_all
       simp [this]
theorem c21 (G : Imm) (p : PV) (ac ao : Option Addr) (cc co : Nat) (hc : Arr G ac p.code) (ho : Arr G ao p.outs) (h1 : p.code.length ≤ 1099511627776) (h2 : p.outs.length ≤ 1099511627776) :
 Does Tryd.prog 21 [.agg #[.int .i64 p.ins, .int .i64 p.regs, .slice ac p.code.length cc, .slice ao p.outs.length co]] G [] (fun v G' Ho => ∃ bc bo dc do_ j1 j2, v = .agg #[.int .i64 p.ins, .int .i64 p.regs, .slice bc p.code.length dc, .slice bo p.outs.length do_] ∧
  OwnA bc dc p.code j1 ∧ OwnA bo do_ p.outs j2 ∧ Ho = [(10, bc.map (·.block), Row 55 p.code j1), (11, bo.map (·.block), Row 3 p.outs j2)] ∧ G' = G) := by
 refine Does.enter Tryd.func21 rfl Tryd.ntmps21 rfl (fun w => ?_)
 refine Wc.nilRow 10 (Row 55 ([] : List Sl.Instr) []) (Wc.nilRow 11 (Row 3 ([] : List Int) []) ?_)
 refine Wc.seq (Wc.region rfl ?_)
 refine Wl.box 12 rfl rfl rfl (fun b1 => ?_)
 refine Wl.alloc 13 rfl T.zero25 (fun b2 => ?_)
 refine Wl.done (Ar.next (Wc.seq (Wc.region rfl (Wl.q rfl (Qy.fieldAddr T.fa25_0 rfl) (Wl.q rfl (Qy.load 12 T.one3 rfl rfl rfl) (Wl.q rfl (Qy.fieldAddr T.fa25_1 rfl) (Wl.q rfl (Qy.load 12 T.one3 rfl rfl rfl) (Wl.q rfl (Qy.build (cs := [_, _, _, _]) T.st25 rfl rfl rfl) ?_))))))))
 refine Wl.alloc 14 rfl T.zero25 (fun b3 => ?_)
 refine Wl.storeAll 14 T.size25 rfl rfl rfl rfl rfl rfl ?_
 refine Wl.done (Ar.next (Wc.seq (Wc.region rfl (Wl.q rfl (Qy.fieldAddr T.fa25_2 rfl) (Wl.q rfl (Qy.load 14 T.one22 rfl rfl rfl) (Wl.q rfl (Qy.fieldAddr T.fa25_2 rfl) (Wl.q rfl (Qy.load 12 T.one22 rfl rfl rfl) ?_)))))))
 refine Wl.append (α := Instr) 10 rfl T.sl22 T.el55 rfl rfl rfl (by first | assumption | exact OwnA.nil | exact OwnA.made (by simp)) (Src.arr (by assumption)) (by first | omega | (simp only [List.length_append, List.length_cons, List.length_nil, maxLen]; omega)) (by first | omega | (simp only [List.length_append, List.length_cons, List.length_nil, maxLen]; omega)) (fun a1 c1 junk1 ho1 => ?_)
 refine Wl.q rfl (Qy.fieldAddr T.fa25_2 rfl) ?_
 refine Wl.store 14 T.one22 rfl rfl rfl rfl rfl ?_
 refine Wl.done (Ar.next (Wc.seq (Wc.region rfl (Wl.q rfl (Qy.fieldAddr T.fa25_3 rfl) (Wl.q rfl (Qy.load 14 T.one23 rfl rfl rfl) (Wl.q rfl (Qy.fieldAddr T.fa25_3 rfl) (Wl.q rfl (Qy.load 12 T.one23 rfl rfl rfl) ?_)))))))
 refine Wl.append (α := Int) 11 rfl T.sl23 T.el3 rfl rfl rfl (by first | assumption | exact OwnA.nil | exact OwnA.made (by simp)) (Src.arr (by assumption)) (by first | omega | (simp only [List.length_append, List.length_cons, List.length_nil, maxLen]; omega)) (by first | omega | (simp only [List.length_append, List.length_cons, List.length_nil, maxLen]; omega)) (fun a2 c2 junk2 ho2 => ?_)
 refine Wl.q rfl (Qy.fieldAddr T.fa25_3 rfl) ?_
 refine Wl.store 14 T.one23 rfl rfl rfl rfl rfl ?_
 refine Wl.done (Ar.next (Wc.seq (Wc.region rfl (Wl.q rfl (Qy.loadAll 14 T.agg25 rfl rfl rfl) ?_))))
 refine Wl.storeAll 13 T.size25 rfl rfl rfl rfl rfl rfl ?_
 refine Wl.done (Ar.next (Wc.ret ?_))
 refine Ar.out1 (.inr rfl) (Ho := Hp.only _ [10, 11]) rfl (.agg 13 rfl rfl T.agg25) (Hp.sub_only _ _) ?_
 exact ⟨_, _, _, _, _, _, rfl, ho1, ho2, rfl, rfl⟩
structure Tab where
 held : List Int
 known : List (K4 × Int)
 first : List (K4 × Int)
 next : Int
def TabH (t : Tab) (bt bk bf : Nat) (a : Option Addr) (c : Nat) (junk : List Value) : Hp :=
 [(0, some bt, .cells #[.slice a t.held.length c, .map (some bk), .map (some bf), .int .i64 t.next] 110), (1, a.map (·.block), Row 3 t.held junk), (2, some bk, mapObj t.known), (3, some bf, mapObj t.first)]
def start (p : PV) : List Int := (List.range p.regs.toNat).map fun r => if (p.ins : Int) < ((r : Nat) : Int) then p.ins else ((r : Nat) : Int)
def holder (l : List Int) (v : Int) : Int := match l.findIdx? (fun x => decide (x = v)) with | some k => (k : Int) | none => -1
theorem c51 (G : Imm) (p : PV) (ac ao : Option Addr) (cc co : Nat) (hr : 0 ≤ p.ins ∧ p.ins ≤ p.regs ∧ p.regs ≤ 128) :
 Does Tryd.prog 51 [.agg #[.int .i64 p.ins, .int .i64 p.regs, .slice ac p.code.length cc, .slice ao p.outs.length co]] G [] (fun v G' Ho => ∃ bt bk bf a c junk, v = .pointer (some ⟨bt, 0, none⟩) ∧
  OwnA a c (start p) junk ∧ Ho = TabH ⟨start p, [], [], p.ins + 1⟩ bt bk bf a c junk ∧ G' = G) := by
 refine Does.enter Tryd.func51 rfl Tryd.ntmps51 rfl (fun w => ?_)
 refine Wc.nilRow 1 (Row 3 ([] : List Int) []) ?_
 refine Wc.seq (Wc.region rfl ?_)
 refine Wl.box 2 rfl rfl rfl (fun b1 => ?_)
 refine Wl.q rfl (Qy.assign rfl) (Wl.done (Ar.next (Wc.seq (Wc.region rfl ?_))))
 refine Wl.makeMap (κ := K4) 3 rfl (fun b2 => ?_)
 refine Wl.makeMap (κ := K4) 4 rfl (fun b3 => ?_)
 refine Wl.q rfl (Qy.fieldAddr T.fa25_0 rfl) (Wl.q rfl (Qy.load 2 T.one3 rfl rfl rfl) (Wl.q rfl (Qy.add rfl rfl (by omega)) ?_))
 refine Wl.q rfl (Qy.build (cs := [_, _, _, _]) T.st110 rfl rfl rfl) ?_
 refine Wl.box 5 rfl rfl rfl (fun b4 => ?_)
 refine Wl.q rfl (Qy.assign rfl) (Wl.done (Ar.next (Wc.seq (Wc.seq (Wc.region rfl (Wl.q rfl (Qy.fieldAddr T.fa25_1 rfl) (Wl.q rfl (Qy.load 2 T.one3 rfl rfl rfl) (Wl.q rfl (Qy.move rfl) (Wl.done (Ar.next (Wc.block ?_)))))))))))
 have hsl : (start p).length = p.regs.toNat := by simp [start]
 refine Wc.loop (ι := Nat × List Int × Option Addr × Nat × List Value) (fun (k, xs, a, c, junk) => ([(14, .int .i64 (k : Int)), (13, Go.Value.int Go.IntKind.i64 (PV.regs p)), (3, Go.Value.pointer (Option.some (Go.Addr.mk b4 0 Option.none))), (2, Go.Value.pointer Option.none), (1, Go.Value.pointer (Option.some (Go.Addr.mk b1 0 Option.none)))], [(1, a.map (·.block), Row 3 xs junk), (5, some b4, .cells #[.slice a xs.length c, .map (some b2), .map (some b3), .int .i64 (p.ins + 1)] 110), (4, Option.some b3, Go.Sl.mapObj (κ := Go.Sl.K4) ([])), (3, Option.some b2, Go.Sl.mapObj (κ := Go.Sl.K4) ([])), (2, Option.some b1, Go.Obj.cells #[Go.Value.int Go.IntKind.i64 (PV.ins p), Go.Value.int Go.IntKind.i64 (PV.regs p), Go.Value.slice ac (List.length (PV.code p)) cc, Go.Value.slice ao (List.length (PV.outs p)) co] 25)])) (fun (k, xs, a, c, junk) => k ≤ p.regs.toNat ∧ xs = (start p).take k ∧ OwnA a c xs junk) (fun (k, xs, a, c, junk) => p.regs.toNat - k) ((0, [], none, 0, [])) (⟨Nat.zero_le _, rfl, OwnA.nil⟩) ⟨rfl, rfl, rfl, rfl, rfl, trivial⟩ ⟨rfl, rfl, rfl, rfl, rfl, trivial⟩ (fun ⟨k, xs, a, c, junk⟩ => fun (hk : k ≤ p.regs.toNat ∧ xs = (start p).take k ∧ OwnA a c xs junk) => ?_)
 obtain ⟨hk1, hxs, ho⟩ := hk
 have hlen : xs.length = k := by rw [hxs, List.length_take]; omega
 refine Wc.seq (Wc.region rfl (Wl.q rfl (Qy.lss rfl rfl) (Wl.done (Ar.next (Wc.seq ?_)))))
 refine Wc.cond rfl (fun hc1 => ?_) (fun hc1 => ?_)
 refine Wc.skip (Ar.next (Wc.seq (Wc.block (Wc.seq (Wc.region rfl (Wl.q rfl (Qy.move rfl) (Wl.q rfl (Qy.assign rfl) (Wl.done (Ar.next (Wc.draw [2, 3, 4, 5, 1] [(5, 13), (1, 10)] T.mixed rfl ?_))))))))))
 refine Gm.q 0 [] (by kernel_rfl) rfl rfl (Qy.move rfl) (Gm.q 1 [] (by kernel_rfl) rfl rfl (Qy.move rfl) (Gm.q 2 [] (by kernel_rfl) rfl rfl (Qy.nilCheck rfl) ?_))
 refine Gm.q 3 [] (by kernel_rfl) rfl rfl (Qy.fieldAddr T.fa110_0 rfl) (Gm.q 4 [5] (by kernel_rfl) rfl rfl (Qy.load 5 T.one23 rfl rfl rfl) (Gm.q 5 [] (by kernel_rfl) rfl rfl (Qy.move rfl) (Gm.q 6 [] (by kernel_rfl) rfl rfl (Qy.fieldAddr T.fa25_0 rfl) (Gm.q 7 [2] (by kernel_rfl) rfl rfl (Qy.load 2 T.one3 rfl rfl rfl) ?_))))
 refine Gm.q 8 [] (by kernel_rfl) rfl rfl (Qy.min rfl rfl) ?_
 refine Gm.one 9 ⟨rfl, rfl, rfl, rfl, rfl, trivial⟩ (by first | exact Imm.le_refl _ | assumption) (by kernel_rfl) rfl ?_
 refine Wl.lit (α := Int) 6 [(if PV.ins p < (↑k : Int) then PV.ins p else (↑k : Int))] rfl T.sl23 T.el3 rfl rfl rfl rfl rfl (fun b5 => ?_)
 refine Wl.on0 ?_
 refine Gm.one 10 ⟨rfl, rfl, rfl, rfl, rfl, trivial⟩ (by first | exact Imm.le_refl _ | assumption) (by kernel_rfl) rfl ?_
 refine Wl.append (α := Int) 1 rfl T.sl23 T.el3 rfl rfl rfl (by first | assumption | exact OwnA.nil | exact OwnA.made (by simp)) (Src.row 6 rfl) (by first | omega | (simp only [List.length_append, List.length_cons, List.length_nil, maxLen]; omega)) (by first | omega | (simp only [List.length_append, List.length_cons, List.length_nil, maxLen]; omega)) (fun a1 c1 junk1 ho1 => ?_)
 refine Wl.on0 ?_
 refine Gm.q 11 [] (by kernel_rfl) rfl rfl (Qy.nilCheck rfl) ?_
 refine Gm.q 12 [] (by kernel_rfl) rfl rfl (Qy.fieldAddr T.fa110_0 rfl) (Gm.one 13 ⟨rfl, rfl, rfl, rfl, trivial⟩ (by first | exact Imm.le_refl _ | assumption) (by kernel_rfl) rfl ?_)
 refine Wl.store 5 T.one23 rfl rfl rfl rfl rfl ?_
 refine Wl.on0 ?_
 refine Gm.doneA (by kernel_rfl) ⟨rfl, rfl, rfl, trivial⟩ (by first | exact Imm.le_refl _ | assumption) ?_
 refine Ar.outNormal ?_
 refine Ar.next (Wc.region rfl (Wl.q rfl (Qy.add rfl rfl (by omega)) ?_))
 refine Wl.q rfl (Qy.move rfl) (Wl.done ?_)
 rotate_left
 refine Wc.exit (Ar.passExit ?_)
 refine Ar.passExit ?_
 refine Ar.here ?_
 refine Ar.next (Wc.seq (Wc.region rfl (Wl.q rfl (Qy.move rfl) (Wl.q rfl (Qy.assign rfl) (Wl.done (Ar.next (Wc.ret (Ar.pick [5, 1, 3, 4] (by decide) (Ar.out1 (.inr rfl) rfl (.tmp rfl) (Hp.sub_self 0 _) ?_)))))))))
 rotate_left
 · refine Ar.again ((k + 1, _, a1, c1, junk1)) ?_ ?_ rfl ⟨rfl, rfl, rfl, rfl, rfl, trivial⟩ ⟨rfl, rfl, rfl, rfl, rfl, trivial⟩
   · have hst : (start p).take (k + 1) = (start p).take k ++ [if p.ins < ((k : Nat) : Int) then p.ins else ((k : Nat) : Int)] := by
      rw [List.take_add_one]
      have hkl : k < p.regs.toNat := by omega
      simp [start, hkl]
     refine ⟨by omega, ?_, ho1⟩
     rw [hst, hxs]
   · show p.regs.toNat - (k + 1) < p.regs.toNat - k
     omega
 · have hk : k = p.regs.toNat := by omega
   have htk : xs = start p := by rw [hxs]; exact List.take_of_length_le (by omega)
   rw [htk] at ho ⊢
   exact ⟨b4, b2, b3, a, c, junk, rfl, ho, rfl, rfl⟩
theorem c54 (G : Imm) (t : Tab) (bt bk bf : Nat) (a : Option Addr) (c : Nat) (junk : List Value) (v : Int) (ho : OwnA a c t.held junk) (hl : t.held.length ≤ 128) :
 Does Tryd.prog 54 [.pointer (some ⟨bt, 0, none⟩), .int .i64 v] G (TabH t bt bk bf a c junk) (fun r G' Ho => r = .int .i64 (holder t.held v) ∧ G' = G ∧ Ho = TabH t bt bk bf a c junk) := by
 refine Does.enter Tryd.func54 rfl Tryd.ntmps54 rfl (fun w => ?_)
 refine Wc.seq (Wc.region rfl (Wl.q rfl (Qy.assign rfl) (Wl.done (Ar.next (Wc.scope (Wc.seq (Wc.label (Ar.next (Wc.seq (Wc.seq (Wc.region rfl (Wl.q rfl (Qy.move rfl) (Wl.q rfl (Qy.nilCheck rfl) (Wl.q rfl (Qy.fieldAddr T.fa110_0 rfl) (Wl.q rfl (Qy.load 0 T.one23 rfl rfl rfl) ?_)))))))))))))))
 refine Wl.q rfl (Qy.len T.sl23 rfl) (Wl.q rfl (Qy.move rfl) (Wl.done (Ar.next (Wc.block ?_))))
 refine Wc.loop (ι := Nat) (fun k => ([(12, .int .i64 (k : Int)), (11, Go.Value.int Go.IntKind.i64 (↑(List.length (Tab.held t)) : Int)), (10, Go.Value.slice a (List.length (Tab.held t)) c), (1, Go.Value.int Go.IntKind.i64 v)], [(0, Option.some bt, Go.Obj.cells #[Go.Value.slice a (List.length (Tab.held t)) c, Go.Value.map (Option.some bk), Go.Value.map (Option.some bf), Go.Value.int Go.IntKind.i64 (Tab.next t)] 110), (1, Option.map (fun x => Go.Addr.block x) a, Go.Sl.Row (α := Int) 3 (Tab.held t) (junk)), (2, Option.some bk, Go.Sl.mapObj (κ := Go.Sl.K4) (Tab.known t)), (3, Option.some bf, Go.Sl.mapObj (κ := Go.Sl.K4) (Tab.first t))])) (fun k => k ≤ t.held.length ∧ (t.held.take k).all (fun x => !decide (x = v)) = true) (fun k => t.held.length - k) (0) (⟨Nat.zero_le _, rfl⟩) ⟨rfl, rfl, rfl, rfl, trivial⟩ ⟨rfl, rfl, rfl, rfl, trivial⟩ (fun k => fun (hk : k ≤ t.held.length ∧ (t.held.take k).all (fun x => !decide (x = v)) = true) => ?_)
 obtain ⟨hk1, hk2⟩ := hk
 refine Wc.seq (Wc.region rfl (Wl.q rfl (Qy.lss rfl rfl) (Wl.done (Ar.next (Wc.seq ?_)))))
 refine Wc.cond rfl (fun hc1 => ?_) (fun hc1 => ?_)
 refine Wc.skip (Ar.next (Wc.seq (Wc.block (Wc.seq (Wc.region rfl (Wl.q rfl (Qy.move rfl) (Wl.q rfl (Qy.indexAddrO (α := Int) T.sl23 rfl rfl (by assumption) (by omega)) ?_)))))))
 refine Wl.q rfl (Qy.loadO 1 0 T.one3 rfl rfl (by assumption) (by omega) rfl rfl) ?_
 refine Wl.q rfl (Qy.assign rfl) (Wl.q rfl (Qy.assign rfl) (Wl.done (Ar.next (Wc.seq (Wc.seq (Wc.region rfl (Wl.q rfl (Qy.move rfl) (Wl.q rfl (Qy.move rfl) (Wl.q rfl (Qy.neq rfl rfl) (Wl.done (Ar.next ?_)))))))))))
 refine Wc.cond rfl (fun hc2 => ?_) (fun hc2 => ?_)
 refine Wc.exit (Ar.passExit ?_)
 refine Ar.here ?_
 refine Ar.next (Wc.region rfl (Wl.q rfl (Qy.add rfl rfl (by omega)) ?_))
 refine Wl.q rfl (Qy.move rfl) (Wl.done ?_)
 rotate_left
 refine Wc.skip (Ar.next (Wc.seq (Wc.region rfl (Wl.q rfl (Qy.move rfl) (Wl.q rfl (Qy.assign rfl) (Wl.done (Ar.next (Wc.ret ?_))))))))
 refine Ar.outRet ?_
 refine Ar.passRet ?_
 refine Ar.passRet ?_
 refine Ar.outRet ?_
 refine Ar.passRet ?_
 refine Ar.scopeR ?_
 refine Ar.out1 (.inr rfl) (Ho := Hp.only _ [0, 1, 2, 3]) rfl (.tmp rfl) (Hp.sub_only _ _) ?_
 rotate_left
 refine Wc.exit (Ar.passExit ?_)
 refine Ar.passExit ?_
 refine Ar.here ?_
 refine Ar.next (Wc.seq (Wc.region rfl (Wl.q rfl (Qy.assign rfl) (Wl.done (Ar.next (Wc.ret (Ar.scopeR ?_)))))))
 refine Ar.out1 (.inr rfl) (Ho := Hp.only _ [0, 1, 2, 3]) rfl (.tmp rfl) (Hp.sub_only _ _) ?_
 rotate_left
 · refine Ar.again (k + 1) ?_ ?_ rfl ⟨rfl, rfl, rfl, rfl, trivial⟩ ⟨rfl, rfl, rfl, rfl, trivial⟩
   · refine ⟨by omega, ?_⟩
     rw [all_step _ (by omega), hk2]
     simpa using hc2
   · omega
 · refine ⟨?_, rfl, rfl⟩
   have := find_bad (p := fun x => !decide (x = v)) (l := t.held) (k := k) (by omega) hk2 (by simpa using hc2)
   simp only [Bool.not_not] at this
   simp [holder, this]
 · refine ⟨?_, rfl, rfl⟩
   have hk : k = t.held.length := by omega
   subst hk
   rw [List.take_length] at hk2
   have := find_none hk2
   simp only [Bool.not_not] at this
   simp [holder, this]
def keyOf (held : List Int) (i : Sl.Instr) : K4 :=
 let a := held[i.a.toNat]?.getD default
 if i.op = 3 ∨ i.op = 4 then
  let b := held[i.b.toNat]?.getD default
  if i.op = 3 ∧ b < a then ⟨i.op, b, a, i.c⟩ else ⟨i.op, a, b, i.c⟩
 else ⟨i.op, a, -1, i.c⟩
theorem asks_two (i : Sl.Instr) : (1 < ((asks i).length : Int)) ↔ (i.op = 3 ∨ i.op = 4) := by
 unfold asks
 by_cases h : i.op = 3 ∨ i.op = 4
 · simp [h]
 · rw [if_neg h]; split <;> simp [h]
theorem c81 (G : Imm) (t : Tab) (bt bk bf : Nat) (a : Option Addr) (c : Nat) (junk : List Value) (i : Sl.Instr) (ho : OwnA a c t.held junk) (hl : t.held.length ≤ 128) (hm : mayOk i t.held.length = true) :
 Does Tryd.prog 81 [.pointer (some ⟨bt, 0, none⟩), .agg (Cells.enc i).toArray] G (TabH t bt bk bf a c junk) (fun r G' Ho => r = OneVal.val (keyOf t.held i) ∧ G' = G ∧ Ho = TabH t bt bk bf a c junk) := by
 rw [mayOk_iff] at hm
 obtain ⟨⟨hop1, hop2, hto1, hto2, ha1, ha2⟩, hb⟩ := hm
 have hb : i.op = 3 ∨ i.op = 4 → 0 ≤ i.b ∧ i.b < t.held.length := fun h => by rw [if_pos h] at hb; omega
 have two := asks_two i
 refine Does.enter Tryd.func81 rfl Tryd.ntmps81 rfl (fun w => ?_)
 refine Wc.seq (Wc.region rfl ?_)
 refine Wl.box 4 rfl rfl rfl (fun b1 => ?_)
 refine Wl.alloc 5 rfl T.zero138 (fun b2 => ?_)
 refine Wl.done (Ar.next (Wc.seq (Wc.draw [3, 2, 1, 0, 4, 5] [] T.mixed rfl ?_)))
 refine Gm.q 0 [] (by kernel_rfl) rfl rfl (Qy.fieldAddr T.fa55_0 rfl) (Gm.q 1 [4] (by kernel_rfl) rfl rfl (Qy.load 4 T.one3 rfl rfl rfl) (Gm.q 2 [] (by kernel_rfl) rfl rfl (Qy.move rfl) (Gm.q 3 [] (by kernel_rfl) rfl rfl (Qy.nilCheck rfl) ?_)))
 refine Gm.q 4 [] (by kernel_rfl) rfl rfl (Qy.fieldAddr T.fa110_0 rfl) (Gm.q 5 [0] (by kernel_rfl) rfl rfl (Qy.load 0 T.one23 rfl rfl rfl) (Gm.q 6 [] (by kernel_rfl) rfl rfl (Qy.fieldAddr T.fa55_2 rfl) (Gm.q 7 [4] (by kernel_rfl) rfl rfl (Qy.load 4 T.one3 rfl rfl rfl) ?_)))
 refine Gm.q 8 [] (by kernel_rfl) rfl rfl (Qy.indexAddrO (α := Int) T.sl23 rfl rfl (by assumption) (by omega)) ?_
 refine Gm.q 9 [1, 0] (by kernel_rfl) rfl rfl (Qy.loadO 1 0 T.one3 rfl rfl (by assumption) (by omega) rfl rfl) ?_
 refine Gm.q 10 [] (by kernel_rfl) rfl rfl (Qy.fieldAddr T.fa55_4 rfl) (Gm.q 11 [4] (by kernel_rfl) rfl rfl (Qy.load 4 T.one3 rfl rfl rfl) (Gm.q 12 [] (by kernel_rfl) rfl rfl (Qy.build (cs := [_, _, _, _]) T.st138 rfl rfl rfl) ?_))
 refine Gm.one 13 ⟨rfl, rfl, rfl, rfl, rfl, rfl, trivial⟩ (by first | exact Imm.le_refl _ | assumption) (by kernel_rfl) rfl ?_
 refine Wl.alloc 6 rfl T.zero138 (fun b3 => ?_)
 refine Wl.on0 ?_
 refine Gm.one 14 ⟨rfl, rfl, rfl, rfl, rfl, rfl, trivial⟩ (by first | exact Imm.le_refl _ | assumption) (by kernel_rfl) rfl ?_
 refine Wl.storeAll 6 T.size138 rfl rfl rfl rfl rfl rfl ?_
 refine Wl.on0 ?_
 refine Gm.doneA (by kernel_rfl) ⟨rfl, rfl, rfl, rfl, rfl, rfl, trivial⟩ (by first | exact Imm.le_refl _ | assumption) ?_
 refine Ar.next (Wc.seq (Wc.seq (Wc.region rfl (Wl.q rfl (Qy.loadAll 4 T.agg55 rfl rfl rfl) ?_))))
 refine Wl.call 7 rfl T.fn49 rfl (c49 _ _) (tags_of trivial) (fun v1 G1 Ho1 hle1 hp => ?_)
 obtain ⟨ad1, cd1, junk1, rfl, hoa1, rfl, rfl⟩ := hp
 refine Wl.q rfl (Qy.len T.sl23 rfl) (Wl.q rfl (Qy.gtr rfl rfl) (Wl.done (Ar.next ?_)))
 refine Wc.cond rfl (fun hc1 => ?_) (fun hc1 => ?_)
 refine Wc.draw [3, 2, 1, 0, 4, 5, 6, 8] [(6, 9)] T.mixed rfl ?_
 refine Gm.q 0 [] (by kernel_rfl) rfl rfl (Qy.move rfl) (Gm.q 1 [] (by kernel_rfl) rfl rfl (Qy.nilCheck rfl) ?_)
 refine Gm.q 2 [] (by kernel_rfl) rfl rfl (Qy.fieldAddr T.fa110_0 rfl) (Gm.q 3 [0] (by kernel_rfl) rfl rfl (Qy.load 0 T.one23 rfl rfl rfl) (Gm.q 4 [] (by kernel_rfl) rfl rfl (Qy.fieldAddr T.fa55_3 rfl) (Gm.q 5 [4] (by kernel_rfl) rfl rfl (Qy.load 4 T.one3 rfl rfl rfl) ?_)))
 refine Gm.q 6 [] (by kernel_rfl) rfl rfl (Qy.indexAddrO (α := Int) T.sl23 rfl rfl (by assumption) (by omega)) ?_
 refine Gm.q 7 [1, 0] (by kernel_rfl) rfl rfl (Qy.loadO 1 0 T.one3 rfl rfl (by assumption) (by omega) rfl rfl) ?_
 refine Gm.q 8 [] (by kernel_rfl) rfl rfl (Qy.fieldAddr T.fa138_2 rfl) (Gm.one 9 ⟨rfl, rfl, rfl, rfl, rfl, rfl, rfl, rfl, trivial⟩ (by first | exact Imm.le_refl _ | assumption) (by kernel_rfl) rfl ?_)
 refine Wl.store 6 T.one3 rfl rfl rfl rfl rfl ?_
 refine Wl.on0 ?_
 refine Gm.doneA (by kernel_rfl) ⟨rfl, rfl, rfl, rfl, rfl, rfl, rfl, trivial⟩ (by first | exact Imm.le_refl _ | assumption) ?_
 refine Ar.next (Wc.seq (Wc.seq (Wc.region rfl (Wl.q rfl (Qy.fieldAddr T.fa55_0 rfl) (Wl.q rfl (Qy.load 4 T.one3 rfl rfl rfl) (Wl.q rfl (Qy.eql rfl rfl) (Wl.q rfl (Qy.move rfl) ?_)))))))
 apply Wl.joinAnd 6 35 41 rfl
 intro hg1
 refine Wl.want rfl rfl (Wl.q rfl (Qy.fieldAddr T.fa138_2 rfl) (Wl.want rfl rfl (Wl.q rfl (Qy.load 6 T.one3 rfl rfl rfl) (Wl.want rfl rfl (Wl.q rfl (Qy.fieldAddr T.fa138_1 rfl) (Wl.want rfl rfl (Wl.q rfl (Qy.load 6 T.one3 rfl rfl rfl) (Wl.want rfl rfl (Wl.q rfl (Qy.lss rfl rfl) ?_)))))))))
 refine Wl.q rfl (Qy.pick rfl rfl) ?_
 exact Wl.back 6 0 rfl rfl rfl rfl rfl
 intro hg1
 refine Wl.pass rfl rfl rfl (Wl.pass rfl rfl rfl (Wl.pass rfl rfl rfl (Wl.pass rfl rfl rfl (Wl.pass rfl rfl rfl (Wl.q rfl (Qy.pick rfl rfl) ?_)))))
 exact Wl.back 6 0 rfl rfl rfl rfl rfl
 refine Wl.done (Ar.next ?_)
 refine Wc.cond rfl (fun hc2 => ?_) (fun hc2 => ?_)
 refine Wc.region rfl (Wl.q rfl (Qy.fieldAddr T.fa138_2 rfl) (Wl.q rfl (Qy.load 6 T.one3 rfl rfl rfl) (Wl.q rfl (Qy.fieldAddr T.fa138_1 rfl) (Wl.q rfl (Qy.load 6 T.one3 rfl rfl rfl) (Wl.q rfl (Qy.fieldAddr T.fa138_1 rfl) ?_)))))
 refine Wl.store 6 T.one3 rfl rfl rfl rfl rfl ?_
 refine Wl.q rfl (Qy.fieldAddr T.fa138_2 rfl) ?_
 refine Wl.store 6 T.one3 rfl rfl rfl rfl rfl ?_
 refine Wl.done (Ar.next (Wc.seq (Wc.region rfl (Wl.q rfl (Qy.loadAll 6 T.agg138 rfl rfl rfl) ?_))))
 refine Wl.storeAll 5 T.size138 rfl rfl rfl rfl rfl rfl ?_
 refine Wl.done (Ar.next (Wc.ret ?_))
 refine Ar.out1 (.inr rfl) (Ho := Hp.only _ [0, 1, 2, 3]) rfl (.agg 5 rfl rfl T.agg138) (Hp.sub_only _ _) ?_
 rotate_left
 refine Wc.skip (Ar.next (Wc.seq (Wc.region rfl (Wl.q rfl (Qy.loadAll 6 T.agg138 rfl rfl rfl) ?_))))
 refine Wl.storeAll 5 T.size138 rfl rfl rfl rfl rfl rfl ?_
 refine Wl.done (Ar.next (Wc.ret ?_))
 refine Ar.out1 (.inr rfl) (Ho := Hp.only _ [0, 1, 2, 3]) rfl (.agg 5 rfl rfl T.agg138) (Hp.sub_only _ _) ?_
 rotate_left
 refine Wc.skip (Ar.next (Wc.seq (Wc.seq (Wc.region rfl (Wl.q rfl (Qy.fieldAddr T.fa55_0 rfl) (Wl.q rfl (Qy.load 4 T.one3 rfl rfl rfl) (Wl.q rfl (Qy.eql rfl rfl) (Wl.q rfl (Qy.move rfl) (Wl.no 35 rfl (by first | assumption | omega) ?_)))))))))
 refine Wl.pass rfl rfl rfl (Wl.pass rfl rfl rfl (Wl.pass rfl rfl rfl (Wl.pass rfl rfl rfl (Wl.pass rfl rfl rfl (Wl.q rfl (Qy.pick rfl rfl) (Wl.done (Ar.next (Wc.condF rfl ?_))))))))
 refine Wc.skip (Ar.next (Wc.seq (Wc.region rfl (Wl.q rfl (Qy.loadAll 6 T.agg138 rfl rfl rfl) ?_))))
 refine Wl.storeAll 5 T.size138 rfl rfl rfl rfl rfl rfl ?_
 refine Wl.done (Ar.next (Wc.ret ?_))
 refine Ar.out1 (.inr rfl) (Ho := Hp.only _ [0, 1, 2, 3]) rfl (.agg 5 rfl rfl T.agg138) (Hp.sub_only _ _) ?_
 rotate_left
 · refine ⟨?_, rfl, rfl⟩
   have h : keyOf t.held i = ⟨i.op, t.held[i.b.toNat]?.getD default, t.held[i.a.toNat]?.getD default, i.c⟩ := by
    unfold keyOf; rw [if_pos (by omega)]; exact if_pos hc2
   rw [h]; rfl
 · refine ⟨?_, rfl, rfl⟩
   have h : keyOf t.held i = ⟨i.op, t.held[i.a.toNat]?.getD default, t.held[i.b.toNat]?.getD default, i.c⟩ := by
    unfold keyOf; rw [if_pos (by omega)]; exact if_neg hc2
   rw [h]; rfl
 · refine ⟨?_, rfl, rfl⟩
   have h : keyOf t.held i = ⟨i.op, t.held[i.a.toNat]?.getD default, -1, i.c⟩ := by
    unfold keyOf; rw [if_neg (by omega)]
   rw [h]; rfl
def reckonP (t : Tab) (n : Int) (i : Sl.Instr) : (Int × Int) × Tab :=
 if i.op = 1 then ((t.held[i.a.toNat]?.getD default, -1), t)
 else match mget t.known (keyOf t.held i) with
  | none => ((t.next, n), { t with known := t.known ++ [(keyOf t.held i, t.next)], first := t.first ++ [(keyOf t.held i, n)], next := t.next + 1 })
  | some v => ((v, (mget t.first (keyOf t.held i)).getD 0), t)
end Go.Proofs.YtbppmiimeccclaaDoor
namespace Go.Proofs.YtbppmiimeccclaaDoor
open Go Go.Sl
set_option maxRecDepth 100000
set_option linter.unusedVariables false
set_option maxHeartbeats 2000000
theorem c32 (G : Imm) (a : Option Addr) (c : Nat) (xs : List Int) (hx : Arr G a xs) (hl : xs.length ≤ 1099511627776) :
 Does Tryd.prog 32 [.slice a xs.length c] G [] (fun v G' Ho => ∃ b d j, v = .slice b xs.length d ∧ OwnA b d xs j ∧ Ho = [(0, b.map (·.block), Row 3 xs j)] ∧ G' = G) := by
 refine Does.enter Tryd.func32 rfl Tryd.ntmps32 rfl (fun w => ?_)
 refine Wc.seq (Wc.region rfl (Wl.q rfl (Qy.assign rfl) (Wl.done (Ar.next (Wc.seq (Wc.seq (Wc.region rfl (Wl.q rfl (Qy.move rfl) (Wl.q rfl (Qy.eqlSliceNil T.sl23 rfl rfl) ?_)))))))))
 refine Wl.done (Ar.next ?_)
 refine Wc.cond rfl (fun hc1 => ?_) (fun hc1 => ?_)
 refine Wc.seq (Wc.region rfl (Wl.q rfl (Qy.assign rfl) (Wl.done (Ar.next (Wc.ret (Ar.passRet ?_))))))
 rotate_left
 refine Wc.skip (Ar.next (Wc.seq (Wc.region rfl ?_)))
 refine Wl.lit0 0 rfl T.sl23 (fun b1 => ?_)
 refine Wl.q rfl (Qy.move rfl) ?_
 rotate_left
 · subst hc1
   have hn : xs = [] := by
    rcases hx.2 with h | ⟨b, o, h, _⟩
    · exact List.eq_nil_of_length_eq_zero h
    · cases h
   subst hn
   refine Ar.nilRow 0 (Row 3 ([] : List Int) []) ?_
   refine Ar.out1 (.inr rfl) (Ho := Hp.only _ [0]) rfl (.tmp rfl) (Hp.sub_only _ _) ?_
   exact ⟨none, 0, [], rfl, OwnA.nil, rfl, rfl⟩
 · refine Wl.reH 0 (Row 3 ([] : List Int) []) rfl rfl ?_
   refine Wl.append (α := Int) 0 rfl T.sl23 T.el3 rfl rfl rfl (OwnA.made (by simp)) (Src.arr (by assumption)) (by simp only [List.length_nil]; omega) (by simp only [List.length_nil, maxLen]; omega) (fun a1 c1 junk1 ho1 => ?_)
   refine Wl.q rfl (Qy.assign rfl) (Wl.done (Ar.next (Wc.ret ?_)))
   refine Ar.out1 (.inr rfl) (Ho := Hp.only _ [0]) rfl (.tmp rfl) (Hp.sub_only _ _) ?_
   exact ⟨_, _, _, rfl, ho1, rfl, rfl⟩
theorem c12 (G : Imm) (xs ys : List Int) (a b : Option Addr) (c d : Nat) (hx : Arr G a xs) (hy : Arr G b ys) (h1 : xs.length ≤ 1099511627776) (h2 : ys.length ≤ 1099511627776) :
 Does Tryd.prog 12 [.slice a xs.length c, .slice b ys.length d] G [] (fun v G' Ho => v = .bool (decide (xs = ys)) ∧ G' = G ∧ Ho = []) := by
 refine Does.enter Tryd.func12 rfl Tryd.ntmps12 rfl (fun w => ?_)
 refine Wc.seq (Wc.region rfl (Wl.q rfl (Qy.assign rfl) (Wl.done (Ar.next (Wc.seq (Wc.seq (Wc.region rfl (Wl.q rfl (Qy.move rfl) (Wl.q rfl (Qy.len T.sl23 rfl) (Wl.q rfl (Qy.move rfl) (Wl.q rfl (Qy.len T.sl23 rfl) (Wl.q rfl (Qy.neq rfl rfl) (Wl.done (Ar.next ?_))))))))))))))
 refine Wc.cond rfl (fun hc1 => ?_) (fun hc1 => ?_)
 refine Wc.seq (Wc.region rfl (Wl.q rfl (Qy.assign rfl) (Wl.done (Ar.next (Wc.ret (Ar.passRet ?_))))))
 refine Ar.out1 (.inr rfl) (Ho := Hp.only _ []) rfl (.tmp rfl) (Hp.sub_only _ _) ?_
 rotate_left
 refine Wc.skip (Ar.next (Wc.seq (Wc.seq (Wc.region rfl (Wl.q rfl (Qy.move rfl) (Wl.q rfl (Qy.len T.sl23 rfl) (Wl.q rfl (Qy.move rfl) (Wl.done (Ar.next (Wc.block ?_))))))))))
 rotate_left
 · have : xs ≠ ys := by rintro rfl; exact hc1 rfl
   exact ⟨by simp [this], rfl, rfl⟩
 have hl : xs.length = ys.length := by omega
 clear hc1
 refine Wc.loop (ι := Nat) (fun k => ([(13, .int .i64 (k : Int)), (12, Go.Value.int Go.IntKind.i64 (↑(List.length xs) : Int)), (0, Go.Value.slice a (List.length xs) c), (1, Go.Value.slice b (List.length ys) d)], [])) (fun k => k ≤ xs.length ∧ xs.take k = ys.take k) (fun k => xs.length - k) (0) (⟨Nat.zero_le _, rfl⟩) ⟨rfl, rfl, rfl, rfl, trivial⟩ trivial (fun k => fun (hk : k ≤ xs.length ∧ xs.take k = ys.take k) => ?_)
 obtain ⟨hk1, hk2⟩ := hk
 refine Wc.seq (Wc.region rfl (Wl.q rfl (Qy.lss rfl rfl) (Wl.done (Ar.next (Wc.seq ?_)))))
 refine Wc.cond rfl (fun hc1 => ?_) (fun hc1 => ?_)
 refine Wc.skip (Ar.next (Wc.seq (Wc.block (Wc.seq (Wc.region rfl (Wl.q rfl (Qy.move rfl) (Wl.q rfl (Qy.assign rfl) (Wl.done (Ar.next (Wc.seq (Wc.draw [] [] T.mixed rfl ?_)))))))))))
 refine Gm.q 0 [] (by kernel_rfl) rfl rfl (Qy.move rfl) (Gm.q 1 [] (by kernel_rfl) rfl rfl (Qy.move rfl) (Gm.q 2 [] (by kernel_rfl) rfl rfl (Qy.at (α := Int) T.sl23 rfl rfl (by assumption) (by omega)) ?_))
 refine Gm.q 3 [] (by kernel_rfl) rfl rfl (Qy.loadG T.one3 rfl (Arr.cell (by assumption) (by omega) 0 rfl rfl)) ?_
 refine Gm.q 4 [] (by kernel_rfl) rfl rfl (Qy.move rfl) (Gm.q 5 [] (by kernel_rfl) rfl rfl (Qy.move rfl) (Gm.q 6 [] (by kernel_rfl) rfl rfl (Qy.at (α := Int) T.sl23 rfl rfl (by assumption) (by omega)) ?_))
 refine Gm.q 7 [] (by kernel_rfl) rfl rfl (Qy.loadG T.one3 rfl (Arr.cell (by assumption) (by omega) 0 rfl rfl)) ?_
 refine Gm.q 8 [] (by kernel_rfl) rfl rfl (Qy.neq rfl rfl) ?_
 refine Gm.doneA (by kernel_rfl) trivial (by first | exact Imm.le_refl _ | assumption) ?_
 refine Ar.next ?_
 refine Wc.cond rfl (fun hc2 => ?_) (fun hc2 => ?_)
 refine Wc.seq (Wc.region rfl (Wl.q rfl (Qy.assign rfl) (Wl.done (Ar.next (Wc.ret ?_)))))
 refine Ar.outRet ?_
 refine Ar.passRet ?_
 refine Ar.passRet ?_
 refine Ar.outRet ?_
 refine Ar.passRet ?_
 refine Ar.out1 (.inr rfl) (Ho := Hp.only _ []) rfl (.tmp rfl) (Hp.sub_only _ _) ?_
 rotate_left
 refine Wc.skip ?_
 refine Ar.outNormal ?_
 refine Ar.next (Wc.region rfl (Wl.q rfl (Qy.add rfl rfl (by omega)) ?_))
 refine Wl.q rfl (Qy.move rfl) (Wl.done ?_)
 rotate_left
 refine Wc.exit (Ar.passExit ?_)
 refine Ar.passExit ?_
 refine Ar.here ?_
 refine Ar.next (Wc.seq (Wc.region rfl (Wl.q rfl (Qy.assign rfl) (Wl.done (Ar.next (Wc.ret ?_))))))
 refine Ar.out1 (.inr rfl) (Ho := Hp.only _ []) rfl (.tmp rfl) (Hp.sub_only _ _) ?_
 rotate_left
 · have : xs ≠ ys := by rintro rfl; exact hc2 rfl
   exact ⟨by simp [this], rfl, rfl⟩
 · refine Ar.again (k + 1) ?_ ?_ rfl ⟨rfl, rfl, rfl, rfl, trivial⟩ trivial
   · exact ⟨by omega, take_eq_step (by omega) (by omega) hk2 (Decidable.not_not.1 hc2)⟩
   · omega
 · have hk : k = xs.length := by omega
   subst hk
   rw [List.take_length, hl, List.take_length] at hk2
   exact ⟨by simp [hk2], rfl, rfl⟩
theorem c77 (G : Imm) (xs ys : List Sl.Instr) (a b : Option Addr) (c d : Nat) (hx : Arr G a xs) (hy : Arr G b ys) (h1 : xs.length ≤ 1099511627776) (h2 : ys.length ≤ 1099511627776) :
 Does Tryd.prog 77 [.slice a xs.length c, .slice b ys.length d] G [] (fun v G' Ho => v = .bool (decide (xs = ys)) ∧ G' = G ∧ Ho = []) := by
 refine Does.enter Tryd.func77 rfl Tryd.ntmps77 rfl (fun w => ?_)
 refine Wc.seq (Wc.region rfl (Wl.q rfl (Qy.assign rfl) (Wl.done (Ar.next (Wc.seq (Wc.seq (Wc.region rfl (Wl.q rfl (Qy.move rfl) (Wl.q rfl (Qy.len T.sl22 rfl) (Wl.q rfl (Qy.move rfl) (Wl.q rfl (Qy.len T.sl22 rfl) (Wl.q rfl (Qy.neq rfl rfl) (Wl.done (Ar.next ?_))))))))))))))
 refine Wc.cond rfl (fun hc1 => ?_) (fun hc1 => ?_)
 refine Wc.seq (Wc.region rfl (Wl.q rfl (Qy.assign rfl) (Wl.done (Ar.next (Wc.ret (Ar.passRet ?_))))))
 refine Ar.out1 (.inr rfl) (Ho := Hp.only _ []) rfl (.tmp rfl) (Hp.sub_only _ _) ?_
 rotate_left
 refine Wc.skip (Ar.next (Wc.seq (Wc.seq (Wc.region rfl (Wl.q rfl (Qy.move rfl) (Wl.q rfl (Qy.len T.sl22 rfl) (Wl.q rfl (Qy.move rfl) (Wl.done (Ar.next (Wc.block ?_))))))))))
 rotate_left
 · have : xs ≠ ys := by rintro rfl; exact hc1 rfl
   exact ⟨by simp [this], rfl, rfl⟩
 have hl : xs.length = ys.length := by omega
 clear hc1
 refine Wc.loop (ι := Nat) (fun k => ([(13, .int .i64 (k : Int)), (12, Go.Value.int Go.IntKind.i64 (↑(List.length xs) : Int)), (0, Go.Value.slice a (List.length xs) c), (1, Go.Value.slice b (List.length ys) d)], [])) (fun k => k ≤ xs.length ∧ xs.take k = ys.take k) (fun k => xs.length - k) (0) (⟨Nat.zero_le _, rfl⟩) ⟨rfl, rfl, rfl, rfl, trivial⟩ trivial (fun k => fun (hk : k ≤ xs.length ∧ xs.take k = ys.take k) => ?_)
 obtain ⟨hk1, hk2⟩ := hk
 refine Wc.seq (Wc.region rfl (Wl.q rfl (Qy.lss rfl rfl) (Wl.done (Ar.next (Wc.seq ?_)))))
 refine Wc.cond rfl (fun hc1 => ?_) (fun hc1 => ?_)
 refine Wc.skip (Ar.next (Wc.seq (Wc.block (Wc.seq (Wc.region rfl (Wl.q rfl (Qy.move rfl) (Wl.q rfl (Qy.assign rfl) (Wl.done (Ar.next (Wc.seq (Wc.draw [] [] T.mixed rfl ?_)))))))))))
 refine Gm.q 0 [] (by kernel_rfl) rfl rfl (Qy.move rfl) (Gm.q 1 [] (by kernel_rfl) rfl rfl (Qy.move rfl) (Gm.q 2 [] (by kernel_rfl) rfl rfl (Qy.at (α := Instr) T.sl22 rfl rfl (by assumption) (by omega)) ?_))
 refine Gm.q 3 [] (by kernel_rfl) rfl rfl (Qy.loadsG T.agg55 rfl (Arr.elem (by assumption) (by omega)) rfl) ?_
 refine Gm.q 4 [] (by kernel_rfl) rfl rfl (Qy.move rfl) (Gm.q 5 [] (by kernel_rfl) rfl rfl (Qy.move rfl) (Gm.q 6 [] (by kernel_rfl) rfl rfl (Qy.at (α := Instr) T.sl22 rfl rfl (by assumption) (by omega)) ?_))
 refine Gm.q 7 [] (by kernel_rfl) rfl rfl (Qy.loadsG T.agg55 rfl (Arr.elem (by assumption) (by omega)) rfl) ?_
 refine Gm.q 8 [] (by kernel_rfl) rfl rfl (Qy.neqInstr T.ai55 rfl rfl) ?_
 refine Gm.doneA (by kernel_rfl) trivial (by first | exact Imm.le_refl _ | assumption) ?_
 refine Ar.next ?_
 refine Wc.cond rfl (fun hc2 => ?_) (fun hc2 => ?_)
 refine Wc.seq (Wc.region rfl (Wl.q rfl (Qy.assign rfl) (Wl.done (Ar.next (Wc.ret ?_)))))
 refine Ar.outRet ?_
 refine Ar.passRet ?_
 refine Ar.passRet ?_
 refine Ar.outRet ?_
 refine Ar.passRet ?_
 refine Ar.out1 (.inr rfl) (Ho := Hp.only _ []) rfl (.tmp rfl) (Hp.sub_only _ _) ?_
 rotate_left
 refine Wc.skip ?_
 refine Ar.outNormal ?_
 refine Ar.next (Wc.region rfl (Wl.q rfl (Qy.add rfl rfl (by omega)) ?_))
 refine Wl.q rfl (Qy.move rfl) (Wl.done ?_)
 rotate_left
 refine Wc.exit (Ar.passExit ?_)
 refine Ar.passExit ?_
 refine Ar.here ?_
 refine Ar.next (Wc.seq (Wc.region rfl (Wl.q rfl (Qy.assign rfl) (Wl.done (Ar.next (Wc.ret ?_))))))
 refine Ar.out1 (.inr rfl) (Ho := Hp.only _ []) rfl (.tmp rfl) (Hp.sub_only _ _) ?_
 rotate_left
 · have : xs ≠ ys := by rintro rfl; exact hc2 rfl
   exact ⟨by simp [this], rfl, rfl⟩
 · refine Ar.again (k + 1) ?_ ?_ rfl ⟨rfl, rfl, rfl, rfl, trivial⟩ trivial
   · exact ⟨by omega, take_eq_step (by omega) (by omega) hk2 (Decidable.not_not.1 hc2)⟩
   · omega
 · have hk : k = xs.length := by omega
   subst hk
   rw [List.take_length, hl, List.take_length] at hk2
   exact ⟨by simp [hk2], rfl, rfl⟩
theorem c45 (G : Imm) (p q : PV) (ac ao bc bo : Option Addr) (cc co dc do_ : Nat) (hc : Arr G ac p.code) (ho : Arr G ao p.outs) (hc' : Arr G bc q.code) (ho' : Arr G bo q.outs) (h1 : p.code.length ≤ 1099511627776) (h2 : p.outs.length ≤ 1099511627776)
 (h3 : q.code.length ≤ 1099511627776) (h4 : q.outs.length ≤ 1099511627776) :
 Does Tryd.prog 45 [.agg #[.int .i64 p.ins, .int .i64 p.regs, .slice ac p.code.length cc, .slice ao p.outs.length co], .agg #[.int .i64 q.ins, .int .i64 q.regs, .slice bc q.code.length dc, .slice bo q.outs.length do_]] G []
  (fun v G' Ho => v = .bool (decide (p = q)) ∧ G' = G ∧ Ho = []) := by
 refine Does.enter Tryd.func45 rfl Tryd.ntmps45 rfl (fun w => ?_)
 refine Wc.seq (Wc.region rfl ?_)
 refine Wl.box 0 rfl rfl rfl (fun b1 => ?_)
 refine Wl.box 1 rfl rfl rfl (fun b2 => ?_)
 refine Wl.q rfl (Qy.assign rfl) (Wl.done (Ar.next (Wc.seq (Wc.region rfl (Wl.q rfl (Qy.fieldAddr T.fa25_0 rfl) (Wl.q rfl (Qy.load 0 T.one3 rfl rfl rfl) (Wl.q rfl (Qy.fieldAddr T.fa25_0 rfl) (Wl.q rfl (Qy.load 1 T.one3 rfl rfl rfl) (Wl.q rfl (Qy.eql rfl rfl) (Wl.q rfl (Qy.move rfl) ?_))))))))))
 apply Wl.joinAnd 6 10 16 rfl
 intro hg1
 refine Wl.want rfl rfl (Wl.q rfl (Qy.fieldAddr T.fa25_1 rfl) (Wl.want rfl rfl (Wl.q rfl (Qy.load 0 T.one3 rfl rfl rfl) (Wl.want rfl rfl (Wl.q rfl (Qy.fieldAddr T.fa25_1 rfl) (Wl.want rfl rfl (Wl.q rfl (Qy.load 1 T.one3 rfl rfl rfl) (Wl.want rfl rfl (Wl.q rfl (Qy.eql rfl rfl) ?_)))))))))
 refine Wl.q rfl (Qy.pick rfl rfl) ?_
 exact Wl.back 6 0 rfl rfl rfl rfl rfl
 intro hg1
 refine Wl.pass rfl rfl rfl (Wl.pass rfl rfl rfl (Wl.pass rfl rfl rfl (Wl.pass rfl rfl rfl (Wl.pass rfl rfl rfl (Wl.q rfl (Qy.pick rfl rfl) ?_)))))
 exact Wl.back 6 0 rfl rfl rfl rfl rfl
 refine Wl.q rfl (Qy.move rfl) ?_
 apply Wl.joinAnd 6 17 23 rfl
 intro hg1
 refine Wl.want rfl rfl (Wl.q rfl (Qy.fieldAddr T.fa25_2 rfl) (Wl.want rfl rfl (Wl.q rfl (Qy.load 0 T.one22 rfl rfl rfl) (Wl.want rfl rfl (Wl.q rfl (Qy.fieldAddr T.fa25_2 rfl) (Wl.want rfl rfl (Wl.q rfl (Qy.load 1 T.one22 rfl rfl rfl) (Wl.want rfl rfl ?_))))))))
 refine Wl.call0 rfl T.fn77 rfl (c77 _ _ _ _ _ _ _ (by assumption) (by assumption) (by omega) (by omega)) ?_
 refine Wl.q rfl (Qy.pick rfl rfl) ?_
 exact Wl.back 6 0 rfl rfl rfl rfl rfl
 intro hg1
 refine Wl.pass rfl rfl rfl (Wl.pass rfl rfl rfl (Wl.pass rfl rfl rfl (Wl.pass rfl rfl rfl (Wl.pass rfl rfl rfl (Wl.q rfl (Qy.pick rfl rfl) ?_)))))
 exact Wl.back 6 0 rfl rfl rfl rfl rfl
 refine Wl.q rfl (Qy.move rfl) ?_
 apply Wl.joinAnd 6 24 30 rfl
 intro hg1
 refine Wl.want rfl rfl (Wl.q rfl (Qy.fieldAddr T.fa25_3 rfl) (Wl.want rfl rfl (Wl.q rfl (Qy.load 0 T.one23 rfl rfl rfl) (Wl.want rfl rfl (Wl.q rfl (Qy.fieldAddr T.fa25_3 rfl) (Wl.want rfl rfl (Wl.q rfl (Qy.load 1 T.one23 rfl rfl rfl) (Wl.want rfl rfl ?_))))))))
 refine Wl.call0 rfl T.fn12 rfl (c12 _ _ _ _ _ _ _ (by assumption) (by assumption) (by omega) (by omega)) ?_
 refine Wl.q rfl (Qy.pick rfl rfl) ?_
 exact Wl.back 6 0 rfl rfl rfl rfl rfl
 intro hg1
 refine Wl.pass rfl rfl rfl (Wl.pass rfl rfl rfl (Wl.pass rfl rfl rfl (Wl.pass rfl rfl rfl (Wl.pass rfl rfl rfl (Wl.q rfl (Qy.pick rfl rfl) ?_)))))
 exact Wl.back 6 0 rfl rfl rfl rfl rfl
 refine Wl.q rfl (Qy.assign rfl) (Wl.done (Ar.next (Wc.ret ?_)))
 refine Ar.out1 (.inr rfl) (Ho := Hp.only _ []) rfl (.tmp rfl) (Hp.sub_only _ _) ?_
 refine ⟨?_, rfl, rfl⟩
 cases p; cases q
 simp [and_assoc]
end Go.Proofs.YtbppmiimeccclaaDoor
