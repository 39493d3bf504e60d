/- The table of types, by program (gentab.py). -/
import Derived.Test.YtgnclmmijijimaaProg
import Derived.Test.YtgnclmmijijimaaA3
namespace Go.Proofs.Ytgnclmmijijimaa
open Go.RowKit
set_option maxHeartbeats 8000000
def ti1 : TI := { zero := [.nilFunc], size := 1, bytes := 8, td := {  } }
theorem tok1 : TIok Try.prog 1 ti1 := ⟨by kernel_rfl, by kernel_rfl, by kernel_rfl⟩
def ti2 : TI := { zero := [.int .i64 0], size := 1, bytes := 8, td := { ik := some .i64 } }
theorem tok2 : TIok Try.prog 2 ti2 := ⟨by kernel_rfl, by kernel_rfl, by kernel_rfl⟩
def ti3 : TI := { zero := [.int .i64 0], size := 1, bytes := 8, td := { ik := some .i64 } }
theorem tok3 : TIok Try.prog 3 ti3 := ⟨by kernel_rfl, by kernel_rfl, by kernel_rfl⟩
def ti4 : TI := { zero := [.bool false], size := 1, bytes := 1, td := { bl := true } }
theorem tok4 : TIok Try.prog 4 ti4 := ⟨by kernel_rfl, by kernel_rfl, by kernel_rfl⟩
def ti5 : TI := { zero := [.int .u8 0], size := 1, bytes := 1, td := { ik := some .u8 } }
theorem tok5 : TIok Try.prog 5 ti5 := ⟨by kernel_rfl, by kernel_rfl, by kernel_rfl⟩
def ti6 : TI := { zero := [.int .u8 0], size := 1, bytes := 1, td := { ik := some .u8 } }
theorem tok6 : TIok Try.prog 6 ti6 := ⟨by kernel_rfl, by kernel_rfl, by kernel_rfl⟩
def ti7 : TI := { zero := [.int .i64 0, .int .i64 0, .bool false, .int .u8 0], size := 4, bytes := 24, td := { agg := true, struct := true, flds := [(0, some 1, some false), (1, some 1, some false), (2, some 1, some false), (3, some 1, some false)] }, eqs := some [(0, 0), (1, 0), (2, 2), (3, 0)] }
theorem tok7 : TIok Try.prog 7 ti7 := ⟨by kernel_rfl, by kernel_rfl, by kernel_rfl⟩
def ti8 : TI := { zero := [.int .i64 0, .int .i64 0, .bool false, .int .u8 0], size := 4, bytes := 24, td := { agg := true, struct := true, flds := [(0, some 1, some false), (1, some 1, some false), (2, some 1, some false), (3, some 1, some false)] }, eqs := some [(0, 0), (1, 0), (2, 2), (3, 0)] }
theorem tok8 : TIok Try.prog 8 ti8 := ⟨by kernel_rfl, by kernel_rfl, by kernel_rfl⟩
def ti9 : TI := { zero := [.string ⟨#[]⟩], size := 1, bytes := 16, td := { str := true } }
theorem tok9 : TIok Try.prog 9 ti9 := ⟨by kernel_rfl, by kernel_rfl, by kernel_rfl⟩
def ti10 : TI := { zero := [.string ⟨#[]⟩], size := 1, bytes := 16, td := { str := true } }
theorem tok10 : TIok Try.prog 10 ti10 := ⟨by kernel_rfl, by kernel_rfl, by kernel_rfl⟩
def ti11 : TI := { zero := [.string ⟨#[]⟩], size := 1, bytes := 16, td := { str := true } }
theorem tok11 : TIok Try.prog 11 ti11 := ⟨by kernel_rfl, by kernel_rfl, by kernel_rfl⟩
def ti12 : TI := { zero := [.int .u64 0], size := 1, bytes := 8, td := { ik := some .u64 } }
theorem tok12 : TIok Try.prog 12 ti12 := ⟨by kernel_rfl, by kernel_rfl, by kernel_rfl⟩
def ti13 : TI := { zero := [.string ⟨#[]⟩, .int .u64 0], size := 2, bytes := 24, td := { agg := true, struct := true, flds := [(0, some 1, some false), (1, some 1, some false)] } }
theorem tok13 : TIok Try.prog 13 ti13 := ⟨by kernel_rfl, by kernel_rfl, by kernel_rfl⟩
def ti14 : TI := { zero := [.string ⟨#[]⟩, .int .u64 0], size := 2, bytes := 24, td := { agg := true, struct := true, flds := [(0, some 1, some false), (1, some 1, some false)] } }
theorem tok14 : TIok Try.prog 14 ti14 := ⟨by kernel_rfl, by kernel_rfl, by kernel_rfl⟩
def ti18 : TI := { zero := [.pointer none], size := 1, bytes := 8, td := { agg := true, struct := true, flds := [(0, some 1, some false)] } }
theorem tok18 : TIok Try.prog 18 ti18 := ⟨by kernel_rfl, by kernel_rfl, by kernel_rfl⟩
def ti19 : TI := { zero := [.pointer none], size := 1, bytes := 8, td := { agg := true, struct := true, flds := [(0, some 1, some false)] } }
theorem tok19 : TIok Try.prog 19 ti19 := ⟨by kernel_rfl, by kernel_rfl, by kernel_rfl⟩
def ti21 : TI := { zero := [.int .i32 0], size := 1, bytes := 4, td := { ik := some .i32 } }
theorem tok21 : TIok Try.prog 21 ti21 := ⟨by kernel_rfl, by kernel_rfl, by kernel_rfl⟩
def ti22 : TI := { zero := [.slice none 0 0], size := 1, bytes := 24, td := { elem := some 44 } }
theorem tok22 : TIok Try.prog 22 ti22 := ⟨by kernel_rfl, by kernel_rfl, by kernel_rfl⟩
def ti23 : TI := { zero := [.nilFunc], size := 1, bytes := 8, td := {  } }
theorem tok23 : TIok Try.prog 23 ti23 := ⟨by kernel_rfl, by kernel_rfl, by kernel_rfl⟩
def ti24 : TI := { zero := [.slice none 0 0], size := 1, bytes := 24, td := { elem := some 50 } }
theorem tok24 : TIok Try.prog 24 ti24 := ⟨by kernel_rfl, by kernel_rfl, by kernel_rfl⟩
def ti25 : TI := { zero := [.slice none 0 0], size := 1, bytes := 24, td := { elem := some 154 } }
theorem tok25 : TIok Try.prog 25 ti25 := ⟨by kernel_rfl, by kernel_rfl, by kernel_rfl⟩
def ti26 : TI := { zero := [.slice none 0 0, .slice none 0 0], size := 2, bytes := 48, td := { agg := true, struct := true, flds := [(0, some 1, some false), (1, some 1, some false)] } }
theorem tok26 : TIok Try.prog 26 ti26 := ⟨by kernel_rfl, by kernel_rfl, by kernel_rfl⟩
def ti27 : TI := { zero := [.slice none 0 0, .slice none 0 0], size := 2, bytes := 48, td := { agg := true, struct := true, flds := [(0, some 1, some false), (1, some 1, some false)] } }
theorem tok27 : TIok Try.prog 27 ti27 := ⟨by kernel_rfl, by kernel_rfl, by kernel_rfl⟩
def ti28 : TI := { zero := [.nilFunc], size := 1, bytes := 8, td := {  } }
theorem tok28 : TIok Try.prog 28 ti28 := ⟨by kernel_rfl, by kernel_rfl, by kernel_rfl⟩
def ti29 : TI := { zero := [.nilFunc], size := 1, bytes := 8, td := {  } }
theorem tok29 : TIok Try.prog 29 ti29 := ⟨by kernel_rfl, by kernel_rfl, by kernel_rfl⟩
def ti30 : TI := { zero := [.nilFunc], size := 1, bytes := 8, td := {  } }
theorem tok30 : TIok Try.prog 30 ti30 := ⟨by kernel_rfl, by kernel_rfl, by kernel_rfl⟩
def ti31 : TI := { zero := [.slice none 0 0], size := 1, bytes := 24, td := { elem := some 3 } }
theorem tok31 : TIok Try.prog 31 ti31 := ⟨by kernel_rfl, by kernel_rfl, by kernel_rfl⟩
def ti32 : TI := { zero := [.nilFunc], size := 1, bytes := 8, td := {  } }
theorem tok32 : TIok Try.prog 32 ti32 := ⟨by kernel_rfl, by kernel_rfl, by kernel_rfl⟩
def ti33 : TI := { zero := [.nilFunc], size := 1, bytes := 8, td := {  } }
theorem tok33 : TIok Try.prog 33 ti33 := ⟨by kernel_rfl, by kernel_rfl, by kernel_rfl⟩
def ti34 : TI := { zero := [.nilFunc], size := 1, bytes := 8, td := {  } }
theorem tok34 : TIok Try.prog 34 ti34 := ⟨by kernel_rfl, by kernel_rfl, by kernel_rfl⟩
def ti36 : TI := { zero := [.nilFunc], size := 1, bytes := 8, td := {  } }
theorem tok36 : TIok Try.prog 36 ti36 := ⟨by kernel_rfl, by kernel_rfl, by kernel_rfl⟩
def ti37 : TI := { zero := [.nilFunc], size := 1, bytes := 8, td := {  } }
theorem tok37 : TIok Try.prog 37 ti37 := ⟨by kernel_rfl, by kernel_rfl, by kernel_rfl⟩
def ti38 : TI := { zero := [.slice none 0 0], size := 1, bytes := 24, td := { elem := some 9 } }
theorem tok38 : TIok Try.prog 38 ti38 := ⟨by kernel_rfl, by kernel_rfl, by kernel_rfl⟩
def ti39 : TI := { zero := [.nilFunc], size := 1, bytes := 8, td := {  } }
theorem tok39 : TIok Try.prog 39 ti39 := ⟨by kernel_rfl, by kernel_rfl, by kernel_rfl⟩
def ti40 : TI := { zero := [.nilFunc], size := 1, bytes := 8, td := {  } }
theorem tok40 : TIok Try.prog 40 ti40 := ⟨by kernel_rfl, by kernel_rfl, by kernel_rfl⟩
def ti41 : TI := { zero := [.nilFunc], size := 1, bytes := 8, td := {  } }
theorem tok41 : TIok Try.prog 41 ti41 := ⟨by kernel_rfl, by kernel_rfl, by kernel_rfl⟩
def ti42 : TI := { zero := [.nilFunc], size := 1, bytes := 8, td := {  } }
theorem tok42 : TIok Try.prog 42 ti42 := ⟨by kernel_rfl, by kernel_rfl, by kernel_rfl⟩
def ti43 : TI := { zero := [.int .i64 0, .int .i64 0, .slice none 0 0, .int .i64 0, .int .i64 0], size := 5, bytes := 56, td := { agg := true, struct := true, flds := [(0, some 1, some false), (1, some 1, some false), (2, some 1, some false), (3, some 1, some false), (4, some 1, some false)] } }
theorem tok43 : TIok Try.prog 43 ti43 := ⟨by kernel_rfl, by kernel_rfl, by kernel_rfl⟩
def ti44 : TI := { zero := [.int .i64 0, .int .i64 0, .slice none 0 0, .int .i64 0, .int .i64 0], size := 5, bytes := 56, td := { agg := true, struct := true, flds := [(0, some 1, some false), (1, some 1, some false), (2, some 1, some false), (3, some 1, some false), (4, some 1, some false)] } }
theorem tok44 : TIok Try.prog 44 ti44 := ⟨by kernel_rfl, by kernel_rfl, by kernel_rfl⟩
def ti45 : TI := { zero := [.nilFunc], size := 1, bytes := 8, td := {  } }
theorem tok45 : TIok Try.prog 45 ti45 := ⟨by kernel_rfl, by kernel_rfl, by kernel_rfl⟩
def ti46 : TI := { zero := [.nilFunc], size := 1, bytes := 8, td := {  } }
theorem tok46 : TIok Try.prog 46 ti46 := ⟨by kernel_rfl, by kernel_rfl, by kernel_rfl⟩
def ti47 : TI := { zero := [.slice none 0 0], size := 1, bytes := 24, td := { elem := some 57 } }
theorem tok47 : TIok Try.prog 47 ti47 := ⟨by kernel_rfl, by kernel_rfl, by kernel_rfl⟩
def ti48 : TI := { zero := [.slice none 0 0], size := 1, bytes := 24, td := { elem := some 156 } }
theorem tok48 : TIok Try.prog 48 ti48 := ⟨by kernel_rfl, by kernel_rfl, by kernel_rfl⟩
def ti49 : TI := { zero := [.int .i64 0, .string ⟨#[]⟩, .slice none 0 0, .slice none 0 0, .int .i64 0, .slice none 0 0, .bool false, .bool false], size := 8, bytes := 112, td := { agg := true, struct := true, flds := [(0, some 1, some false), (1, some 1, some false), (2, some 1, some false), (3, some 1, some false), (4, some 1, some false), (5, some 1, some false), (6, some 1, some false), (7, some 1, some false)] } }
theorem tok49 : TIok Try.prog 49 ti49 := ⟨by kernel_rfl, by kernel_rfl, by kernel_rfl⟩
def ti50 : TI := { zero := [.int .i64 0, .string ⟨#[]⟩, .slice none 0 0, .slice none 0 0, .int .i64 0, .slice none 0 0, .bool false, .bool false], size := 8, bytes := 112, td := { agg := true, struct := true, flds := [(0, some 1, some false), (1, some 1, some false), (2, some 1, some false), (3, some 1, some false), (4, some 1, some false), (5, some 1, some false), (6, some 1, some false), (7, some 1, some false)] } }
theorem tok50 : TIok Try.prog 50 ti50 := ⟨by kernel_rfl, by kernel_rfl, by kernel_rfl⟩
def ti51 : TI := { zero := [.nilFunc], size := 1, bytes := 8, td := {  } }
theorem tok51 : TIok Try.prog 51 ti51 := ⟨by kernel_rfl, by kernel_rfl, by kernel_rfl⟩
def ti52 : TI := { zero := [.slice none 0 0], size := 1, bytes := 24, td := { elem := some 38 } }
theorem tok52 : TIok Try.prog 52 ti52 := ⟨by kernel_rfl, by kernel_rfl, by kernel_rfl⟩
def ti53 : TI := { zero := [.nilFunc], size := 1, bytes := 8, td := {  } }
theorem tok53 : TIok Try.prog 53 ti53 := ⟨by kernel_rfl, by kernel_rfl, by kernel_rfl⟩
def ti54 : TI := { zero := [.slice none 0 0], size := 1, bytes := 24, td := { elem := some 31 } }
theorem tok54 : TIok Try.prog 54 ti54 := ⟨by kernel_rfl, by kernel_rfl, by kernel_rfl⟩
def ti55 : TI := { zero := [.slice none 0 0], size := 1, bytes := 24, td := { elem := some 160 } }
theorem tok55 : TIok Try.prog 55 ti55 := ⟨by kernel_rfl, by kernel_rfl, by kernel_rfl⟩
def ti56 : TI := { zero := [.string ⟨#[]⟩, .int .i64 0, .string ⟨#[]⟩, .slice none 0 0, .int .i64 0], size := 5, bytes := 72, td := { agg := true, struct := true, flds := [(0, some 1, some false), (1, some 1, some false), (2, some 1, some false), (3, some 1, some false), (4, some 1, some false)] } }
theorem tok56 : TIok Try.prog 56 ti56 := ⟨by kernel_rfl, by kernel_rfl, by kernel_rfl⟩
def ti57 : TI := { zero := [.string ⟨#[]⟩, .int .i64 0, .string ⟨#[]⟩, .slice none 0 0, .int .i64 0], size := 5, bytes := 72, td := { agg := true, struct := true, flds := [(0, some 1, some false), (1, some 1, some false), (2, some 1, some false), (3, some 1, some false), (4, some 1, some false)] } }
theorem tok57 : TIok Try.prog 57 ti57 := ⟨by kernel_rfl, by kernel_rfl, by kernel_rfl⟩
def ti58 : TI := { zero := [.slice none 0 0], size := 1, bytes := 24, td := { elem := some 61 } }
theorem tok58 : TIok Try.prog 58 ti58 := ⟨by kernel_rfl, by kernel_rfl, by kernel_rfl⟩
def ti59 : TI := { zero := [.nilFunc], size := 1, bytes := 8, td := {  } }
theorem tok59 : TIok Try.prog 59 ti59 := ⟨by kernel_rfl, by kernel_rfl, by kernel_rfl⟩
def ti60 : TI := { zero := [.int .i64 0, .string ⟨#[]⟩, .slice none 0 0, .slice none 0 0, .int .i64 0, .slice none 0 0, .bool false, .bool false, .int .i64 0], size := 9, bytes := 120, td := { agg := true, struct := true, flds := [(0, some 8, some true), (8, some 1, some false)] } }
theorem tok60 : TIok Try.prog 60 ti60 := ⟨by kernel_rfl, by kernel_rfl, by kernel_rfl⟩
def ti61 : TI := { zero := [.int .i64 0, .string ⟨#[]⟩, .slice none 0 0, .slice none 0 0, .int .i64 0, .slice none 0 0, .bool false, .bool false, .int .i64 0], size := 9, bytes := 120, td := { agg := true, struct := true, flds := [(0, some 8, some true), (8, some 1, some false)] } }
theorem tok61 : TIok Try.prog 61 ti61 := ⟨by kernel_rfl, by kernel_rfl, by kernel_rfl⟩
def ti62 : TI := { zero := [.nilFunc], size := 1, bytes := 8, td := {  } }
theorem tok62 : TIok Try.prog 62 ti62 := ⟨by kernel_rfl, by kernel_rfl, by kernel_rfl⟩
def ti63 : TI := { zero := [.nilFunc], size := 1, bytes := 8, td := {  } }
theorem tok63 : TIok Try.prog 63 ti63 := ⟨by kernel_rfl, by kernel_rfl, by kernel_rfl⟩
def ti64 : TI := { zero := [.nilFunc], size := 1, bytes := 8, td := {  } }
theorem tok64 : TIok Try.prog 64 ti64 := ⟨by kernel_rfl, by kernel_rfl, by kernel_rfl⟩
def ti65 : TI := { zero := [.nilFunc], size := 1, bytes := 8, td := {  } }
theorem tok65 : TIok Try.prog 65 ti65 := ⟨by kernel_rfl, by kernel_rfl, by kernel_rfl⟩
def ti66 : TI := { zero := [.nilFunc], size := 1, bytes := 8, td := {  } }
theorem tok66 : TIok Try.prog 66 ti66 := ⟨by kernel_rfl, by kernel_rfl, by kernel_rfl⟩
def ti67 : TI := { zero := [.nilFunc], size := 1, bytes := 8, td := {  } }
theorem tok67 : TIok Try.prog 67 ti67 := ⟨by kernel_rfl, by kernel_rfl, by kernel_rfl⟩
def ti68 : TI := { zero := [.nilFunc], size := 1, bytes := 8, td := {  } }
theorem tok68 : TIok Try.prog 68 ti68 := ⟨by kernel_rfl, by kernel_rfl, by kernel_rfl⟩
def ti69 : TI := { zero := [.nilFunc], size := 1, bytes := 8, td := {  } }
theorem tok69 : TIok Try.prog 69 ti69 := ⟨by kernel_rfl, by kernel_rfl, by kernel_rfl⟩
def ti70 : TI := { zero := [.nilFunc], size := 1, bytes := 8, td := {  } }
theorem tok70 : TIok Try.prog 70 ti70 := ⟨by kernel_rfl, by kernel_rfl, by kernel_rfl⟩
def ti71 : TI := { zero := [.nilFunc], size := 1, bytes := 8, td := {  } }
theorem tok71 : TIok Try.prog 71 ti71 := ⟨by kernel_rfl, by kernel_rfl, by kernel_rfl⟩
def ti72 : TI := { zero := [.nilFunc], size := 1, bytes := 8, td := {  } }
theorem tok72 : TIok Try.prog 72 ti72 := ⟨by kernel_rfl, by kernel_rfl, by kernel_rfl⟩
def ti73 : TI := { zero := [.nilFunc], size := 1, bytes := 8, td := {  } }
theorem tok73 : TIok Try.prog 73 ti73 := ⟨by kernel_rfl, by kernel_rfl, by kernel_rfl⟩
def ti74 : TI := { zero := [.nilFunc], size := 1, bytes := 8, td := {  } }
theorem tok74 : TIok Try.prog 74 ti74 := ⟨by kernel_rfl, by kernel_rfl, by kernel_rfl⟩
def ti75 : TI := { zero := [.slice none 0 0], size := 1, bytes := 24, td := { elem := some 77 } }
theorem tok75 : TIok Try.prog 75 ti75 := ⟨by kernel_rfl, by kernel_rfl, by kernel_rfl⟩
def ti76 : TI := { zero := [.int .i64 0, .string ⟨#[]⟩, .slice none 0 0, .slice none 0 0, .int .i64 0, .slice none 0 0, .bool false, .bool false, .int .i64 0, .int .i64 0], size := 10, bytes := 128, td := { agg := true, struct := true, flds := [(0, some 9, some true), (9, some 1, some false)] } }
theorem tok76 : TIok Try.prog 76 ti76 := ⟨by kernel_rfl, by kernel_rfl, by kernel_rfl⟩
def ti77 : TI := { zero := [.int .i64 0, .string ⟨#[]⟩, .slice none 0 0, .slice none 0 0, .int .i64 0, .slice none 0 0, .bool false, .bool false, .int .i64 0, .int .i64 0], size := 10, bytes := 128, td := { agg := true, struct := true, flds := [(0, some 9, some true), (9, some 1, some false)] } }
theorem tok77 : TIok Try.prog 77 ti77 := ⟨by kernel_rfl, by kernel_rfl, by kernel_rfl⟩
def ti78 : TI := { zero := [.nilFunc], size := 1, bytes := 8, td := {  } }
theorem tok78 : TIok Try.prog 78 ti78 := ⟨by kernel_rfl, by kernel_rfl, by kernel_rfl⟩
def ti79 : TI := { zero := [.nilFunc], size := 1, bytes := 8, td := {  } }
theorem tok79 : TIok Try.prog 79 ti79 := ⟨by kernel_rfl, by kernel_rfl, by kernel_rfl⟩
def ti80 : TI := { zero := [.nilFunc], size := 1, bytes := 8, td := {  } }
theorem tok80 : TIok Try.prog 80 ti80 := ⟨by kernel_rfl, by kernel_rfl, by kernel_rfl⟩
def ti81 : TI := { zero := [.nilFunc], size := 1, bytes := 8, td := {  } }
theorem tok81 : TIok Try.prog 81 ti81 := ⟨by kernel_rfl, by kernel_rfl, by kernel_rfl⟩
def ti82 : TI := { zero := [.nilFunc], size := 1, bytes := 8, td := {  } }
theorem tok82 : TIok Try.prog 82 ti82 := ⟨by kernel_rfl, by kernel_rfl, by kernel_rfl⟩
def ti83 : TI := { zero := [.nilFunc], size := 1, bytes := 8, td := {  } }
theorem tok83 : TIok Try.prog 83 ti83 := ⟨by kernel_rfl, by kernel_rfl, by kernel_rfl⟩
def ti84 : TI := { zero := [.nilFunc], size := 1, bytes := 8, td := {  } }
theorem tok84 : TIok Try.prog 84 ti84 := ⟨by kernel_rfl, by kernel_rfl, by kernel_rfl⟩
def ti85 : TI := { zero := [.slice none 0 0], size := 1, bytes := 24, td := { elem := some 63 } }
theorem tok85 : TIok Try.prog 85 ti85 := ⟨by kernel_rfl, by kernel_rfl, by kernel_rfl⟩
def ti86 : TI := { zero := [.nilFunc], size := 1, bytes := 8, td := {  } }
theorem tok86 : TIok Try.prog 86 ti86 := ⟨by kernel_rfl, by kernel_rfl, by kernel_rfl⟩
def ti87 : TI := { zero := [.nilFunc], size := 1, bytes := 8, td := {  } }
theorem tok87 : TIok Try.prog 87 ti87 := ⟨by kernel_rfl, by kernel_rfl, by kernel_rfl⟩
def ti88 : TI := { zero := [.nilFunc], size := 1, bytes := 8, td := {  } }
theorem tok88 : TIok Try.prog 88 ti88 := ⟨by kernel_rfl, by kernel_rfl, by kernel_rfl⟩
def ti89 : TI := { zero := [.nilFunc], size := 1, bytes := 8, td := {  } }
theorem tok89 : TIok Try.prog 89 ti89 := ⟨by kernel_rfl, by kernel_rfl, by kernel_rfl⟩
def ti90 : TI := { zero := [.nilFunc], size := 1, bytes := 8, td := {  } }
theorem tok90 : TIok Try.prog 90 ti90 := ⟨by kernel_rfl, by kernel_rfl, by kernel_rfl⟩
def ti91 : TI := { zero := [.nilFunc], size := 1, bytes := 8, td := {  } }
theorem tok91 : TIok Try.prog 91 ti91 := ⟨by kernel_rfl, by kernel_rfl, by kernel_rfl⟩
def ti92 : TI := { zero := [.nilFunc], size := 1, bytes := 8, td := {  } }
theorem tok92 : TIok Try.prog 92 ti92 := ⟨by kernel_rfl, by kernel_rfl, by kernel_rfl⟩
def ti93 : TI := { zero := [.nilFunc], size := 1, bytes := 8, td := {  } }
theorem tok93 : TIok Try.prog 93 ti93 := ⟨by kernel_rfl, by kernel_rfl, by kernel_rfl⟩
def ti94 : TI := { zero := [.nilFunc], size := 1, bytes := 8, td := {  } }
theorem tok94 : TIok Try.prog 94 ti94 := ⟨by kernel_rfl, by kernel_rfl, by kernel_rfl⟩
def ti95 : TI := { zero := [.int .u64 0], size := 1, bytes := 8, td := { ik := some .u64 } }
theorem tok95 : TIok Try.prog 95 ti95 := ⟨by kernel_rfl, by kernel_rfl, by kernel_rfl⟩
def ti96 : TI := { zero := [.nilFunc], size := 1, bytes := 8, td := {  } }
theorem tok96 : TIok Try.prog 96 ti96 := ⟨by kernel_rfl, by kernel_rfl, by kernel_rfl⟩
def ti97 : TI := { zero := [.nilFunc], size := 1, bytes := 8, td := {  } }
theorem tok97 : TIok Try.prog 97 ti97 := ⟨by kernel_rfl, by kernel_rfl, by kernel_rfl⟩
def ti98 : TI := { zero := [.nilFunc], size := 1, bytes := 8, td := {  } }
theorem tok98 : TIok Try.prog 98 ti98 := ⟨by kernel_rfl, by kernel_rfl, by kernel_rfl⟩
def ti99 : TI := { zero := [.nilFunc], size := 1, bytes := 8, td := {  } }
theorem tok99 : TIok Try.prog 99 ti99 := ⟨by kernel_rfl, by kernel_rfl, by kernel_rfl⟩
def ti100 : TI := { zero := [.nilFunc], size := 1, bytes := 8, td := {  } }
theorem tok100 : TIok Try.prog 100 ti100 := ⟨by kernel_rfl, by kernel_rfl, by kernel_rfl⟩
def ti101 : TI := { zero := [.int .i64 0], size := 1, bytes := 8, td := { ik := some .i64 } }
theorem tok101 : TIok Try.prog 101 ti101 := ⟨by kernel_rfl, by kernel_rfl, by kernel_rfl⟩
def ti103 : TI := { zero := [.nilFunc], size := 1, bytes := 8, td := {  } }
theorem tok103 : TIok Try.prog 103 ti103 := ⟨by kernel_rfl, by kernel_rfl, by kernel_rfl⟩
def ti104 : TI := { zero := [.nilFunc], size := 1, bytes := 8, td := {  } }
theorem tok104 : TIok Try.prog 104 ti104 := ⟨by kernel_rfl, by kernel_rfl, by kernel_rfl⟩
def ti105 : TI := { zero := [.nilFunc], size := 1, bytes := 8, td := {  } }
theorem tok105 : TIok Try.prog 105 ti105 := ⟨by kernel_rfl, by kernel_rfl, by kernel_rfl⟩
def ti107 : TI := { zero := [.nilFunc], size := 1, bytes := 8, td := {  } }
theorem tok107 : TIok Try.prog 107 ti107 := ⟨by kernel_rfl, by kernel_rfl, by kernel_rfl⟩
def ti108 : TI := { zero := [.nilFunc], size := 1, bytes := 8, td := {  } }
theorem tok108 : TIok Try.prog 108 ti108 := ⟨by kernel_rfl, by kernel_rfl, by kernel_rfl⟩
def ti109 : TI := { zero := [.int .u32 0], size := 1, bytes := 4, td := { ik := some .u32 } }
theorem tok109 : TIok Try.prog 109 ti109 := ⟨by kernel_rfl, by kernel_rfl, by kernel_rfl⟩
def ti110 : TI := { zero := [.nilFunc], size := 1, bytes := 8, td := {  } }
theorem tok110 : TIok Try.prog 110 ti110 := ⟨by kernel_rfl, by kernel_rfl, by kernel_rfl⟩
def ti111 : TI := { zero := [.int .u64 0], size := 1, bytes := 8, td := { ik := some .u64 } }
theorem tok111 : TIok Try.prog 111 ti111 := ⟨by kernel_rfl, by kernel_rfl, by kernel_rfl⟩
def ti112 : TI := { zero := [.nilFunc], size := 1, bytes := 8, td := {  } }
theorem tok112 : TIok Try.prog 112 ti112 := ⟨by kernel_rfl, by kernel_rfl, by kernel_rfl⟩
def ti113 : TI := { zero := [.nilFunc], size := 1, bytes := 8, td := {  } }
theorem tok113 : TIok Try.prog 113 ti113 := ⟨by kernel_rfl, by kernel_rfl, by kernel_rfl⟩
def ti114 : TI := { zero := [.nilFunc], size := 1, bytes := 8, td := {  } }
theorem tok114 : TIok Try.prog 114 ti114 := ⟨by kernel_rfl, by kernel_rfl, by kernel_rfl⟩
def ti115 : TI := { zero := [.nilFunc], size := 1, bytes := 8, td := {  } }
theorem tok115 : TIok Try.prog 115 ti115 := ⟨by kernel_rfl, by kernel_rfl, by kernel_rfl⟩
def ti116 : TI := { zero := [.nilFunc], size := 1, bytes := 8, td := {  } }
theorem tok116 : TIok Try.prog 116 ti116 := ⟨by kernel_rfl, by kernel_rfl, by kernel_rfl⟩
def ti117 : TI := { zero := [.nilFunc], size := 1, bytes := 8, td := {  } }
theorem tok117 : TIok Try.prog 117 ti117 := ⟨by kernel_rfl, by kernel_rfl, by kernel_rfl⟩
def ti118 : TI := { zero := [.nilFunc], size := 1, bytes := 8, td := {  } }
theorem tok118 : TIok Try.prog 118 ti118 := ⟨by kernel_rfl, by kernel_rfl, by kernel_rfl⟩
def ti119 : TI := { zero := [.nilFunc], size := 1, bytes := 8, td := {  } }
theorem tok119 : TIok Try.prog 119 ti119 := ⟨by kernel_rfl, by kernel_rfl, by kernel_rfl⟩
def ti120 : TI := { zero := [.nilFunc], size := 1, bytes := 8, td := {  } }
theorem tok120 : TIok Try.prog 120 ti120 := ⟨by kernel_rfl, by kernel_rfl, by kernel_rfl⟩
def ti121 : TI := { zero := [.nilFunc], size := 1, bytes := 8, td := {  } }
theorem tok121 : TIok Try.prog 121 ti121 := ⟨by kernel_rfl, by kernel_rfl, by kernel_rfl⟩
def ti122 : TI := { zero := [.nilFunc], size := 1, bytes := 8, td := {  } }
theorem tok122 : TIok Try.prog 122 ti122 := ⟨by kernel_rfl, by kernel_rfl, by kernel_rfl⟩
def ti123 : TI := { zero := [.int .u64 0], size := 1, bytes := 8, td := { ik := some .u64 } }
theorem tok123 : TIok Try.prog 123 ti123 := ⟨by kernel_rfl, by kernel_rfl, by kernel_rfl⟩
def ti124 : TI := { zero := [.nilFunc], size := 1, bytes := 8, td := {  } }
theorem tok124 : TIok Try.prog 124 ti124 := ⟨by kernel_rfl, by kernel_rfl, by kernel_rfl⟩
def ti125 : TI := { zero := [.nilFunc], size := 1, bytes := 8, td := {  } }
theorem tok125 : TIok Try.prog 125 ti125 := ⟨by kernel_rfl, by kernel_rfl, by kernel_rfl⟩
def ti126 : TI := { zero := [.nilFunc], size := 1, bytes := 8, td := {  } }
theorem tok126 : TIok Try.prog 126 ti126 := ⟨by kernel_rfl, by kernel_rfl, by kernel_rfl⟩
def ti128 : TI := { zero := [.nilFunc], size := 1, bytes := 8, td := {  } }
theorem tok128 : TIok Try.prog 128 ti128 := ⟨by kernel_rfl, by kernel_rfl, by kernel_rfl⟩
def ti129 : TI := { zero := [.nilFunc], size := 1, bytes := 8, td := {  } }
theorem tok129 : TIok Try.prog 129 ti129 := ⟨by kernel_rfl, by kernel_rfl, by kernel_rfl⟩
def ti130 : TI := { zero := [.nilFunc], size := 1, bytes := 8, td := {  } }
theorem tok130 : TIok Try.prog 130 ti130 := ⟨by kernel_rfl, by kernel_rfl, by kernel_rfl⟩
def ti131 : TI := { zero := [.nilFunc], size := 1, bytes := 8, td := {  } }
theorem tok131 : TIok Try.prog 131 ti131 := ⟨by kernel_rfl, by kernel_rfl, by kernel_rfl⟩
def ti132 : TI := { zero := [.nilFunc], size := 1, bytes := 8, td := {  } }
theorem tok132 : TIok Try.prog 132 ti132 := ⟨by kernel_rfl, by kernel_rfl, by kernel_rfl⟩
def ti135 : TI := { zero := [.nilFunc], size := 1, bytes := 8, td := {  } }
theorem tok135 : TIok Try.prog 135 ti135 := ⟨by kernel_rfl, by kernel_rfl, by kernel_rfl⟩
def ti136 : TI := { zero := [.nilFunc], size := 1, bytes := 8, td := {  } }
theorem tok136 : TIok Try.prog 136 ti136 := ⟨by kernel_rfl, by kernel_rfl, by kernel_rfl⟩
def ti137 : TI := { zero := [.nilFunc], size := 1, bytes := 8, td := {  } }
theorem tok137 : TIok Try.prog 137 ti137 := ⟨by kernel_rfl, by kernel_rfl, by kernel_rfl⟩
def ti138 : TI := { zero := [.nilFunc], size := 1, bytes := 8, td := {  } }
theorem tok138 : TIok Try.prog 138 ti138 := ⟨by kernel_rfl, by kernel_rfl, by kernel_rfl⟩
def ti139 : TI := { zero := [.pointer none, .pointer none, .pointer none, .string ⟨#[]⟩], size := 4, bytes := 40, td := { agg := true, struct := true, flds := [(0, some 1, some false), (1, some 1, some false), (2, some 1, some false), (3, some 1, some false)] } }
theorem tok139 : TIok Try.prog 139 ti139 := ⟨by kernel_rfl, by kernel_rfl, by kernel_rfl⟩
def ti140 : TI := { zero := [.pointer none, .pointer none, .pointer none, .string ⟨#[]⟩], size := 4, bytes := 40, td := { agg := true, struct := true, flds := [(0, some 1, some false), (1, some 1, some false), (2, some 1, some false), (3, some 1, some false)] } }
theorem tok140 : TIok Try.prog 140 ti140 := ⟨by kernel_rfl, by kernel_rfl, by kernel_rfl⟩
def ti141 : TI := { zero := [], size := 0, bytes := 0, td := { agg := true, arr := some (0, 16) } }
theorem tok141 : TIok Try.prog 141 ti141 := ⟨by kernel_rfl, by kernel_rfl, by kernel_rfl⟩
def ti142 : TI := { zero := [], size := 0, bytes := 0, td := { agg := true, struct := true, flds := [(0, some 0, some true)] } }
theorem tok142 : TIok Try.prog 142 ti142 := ⟨by kernel_rfl, by kernel_rfl, by kernel_rfl⟩
def ti143 : TI := { zero := [], size := 0, bytes := 0, td := { agg := true, struct := true, flds := [(0, some 0, some true)] } }
theorem tok143 : TIok Try.prog 143 ti143 := ⟨by kernel_rfl, by kernel_rfl, by kernel_rfl⟩
def ti144 : TI := { zero := [.nilFunc], size := 1, bytes := 8, td := {  } }
theorem tok144 : TIok Try.prog 144 ti144 := ⟨by kernel_rfl, by kernel_rfl, by kernel_rfl⟩
def ti145 : TI := { zero := [.int .u8 0], size := 1, bytes := 1, td := { ik := some .u8 } }
theorem tok145 : TIok Try.prog 145 ti145 := ⟨by kernel_rfl, by kernel_rfl, by kernel_rfl⟩
def ti146 : TI := { zero := [.int .u8 0], size := 1, bytes := 1, td := { ik := some .u8 } }
theorem tok146 : TIok Try.prog 146 ti146 := ⟨by kernel_rfl, by kernel_rfl, by kernel_rfl⟩
def ti147 : TI := { zero := [.nilFunc], size := 1, bytes := 8, td := {  } }
theorem tok147 : TIok Try.prog 147 ti147 := ⟨by kernel_rfl, by kernel_rfl, by kernel_rfl⟩
def ti149 : TI := { zero := [.int .i32 0], size := 1, bytes := 4, td := { ik := some .i32 } }
theorem tok149 : TIok Try.prog 149 ti149 := ⟨by kernel_rfl, by kernel_rfl, by kernel_rfl⟩
def ti150 : TI := { zero := [.int .i32 0], size := 1, bytes := 4, td := { ik := some .i32 } }
theorem tok150 : TIok Try.prog 150 ti150 := ⟨by kernel_rfl, by kernel_rfl, by kernel_rfl⟩
def ti151 : TI := { zero := [.int .u64 0, .int .u64 0, .int .u32 0, .int .u8 0, .int .u8 0, .int .u8 0, .int .u8 0, .nilFunc, .pointer none, .int .i32 0, .int .i32 0], size := 11, bytes := 48, td := { agg := true, struct := true, flds := [(0, some 1, some false), (1, some 1, some false), (2, some 1, some false), (3, some 1, some false), (4, some 1, some false), (5, some 1, some false), (6, some 1, some false), (7, some 1, some false), (8, some 1, some false), (9, some 1, some false), (10, some 1, some false)] } }
theorem tok151 : TIok Try.prog 151 ti151 := ⟨by kernel_rfl, by kernel_rfl, by kernel_rfl⟩
def ti152 : TI := { zero := [.int .u64 0, .int .u64 0, .int .u32 0, .int .u8 0, .int .u8 0, .int .u8 0, .int .u8 0, .nilFunc, .pointer none, .int .i32 0, .int .i32 0], size := 11, bytes := 48, td := { agg := true, struct := true, flds := [(0, some 1, some false), (1, some 1, some false), (2, some 1, some false), (3, some 1, some false), (4, some 1, some false), (5, some 1, some false), (6, some 1, some false), (7, some 1, some false), (8, some 1, some false), (9, some 1, some false), (10, some 1, some false)] } }
theorem tok152 : TIok Try.prog 152 ti152 := ⟨by kernel_rfl, by kernel_rfl, by kernel_rfl⟩
def ti153 : TI := { zero := [.string ⟨#[]⟩, .string ⟨#[]⟩], size := 2, bytes := 32, td := { agg := true, struct := true, flds := [(0, some 1, some false), (1, some 1, some false)] }, eqs := some [(0, 1), (1, 1)] }
theorem tok153 : TIok Try.prog 153 ti153 := ⟨by kernel_rfl, by kernel_rfl, by kernel_rfl⟩
def ti154 : TI := { zero := [.string ⟨#[]⟩, .string ⟨#[]⟩], size := 2, bytes := 32, td := { agg := true, struct := true, flds := [(0, some 1, some false), (1, some 1, some false)] }, eqs := some [(0, 1), (1, 1)] }
theorem tok154 : TIok Try.prog 154 ti154 := ⟨by kernel_rfl, by kernel_rfl, by kernel_rfl⟩
def ti155 : TI := { zero := [.string ⟨#[]⟩, .int .i64 0, .int .i64 0, .string ⟨#[]⟩, .int .i64 0], size := 5, bytes := 56, td := { agg := true, struct := true, flds := [(0, some 1, some false), (1, some 1, some false), (2, some 1, some false), (3, some 1, some false), (4, some 1, some false)] }, eqs := some [(0, 1), (1, 0), (2, 0), (3, 1), (4, 0)] }
theorem tok155 : TIok Try.prog 155 ti155 := ⟨by kernel_rfl, by kernel_rfl, by kernel_rfl⟩
def ti156 : TI := { zero := [.string ⟨#[]⟩, .int .i64 0, .int .i64 0, .string ⟨#[]⟩, .int .i64 0], size := 5, bytes := 56, td := { agg := true, struct := true, flds := [(0, some 1, some false), (1, some 1, some false), (2, some 1, some false), (3, some 1, some false), (4, some 1, some false)] }, eqs := some [(0, 1), (1, 0), (2, 0), (3, 1), (4, 0)] }
theorem tok156 : TIok Try.prog 156 ti156 := ⟨by kernel_rfl, by kernel_rfl, by kernel_rfl⟩
def ti157 : TI := { zero := [.int .i64 0, .slice none 0 0, .int .i64 0, .int .i64 0], size := 4, bytes := 48, td := { agg := true, struct := true, flds := [(0, some 1, some false), (1, some 1, some false), (2, some 1, some false), (3, some 1, some false)] } }
theorem tok157 : TIok Try.prog 157 ti157 := ⟨by kernel_rfl, by kernel_rfl, by kernel_rfl⟩
def ti158 : TI := { zero := [.int .i64 0, .slice none 0 0, .int .i64 0, .int .i64 0], size := 4, bytes := 48, td := { agg := true, struct := true, flds := [(0, some 1, some false), (1, some 1, some false), (2, some 1, some false), (3, some 1, some false)] } }
theorem tok158 : TIok Try.prog 158 ti158 := ⟨by kernel_rfl, by kernel_rfl, by kernel_rfl⟩
def ti159 : TI := { zero := [.int .i64 0, .int .i64 0, .string ⟨#[]⟩, .int .i64 0, .int .i64 0, .int .i64 0, .slice none 0 0, .int .i64 0, .int .i64 0], size := 9, bytes := 96, td := { agg := true, struct := true, flds := [(0, some 1, some false), (1, some 1, some false), (2, some 1, some false), (3, some 1, some false), (4, some 1, some false), (5, some 4, some true)] } }
theorem tok159 : TIok Try.prog 159 ti159 := ⟨by kernel_rfl, by kernel_rfl, by kernel_rfl⟩
def ti160 : TI := { zero := [.int .i64 0, .int .i64 0, .string ⟨#[]⟩, .int .i64 0, .int .i64 0, .int .i64 0, .slice none 0 0, .int .i64 0, .int .i64 0], size := 9, bytes := 96, td := { agg := true, struct := true, flds := [(0, some 1, some false), (1, some 1, some false), (2, some 1, some false), (3, some 1, some false), (4, some 1, some false), (5, some 4, some true)] } }
theorem tok160 : TIok Try.prog 160 ti160 := ⟨by kernel_rfl, by kernel_rfl, by kernel_rfl⟩
def TT_0 : Tab := fun t => match t with
  | 1 => some ti1
  | 2 => some ti2
  | 3 => some ti3
  | 4 => some ti4
  | 5 => some ti5
  | 6 => some ti6
  | 7 => some ti7
  | 8 => some ti8
  | 9 => some ti9
  | 10 => some ti10
  | 11 => some ti11
  | 12 => some ti12
  | 13 => some ti13
  | 14 => some ti14
  | 18 => some ti18
  | 19 => some ti19
  | 21 => some ti21
  | 22 => some ti22
  | 23 => some ti23
  | 24 => some ti24
  | 25 => some ti25
  | 26 => some ti26
  | 27 => some ti27
  | 28 => some ti28
  | 29 => some ti29
  | 30 => some ti30
  | 31 => some ti31
  | 32 => some ti32
  | 33 => some ti33
  | 34 => some ti34
  | 36 => some ti36
  | 37 => some ti37
  | 38 => some ti38
  | 39 => some ti39
  | 40 => some ti40
  | 41 => some ti41
  | 42 => some ti42
  | 43 => some ti43
  | 44 => some ti44
  | 45 => some ti45
  | _ => none
theorem ttok_0 : TabOk Try.prog TT_0 := by
  intro t i h
  unfold TT_0 at h
  split at h
  · injection h with h; subst h; exact tok1
  · injection h with h; subst h; exact tok2
  · injection h with h; subst h; exact tok3
  · injection h with h; subst h; exact tok4
  · injection h with h; subst h; exact tok5
  · injection h with h; subst h; exact tok6
  · injection h with h; subst h; exact tok7
  · injection h with h; subst h; exact tok8
  · injection h with h; subst h; exact tok9
  · injection h with h; subst h; exact tok10
  · injection h with h; subst h; exact tok11
  · injection h with h; subst h; exact tok12
  · injection h with h; subst h; exact tok13
  · injection h with h; subst h; exact tok14
  · injection h with h; subst h; exact tok18
  · injection h with h; subst h; exact tok19
  · injection h with h; subst h; exact tok21
  · injection h with h; subst h; exact tok22
  · injection h with h; subst h; exact tok23
  · injection h with h; subst h; exact tok24
  · injection h with h; subst h; exact tok25
  · injection h with h; subst h; exact tok26
  · injection h with h; subst h; exact tok27
  · injection h with h; subst h; exact tok28
  · injection h with h; subst h; exact tok29
  · injection h with h; subst h; exact tok30
  · injection h with h; subst h; exact tok31
  · injection h with h; subst h; exact tok32
  · injection h with h; subst h; exact tok33
  · injection h with h; subst h; exact tok34
  · injection h with h; subst h; exact tok36
  · injection h with h; subst h; exact tok37
  · injection h with h; subst h; exact tok38
  · injection h with h; subst h; exact tok39
  · injection h with h; subst h; exact tok40
  · injection h with h; subst h; exact tok41
  · injection h with h; subst h; exact tok42
  · injection h with h; subst h; exact tok43
  · injection h with h; subst h; exact tok44
  · injection h with h; subst h; exact tok45
  · cases h
def TT_1 : Tab := fun t => match t with
  | 46 => some ti46
  | 47 => some ti47
  | 48 => some ti48
  | 49 => some ti49
  | 50 => some ti50
  | 51 => some ti51
  | 52 => some ti52
  | 53 => some ti53
  | 54 => some ti54
  | 55 => some ti55
  | 56 => some ti56
  | 57 => some ti57
  | 58 => some ti58
  | 59 => some ti59
  | 60 => some ti60
  | 61 => some ti61
  | 62 => some ti62
  | 63 => some ti63
  | 64 => some ti64
  | 65 => some ti65
  | 66 => some ti66
  | 67 => some ti67
  | 68 => some ti68
  | 69 => some ti69
  | 70 => some ti70
  | 71 => some ti71
  | 72 => some ti72
  | 73 => some ti73
  | 74 => some ti74
  | 75 => some ti75
  | 76 => some ti76
  | 77 => some ti77
  | 78 => some ti78
  | 79 => some ti79
  | 80 => some ti80
  | 81 => some ti81
  | 82 => some ti82
  | 83 => some ti83
  | 84 => some ti84
  | 85 => some ti85
  | _ => none
theorem ttok_1 : TabOk Try.prog TT_1 := by
  intro t i h
  unfold TT_1 at h
  split at h
  · injection h with h; subst h; exact tok46
  · injection h with h; subst h; exact tok47
  · injection h with h; subst h; exact tok48
  · injection h with h; subst h; exact tok49
  · injection h with h; subst h; exact tok50
  · injection h with h; subst h; exact tok51
  · injection h with h; subst h; exact tok52
  · injection h with h; subst h; exact tok53
  · injection h with h; subst h; exact tok54
  · injection h with h; subst h; exact tok55
  · injection h with h; subst h; exact tok56
  · injection h with h; subst h; exact tok57
  · injection h with h; subst h; exact tok58
  · injection h with h; subst h; exact tok59
  · injection h with h; subst h; exact tok60
  · injection h with h; subst h; exact tok61
  · injection h with h; subst h; exact tok62
  · injection h with h; subst h; exact tok63
  · injection h with h; subst h; exact tok64
  · injection h with h; subst h; exact tok65
  · injection h with h; subst h; exact tok66
  · injection h with h; subst h; exact tok67
  · injection h with h; subst h; exact tok68
  · injection h with h; subst h; exact tok69
  · injection h with h; subst h; exact tok70
  · injection h with h; subst h; exact tok71
  · injection h with h; subst h; exact tok72
  · injection h with h; subst h; exact tok73
  · injection h with h; subst h; exact tok74
  · injection h with h; subst h; exact tok75
  · injection h with h; subst h; exact tok76
  · injection h with h; subst h; exact tok77
  · injection h with h; subst h; exact tok78
  · injection h with h; subst h; exact tok79
  · injection h with h; subst h; exact tok80
  · injection h with h; subst h; exact tok81
  · injection h with h; subst h; exact tok82
  · injection h with h; subst h; exact tok83
  · injection h with h; subst h; exact tok84
  · injection h with h; subst h; exact tok85
  · cases h
def TT_2 : Tab := fun t => match t with
  | 86 => some ti86
  | 87 => some ti87
  | 88 => some ti88
  | 89 => some ti89
  | 90 => some ti90
  | 91 => some ti91
  | 92 => some ti92
  | 93 => some ti93
  | 94 => some ti94
  | 95 => some ti95
  | 96 => some ti96
  | 97 => some ti97
  | 98 => some ti98
  | 99 => some ti99
  | 100 => some ti100
  | 101 => some ti101
  | 103 => some ti103
  | 104 => some ti104
  | 105 => some ti105
  | 107 => some ti107
  | 108 => some ti108
  | 109 => some ti109
  | 110 => some ti110
  | 111 => some ti111
  | 112 => some ti112
  | 113 => some ti113
  | 114 => some ti114
  | 115 => some ti115
  | 116 => some ti116
  | 117 => some ti117
  | 118 => some ti118
  | 119 => some ti119
  | 120 => some ti120
  | 121 => some ti121
  | 122 => some ti122
  | 123 => some ti123
  | 124 => some ti124
  | 125 => some ti125
  | 126 => some ti126
  | 128 => some ti128
  | _ => none
theorem ttok_2 : TabOk Try.prog TT_2 := by
  intro t i h
  unfold TT_2 at h
  split at h
  · injection h with h; subst h; exact tok86
  · injection h with h; subst h; exact tok87
  · injection h with h; subst h; exact tok88
  · injection h with h; subst h; exact tok89
  · injection h with h; subst h; exact tok90
  · injection h with h; subst h; exact tok91
  · injection h with h; subst h; exact tok92
  · injection h with h; subst h; exact tok93
  · injection h with h; subst h; exact tok94
  · injection h with h; subst h; exact tok95
  · injection h with h; subst h; exact tok96
  · injection h with h; subst h; exact tok97
  · injection h with h; subst h; exact tok98
  · injection h with h; subst h; exact tok99
  · injection h with h; subst h; exact tok100
  · injection h with h; subst h; exact tok101
  · injection h with h; subst h; exact tok103
  · injection h with h; subst h; exact tok104
  · injection h with h; subst h; exact tok105
  · injection h with h; subst h; exact tok107
  · injection h with h; subst h; exact tok108
  · injection h with h; subst h; exact tok109
  · injection h with h; subst h; exact tok110
  · injection h with h; subst h; exact tok111
  · injection h with h; subst h; exact tok112
  · injection h with h; subst h; exact tok113
  · injection h with h; subst h; exact tok114
  · injection h with h; subst h; exact tok115
  · injection h with h; subst h; exact tok116
  · injection h with h; subst h; exact tok117
  · injection h with h; subst h; exact tok118
  · injection h with h; subst h; exact tok119
  · injection h with h; subst h; exact tok120
  · injection h with h; subst h; exact tok121
  · injection h with h; subst h; exact tok122
  · injection h with h; subst h; exact tok123
  · injection h with h; subst h; exact tok124
  · injection h with h; subst h; exact tok125
  · injection h with h; subst h; exact tok126
  · injection h with h; subst h; exact tok128
  · cases h
def TT_3 : Tab := fun t => match t with
  | 129 => some ti129
  | 130 => some ti130
  | 131 => some ti131
  | 132 => some ti132
  | 135 => some ti135
  | 136 => some ti136
  | 137 => some ti137
  | 138 => some ti138
  | 139 => some ti139
  | 140 => some ti140
  | 141 => some ti141
  | 142 => some ti142
  | 143 => some ti143
  | 144 => some ti144
  | 145 => some ti145
  | 146 => some ti146
  | 147 => some ti147
  | 149 => some ti149
  | 150 => some ti150
  | 151 => some ti151
  | 152 => some ti152
  | 153 => some ti153
  | 154 => some ti154
  | 155 => some ti155
  | 156 => some ti156
  | 157 => some ti157
  | 158 => some ti158
  | 159 => some ti159
  | 160 => some ti160
  | _ => none
theorem ttok_3 : TabOk Try.prog TT_3 := by
  intro t i h
  unfold TT_3 at h
  split at h
  · injection h with h; subst h; exact tok129
  · injection h with h; subst h; exact tok130
  · injection h with h; subst h; exact tok131
  · injection h with h; subst h; exact tok132
  · injection h with h; subst h; exact tok135
  · injection h with h; subst h; exact tok136
  · injection h with h; subst h; exact tok137
  · injection h with h; subst h; exact tok138
  · injection h with h; subst h; exact tok139
  · injection h with h; subst h; exact tok140
  · injection h with h; subst h; exact tok141
  · injection h with h; subst h; exact tok142
  · injection h with h; subst h; exact tok143
  · injection h with h; subst h; exact tok144
  · injection h with h; subst h; exact tok145
  · injection h with h; subst h; exact tok146
  · injection h with h; subst h; exact tok147
  · injection h with h; subst h; exact tok149
  · injection h with h; subst h; exact tok150
  · injection h with h; subst h; exact tok151
  · injection h with h; subst h; exact tok152
  · injection h with h; subst h; exact tok153
  · injection h with h; subst h; exact tok154
  · injection h with h; subst h; exact tok155
  · injection h with h; subst h; exact tok156
  · injection h with h; subst h; exact tok157
  · injection h with h; subst h; exact tok158
  · injection h with h; subst h; exact tok159
  · injection h with h; subst h; exact tok160
  · cases h
def tjoin (a b : Tab) : Tab := fun t => match a t with
  | some i => some i
  | none => b t
theorem tjoin_ok {P : Program} {a b : Tab} (ha : TabOk P a) (hb : TabOk P b) : TabOk P (tjoin a b) := by
  intro t i h
  unfold tjoin at h
  split at h
  · rename_i j hj
    injection h with h; subst h
    exact ha t _ hj
  · exact hb t i h
def TT : Tab := (tjoin TT_0 (tjoin TT_1 (tjoin TT_2 TT_3)))
theorem ttok : TabOk Try.prog TT := (tjoin_ok ttok_0 (tjoin_ok ttok_1 (tjoin_ok ttok_2 ttok_3)))
theorem tt1 : TT 1 = some ti1 := rfl
theorem tt2 : TT 2 = some ti2 := rfl
theorem tt3 : TT 3 = some ti3 := rfl
theorem tt4 : TT 4 = some ti4 := rfl
theorem tt5 : TT 5 = some ti5 := rfl
theorem tt6 : TT 6 = some ti6 := rfl
theorem tt7 : TT 7 = some ti7 := rfl
theorem tt8 : TT 8 = some ti8 := rfl
theorem tt9 : TT 9 = some ti9 := rfl
theorem tt10 : TT 10 = some ti10 := rfl
theorem tt11 : TT 11 = some ti11 := rfl
theorem tt12 : TT 12 = some ti12 := rfl
theorem tt13 : TT 13 = some ti13 := rfl
theorem tt14 : TT 14 = some ti14 := rfl
theorem tt18 : TT 18 = some ti18 := rfl
theorem tt19 : TT 19 = some ti19 := rfl
theorem tt21 : TT 21 = some ti21 := rfl
theorem tt22 : TT 22 = some ti22 := rfl
theorem tt23 : TT 23 = some ti23 := rfl
theorem tt24 : TT 24 = some ti24 := rfl
theorem tt25 : TT 25 = some ti25 := rfl
theorem tt26 : TT 26 = some ti26 := rfl
theorem tt27 : TT 27 = some ti27 := rfl
theorem tt28 : TT 28 = some ti28 := rfl
theorem tt29 : TT 29 = some ti29 := rfl
theorem tt30 : TT 30 = some ti30 := rfl
theorem tt31 : TT 31 = some ti31 := rfl
theorem tt32 : TT 32 = some ti32 := rfl
theorem tt33 : TT 33 = some ti33 := rfl
theorem tt34 : TT 34 = some ti34 := rfl
theorem tt36 : TT 36 = some ti36 := rfl
theorem tt37 : TT 37 = some ti37 := rfl
theorem tt38 : TT 38 = some ti38 := rfl
theorem tt39 : TT 39 = some ti39 := rfl
theorem tt40 : TT 40 = some ti40 := rfl
theorem tt41 : TT 41 = some ti41 := rfl
theorem tt42 : TT 42 = some ti42 := rfl
theorem tt43 : TT 43 = some ti43 := rfl
theorem tt44 : TT 44 = some ti44 := rfl
theorem tt45 : TT 45 = some ti45 := rfl
theorem tt46 : TT 46 = some ti46 := rfl
theorem tt47 : TT 47 = some ti47 := rfl
theorem tt48 : TT 48 = some ti48 := rfl
theorem tt49 : TT 49 = some ti49 := rfl
theorem tt50 : TT 50 = some ti50 := rfl
theorem tt51 : TT 51 = some ti51 := rfl
theorem tt52 : TT 52 = some ti52 := rfl
theorem tt53 : TT 53 = some ti53 := rfl
theorem tt54 : TT 54 = some ti54 := rfl
theorem tt55 : TT 55 = some ti55 := rfl
theorem tt56 : TT 56 = some ti56 := rfl
theorem tt57 : TT 57 = some ti57 := rfl
theorem tt58 : TT 58 = some ti58 := rfl
theorem tt59 : TT 59 = some ti59 := rfl
theorem tt60 : TT 60 = some ti60 := rfl
theorem tt61 : TT 61 = some ti61 := rfl
theorem tt62 : TT 62 = some ti62 := rfl
theorem tt63 : TT 63 = some ti63 := rfl
theorem tt64 : TT 64 = some ti64 := rfl
theorem tt65 : TT 65 = some ti65 := rfl
theorem tt66 : TT 66 = some ti66 := rfl
theorem tt67 : TT 67 = some ti67 := rfl
theorem tt68 : TT 68 = some ti68 := rfl
theorem tt69 : TT 69 = some ti69 := rfl
theorem tt70 : TT 70 = some ti70 := rfl
theorem tt71 : TT 71 = some ti71 := rfl
theorem tt72 : TT 72 = some ti72 := rfl
theorem tt73 : TT 73 = some ti73 := rfl
theorem tt74 : TT 74 = some ti74 := rfl
theorem tt75 : TT 75 = some ti75 := rfl
theorem tt76 : TT 76 = some ti76 := rfl
theorem tt77 : TT 77 = some ti77 := rfl
theorem tt78 : TT 78 = some ti78 := rfl
theorem tt79 : TT 79 = some ti79 := rfl
theorem tt80 : TT 80 = some ti80 := rfl
theorem tt81 : TT 81 = some ti81 := rfl
theorem tt82 : TT 82 = some ti82 := rfl
theorem tt83 : TT 83 = some ti83 := rfl
theorem tt84 : TT 84 = some ti84 := rfl
theorem tt85 : TT 85 = some ti85 := rfl
theorem tt86 : TT 86 = some ti86 := rfl
theorem tt87 : TT 87 = some ti87 := rfl
theorem tt88 : TT 88 = some ti88 := rfl
theorem tt89 : TT 89 = some ti89 := rfl
theorem tt90 : TT 90 = some ti90 := rfl
theorem tt91 : TT 91 = some ti91 := rfl
theorem tt92 : TT 92 = some ti92 := rfl
theorem tt93 : TT 93 = some ti93 := rfl
theorem tt94 : TT 94 = some ti94 := rfl
theorem tt95 : TT 95 = some ti95 := rfl
theorem tt96 : TT 96 = some ti96 := rfl
theorem tt97 : TT 97 = some ti97 := rfl
theorem tt98 : TT 98 = some ti98 := rfl
theorem tt99 : TT 99 = some ti99 := rfl
theorem tt100 : TT 100 = some ti100 := rfl
theorem tt101 : TT 101 = some ti101 := rfl
theorem tt103 : TT 103 = some ti103 := rfl
theorem tt104 : TT 104 = some ti104 := rfl
theorem tt105 : TT 105 = some ti105 := rfl
theorem tt107 : TT 107 = some ti107 := rfl
theorem tt108 : TT 108 = some ti108 := rfl
theorem tt109 : TT 109 = some ti109 := rfl
theorem tt110 : TT 110 = some ti110 := rfl
theorem tt111 : TT 111 = some ti111 := rfl
theorem tt112 : TT 112 = some ti112 := rfl
theorem tt113 : TT 113 = some ti113 := rfl
theorem tt114 : TT 114 = some ti114 := rfl
theorem tt115 : TT 115 = some ti115 := rfl
theorem tt116 : TT 116 = some ti116 := rfl
theorem tt117 : TT 117 = some ti117 := rfl
theorem tt118 : TT 118 = some ti118 := rfl
theorem tt119 : TT 119 = some ti119 := rfl
theorem tt120 : TT 120 = some ti120 := rfl
theorem tt121 : TT 121 = some ti121 := rfl
theorem tt122 : TT 122 = some ti122 := rfl
theorem tt123 : TT 123 = some ti123 := rfl
theorem tt124 : TT 124 = some ti124 := rfl
theorem tt125 : TT 125 = some ti125 := rfl
theorem tt126 : TT 126 = some ti126 := rfl
theorem tt128 : TT 128 = some ti128 := rfl
theorem tt129 : TT 129 = some ti129 := rfl
theorem tt130 : TT 130 = some ti130 := rfl
theorem tt131 : TT 131 = some ti131 := rfl
theorem tt132 : TT 132 = some ti132 := rfl
theorem tt135 : TT 135 = some ti135 := rfl
theorem tt136 : TT 136 = some ti136 := rfl
theorem tt137 : TT 137 = some ti137 := rfl
theorem tt138 : TT 138 = some ti138 := rfl
theorem tt139 : TT 139 = some ti139 := rfl
theorem tt140 : TT 140 = some ti140 := rfl
theorem tt141 : TT 141 = some ti141 := rfl
theorem tt142 : TT 142 = some ti142 := rfl
theorem tt143 : TT 143 = some ti143 := rfl
theorem tt144 : TT 144 = some ti144 := rfl
theorem tt145 : TT 145 = some ti145 := rfl
theorem tt146 : TT 146 = some ti146 := rfl
theorem tt147 : TT 147 = some ti147 := rfl
theorem tt149 : TT 149 = some ti149 := rfl
theorem tt150 : TT 150 = some ti150 := rfl
theorem tt151 : TT 151 = some ti151 := rfl
theorem tt152 : TT 152 = some ti152 := rfl
theorem tt153 : TT 153 = some ti153 := rfl
theorem tt154 : TT 154 = some ti154 := rfl
theorem tt155 : TT 155 = some ti155 := rfl
theorem tt156 : TT 156 = some ti156 := rfl
theorem tt157 : TT 157 = some ti157 := rfl
theorem tt158 : TT 158 = some ti158 := rfl
theorem tt159 : TT 159 = some ti159 := rfl
theorem tt160 : TT 160 = some ti160 := rfl
attribute [go_sem] tt1 ti1 tt2 ti2 tt3 ti3 tt4 ti4 tt5 ti5 tt6 ti6 tt7 ti7 tt8 ti8 tt9 ti9 tt10 ti10 tt11 ti11 tt12 ti12 tt13 ti13 tt14 ti14 tt18 ti18 tt19 ti19 tt21 ti21 tt22 ti22 tt23 ti23 tt24 ti24 tt25 ti25 tt26 ti26 tt27 ti27 tt28 ti28 tt29 ti29 tt30 ti30 tt31 ti31 tt32 ti32 tt33 ti33 tt34 ti34 tt36 ti36 tt37 ti37 tt38 ti38 tt39 ti39 tt40 ti40 tt41 ti41 tt42 ti42 tt43 ti43 tt44 ti44 tt45 ti45 tt46 ti46 tt47 ti47 tt48 ti48 tt49 ti49 tt50 ti50 tt51 ti51 tt52 ti52 tt53 ti53 tt54 ti54 tt55 ti55 tt56 ti56 tt57 ti57 tt58 ti58 tt59 ti59 tt60 ti60 tt61 ti61 tt62 ti62 tt63 ti63 tt64 ti64 tt65 ti65 tt66 ti66 tt67 ti67 tt68 ti68 tt69 ti69 tt70 ti70 tt71 ti71 tt72 ti72 tt73 ti73 tt74 ti74 tt75 ti75 tt76 ti76 tt77 ti77 tt78 ti78 tt79 ti79 tt80 ti80 tt81 ti81 tt82 ti82 tt83 ti83 tt84 ti84 tt85 ti85 tt86 ti86 tt87 ti87 tt88 ti88 tt89 ti89 tt90 ti90 tt91 ti91 tt92 ti92 tt93 ti93 tt94 ti94 tt95 ti95 tt96 ti96 tt97 ti97 tt98 ti98 tt99 ti99 tt100 ti100 tt101 ti101 tt103 ti103 tt104 ti104 tt105 ti105 tt107 ti107 tt108 ti108 tt109 ti109 tt110 ti110 tt111 ti111 tt112 ti112 tt113 ti113 tt114 ti114 tt115 ti115 tt116 ti116 tt117 ti117 tt118 ti118 tt119 ti119 tt120 ti120 tt121 ti121 tt122 ti122 tt123 ti123 tt124 ti124 tt125 ti125 tt126 ti126 tt128 ti128 tt129 ti129 tt130 ti130 tt131 ti131 tt132 ti132 tt135 ti135 tt136 ti136 tt137 ti137 tt138 ti138 tt139 ti139 tt140 ti140 tt141 ti141 tt142 ti142 tt143 ti143 tt144 ti144 tt145 ti145 tt146 ti146 tt147 ti147 tt149 ti149 tt150 ti150 tt151 ti151 tt152 ti152 tt153 ti153 tt154 ti154 tt155 ti155 tt156 ti156 tt157 ti157 tt158 ti158 tt159 ti159 tt160 ti160
theorem hmix : Try.prog.follows .mixedOrders = true := by decide +kernel
end Go.Proofs.Ytgnclmmijijimaa
