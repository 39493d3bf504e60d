/- The table of types, by program (gentab.py). -/
import Derived.Test.YtkafbgdokgfjmaaGreatDoorProg
import Derived.Test.YtkafbgdokgfjmaaGreatDoorA3
namespace Go.Proofs.YtkafbgdokgfjmaaGreatDoor
open Go.RowKit
set_option maxHeartbeats 8000000
def ti1 : TI := { zero := [.nilFunc], size := 1, bytes := 8, td := {  } }
theorem tok1 : TIok Tryz.prog 1 ti1 := ⟨by kernel_rfl, by kernel_rfl, by kernel_rfl⟩
def ti2 : TI := { zero := [.int .i64 0], size := 1, bytes := 8, td := { ik := some .i64 } }
theorem tok2 : TIok Tryz.prog 2 ti2 := ⟨by kernel_rfl, by kernel_rfl, by kernel_rfl⟩
def ti3 : TI := { zero := [.int .i64 0], size := 1, bytes := 8, td := { ik := some .i64 } }
theorem tok3 : TIok Tryz.prog 3 ti3 := ⟨by kernel_rfl, by kernel_rfl, by kernel_rfl⟩
def ti4 : TI := { zero := [.bool false], size := 1, bytes := 1, td := { bl := true } }
theorem tok4 : TIok Tryz.prog 4 ti4 := ⟨by kernel_rfl, by kernel_rfl, by kernel_rfl⟩
def ti5 : TI := { zero := [.int .u8 0], size := 1, bytes := 1, td := { ik := some .u8 } }
theorem tok5 : TIok Tryz.prog 5 ti5 := ⟨by kernel_rfl, by kernel_rfl, by kernel_rfl⟩
def ti6 : TI := { zero := [.int .u8 0], size := 1, bytes := 1, td := { ik := some .u8 } }
theorem tok6 : TIok Tryz.prog 6 ti6 := ⟨by kernel_rfl, by kernel_rfl, by kernel_rfl⟩
def ti7 : TI := { zero := [.int .i64 0, .int .i64 0, .bool false, .int .u8 0], size := 4, bytes := 24, td := { agg := true, struct := true, flds := [(0, some 1, some false), (1, some 1, some false), (2, some 1, some false), (3, some 1, some false)] }, eqs := some [(0, 0), (1, 0), (2, 2), (3, 0)] }
theorem tok7 : TIok Tryz.prog 7 ti7 := ⟨by kernel_rfl, by kernel_rfl, by kernel_rfl⟩
def ti8 : TI := { zero := [.int .i64 0, .int .i64 0, .bool false, .int .u8 0], size := 4, bytes := 24, td := { agg := true, struct := true, flds := [(0, some 1, some false), (1, some 1, some false), (2, some 1, some false), (3, some 1, some false)] }, eqs := some [(0, 0), (1, 0), (2, 2), (3, 0)] }
theorem tok8 : TIok Tryz.prog 8 ti8 := ⟨by kernel_rfl, by kernel_rfl, by kernel_rfl⟩
def ti9 : TI := { zero := [.string ⟨#[]⟩], size := 1, bytes := 16, td := { str := true } }
theorem tok9 : TIok Tryz.prog 9 ti9 := ⟨by kernel_rfl, by kernel_rfl, by kernel_rfl⟩
def ti10 : TI := { zero := [.string ⟨#[]⟩], size := 1, bytes := 16, td := { str := true } }
theorem tok10 : TIok Tryz.prog 10 ti10 := ⟨by kernel_rfl, by kernel_rfl, by kernel_rfl⟩
def ti11 : TI := { zero := [.string ⟨#[]⟩], size := 1, bytes := 16, td := { str := true } }
theorem tok11 : TIok Tryz.prog 11 ti11 := ⟨by kernel_rfl, by kernel_rfl, by kernel_rfl⟩
def ti12 : TI := { zero := [.int .u64 0], size := 1, bytes := 8, td := { ik := some .u64 } }
theorem tok12 : TIok Tryz.prog 12 ti12 := ⟨by kernel_rfl, by kernel_rfl, by kernel_rfl⟩
def ti13 : TI := { zero := [.string ⟨#[]⟩, .int .u64 0], size := 2, bytes := 24, td := { agg := true, struct := true, flds := [(0, some 1, some false), (1, some 1, some false)] } }
theorem tok13 : TIok Tryz.prog 13 ti13 := ⟨by kernel_rfl, by kernel_rfl, by kernel_rfl⟩
def ti14 : TI := { zero := [.string ⟨#[]⟩, .int .u64 0], size := 2, bytes := 24, td := { agg := true, struct := true, flds := [(0, some 1, some false), (1, some 1, some false)] } }
theorem tok14 : TIok Tryz.prog 14 ti14 := ⟨by kernel_rfl, by kernel_rfl, by kernel_rfl⟩
def ti18 : TI := { zero := [.pointer none], size := 1, bytes := 8, td := { agg := true, struct := true, flds := [(0, some 1, some false)] } }
theorem tok18 : TIok Tryz.prog 18 ti18 := ⟨by kernel_rfl, by kernel_rfl, by kernel_rfl⟩
def ti19 : TI := { zero := [.pointer none], size := 1, bytes := 8, td := { agg := true, struct := true, flds := [(0, some 1, some false)] } }
theorem tok19 : TIok Tryz.prog 19 ti19 := ⟨by kernel_rfl, by kernel_rfl, by kernel_rfl⟩
def ti21 : TI := { zero := [.int .i32 0], size := 1, bytes := 4, td := { ik := some .i32 } }
theorem tok21 : TIok Tryz.prog 21 ti21 := ⟨by kernel_rfl, by kernel_rfl, by kernel_rfl⟩
def ti22 : TI := { zero := [.int .i64 0, .string ⟨#[]⟩, .int .i64 0, .string ⟨#[]⟩], size := 4, bytes := 48, td := { agg := true, struct := true, flds := [(0, some 1, some false), (1, some 1, some false), (2, some 1, some false), (3, some 1, some false)] }, eqs := some [(0, 0), (1, 1), (2, 0), (3, 1)] }
theorem tok22 : TIok Tryz.prog 22 ti22 := ⟨by kernel_rfl, by kernel_rfl, by kernel_rfl⟩
def ti23 : TI := { zero := [.int .i64 0, .string ⟨#[]⟩, .int .i64 0, .string ⟨#[]⟩], size := 4, bytes := 48, td := { agg := true, struct := true, flds := [(0, some 1, some false), (1, some 1, some false), (2, some 1, some false), (3, some 1, some false)] }, eqs := some [(0, 0), (1, 1), (2, 0), (3, 1)] }
theorem tok23 : TIok Tryz.prog 23 ti23 := ⟨by kernel_rfl, by kernel_rfl, by kernel_rfl⟩
def ti24 : TI := { zero := [.nilFunc], size := 1, bytes := 8, td := {  } }
theorem tok24 : TIok Tryz.prog 24 ti24 := ⟨by kernel_rfl, by kernel_rfl, by kernel_rfl⟩
def ti25 : TI := { zero := [.nilFunc], size := 1, bytes := 8, td := {  } }
theorem tok25 : TIok Tryz.prog 25 ti25 := ⟨by kernel_rfl, by kernel_rfl, by kernel_rfl⟩
def ti26 : TI := { zero := [.int .i64 0], size := 1, bytes := 8, td := { ik := some .i64 } }
theorem tok26 : TIok Tryz.prog 26 ti26 := ⟨by kernel_rfl, by kernel_rfl, by kernel_rfl⟩
def ti28 : TI := { zero := [.nilFunc], size := 1, bytes := 8, td := {  } }
theorem tok28 : TIok Tryz.prog 28 ti28 := ⟨by kernel_rfl, by kernel_rfl, by kernel_rfl⟩
def ti29 : TI := { zero := [.nilFunc], size := 1, bytes := 8, td := {  } }
theorem tok29 : TIok Tryz.prog 29 ti29 := ⟨by kernel_rfl, by kernel_rfl, by kernel_rfl⟩
def ti30 : TI := { zero := [.nilFunc], size := 1, bytes := 8, td := {  } }
theorem tok30 : TIok Tryz.prog 30 ti30 := ⟨by kernel_rfl, by kernel_rfl, by kernel_rfl⟩
def ti32 : TI := { zero := [.nilFunc], size := 1, bytes := 8, td := {  } }
theorem tok32 : TIok Tryz.prog 32 ti32 := ⟨by kernel_rfl, by kernel_rfl, by kernel_rfl⟩
def ti33 : TI := { zero := [.nilFunc], size := 1, bytes := 8, td := {  } }
theorem tok33 : TIok Tryz.prog 33 ti33 := ⟨by kernel_rfl, by kernel_rfl, by kernel_rfl⟩
def ti34 : TI := { zero := [.slice none 0 0], size := 1, bytes := 24, td := { elem := some 57 } }
theorem tok34 : TIok Tryz.prog 34 ti34 := ⟨by kernel_rfl, by kernel_rfl, by kernel_rfl⟩
def ti35 : TI := { zero := [.slice none 0 0], size := 1, bytes := 24, td := { elem := some 48 } }
theorem tok35 : TIok Tryz.prog 35 ti35 := ⟨by kernel_rfl, by kernel_rfl, by kernel_rfl⟩
def ti36 : TI := { zero := [.slice none 0 0], size := 1, bytes := 24, td := { elem := some 207 } }
theorem tok36 : TIok Tryz.prog 36 ti36 := ⟨by kernel_rfl, by kernel_rfl, by kernel_rfl⟩
def ti37 : TI := { zero := [.slice none 0 0, .slice none 0 0], size := 2, bytes := 48, td := { agg := true, struct := true, flds := [(0, some 1, some false), (1, some 1, some false)] } }
theorem tok37 : TIok Tryz.prog 37 ti37 := ⟨by kernel_rfl, by kernel_rfl, by kernel_rfl⟩
def ti38 : TI := { zero := [.slice none 0 0, .slice none 0 0], size := 2, bytes := 48, td := { agg := true, struct := true, flds := [(0, some 1, some false), (1, some 1, some false)] } }
theorem tok38 : TIok Tryz.prog 38 ti38 := ⟨by kernel_rfl, by kernel_rfl, by kernel_rfl⟩
def ti39 : TI := { zero := [.nilFunc], size := 1, bytes := 8, td := {  } }
theorem tok39 : TIok Tryz.prog 39 ti39 := ⟨by kernel_rfl, by kernel_rfl, by kernel_rfl⟩
def ti40 : TI := { zero := [.nilFunc], size := 1, bytes := 8, td := {  } }
theorem tok40 : TIok Tryz.prog 40 ti40 := ⟨by kernel_rfl, by kernel_rfl, by kernel_rfl⟩
def ti41 : TI := { zero := [.slice none 0 0], size := 1, bytes := 24, td := { elem := some 9 } }
theorem tok41 : TIok Tryz.prog 41 ti41 := ⟨by kernel_rfl, by kernel_rfl, by kernel_rfl⟩
def ti42 : TI := { zero := [.nilFunc], size := 1, bytes := 8, td := {  } }
theorem tok42 : TIok Tryz.prog 42 ti42 := ⟨by kernel_rfl, by kernel_rfl, by kernel_rfl⟩
def ti43 : TI := { zero := [.nilFunc], size := 1, bytes := 8, td := {  } }
theorem tok43 : TIok Tryz.prog 43 ti43 := ⟨by kernel_rfl, by kernel_rfl, by kernel_rfl⟩
def ti44 : TI := { zero := [.nilFunc], size := 1, bytes := 8, td := {  } }
theorem tok44 : TIok Tryz.prog 44 ti44 := ⟨by kernel_rfl, by kernel_rfl, by kernel_rfl⟩
def ti45 : TI := { zero := [.slice none 0 0], size := 1, bytes := 24, td := { elem := some 51 } }
theorem tok45 : TIok Tryz.prog 45 ti45 := ⟨by kernel_rfl, by kernel_rfl, by kernel_rfl⟩
def ti46 : TI := { zero := [.slice none 0 0], size := 1, bytes := 24, td := { elem := some 209 } }
theorem tok46 : TIok Tryz.prog 46 ti46 := ⟨by kernel_rfl, by kernel_rfl, by kernel_rfl⟩
def ti47 : TI := { zero := [.int .i64 0, .string ⟨#[]⟩, .slice none 0 0, .slice none 0 0, .int .i64 0, .slice none 0 0, .bool false, .bool false], size := 8, bytes := 112, td := { agg := true, struct := true, flds := [(0, some 1, some false), (1, some 1, some false), (2, some 1, some false), (3, some 1, some false), (4, some 1, some false), (5, some 1, some false), (6, some 1, some false), (7, some 1, some false)] } }
theorem tok47 : TIok Tryz.prog 47 ti47 := ⟨by kernel_rfl, by kernel_rfl, by kernel_rfl⟩
def ti48 : TI := { zero := [.int .i64 0, .string ⟨#[]⟩, .slice none 0 0, .slice none 0 0, .int .i64 0, .slice none 0 0, .bool false, .bool false], size := 8, bytes := 112, td := { agg := true, struct := true, flds := [(0, some 1, some false), (1, some 1, some false), (2, some 1, some false), (3, some 1, some false), (4, some 1, some false), (5, some 1, some false), (6, some 1, some false), (7, some 1, some false)] } }
theorem tok48 : TIok Tryz.prog 48 ti48 := ⟨by kernel_rfl, by kernel_rfl, by kernel_rfl⟩
def ti49 : TI := { zero := [.slice none 0 0], size := 1, bytes := 24, td := { elem := some 213 } }
theorem tok49 : TIok Tryz.prog 49 ti49 := ⟨by kernel_rfl, by kernel_rfl, by kernel_rfl⟩
def ti50 : TI := { zero := [.string ⟨#[]⟩, .int .i64 0, .string ⟨#[]⟩, .slice none 0 0, .int .i64 0], size := 5, bytes := 72, td := { agg := true, struct := true, flds := [(0, some 1, some false), (1, some 1, some false), (2, some 1, some false), (3, some 1, some false), (4, some 1, some false)] } }
theorem tok50 : TIok Tryz.prog 50 ti50 := ⟨by kernel_rfl, by kernel_rfl, by kernel_rfl⟩
def ti51 : TI := { zero := [.string ⟨#[]⟩, .int .i64 0, .string ⟨#[]⟩, .slice none 0 0, .int .i64 0], size := 5, bytes := 72, td := { agg := true, struct := true, flds := [(0, some 1, some false), (1, some 1, some false), (2, some 1, some false), (3, some 1, some false), (4, some 1, some false)] } }
theorem tok51 : TIok Tryz.prog 51 ti51 := ⟨by kernel_rfl, by kernel_rfl, by kernel_rfl⟩
def ti52 : TI := { zero := [.nilFunc], size := 1, bytes := 8, td := {  } }
theorem tok52 : TIok Tryz.prog 52 ti52 := ⟨by kernel_rfl, by kernel_rfl, by kernel_rfl⟩
def ti53 : TI := { zero := [.nilFunc], size := 1, bytes := 8, td := {  } }
theorem tok53 : TIok Tryz.prog 53 ti53 := ⟨by kernel_rfl, by kernel_rfl, by kernel_rfl⟩
def ti54 : TI := { zero := [.nilFunc], size := 1, bytes := 8, td := {  } }
theorem tok54 : TIok Tryz.prog 54 ti54 := ⟨by kernel_rfl, by kernel_rfl, by kernel_rfl⟩
def ti55 : TI := { zero := [.slice none 0 0], size := 1, bytes := 24, td := { elem := some 3 } }
theorem tok55 : TIok Tryz.prog 55 ti55 := ⟨by kernel_rfl, by kernel_rfl, by kernel_rfl⟩
def ti56 : TI := { zero := [.int .i64 0, .int .i64 0, .slice none 0 0, .slice none 0 0, .int .i64 0, .int .i64 0], size := 6, bytes := 80, td := { agg := true, struct := true, flds := [(0, some 1, some false), (1, some 1, some false), (2, some 1, some false), (3, some 1, some false), (4, some 1, some false), (5, some 1, some false)] } }
theorem tok56 : TIok Tryz.prog 56 ti56 := ⟨by kernel_rfl, by kernel_rfl, by kernel_rfl⟩
def ti57 : TI := { zero := [.int .i64 0, .int .i64 0, .slice none 0 0, .slice none 0 0, .int .i64 0, .int .i64 0], size := 6, bytes := 80, td := { agg := true, struct := true, flds := [(0, some 1, some false), (1, some 1, some false), (2, some 1, some false), (3, some 1, some false), (4, some 1, some false), (5, some 1, some false)] } }
theorem tok57 : TIok Tryz.prog 57 ti57 := ⟨by kernel_rfl, by kernel_rfl, by kernel_rfl⟩
def ti58 : TI := { zero := [.nilFunc], size := 1, bytes := 8, td := {  } }
theorem tok58 : TIok Tryz.prog 58 ti58 := ⟨by kernel_rfl, by kernel_rfl, by kernel_rfl⟩
def ti60 : TI := { zero := [.nilFunc], size := 1, bytes := 8, td := {  } }
theorem tok60 : TIok Tryz.prog 60 ti60 := ⟨by kernel_rfl, by kernel_rfl, by kernel_rfl⟩
def ti61 : TI := { zero := [.nilFunc], size := 1, bytes := 8, td := {  } }
theorem tok61 : TIok Tryz.prog 61 ti61 := ⟨by kernel_rfl, by kernel_rfl, by kernel_rfl⟩
def ti62 : TI := { zero := [.nilFunc], size := 1, bytes := 8, td := {  } }
theorem tok62 : TIok Tryz.prog 62 ti62 := ⟨by kernel_rfl, by kernel_rfl, by kernel_rfl⟩
def ti63 : TI := { zero := [.int .i64 0, .nilFunc], size := 2, bytes := 16, td := { agg := true, struct := true, flds := [(0, some 1, some false), (1, some 1, some false)] } }
theorem tok63 : TIok Tryz.prog 63 ti63 := ⟨by kernel_rfl, by kernel_rfl, by kernel_rfl⟩
def ti64 : TI := { zero := [.int .i64 0, .nilFunc], size := 2, bytes := 16, td := { agg := true, struct := true, flds := [(0, some 1, some false), (1, some 1, some false)] } }
theorem tok64 : TIok Tryz.prog 64 ti64 := ⟨by kernel_rfl, by kernel_rfl, by kernel_rfl⟩
def ti65 : TI := { zero := [.nilFunc], size := 1, bytes := 8, td := {  } }
theorem tok65 : TIok Tryz.prog 65 ti65 := ⟨by kernel_rfl, by kernel_rfl, by kernel_rfl⟩
def ti66 : TI := { zero := [.nilFunc], size := 1, bytes := 8, td := {  } }
theorem tok66 : TIok Tryz.prog 66 ti66 := ⟨by kernel_rfl, by kernel_rfl, by kernel_rfl⟩
def ti67 : TI := { zero := [.nilFunc], size := 1, bytes := 8, td := {  } }
theorem tok67 : TIok Tryz.prog 67 ti67 := ⟨by kernel_rfl, by kernel_rfl, by kernel_rfl⟩
def ti68 : TI := { zero := [.nilFunc], size := 1, bytes := 8, td := {  } }
theorem tok68 : TIok Tryz.prog 68 ti68 := ⟨by kernel_rfl, by kernel_rfl, by kernel_rfl⟩
def ti69 : TI := { zero := [.nilFunc], size := 1, bytes := 8, td := {  } }
theorem tok69 : TIok Tryz.prog 69 ti69 := ⟨by kernel_rfl, by kernel_rfl, by kernel_rfl⟩
def ti73 : TI := { zero := [.nilFunc], size := 1, bytes := 8, td := {  } }
theorem tok73 : TIok Tryz.prog 73 ti73 := ⟨by kernel_rfl, by kernel_rfl, by kernel_rfl⟩
def ti75 : TI := { zero := [.nilFunc], size := 1, bytes := 8, td := {  } }
theorem tok75 : TIok Tryz.prog 75 ti75 := ⟨by kernel_rfl, by kernel_rfl, by kernel_rfl⟩
def ti77 : TI := { zero := [.nilFunc], size := 1, bytes := 8, td := {  } }
theorem tok77 : TIok Tryz.prog 77 ti77 := ⟨by kernel_rfl, by kernel_rfl, by kernel_rfl⟩
def ti78 : TI := { zero := [.nilFunc], size := 1, bytes := 8, td := {  } }
theorem tok78 : TIok Tryz.prog 78 ti78 := ⟨by kernel_rfl, by kernel_rfl, by kernel_rfl⟩
def ti79 : TI := { zero := [.nilFunc], size := 1, bytes := 8, td := {  } }
theorem tok79 : TIok Tryz.prog 79 ti79 := ⟨by kernel_rfl, by kernel_rfl, by kernel_rfl⟩
def ti80 : TI := { zero := [.nilFunc], size := 1, bytes := 8, td := {  } }
theorem tok80 : TIok Tryz.prog 80 ti80 := ⟨by kernel_rfl, by kernel_rfl, by kernel_rfl⟩
def ti81 : TI := { zero := [.nilFunc], size := 1, bytes := 8, td := {  } }
theorem tok81 : TIok Tryz.prog 81 ti81 := ⟨by kernel_rfl, by kernel_rfl, by kernel_rfl⟩
def ti82 : TI := { zero := [.nilFunc], size := 1, bytes := 8, td := {  } }
theorem tok82 : TIok Tryz.prog 82 ti82 := ⟨by kernel_rfl, by kernel_rfl, by kernel_rfl⟩
def ti83 : TI := { zero := [.nilFunc], size := 1, bytes := 8, td := {  } }
theorem tok83 : TIok Tryz.prog 83 ti83 := ⟨by kernel_rfl, by kernel_rfl, by kernel_rfl⟩
def ti84 : TI := { zero := [.nilFunc], size := 1, bytes := 8, td := {  } }
theorem tok84 : TIok Tryz.prog 84 ti84 := ⟨by kernel_rfl, by kernel_rfl, by kernel_rfl⟩
def ti85 : TI := { zero := [.slice none 0 0], size := 1, bytes := 24, td := { elem := some 88 } }
theorem tok85 : TIok Tryz.prog 85 ti85 := ⟨by kernel_rfl, by kernel_rfl, by kernel_rfl⟩
def ti86 : TI := { zero := [.nilFunc], size := 1, bytes := 8, td := {  } }
theorem tok86 : TIok Tryz.prog 86 ti86 := ⟨by kernel_rfl, by kernel_rfl, by kernel_rfl⟩
def ti87 : TI := { zero := [.int .i64 0, .string ⟨#[]⟩, .slice none 0 0, .slice none 0 0, .int .i64 0, .slice none 0 0, .bool false, .bool false, .int .i64 0], size := 9, bytes := 120, td := { agg := true, struct := true, flds := [(0, some 8, some true), (8, some 1, some false)] } }
theorem tok87 : TIok Tryz.prog 87 ti87 := ⟨by kernel_rfl, by kernel_rfl, by kernel_rfl⟩
def ti88 : TI := { zero := [.int .i64 0, .string ⟨#[]⟩, .slice none 0 0, .slice none 0 0, .int .i64 0, .slice none 0 0, .bool false, .bool false, .int .i64 0], size := 9, bytes := 120, td := { agg := true, struct := true, flds := [(0, some 8, some true), (8, some 1, some false)] } }
theorem tok88 : TIok Tryz.prog 88 ti88 := ⟨by kernel_rfl, by kernel_rfl, by kernel_rfl⟩
def ti89 : TI := { zero := [.nilFunc], size := 1, bytes := 8, td := {  } }
theorem tok89 : TIok Tryz.prog 89 ti89 := ⟨by kernel_rfl, by kernel_rfl, by kernel_rfl⟩
def ti90 : TI := { zero := [.nilFunc], size := 1, bytes := 8, td := {  } }
theorem tok90 : TIok Tryz.prog 90 ti90 := ⟨by kernel_rfl, by kernel_rfl, by kernel_rfl⟩
def ti91 : TI := { zero := [.nilFunc], size := 1, bytes := 8, td := {  } }
theorem tok91 : TIok Tryz.prog 91 ti91 := ⟨by kernel_rfl, by kernel_rfl, by kernel_rfl⟩
def ti92 : TI := { zero := [.nilFunc], size := 1, bytes := 8, td := {  } }
theorem tok92 : TIok Tryz.prog 92 ti92 := ⟨by kernel_rfl, by kernel_rfl, by kernel_rfl⟩
def ti93 : TI := { zero := [.nilFunc], size := 1, bytes := 8, td := {  } }
theorem tok93 : TIok Tryz.prog 93 ti93 := ⟨by kernel_rfl, by kernel_rfl, by kernel_rfl⟩
def ti94 : TI := { zero := [.nilFunc], size := 1, bytes := 8, td := {  } }
theorem tok94 : TIok Tryz.prog 94 ti94 := ⟨by kernel_rfl, by kernel_rfl, by kernel_rfl⟩
def ti95 : TI := { zero := [.slice none 0 0], size := 1, bytes := 24, td := { elem := some 5 } }
theorem tok95 : TIok Tryz.prog 95 ti95 := ⟨by kernel_rfl, by kernel_rfl, by kernel_rfl⟩
def ti96 : TI := { zero := [.nilFunc], size := 1, bytes := 8, td := {  } }
theorem tok96 : TIok Tryz.prog 96 ti96 := ⟨by kernel_rfl, by kernel_rfl, by kernel_rfl⟩
def ti97 : TI := { zero := [.nilFunc], size := 1, bytes := 8, td := {  } }
theorem tok97 : TIok Tryz.prog 97 ti97 := ⟨by kernel_rfl, by kernel_rfl, by kernel_rfl⟩
def ti98 : TI := { zero := [.nilFunc], size := 1, bytes := 8, td := {  } }
theorem tok98 : TIok Tryz.prog 98 ti98 := ⟨by kernel_rfl, by kernel_rfl, by kernel_rfl⟩
def ti99 : TI := { zero := [.nilFunc], size := 1, bytes := 8, td := {  } }
theorem tok99 : TIok Tryz.prog 99 ti99 := ⟨by kernel_rfl, by kernel_rfl, by kernel_rfl⟩
def ti100 : TI := { zero := [.int .u64 0], size := 1, bytes := 8, td := { ik := some .u64 } }
theorem tok100 : TIok Tryz.prog 100 ti100 := ⟨by kernel_rfl, by kernel_rfl, by kernel_rfl⟩
def ti101 : TI := { zero := [.nilFunc], size := 1, bytes := 8, td := {  } }
theorem tok101 : TIok Tryz.prog 101 ti101 := ⟨by kernel_rfl, by kernel_rfl, by kernel_rfl⟩
def ti102 : TI := { zero := [.nilFunc], size := 1, bytes := 8, td := {  } }
theorem tok102 : TIok Tryz.prog 102 ti102 := ⟨by kernel_rfl, by kernel_rfl, by kernel_rfl⟩
def ti103 : TI := { zero := [.nilFunc], size := 1, bytes := 8, td := {  } }
theorem tok103 : TIok Tryz.prog 103 ti103 := ⟨by kernel_rfl, by kernel_rfl, by kernel_rfl⟩
def ti104 : TI := { zero := [.slice none 0 0], size := 1, bytes := 24, td := { elem := some 89 } }
theorem tok104 : TIok Tryz.prog 104 ti104 := ⟨by kernel_rfl, by kernel_rfl, by kernel_rfl⟩
def ti105 : TI := { zero := [.nilFunc], size := 1, bytes := 8, td := {  } }
theorem tok105 : TIok Tryz.prog 105 ti105 := ⟨by kernel_rfl, by kernel_rfl, by kernel_rfl⟩
def ti106 : TI := { zero := [.nilFunc], size := 1, bytes := 8, td := {  } }
theorem tok106 : TIok Tryz.prog 106 ti106 := ⟨by kernel_rfl, by kernel_rfl, by kernel_rfl⟩
def ti107 : TI := { zero := [.nilFunc], size := 1, bytes := 8, td := {  } }
theorem tok107 : TIok Tryz.prog 107 ti107 := ⟨by kernel_rfl, by kernel_rfl, by kernel_rfl⟩
def ti108 : TI := { zero := [.nilFunc], size := 1, bytes := 8, td := {  } }
theorem tok108 : TIok Tryz.prog 108 ti108 := ⟨by kernel_rfl, by kernel_rfl, by kernel_rfl⟩
def ti109 : TI := { zero := [.nilFunc], size := 1, bytes := 8, td := {  } }
theorem tok109 : TIok Tryz.prog 109 ti109 := ⟨by kernel_rfl, by kernel_rfl, by kernel_rfl⟩
def ti110 : TI := { zero := [.nilFunc], size := 1, bytes := 8, td := {  } }
theorem tok110 : TIok Tryz.prog 110 ti110 := ⟨by kernel_rfl, by kernel_rfl, by kernel_rfl⟩
def ti112 : TI := { zero := [.pointer none, .slice none 0 0], size := 2, bytes := 32, td := { agg := true, struct := true, flds := [(0, some 1, some false), (1, some 1, some false)] } }
theorem tok112 : TIok Tryz.prog 112 ti112 := ⟨by kernel_rfl, by kernel_rfl, by kernel_rfl⟩
def ti113 : TI := { zero := [.pointer none, .slice none 0 0], size := 2, bytes := 32, td := { agg := true, struct := true, flds := [(0, some 1, some false), (1, some 1, some false)] } }
theorem tok113 : TIok Tryz.prog 113 ti113 := ⟨by kernel_rfl, by kernel_rfl, by kernel_rfl⟩
def ti114 : TI := { zero := [.nilFunc], size := 1, bytes := 8, td := {  } }
theorem tok114 : TIok Tryz.prog 114 ti114 := ⟨by kernel_rfl, by kernel_rfl, by kernel_rfl⟩
def ti115 : TI := { zero := [.nilFunc], size := 1, bytes := 8, td := {  } }
theorem tok115 : TIok Tryz.prog 115 ti115 := ⟨by kernel_rfl, by kernel_rfl, by kernel_rfl⟩
def ti116 : TI := { zero := [.nilFunc], size := 1, bytes := 8, td := {  } }
theorem tok116 : TIok Tryz.prog 116 ti116 := ⟨by kernel_rfl, by kernel_rfl, by kernel_rfl⟩
def ti117 : TI := { zero := [.int .i64 0], size := 1, bytes := 8, td := { ik := some .i64 } }
theorem tok117 : TIok Tryz.prog 117 ti117 := ⟨by kernel_rfl, by kernel_rfl, by kernel_rfl⟩
def ti119 : TI := { zero := [.nilFunc], size := 1, bytes := 8, td := {  } }
theorem tok119 : TIok Tryz.prog 119 ti119 := ⟨by kernel_rfl, by kernel_rfl, by kernel_rfl⟩
def ti121 : TI := { zero := [.nilFunc], size := 1, bytes := 8, td := {  } }
theorem tok121 : TIok Tryz.prog 121 ti121 := ⟨by kernel_rfl, by kernel_rfl, by kernel_rfl⟩
def ti122 : TI := { zero := [.nilFunc], size := 1, bytes := 8, td := {  } }
theorem tok122 : TIok Tryz.prog 122 ti122 := ⟨by kernel_rfl, by kernel_rfl, by kernel_rfl⟩
def ti123 : TI := { zero := [.nilFunc], size := 1, bytes := 8, td := {  } }
theorem tok123 : TIok Tryz.prog 123 ti123 := ⟨by kernel_rfl, by kernel_rfl, by kernel_rfl⟩
def ti124 : TI := { zero := [.nilFunc], size := 1, bytes := 8, td := {  } }
theorem tok124 : TIok Tryz.prog 124 ti124 := ⟨by kernel_rfl, by kernel_rfl, by kernel_rfl⟩
def ti125 : TI := { zero := [.int .i64 0], size := 1, bytes := 8, td := { ik := some .i64 } }
theorem tok125 : TIok Tryz.prog 125 ti125 := ⟨by kernel_rfl, by kernel_rfl, by kernel_rfl⟩
def ti127 : TI := { zero := [.nilFunc], size := 1, bytes := 8, td := {  } }
theorem tok127 : TIok Tryz.prog 127 ti127 := ⟨by kernel_rfl, by kernel_rfl, by kernel_rfl⟩
def ti128 : TI := { zero := [.nilFunc], size := 1, bytes := 8, td := {  } }
theorem tok128 : TIok Tryz.prog 128 ti128 := ⟨by kernel_rfl, by kernel_rfl, by kernel_rfl⟩
def ti129 : TI := { zero := [.nilFunc], size := 1, bytes := 8, td := {  } }
theorem tok129 : TIok Tryz.prog 129 ti129 := ⟨by kernel_rfl, by kernel_rfl, by kernel_rfl⟩
def ti130 : TI := { zero := [.nilFunc], size := 1, bytes := 8, td := {  } }
theorem tok130 : TIok Tryz.prog 130 ti130 := ⟨by kernel_rfl, by kernel_rfl, by kernel_rfl⟩
def ti132 : TI := { zero := [.nilFunc], size := 1, bytes := 8, td := {  } }
theorem tok132 : TIok Tryz.prog 132 ti132 := ⟨by kernel_rfl, by kernel_rfl, by kernel_rfl⟩
def ti133 : TI := { zero := [.nilFunc], size := 1, bytes := 8, td := {  } }
theorem tok133 : TIok Tryz.prog 133 ti133 := ⟨by kernel_rfl, by kernel_rfl, by kernel_rfl⟩
def ti134 : TI := { zero := [.int .u32 0], size := 1, bytes := 4, td := { ik := some .u32 } }
theorem tok134 : TIok Tryz.prog 134 ti134 := ⟨by kernel_rfl, by kernel_rfl, by kernel_rfl⟩
def ti135 : TI := { zero := [.nilFunc], size := 1, bytes := 8, td := {  } }
theorem tok135 : TIok Tryz.prog 135 ti135 := ⟨by kernel_rfl, by kernel_rfl, by kernel_rfl⟩
def ti136 : TI := { zero := [.int .u64 0], size := 1, bytes := 8, td := { ik := some .u64 } }
theorem tok136 : TIok Tryz.prog 136 ti136 := ⟨by kernel_rfl, by kernel_rfl, by kernel_rfl⟩
def ti137 : TI := { zero := [.nilFunc], size := 1, bytes := 8, td := {  } }
theorem tok137 : TIok Tryz.prog 137 ti137 := ⟨by kernel_rfl, by kernel_rfl, by kernel_rfl⟩
def ti138 : TI := { zero := [.nilFunc], size := 1, bytes := 8, td := {  } }
theorem tok138 : TIok Tryz.prog 138 ti138 := ⟨by kernel_rfl, by kernel_rfl, by kernel_rfl⟩
def ti139 : TI := { zero := [.nilFunc], size := 1, bytes := 8, td := {  } }
theorem tok139 : TIok Tryz.prog 139 ti139 := ⟨by kernel_rfl, by kernel_rfl, by kernel_rfl⟩
def ti140 : TI := { zero := [.nilFunc], size := 1, bytes := 8, td := {  } }
theorem tok140 : TIok Tryz.prog 140 ti140 := ⟨by kernel_rfl, by kernel_rfl, by kernel_rfl⟩
def ti141 : TI := { zero := [.nilFunc], size := 1, bytes := 8, td := {  } }
theorem tok141 : TIok Tryz.prog 141 ti141 := ⟨by kernel_rfl, by kernel_rfl, by kernel_rfl⟩
def ti143 : TI := { zero := [.nilFunc], size := 1, bytes := 8, td := {  } }
theorem tok143 : TIok Tryz.prog 143 ti143 := ⟨by kernel_rfl, by kernel_rfl, by kernel_rfl⟩
def ti145 : TI := { zero := [.nilFunc], size := 1, bytes := 8, td := {  } }
theorem tok145 : TIok Tryz.prog 145 ti145 := ⟨by kernel_rfl, by kernel_rfl, by kernel_rfl⟩
def ti146 : TI := { zero := [.nilFunc], size := 1, bytes := 8, td := {  } }
theorem tok146 : TIok Tryz.prog 146 ti146 := ⟨by kernel_rfl, by kernel_rfl, by kernel_rfl⟩
def ti148 : TI := { zero := [.nilFunc], size := 1, bytes := 8, td := {  } }
theorem tok148 : TIok Tryz.prog 148 ti148 := ⟨by kernel_rfl, by kernel_rfl, by kernel_rfl⟩
def ti149 : TI := { zero := [.nilFunc], size := 1, bytes := 8, td := {  } }
theorem tok149 : TIok Tryz.prog 149 ti149 := ⟨by kernel_rfl, by kernel_rfl, by kernel_rfl⟩
def ti150 : TI := { zero := [.string ⟨#[]⟩, .string ⟨#[]⟩, .nilIface], size := 3, bytes := 48, td := { agg := true, struct := true, flds := [(0, some 1, some false), (1, some 1, some false), (2, some 1, some false)] } }
theorem tok150 : TIok Tryz.prog 150 ti150 := ⟨by kernel_rfl, by kernel_rfl, by kernel_rfl⟩
def ti151 : TI := { zero := [.string ⟨#[]⟩, .string ⟨#[]⟩, .nilIface], size := 3, bytes := 48, td := { agg := true, struct := true, flds := [(0, some 1, some false), (1, some 1, some false), (2, some 1, some false)] } }
theorem tok151 : TIok Tryz.prog 151 ti151 := ⟨by kernel_rfl, by kernel_rfl, by kernel_rfl⟩
def ti152 : TI := { zero := [.nilFunc], size := 1, bytes := 8, td := {  } }
theorem tok152 : TIok Tryz.prog 152 ti152 := ⟨by kernel_rfl, by kernel_rfl, by kernel_rfl⟩
def ti153 : TI := { zero := [.int .u64 0], size := 1, bytes := 8, td := { ik := some .u64 } }
theorem tok153 : TIok Tryz.prog 153 ti153 := ⟨by kernel_rfl, by kernel_rfl, by kernel_rfl⟩
def ti154 : TI := { zero := [.nilFunc], size := 1, bytes := 8, td := {  } }
theorem tok154 : TIok Tryz.prog 154 ti154 := ⟨by kernel_rfl, by kernel_rfl, by kernel_rfl⟩
def ti155 : TI := { zero := [.nilFunc], size := 1, bytes := 8, td := {  } }
theorem tok155 : TIok Tryz.prog 155 ti155 := ⟨by kernel_rfl, by kernel_rfl, by kernel_rfl⟩
def ti156 : TI := { zero := [.nilFunc], size := 1, bytes := 8, td := {  } }
theorem tok156 : TIok Tryz.prog 156 ti156 := ⟨by kernel_rfl, by kernel_rfl, by kernel_rfl⟩
def ti158 : TI := { zero := [.nilFunc], size := 1, bytes := 8, td := {  } }
theorem tok158 : TIok Tryz.prog 158 ti158 := ⟨by kernel_rfl, by kernel_rfl, by kernel_rfl⟩
def ti159 : TI := { zero := [.nilFunc], size := 1, bytes := 8, td := {  } }
theorem tok159 : TIok Tryz.prog 159 ti159 := ⟨by kernel_rfl, by kernel_rfl, by kernel_rfl⟩
def ti160 : TI := { zero := [.nilFunc], size := 1, bytes := 8, td := {  } }
theorem tok160 : TIok Tryz.prog 160 ti160 := ⟨by kernel_rfl, by kernel_rfl, by kernel_rfl⟩
def ti161 : TI := { zero := [.nilFunc], size := 1, bytes := 8, td := {  } }
theorem tok161 : TIok Tryz.prog 161 ti161 := ⟨by kernel_rfl, by kernel_rfl, by kernel_rfl⟩
def ti162 : TI := { zero := [.nilFunc], size := 1, bytes := 8, td := {  } }
theorem tok162 : TIok Tryz.prog 162 ti162 := ⟨by kernel_rfl, by kernel_rfl, by kernel_rfl⟩
def ti163 : TI := { zero := [.nilFunc], size := 1, bytes := 8, td := {  } }
theorem tok163 : TIok Tryz.prog 163 ti163 := ⟨by kernel_rfl, by kernel_rfl, by kernel_rfl⟩
def ti165 : TI := { zero := [.nilFunc], size := 1, bytes := 8, td := {  } }
theorem tok165 : TIok Tryz.prog 165 ti165 := ⟨by kernel_rfl, by kernel_rfl, by kernel_rfl⟩
def ti166 : TI := { zero := [.nilFunc], size := 1, bytes := 8, td := {  } }
theorem tok166 : TIok Tryz.prog 166 ti166 := ⟨by kernel_rfl, by kernel_rfl, by kernel_rfl⟩
def ti167 : TI := { zero := [.int .u8 0, .int .u8 0, .int .u8 0, .int .u8 0, .int .u8 0, .int .u8 0, .int .u8 0, .int .u8 0, .int .u8 0, .int .u8 0, .int .u8 0, .int .u8 0, .int .u8 0, .int .u8 0, .int .u8 0, .int .u8 0, .int .u8 0, .int .u8 0, .int .u8 0, .int .u8 0, .int .u8 0, .int .u8 0, .int .u8 0, .int .u8 0], size := 24, bytes := 24, td := { agg := true, arr := some (24, 5) } }
theorem tok167 : TIok Tryz.prog 167 ti167 := ⟨by kernel_rfl, by kernel_rfl, by kernel_rfl⟩
def ti168 : TI := { zero := [.nilFunc], size := 1, bytes := 8, td := {  } }
theorem tok168 : TIok Tryz.prog 168 ti168 := ⟨by kernel_rfl, by kernel_rfl, by kernel_rfl⟩
def ti170 : TI := { zero := [.nilFunc], size := 1, bytes := 8, td := {  } }
theorem tok170 : TIok Tryz.prog 170 ti170 := ⟨by kernel_rfl, by kernel_rfl, by kernel_rfl⟩
def ti171 : TI := { zero := [.nilFunc], size := 1, bytes := 8, td := {  } }
theorem tok171 : TIok Tryz.prog 171 ti171 := ⟨by kernel_rfl, by kernel_rfl, by kernel_rfl⟩
def ti172 : TI := { zero := [.nilFunc], size := 1, bytes := 8, td := {  } }
theorem tok172 : TIok Tryz.prog 172 ti172 := ⟨by kernel_rfl, by kernel_rfl, by kernel_rfl⟩
def ti174 : TI := { zero := [.string ⟨#[]⟩], size := 1, bytes := 16, td := { agg := true, struct := true, flds := [(0, some 1, some false)] }, eqs := some [(0, 1)] }
theorem tok174 : TIok Tryz.prog 174 ti174 := ⟨by kernel_rfl, by kernel_rfl, by kernel_rfl⟩
def ti175 : TI := { zero := [.string ⟨#[]⟩], size := 1, bytes := 16, td := { agg := true, struct := true, flds := [(0, some 1, some false)] }, eqs := some [(0, 1)] }
theorem tok175 : TIok Tryz.prog 175 ti175 := ⟨by kernel_rfl, by kernel_rfl, by kernel_rfl⟩
def ti178 : TI := { zero := [.nilFunc], size := 1, bytes := 8, td := {  } }
theorem tok178 : TIok Tryz.prog 178 ti178 := ⟨by kernel_rfl, by kernel_rfl, by kernel_rfl⟩
def ti179 : TI := { zero := [.nilFunc], size := 1, bytes := 8, td := {  } }
theorem tok179 : TIok Tryz.prog 179 ti179 := ⟨by kernel_rfl, by kernel_rfl, by kernel_rfl⟩
def ti180 : TI := { zero := [.nilFunc], size := 1, bytes := 8, td := {  } }
theorem tok180 : TIok Tryz.prog 180 ti180 := ⟨by kernel_rfl, by kernel_rfl, by kernel_rfl⟩
def ti181 : TI := { zero := [.nilFunc], size := 1, bytes := 8, td := {  } }
theorem tok181 : TIok Tryz.prog 181 ti181 := ⟨by kernel_rfl, by kernel_rfl, by kernel_rfl⟩
def ti182 : TI := { zero := [.int .u64 0, .int .u64 0, .int .u64 0, .int .u64 0, .int .u64 0, .int .u64 0, .int .u64 0, .int .u64 0, .int .u64 0, .int .u64 0, .int .u64 0, .int .u64 0, .int .u64 0, .int .u64 0, .int .u64 0, .int .u64 0, .int .u64 0, .int .u64 0, .int .u64 0, .int .u64 0], size := 20, bytes := 160, td := { agg := true, arr := some (20, 136) } }
theorem tok182 : TIok Tryz.prog 182 ti182 := ⟨by kernel_rfl, by kernel_rfl, by kernel_rfl⟩
def ti183 : TI := { zero := [.int .u8 0, .int .u8 0, .int .u8 0, .int .u8 0, .int .u8 0, .int .u8 0, .int .u8 0, .int .u8 0, .int .u8 0, .int .u8 0, .int .u8 0, .int .u8 0, .int .u8 0, .int .u8 0, .int .u8 0, .int .u8 0, .int .u8 0, .int .u8 0, .int .u8 0, .int .u8 0, .int .u8 0, .int .u8 0, .int .u8 0, .int .u8 0, .int .u8 0, .int .u8 0, .int .u8 0, .int .u8 0, .int .u8 0, .int .u8 0, .int .u8 0, .int .u8 0, .int .u8 0, .int .u8 0, .int .u8 0, .int .u8 0, .int .u8 0, .int .u8 0, .int .u8 0, .int .u8 0, .int .u8 0, .int .u8 0, .int .u8 0, .int .u8 0, .int .u8 0, .int .u8 0, .int .u8 0, .int .u8 0, .int .u8 0, .int .u8 0, .int .u8 0, .int .u8 0, .int .u8 0, .int .u8 0, .int .u8 0, .int .u8 0, .int .u8 0, .int .u8 0, .int .u8 0, .int .u8 0, .int .u8 0, .int .u8 0, .int .u8 0, .int .u8 0, .int .u8 0], size := 65, bytes := 65, td := { agg := true, arr := some (65, 5) } }
theorem tok183 : TIok Tryz.prog 183 ti183 := ⟨by kernel_rfl, by kernel_rfl, by kernel_rfl⟩
def ti184 : TI := { zero := [.int .u8 0, .int .u8 0, .int .u8 0, .int .u8 0, .int .u8 0, .int .u8 0, .int .u8 0, .int .u8 0, .int .u8 0, .int .u8 0, .int .u8 0, .int .u8 0, .int .u8 0, .int .u8 0, .int .u8 0, .int .u8 0, .int .u8 0, .int .u8 0, .int .u8 0, .int .u8 0, .int .u8 0, .int .u8 0, .int .u8 0, .int .u8 0, .int .u8 0, .int .u8 0, .int .u8 0, .int .u8 0, .int .u8 0, .int .u8 0, .int .u8 0, .int .u8 0, .int .u8 0, .int .u8 0, .int .u8 0, .int .u8 0, .int .u8 0, .int .u8 0, .int .u8 0, .int .u8 0, .int .u8 0, .int .u8 0, .int .u8 0, .int .u8 0, .int .u8 0, .int .u8 0, .int .u8 0, .int .u8 0, .int .u8 0, .int .u8 0, .int .u8 0, .int .u8 0, .int .u8 0, .int .u8 0, .int .u8 0, .int .u8 0, .int .u8 0, .int .u8 0, .int .u8 0, .int .u8 0, .int .u8 0, .int .u8 0, .int .u8 0, .int .u8 0, .int .u8 0, .int .u8 0, .int .u8 0, .int .u8 0, .int .u8 0, .int .u8 0, .int .u8 0, .int .u8 0, .int .u8 0, .int .u8 0, .int .u8 0, .int .u8 0, .int .u8 0, .int .u8 0, .int .u8 0, .int .u8 0, .int .u8 0, .int .u8 0, .int .u8 0, .int .u8 0, .int .u8 0, .int .u8 0, .int .u8 0, .int .u8 0, .int .u8 0, .int .u8 0, .int .u8 0, .int .u8 0, .int .u8 0, .int .u8 0, .int .u8 0, .int .u8 0, .int .u8 0, .int .u8 0, .int .u8 0, .int .u8 0, .int .u8 0, .int .u8 0, .int .u8 0, .int .u8 0, .int .u8 0, .int .u8 0, .int .u8 0, .int .u8 0, .int .u8 0, .int .u8 0, .int .u8 0, .int .u8 0, .int .u8 0, .int .u8 0, .int .u8 0, .int .u8 0, .int .u8 0, .int .u8 0, .int .u8 0, .int .u8 0, .int .u8 0, .int .u8 0, .int .u8 0, .int .u8 0, .int .u8 0, .int .u8 0, .int .u8 0, .int .u8 0, .int .u8 0, .int .u8 0, .int .u8 0, .int .u8 0, .int .u8 0, .int .u8 0, .int .u8 0, .int .u8 0, .int .u8 0, .int .u8 0, .int .u8 0, .int .u8 0, .int .u8 0, .int .u8 0, .int .u8 0, .int .u8 0, .int .u8 0, .int .u8 0, .int .u8 0, .int .u8 0, .int .u8 0, .int .u8 0, .int .u8 0, .int .u8 0, .int .u8 0, .int .u8 0, .int .u8 0, .int .u8 0, .int .u8 0, .int .u8 0, .int .u8 0, .int .u8 0, .int .u8 0, .int .u8 0, .int .u8 0, .int .u8 0, .int .u8 0, .int .u8 0, .int .u8 0, .int .u8 0, .int .u8 0, .int .u8 0, .int .u8 0, .int .u8 0, .int .u8 0, .int .u8 0, .int .u8 0, .int .u8 0, .int .u8 0, .int .u8 0, .int .u8 0, .int .u8 0, .int .u8 0, .int .u8 0, .int .u8 0, .int .u8 0, .int .u8 0, .int .u8 0, .int .u8 0, .int .u8 0, .int .u8 0, .int .u8 0, .int .u8 0, .int .u8 0, .int .u8 0, .int .u8 0, .int .u8 0, .int .u8 0, .int .u8 0, .int .u8 0, .int .u8 0, .int .u8 0, .int .u8 0, .int .u8 0, .int .u8 0, .int .u8 0, .int .u8 0, .int .u8 0, .int .u8 0, .int .u8 0, .int .u8 0, .int .u8 0, .int .u8 0, .int .u8 0, .int .u8 0, .int .u8 0, .int .u8 0, .int .u8 0, .int .u8 0, .int .u8 0, .int .u8 0, .int .u8 0, .int .u8 0, .int .u8 0, .int .u8 0, .int .u8 0, .int .u8 0, .int .u8 0, .int .u8 0, .int .u8 0, .int .u8 0, .int .u8 0, .int .u8 0, .int .u8 0, .int .u8 0, .int .u8 0, .int .u8 0, .int .u8 0, .int .u8 0, .int .u8 0, .int .u8 0, .int .u8 0, .int .u8 0, .int .u8 0, .int .u8 0, .int .u8 0, .int .u8 0, .int .u8 0, .int .u8 0, .int .u8 0, .int .u8 0, .int .u8 0, .int .u8 0, .int .u8 0, .int .u8 0, .int .u8 0, .int .u8 0, .int .u8 0], size := 256, bytes := 256, td := { agg := true, arr := some (256, 5) } }
theorem tok184 : TIok Tryz.prog 184 ti184 := ⟨by kernel_rfl, by kernel_rfl, by kernel_rfl⟩
def ti185 : TI := { zero := [.int .u8 0, .int .u8 0], size := 2, bytes := 2, td := { agg := true, struct := true, flds := [(0, some 1, some false), (1, some 1, some false)] }, eqs := some [(0, 0), (1, 0)] }
theorem tok185 : TIok Tryz.prog 185 ti185 := ⟨by kernel_rfl, by kernel_rfl, by kernel_rfl⟩
def ti186 : TI := { zero := [.int .u8 0, .int .u8 0], size := 2, bytes := 2, td := { agg := true, struct := true, flds := [(0, some 1, some false), (1, some 1, some false)] }, eqs := some [(0, 0), (1, 0)] }
theorem tok186 : TIok Tryz.prog 186 ti186 := ⟨by kernel_rfl, by kernel_rfl, by kernel_rfl⟩
def ti187 : TI := { zero := [.int .u8 0, .int .u8 0, .int .u8 0, .int .u8 0, .int .u8 0, .int .u8 0, .int .u8 0, .int .u8 0, .int .u8 0, .int .u8 0, .int .u8 0, .int .u8 0, .int .u8 0, .int .u8 0, .int .u8 0, .int .u8 0, .int .u8 0, .int .u8 0, .int .u8 0, .int .u8 0, .int .u8 0, .int .u8 0, .int .u8 0, .int .u8 0, .int .u8 0, .int .u8 0, .int .u8 0, .int .u8 0, .int .u8 0, .int .u8 0, .int .u8 0, .int .u8 0], size := 32, bytes := 32, td := { agg := true, arr := some (16, 186) } }
theorem tok187 : TIok Tryz.prog 187 ti187 := ⟨by kernel_rfl, by kernel_rfl, by kernel_rfl⟩
def ti189 : TI := { zero := [.nilFunc], size := 1, bytes := 8, td := {  } }
theorem tok189 : TIok Tryz.prog 189 ti189 := ⟨by kernel_rfl, by kernel_rfl, by kernel_rfl⟩
def ti190 : TI := { zero := [.nilFunc], size := 1, bytes := 8, td := {  } }
theorem tok190 : TIok Tryz.prog 190 ti190 := ⟨by kernel_rfl, by kernel_rfl, by kernel_rfl⟩
def ti191 : TI := { zero := [.int .u8 0, .int .u8 0, .int .u8 0, .int .u8 0, .int .u8 0, .int .u8 0, .int .u8 0, .int .u8 0, .int .u8 0, .int .u8 0, .int .u8 0, .int .u8 0, .int .u8 0, .int .u8 0, .int .u8 0, .int .u8 0, .int .u8 0, .int .u8 0, .int .u8 0, .int .u8 0, .int .u8 0, .int .u8 0, .int .u8 0, .int .u8 0, .int .u8 0, .int .u8 0, .int .u8 0, .int .u8 0, .int .u8 0, .int .u8 0, .int .u8 0, .int .u8 0], size := 32, bytes := 32, td := { agg := true, arr := some (32, 5) } }
theorem tok191 : TIok Tryz.prog 191 ti191 := ⟨by kernel_rfl, by kernel_rfl, by kernel_rfl⟩
def ti192 : TI := { zero := [.int .u8 0, .int .u8 0, .int .u8 0, .int .u8 0, .int .u8 0, .int .u8 0, .int .u8 0, .int .u8 0, .int .u8 0, .int .u8 0, .int .u8 0, .int .u8 0, .int .u8 0, .int .u8 0, .int .u8 0, .int .u8 0, .int .u8 0, .int .u8 0, .int .u8 0, .int .u8 0, .int .u8 0, .int .u8 0, .int .u8 0, .int .u8 0, .int .u8 0, .int .u8 0, .int .u8 0, .int .u8 0, .int .u8 0, .int .u8 0, .int .u8 0, .int .u8 0, .int .u8 0, .int .u8 0, .int .u8 0, .int .u8 0, .int .u8 0, .int .u8 0, .int .u8 0, .int .u8 0, .int .u8 0, .int .u8 0, .int .u8 0, .int .u8 0, .int .u8 0, .int .u8 0, .int .u8 0, .int .u8 0, .int .u8 0, .int .u8 0, .int .u8 0, .int .u8 0, .int .u8 0, .int .u8 0, .int .u8 0, .int .u8 0, .int .u8 0, .int .u8 0, .int .u8 0, .int .u8 0, .int .u8 0, .int .u8 0, .int .u8 0, .int .u8 0], size := 64, bytes := 64, td := { agg := true, arr := some (64, 5) } }
theorem tok192 : TIok Tryz.prog 192 ti192 := ⟨by kernel_rfl, by kernel_rfl, by kernel_rfl⟩
def ti193 : TI := { zero := [.pointer none, .pointer none, .pointer none, .string ⟨#[]⟩], size := 4, bytes := 40, td := { agg := true, struct := true, flds := [(0, some 1, some false), (1, some 1, some false), (2, some 1, some false), (3, some 1, some false)] } }
theorem tok193 : TIok Tryz.prog 193 ti193 := ⟨by kernel_rfl, by kernel_rfl, by kernel_rfl⟩
def ti194 : TI := { zero := [.pointer none, .pointer none, .pointer none, .string ⟨#[]⟩], size := 4, bytes := 40, td := { agg := true, struct := true, flds := [(0, some 1, some false), (1, some 1, some false), (2, some 1, some false), (3, some 1, some false)] } }
theorem tok194 : TIok Tryz.prog 194 ti194 := ⟨by kernel_rfl, by kernel_rfl, by kernel_rfl⟩
def ti195 : TI := { zero := [], size := 0, bytes := 0, td := { agg := true, arr := some (0, 16) } }
theorem tok195 : TIok Tryz.prog 195 ti195 := ⟨by kernel_rfl, by kernel_rfl, by kernel_rfl⟩
def ti196 : TI := { zero := [], size := 0, bytes := 0, td := { agg := true, struct := true, flds := [(0, some 0, some true)] } }
theorem tok196 : TIok Tryz.prog 196 ti196 := ⟨by kernel_rfl, by kernel_rfl, by kernel_rfl⟩
def ti197 : TI := { zero := [], size := 0, bytes := 0, td := { agg := true, struct := true, flds := [(0, some 0, some true)] } }
theorem tok197 : TIok Tryz.prog 197 ti197 := ⟨by kernel_rfl, by kernel_rfl, by kernel_rfl⟩
def ti198 : TI := { zero := [.nilFunc], size := 1, bytes := 8, td := {  } }
theorem tok198 : TIok Tryz.prog 198 ti198 := ⟨by kernel_rfl, by kernel_rfl, by kernel_rfl⟩
def ti199 : TI := { zero := [.int .u8 0], size := 1, bytes := 1, td := { ik := some .u8 } }
theorem tok199 : TIok Tryz.prog 199 ti199 := ⟨by kernel_rfl, by kernel_rfl, by kernel_rfl⟩
def ti200 : TI := { zero := [.int .u8 0], size := 1, bytes := 1, td := { ik := some .u8 } }
theorem tok200 : TIok Tryz.prog 200 ti200 := ⟨by kernel_rfl, by kernel_rfl, by kernel_rfl⟩
def ti201 : TI := { zero := [.nilFunc], size := 1, bytes := 8, td := {  } }
theorem tok201 : TIok Tryz.prog 201 ti201 := ⟨by kernel_rfl, by kernel_rfl, by kernel_rfl⟩
def ti202 : TI := { zero := [.int .i32 0], size := 1, bytes := 4, td := { ik := some .i32 } }
theorem tok202 : TIok Tryz.prog 202 ti202 := ⟨by kernel_rfl, by kernel_rfl, by kernel_rfl⟩
def ti203 : TI := { zero := [.int .i32 0], size := 1, bytes := 4, td := { ik := some .i32 } }
theorem tok203 : TIok Tryz.prog 203 ti203 := ⟨by kernel_rfl, by kernel_rfl, by kernel_rfl⟩
def ti204 : TI := { zero := [.int .u64 0, .int .u64 0, .int .u32 0, .int .u8 0, .int .u8 0, .int .u8 0, .int .u8 0, .nilFunc, .pointer none, .int .i32 0, .int .i32 0], size := 11, bytes := 48, td := { agg := true, struct := true, flds := [(0, some 1, some false), (1, some 1, some false), (2, some 1, some false), (3, some 1, some false), (4, some 1, some false), (5, some 1, some false), (6, some 1, some false), (7, some 1, some false), (8, some 1, some false), (9, some 1, some false), (10, some 1, some false)] } }
theorem tok204 : TIok Tryz.prog 204 ti204 := ⟨by kernel_rfl, by kernel_rfl, by kernel_rfl⟩
def ti205 : TI := { zero := [.int .u64 0, .int .u64 0, .int .u32 0, .int .u8 0, .int .u8 0, .int .u8 0, .int .u8 0, .nilFunc, .pointer none, .int .i32 0, .int .i32 0], size := 11, bytes := 48, td := { agg := true, struct := true, flds := [(0, some 1, some false), (1, some 1, some false), (2, some 1, some false), (3, some 1, some false), (4, some 1, some false), (5, some 1, some false), (6, some 1, some false), (7, some 1, some false), (8, some 1, some false), (9, some 1, some false), (10, some 1, some false)] } }
theorem tok205 : TIok Tryz.prog 205 ti205 := ⟨by kernel_rfl, by kernel_rfl, by kernel_rfl⟩
def ti206 : TI := { zero := [.string ⟨#[]⟩, .string ⟨#[]⟩], size := 2, bytes := 32, td := { agg := true, struct := true, flds := [(0, some 1, some false), (1, some 1, some false)] }, eqs := some [(0, 1), (1, 1)] }
theorem tok206 : TIok Tryz.prog 206 ti206 := ⟨by kernel_rfl, by kernel_rfl, by kernel_rfl⟩
def ti207 : TI := { zero := [.string ⟨#[]⟩, .string ⟨#[]⟩], size := 2, bytes := 32, td := { agg := true, struct := true, flds := [(0, some 1, some false), (1, some 1, some false)] }, eqs := some [(0, 1), (1, 1)] }
theorem tok207 : TIok Tryz.prog 207 ti207 := ⟨by kernel_rfl, by kernel_rfl, by kernel_rfl⟩
def ti208 : TI := { zero := [.string ⟨#[]⟩, .int .i64 0, .int .i64 0, .string ⟨#[]⟩, .int .i64 0], size := 5, bytes := 56, td := { agg := true, struct := true, flds := [(0, some 1, some false), (1, some 1, some false), (2, some 1, some false), (3, some 1, some false), (4, some 1, some false)] }, eqs := some [(0, 1), (1, 0), (2, 0), (3, 1), (4, 0)] }
theorem tok208 : TIok Tryz.prog 208 ti208 := ⟨by kernel_rfl, by kernel_rfl, by kernel_rfl⟩
def ti209 : TI := { zero := [.string ⟨#[]⟩, .int .i64 0, .int .i64 0, .string ⟨#[]⟩, .int .i64 0], size := 5, bytes := 56, td := { agg := true, struct := true, flds := [(0, some 1, some false), (1, some 1, some false), (2, some 1, some false), (3, some 1, some false), (4, some 1, some false)] }, eqs := some [(0, 1), (1, 0), (2, 0), (3, 1), (4, 0)] }
theorem tok209 : TIok Tryz.prog 209 ti209 := ⟨by kernel_rfl, by kernel_rfl, by kernel_rfl⟩
def ti210 : TI := { zero := [.int .i64 0, .slice none 0 0, .int .i64 0, .int .i64 0], size := 4, bytes := 48, td := { agg := true, struct := true, flds := [(0, some 1, some false), (1, some 1, some false), (2, some 1, some false), (3, some 1, some false)] } }
theorem tok210 : TIok Tryz.prog 210 ti210 := ⟨by kernel_rfl, by kernel_rfl, by kernel_rfl⟩
def ti211 : TI := { zero := [.int .i64 0, .slice none 0 0, .int .i64 0, .int .i64 0], size := 4, bytes := 48, td := { agg := true, struct := true, flds := [(0, some 1, some false), (1, some 1, some false), (2, some 1, some false), (3, some 1, some false)] } }
theorem tok211 : TIok Tryz.prog 211 ti211 := ⟨by kernel_rfl, by kernel_rfl, by kernel_rfl⟩
def ti212 : TI := { zero := [.int .i64 0, .int .i64 0, .string ⟨#[]⟩, .int .i64 0, .int .i64 0, .int .i64 0, .slice none 0 0, .int .i64 0, .int .i64 0], size := 9, bytes := 96, td := { agg := true, struct := true, flds := [(0, some 1, some false), (1, some 1, some false), (2, some 1, some false), (3, some 1, some false), (4, some 1, some false), (5, some 4, some true)] } }
theorem tok212 : TIok Tryz.prog 212 ti212 := ⟨by kernel_rfl, by kernel_rfl, by kernel_rfl⟩
def ti213 : TI := { zero := [.int .i64 0, .int .i64 0, .string ⟨#[]⟩, .int .i64 0, .int .i64 0, .int .i64 0, .slice none 0 0, .int .i64 0, .int .i64 0], size := 9, bytes := 96, td := { agg := true, struct := true, flds := [(0, some 1, some false), (1, some 1, some false), (2, some 1, some false), (3, some 1, some false), (4, some 1, some false), (5, some 4, some true)] } }
theorem tok213 : TIok Tryz.prog 213 ti213 := ⟨by kernel_rfl, by kernel_rfl, by kernel_rfl⟩
def TT_0 : Tab := fun t => match t with
  | 1 => some ti1
  | 2 => some ti2
  | 3 => some ti3
  | 4 => some ti4
  | 5 => some ti5
  | 6 => some ti6
  | 7 => some ti7
  | 8 => some ti8
  | 9 => some ti9
  | 10 => some ti10
  | 11 => some ti11
  | 12 => some ti12
  | 13 => some ti13
  | 14 => some ti14
  | 18 => some ti18
  | 19 => some ti19
  | 21 => some ti21
  | 22 => some ti22
  | 23 => some ti23
  | 24 => some ti24
  | 25 => some ti25
  | 26 => some ti26
  | 28 => some ti28
  | 29 => some ti29
  | 30 => some ti30
  | 32 => some ti32
  | 33 => some ti33
  | 34 => some ti34
  | 35 => some ti35
  | 36 => some ti36
  | 37 => some ti37
  | 38 => some ti38
  | 39 => some ti39
  | 40 => some ti40
  | 41 => some ti41
  | 42 => some ti42
  | 43 => some ti43
  | 44 => some ti44
  | 45 => some ti45
  | 46 => some ti46
  | _ => none
theorem ttok_0 : TabOk Tryz.prog TT_0 := by
  intro t i h
  unfold TT_0 at h
  split at h
  · injection h with h; subst h; exact tok1
  · injection h with h; subst h; exact tok2
  · injection h with h; subst h; exact tok3
  · injection h with h; subst h; exact tok4
  · injection h with h; subst h; exact tok5
  · injection h with h; subst h; exact tok6
  · injection h with h; subst h; exact tok7
  · injection h with h; subst h; exact tok8
  · injection h with h; subst h; exact tok9
  · injection h with h; subst h; exact tok10
  · injection h with h; subst h; exact tok11
  · injection h with h; subst h; exact tok12
  · injection h with h; subst h; exact tok13
  · injection h with h; subst h; exact tok14
  · injection h with h; subst h; exact tok18
  · injection h with h; subst h; exact tok19
  · injection h with h; subst h; exact tok21
  · injection h with h; subst h; exact tok22
  · injection h with h; subst h; exact tok23
  · injection h with h; subst h; exact tok24
  · injection h with h; subst h; exact tok25
  · injection h with h; subst h; exact tok26
  · injection h with h; subst h; exact tok28
  · injection h with h; subst h; exact tok29
  · injection h with h; subst h; exact tok30
  · injection h with h; subst h; exact tok32
  · injection h with h; subst h; exact tok33
  · injection h with h; subst h; exact tok34
  · injection h with h; subst h; exact tok35
  · injection h with h; subst h; exact tok36
  · injection h with h; subst h; exact tok37
  · injection h with h; subst h; exact tok38
  · injection h with h; subst h; exact tok39
  · injection h with h; subst h; exact tok40
  · injection h with h; subst h; exact tok41
  · injection h with h; subst h; exact tok42
  · injection h with h; subst h; exact tok43
  · injection h with h; subst h; exact tok44
  · injection h with h; subst h; exact tok45
  · injection h with h; subst h; exact tok46
  · cases h
def TT_1 : Tab := fun t => match t with
  | 47 => some ti47
  | 48 => some ti48
  | 49 => some ti49
  | 50 => some ti50
  | 51 => some ti51
  | 52 => some ti52
  | 53 => some ti53
  | 54 => some ti54
  | 55 => some ti55
  | 56 => some ti56
  | 57 => some ti57
  | 58 => some ti58
  | 60 => some ti60
  | 61 => some ti61
  | 62 => some ti62
  | 63 => some ti63
  | 64 => some ti64
  | 65 => some ti65
  | 66 => some ti66
  | 67 => some ti67
  | 68 => some ti68
  | 69 => some ti69
  | 73 => some ti73
  | 75 => some ti75
  | 77 => some ti77
  | 78 => some ti78
  | 79 => some ti79
  | 80 => some ti80
  | 81 => some ti81
  | 82 => some ti82
  | 83 => some ti83
  | 84 => some ti84
  | 85 => some ti85
  | 86 => some ti86
  | 87 => some ti87
  | 88 => some ti88
  | 89 => some ti89
  | 90 => some ti90
  | 91 => some ti91
  | 92 => some ti92
  | _ => none
theorem ttok_1 : TabOk Tryz.prog TT_1 := by
  intro t i h
  unfold TT_1 at h
  split at h
  · injection h with h; subst h; exact tok47
  · injection h with h; subst h; exact tok48
  · injection h with h; subst h; exact tok49
  · injection h with h; subst h; exact tok50
  · injection h with h; subst h; exact tok51
  · injection h with h; subst h; exact tok52
  · injection h with h; subst h; exact tok53
  · injection h with h; subst h; exact tok54
  · injection h with h; subst h; exact tok55
  · injection h with h; subst h; exact tok56
  · injection h with h; subst h; exact tok57
  · injection h with h; subst h; exact tok58
  · injection h with h; subst h; exact tok60
  · injection h with h; subst h; exact tok61
  · injection h with h; subst h; exact tok62
  · injection h with h; subst h; exact tok63
  · injection h with h; subst h; exact tok64
  · injection h with h; subst h; exact tok65
  · injection h with h; subst h; exact tok66
  · injection h with h; subst h; exact tok67
  · injection h with h; subst h; exact tok68
  · injection h with h; subst h; exact tok69
  · injection h with h; subst h; exact tok73
  · injection h with h; subst h; exact tok75
  · injection h with h; subst h; exact tok77
  · injection h with h; subst h; exact tok78
  · injection h with h; subst h; exact tok79
  · injection h with h; subst h; exact tok80
  · injection h with h; subst h; exact tok81
  · injection h with h; subst h; exact tok82
  · injection h with h; subst h; exact tok83
  · injection h with h; subst h; exact tok84
  · injection h with h; subst h; exact tok85
  · injection h with h; subst h; exact tok86
  · injection h with h; subst h; exact tok87
  · injection h with h; subst h; exact tok88
  · injection h with h; subst h; exact tok89
  · injection h with h; subst h; exact tok90
  · injection h with h; subst h; exact tok91
  · injection h with h; subst h; exact tok92
  · cases h
def TT_2 : Tab := fun t => match t with
  | 93 => some ti93
  | 94 => some ti94
  | 95 => some ti95
  | 96 => some ti96
  | 97 => some ti97
  | 98 => some ti98
  | 99 => some ti99
  | 100 => some ti100
  | 101 => some ti101
  | 102 => some ti102
  | 103 => some ti103
  | 104 => some ti104
  | 105 => some ti105
  | 106 => some ti106
  | 107 => some ti107
  | 108 => some ti108
  | 109 => some ti109
  | 110 => some ti110
  | 112 => some ti112
  | 113 => some ti113
  | 114 => some ti114
  | 115 => some ti115
  | 116 => some ti116
  | 117 => some ti117
  | 119 => some ti119
  | 121 => some ti121
  | 122 => some ti122
  | 123 => some ti123
  | 124 => some ti124
  | 125 => some ti125
  | 127 => some ti127
  | 128 => some ti128
  | 129 => some ti129
  | 130 => some ti130
  | 132 => some ti132
  | 133 => some ti133
  | 134 => some ti134
  | 135 => some ti135
  | 136 => some ti136
  | 137 => some ti137
  | _ => none
theorem ttok_2 : TabOk Tryz.prog TT_2 := by
  intro t i h
  unfold TT_2 at h
  split at h
  · injection h with h; subst h; exact tok93
  · injection h with h; subst h; exact tok94
  · injection h with h; subst h; exact tok95
  · injection h with h; subst h; exact tok96
  · injection h with h; subst h; exact tok97
  · injection h with h; subst h; exact tok98
  · injection h with h; subst h; exact tok99
  · injection h with h; subst h; exact tok100
  · injection h with h; subst h; exact tok101
  · injection h with h; subst h; exact tok102
  · injection h with h; subst h; exact tok103
  · injection h with h; subst h; exact tok104
  · injection h with h; subst h; exact tok105
  · injection h with h; subst h; exact tok106
  · injection h with h; subst h; exact tok107
  · injection h with h; subst h; exact tok108
  · injection h with h; subst h; exact tok109
  · injection h with h; subst h; exact tok110
  · injection h with h; subst h; exact tok112
  · injection h with h; subst h; exact tok113
  · injection h with h; subst h; exact tok114
  · injection h with h; subst h; exact tok115
  · injection h with h; subst h; exact tok116
  · injection h with h; subst h; exact tok117
  · injection h with h; subst h; exact tok119
  · injection h with h; subst h; exact tok121
  · injection h with h; subst h; exact tok122
  · injection h with h; subst h; exact tok123
  · injection h with h; subst h; exact tok124
  · injection h with h; subst h; exact tok125
  · injection h with h; subst h; exact tok127
  · injection h with h; subst h; exact tok128
  · injection h with h; subst h; exact tok129
  · injection h with h; subst h; exact tok130
  · injection h with h; subst h; exact tok132
  · injection h with h; subst h; exact tok133
  · injection h with h; subst h; exact tok134
  · injection h with h; subst h; exact tok135
  · injection h with h; subst h; exact tok136
  · injection h with h; subst h; exact tok137
  · cases h
def TT_3 : Tab := fun t => match t with
  | 138 => some ti138
  | 139 => some ti139
  | 140 => some ti140
  | 141 => some ti141
  | 143 => some ti143
  | 145 => some ti145
  | 146 => some ti146
  | 148 => some ti148
  | 149 => some ti149
  | 150 => some ti150
  | 151 => some ti151
  | 152 => some ti152
  | 153 => some ti153
  | 154 => some ti154
  | 155 => some ti155
  | 156 => some ti156
  | 158 => some ti158
  | 159 => some ti159
  | 160 => some ti160
  | 161 => some ti161
  | 162 => some ti162
  | 163 => some ti163
  | 165 => some ti165
  | 166 => some ti166
  | 167 => some ti167
  | 168 => some ti168
  | 170 => some ti170
  | 171 => some ti171
  | 172 => some ti172
  | 174 => some ti174
  | 175 => some ti175
  | 178 => some ti178
  | 179 => some ti179
  | 180 => some ti180
  | 181 => some ti181
  | 182 => some ti182
  | 183 => some ti183
  | 184 => some ti184
  | 185 => some ti185
  | 186 => some ti186
  | _ => none
theorem ttok_3 : TabOk Tryz.prog TT_3 := by
  intro t i h
  unfold TT_3 at h
  split at h
  · injection h with h; subst h; exact tok138
  · injection h with h; subst h; exact tok139
  · injection h with h; subst h; exact tok140
  · injection h with h; subst h; exact tok141
  · injection h with h; subst h; exact tok143
  · injection h with h; subst h; exact tok145
  · injection h with h; subst h; exact tok146
  · injection h with h; subst h; exact tok148
  · injection h with h; subst h; exact tok149
  · injection h with h; subst h; exact tok150
  · injection h with h; subst h; exact tok151
  · injection h with h; subst h; exact tok152
  · injection h with h; subst h; exact tok153
  · injection h with h; subst h; exact tok154
  · injection h with h; subst h; exact tok155
  · injection h with h; subst h; exact tok156
  · injection h with h; subst h; exact tok158
  · injection h with h; subst h; exact tok159
  · injection h with h; subst h; exact tok160
  · injection h with h; subst h; exact tok161
  · injection h with h; subst h; exact tok162
  · injection h with h; subst h; exact tok163
  · injection h with h; subst h; exact tok165
  · injection h with h; subst h; exact tok166
  · injection h with h; subst h; exact tok167
  · injection h with h; subst h; exact tok168
  · injection h with h; subst h; exact tok170
  · injection h with h; subst h; exact tok171
  · injection h with h; subst h; exact tok172
  · injection h with h; subst h; exact tok174
  · injection h with h; subst h; exact tok175
  · injection h with h; subst h; exact tok178
  · injection h with h; subst h; exact tok179
  · injection h with h; subst h; exact tok180
  · injection h with h; subst h; exact tok181
  · injection h with h; subst h; exact tok182
  · injection h with h; subst h; exact tok183
  · injection h with h; subst h; exact tok184
  · injection h with h; subst h; exact tok185
  · injection h with h; subst h; exact tok186
  · cases h
def TT_4 : Tab := fun t => match t with
  | 187 => some ti187
  | 189 => some ti189
  | 190 => some ti190
  | 191 => some ti191
  | 192 => some ti192
  | 193 => some ti193
  | 194 => some ti194
  | 195 => some ti195
  | 196 => some ti196
  | 197 => some ti197
  | 198 => some ti198
  | 199 => some ti199
  | 200 => some ti200
  | 201 => some ti201
  | 202 => some ti202
  | 203 => some ti203
  | 204 => some ti204
  | 205 => some ti205
  | 206 => some ti206
  | 207 => some ti207
  | 208 => some ti208
  | 209 => some ti209
  | 210 => some ti210
  | 211 => some ti211
  | 212 => some ti212
  | 213 => some ti213
  | _ => none
theorem ttok_4 : TabOk Tryz.prog TT_4 := by
  intro t i h
  unfold TT_4 at h
  split at h
  · injection h with h; subst h; exact tok187
  · injection h with h; subst h; exact tok189
  · injection h with h; subst h; exact tok190
  · injection h with h; subst h; exact tok191
  · injection h with h; subst h; exact tok192
  · injection h with h; subst h; exact tok193
  · injection h with h; subst h; exact tok194
  · injection h with h; subst h; exact tok195
  · injection h with h; subst h; exact tok196
  · injection h with h; subst h; exact tok197
  · injection h with h; subst h; exact tok198
  · injection h with h; subst h; exact tok199
  · injection h with h; subst h; exact tok200
  · injection h with h; subst h; exact tok201
  · injection h with h; subst h; exact tok202
  · injection h with h; subst h; exact tok203
  · injection h with h; subst h; exact tok204
  · injection h with h; subst h; exact tok205
  · injection h with h; subst h; exact tok206
  · injection h with h; subst h; exact tok207
  · injection h with h; subst h; exact tok208
  · injection h with h; subst h; exact tok209
  · injection h with h; subst h; exact tok210
  · injection h with h; subst h; exact tok211
  · injection h with h; subst h; exact tok212
  · injection h with h; subst h; exact tok213
  · cases h
def tjoin (a b : Tab) : Tab := fun t => match a t with
  | some i => some i
  | none => b t
theorem tjoin_ok {P : Program} {a b : Tab} (ha : TabOk P a) (hb : TabOk P b) : TabOk P (tjoin a b) := by
  intro t i h
  unfold tjoin at h
  split at h
  · rename_i j hj
    injection h with h; subst h
    exact ha t _ hj
  · exact hb t i h
def TT : Tab := (tjoin TT_0 (tjoin TT_1 (tjoin TT_2 (tjoin TT_3 TT_4))))
theorem ttok : TabOk Tryz.prog TT := (tjoin_ok ttok_0 (tjoin_ok ttok_1 (tjoin_ok ttok_2 (tjoin_ok ttok_3 ttok_4))))
theorem tt1 : TT 1 = some ti1 := rfl
theorem tt2 : TT 2 = some ti2 := rfl
theorem tt3 : TT 3 = some ti3 := rfl
theorem tt4 : TT 4 = some ti4 := rfl
theorem tt5 : TT 5 = some ti5 := rfl
theorem tt6 : TT 6 = some ti6 := rfl
theorem tt7 : TT 7 = some ti7 := rfl
theorem tt8 : TT 8 = some ti8 := rfl
theorem tt9 : TT 9 = some ti9 := rfl
theorem tt10 : TT 10 = some ti10 := rfl
theorem tt11 : TT 11 = some ti11 := rfl
theorem tt12 : TT 12 = some ti12 := rfl
theorem tt13 : TT 13 = some ti13 := rfl
theorem tt14 : TT 14 = some ti14 := rfl
theorem tt18 : TT 18 = some ti18 := rfl
theorem tt19 : TT 19 = some ti19 := rfl
theorem tt21 : TT 21 = some ti21 := rfl
theorem tt22 : TT 22 = some ti22 := rfl
theorem tt23 : TT 23 = some ti23 := rfl
theorem tt24 : TT 24 = some ti24 := rfl
theorem tt25 : TT 25 = some ti25 := rfl
theorem tt26 : TT 26 = some ti26 := rfl
theorem tt28 : TT 28 = some ti28 := rfl
theorem tt29 : TT 29 = some ti29 := rfl
theorem tt30 : TT 30 = some ti30 := rfl
theorem tt32 : TT 32 = some ti32 := rfl
theorem tt33 : TT 33 = some ti33 := rfl
theorem tt34 : TT 34 = some ti34 := rfl
theorem tt35 : TT 35 = some ti35 := rfl
theorem tt36 : TT 36 = some ti36 := rfl
theorem tt37 : TT 37 = some ti37 := rfl
theorem tt38 : TT 38 = some ti38 := rfl
theorem tt39 : TT 39 = some ti39 := rfl
theorem tt40 : TT 40 = some ti40 := rfl
theorem tt41 : TT 41 = some ti41 := rfl
theorem tt42 : TT 42 = some ti42 := rfl
theorem tt43 : TT 43 = some ti43 := rfl
theorem tt44 : TT 44 = some ti44 := rfl
theorem tt45 : TT 45 = some ti45 := rfl
theorem tt46 : TT 46 = some ti46 := rfl
theorem tt47 : TT 47 = some ti47 := rfl
theorem tt48 : TT 48 = some ti48 := rfl
theorem tt49 : TT 49 = some ti49 := rfl
theorem tt50 : TT 50 = some ti50 := rfl
theorem tt51 : TT 51 = some ti51 := rfl
theorem tt52 : TT 52 = some ti52 := rfl
theorem tt53 : TT 53 = some ti53 := rfl
theorem tt54 : TT 54 = some ti54 := rfl
theorem tt55 : TT 55 = some ti55 := rfl
theorem tt56 : TT 56 = some ti56 := rfl
theorem tt57 : TT 57 = some ti57 := rfl
theorem tt58 : TT 58 = some ti58 := rfl
theorem tt60 : TT 60 = some ti60 := rfl
theorem tt61 : TT 61 = some ti61 := rfl
theorem tt62 : TT 62 = some ti62 := rfl
theorem tt63 : TT 63 = some ti63 := rfl
theorem tt64 : TT 64 = some ti64 := rfl
theorem tt65 : TT 65 = some ti65 := rfl
theorem tt66 : TT 66 = some ti66 := rfl
theorem tt67 : TT 67 = some ti67 := rfl
theorem tt68 : TT 68 = some ti68 := rfl
theorem tt69 : TT 69 = some ti69 := rfl
theorem tt73 : TT 73 = some ti73 := rfl
theorem tt75 : TT 75 = some ti75 := rfl
theorem tt77 : TT 77 = some ti77 := rfl
theorem tt78 : TT 78 = some ti78 := rfl
theorem tt79 : TT 79 = some ti79 := rfl
theorem tt80 : TT 80 = some ti80 := rfl
theorem tt81 : TT 81 = some ti81 := rfl
theorem tt82 : TT 82 = some ti82 := rfl
theorem tt83 : TT 83 = some ti83 := rfl
theorem tt84 : TT 84 = some ti84 := rfl
theorem tt85 : TT 85 = some ti85 := rfl
theorem tt86 : TT 86 = some ti86 := rfl
theorem tt87 : TT 87 = some ti87 := rfl
theorem tt88 : TT 88 = some ti88 := rfl
theorem tt89 : TT 89 = some ti89 := rfl
theorem tt90 : TT 90 = some ti90 := rfl
theorem tt91 : TT 91 = some ti91 := rfl
theorem tt92 : TT 92 = some ti92 := rfl
theorem tt93 : TT 93 = some ti93 := rfl
theorem tt94 : TT 94 = some ti94 := rfl
theorem tt95 : TT 95 = some ti95 := rfl
theorem tt96 : TT 96 = some ti96 := rfl
theorem tt97 : TT 97 = some ti97 := rfl
theorem tt98 : TT 98 = some ti98 := rfl
theorem tt99 : TT 99 = some ti99 := rfl
theorem tt100 : TT 100 = some ti100 := rfl
theorem tt101 : TT 101 = some ti101 := rfl
theorem tt102 : TT 102 = some ti102 := rfl
theorem tt103 : TT 103 = some ti103 := rfl
theorem tt104 : TT 104 = some ti104 := rfl
theorem tt105 : TT 105 = some ti105 := rfl
theorem tt106 : TT 106 = some ti106 := rfl
theorem tt107 : TT 107 = some ti107 := rfl
theorem tt108 : TT 108 = some ti108 := rfl
theorem tt109 : TT 109 = some ti109 := rfl
theorem tt110 : TT 110 = some ti110 := rfl
theorem tt112 : TT 112 = some ti112 := rfl
theorem tt113 : TT 113 = some ti113 := rfl
theorem tt114 : TT 114 = some ti114 := rfl
theorem tt115 : TT 115 = some ti115 := rfl
theorem tt116 : TT 116 = some ti116 := rfl
theorem tt117 : TT 117 = some ti117 := rfl
theorem tt119 : TT 119 = some ti119 := rfl
theorem tt121 : TT 121 = some ti121 := rfl
theorem tt122 : TT 122 = some ti122 := rfl
theorem tt123 : TT 123 = some ti123 := rfl
theorem tt124 : TT 124 = some ti124 := rfl
theorem tt125 : TT 125 = some ti125 := rfl
theorem tt127 : TT 127 = some ti127 := rfl
theorem tt128 : TT 128 = some ti128 := rfl
theorem tt129 : TT 129 = some ti129 := rfl
theorem tt130 : TT 130 = some ti130 := rfl
theorem tt132 : TT 132 = some ti132 := rfl
theorem tt133 : TT 133 = some ti133 := rfl
theorem tt134 : TT 134 = some ti134 := rfl
theorem tt135 : TT 135 = some ti135 := rfl
theorem tt136 : TT 136 = some ti136 := rfl
theorem tt137 : TT 137 = some ti137 := rfl
theorem tt138 : TT 138 = some ti138 := rfl
theorem tt139 : TT 139 = some ti139 := rfl
theorem tt140 : TT 140 = some ti140 := rfl
theorem tt141 : TT 141 = some ti141 := rfl
theorem tt143 : TT 143 = some ti143 := rfl
theorem tt145 : TT 145 = some ti145 := rfl
theorem tt146 : TT 146 = some ti146 := rfl
theorem tt148 : TT 148 = some ti148 := rfl
theorem tt149 : TT 149 = some ti149 := rfl
theorem tt150 : TT 150 = some ti150 := rfl
theorem tt151 : TT 151 = some ti151 := rfl
theorem tt152 : TT 152 = some ti152 := rfl
theorem tt153 : TT 153 = some ti153 := rfl
theorem tt154 : TT 154 = some ti154 := rfl
theorem tt155 : TT 155 = some ti155 := rfl
theorem tt156 : TT 156 = some ti156 := rfl
theorem tt158 : TT 158 = some ti158 := rfl
theorem tt159 : TT 159 = some ti159 := rfl
theorem tt160 : TT 160 = some ti160 := rfl
theorem tt161 : TT 161 = some ti161 := rfl
theorem tt162 : TT 162 = some ti162 := rfl
theorem tt163 : TT 163 = some ti163 := rfl
theorem tt165 : TT 165 = some ti165 := rfl
theorem tt166 : TT 166 = some ti166 := rfl
theorem tt167 : TT 167 = some ti167 := rfl
theorem tt168 : TT 168 = some ti168 := rfl
theorem tt170 : TT 170 = some ti170 := rfl
theorem tt171 : TT 171 = some ti171 := rfl
theorem tt172 : TT 172 = some ti172 := rfl
theorem tt174 : TT 174 = some ti174 := rfl
theorem tt175 : TT 175 = some ti175 := rfl
theorem tt178 : TT 178 = some ti178 := rfl
theorem tt179 : TT 179 = some ti179 := rfl
theorem tt180 : TT 180 = some ti180 := rfl
theorem tt181 : TT 181 = some ti181 := rfl
theorem tt182 : TT 182 = some ti182 := rfl
theorem tt183 : TT 183 = some ti183 := rfl
theorem tt184 : TT 184 = some ti184 := rfl
theorem tt185 : TT 185 = some ti185 := rfl
theorem tt186 : TT 186 = some ti186 := rfl
theorem tt187 : TT 187 = some ti187 := rfl
theorem tt189 : TT 189 = some ti189 := rfl
theorem tt190 : TT 190 = some ti190 := rfl
theorem tt191 : TT 191 = some ti191 := rfl
theorem tt192 : TT 192 = some ti192 := rfl
theorem tt193 : TT 193 = some ti193 := rfl
theorem tt194 : TT 194 = some ti194 := rfl
theorem tt195 : TT 195 = some ti195 := rfl
theorem tt196 : TT 196 = some ti196 := rfl
theorem tt197 : TT 197 = some ti197 := rfl
theorem tt198 : TT 198 = some ti198 := rfl
theorem tt199 : TT 199 = some ti199 := rfl
theorem tt200 : TT 200 = some ti200 := rfl
theorem tt201 : TT 201 = some ti201 := rfl
theorem tt202 : TT 202 = some ti202 := rfl
theorem tt203 : TT 203 = some ti203 := rfl
theorem tt204 : TT 204 = some ti204 := rfl
theorem tt205 : TT 205 = some ti205 := rfl
theorem tt206 : TT 206 = some ti206 := rfl
theorem tt207 : TT 207 = some ti207 := rfl
theorem tt208 : TT 208 = some ti208 := rfl
theorem tt209 : TT 209 = some ti209 := rfl
theorem tt210 : TT 210 = some ti210 := rfl
theorem tt211 : TT 211 = some ti211 := rfl
theorem tt212 : TT 212 = some ti212 := rfl
theorem tt213 : TT 213 = some ti213 := rfl
attribute [go_sem] tt1 ti1 tt2 ti2 tt3 ti3 tt4 ti4 tt5 ti5 tt6 ti6 tt7 ti7 tt8 ti8 tt9 ti9 tt10 ti10 tt11 ti11 tt12 ti12 tt13 ti13 tt14 ti14 tt18 ti18 tt19 ti19 tt21 ti21 tt22 ti22 tt23 ti23 tt24 ti24 tt25 ti25 tt26 ti26 tt28 ti28 tt29 ti29 tt30 ti30 tt32 ti32 tt33 ti33 tt34 ti34 tt35 ti35 tt36 ti36 tt37 ti37 tt38 ti38 tt39 ti39 tt40 ti40 tt41 ti41 tt42 ti42 tt43 ti43 tt44 ti44 tt45 ti45 tt46 ti46 tt47 ti47 tt48 ti48 tt49 ti49 tt50 ti50 tt51 ti51 tt52 ti52 tt53 ti53 tt54 ti54 tt55 ti55 tt56 ti56 tt57 ti57 tt58 ti58 tt60 ti60 tt61 ti61 tt62 ti62 tt63 ti63 tt64 ti64 tt65 ti65 tt66 ti66 tt67 ti67 tt68 ti68 tt69 ti69 tt73 ti73 tt75 ti75 tt77 ti77 tt78 ti78 tt79 ti79 tt80 ti80 tt81 ti81 tt82 ti82 tt83 ti83 tt84 ti84 tt85 ti85 tt86 ti86 tt87 ti87 tt88 ti88 tt89 ti89 tt90 ti90 tt91 ti91 tt92 ti92 tt93 ti93 tt94 ti94 tt95 ti95 tt96 ti96 tt97 ti97 tt98 ti98 tt99 ti99 tt100 ti100 tt101 ti101 tt102 ti102 tt103 ti103 tt104 ti104 tt105 ti105 tt106 ti106 tt107 ti107 tt108 ti108 tt109 ti109 tt110 ti110 tt112 ti112 tt113 ti113 tt114 ti114 tt115 ti115 tt116 ti116 tt117 ti117 tt119 ti119 tt121 ti121 tt122 ti122 tt123 ti123 tt124 ti124 tt125 ti125 tt127 ti127 tt128 ti128 tt129 ti129 tt130 ti130 tt132 ti132 tt133 ti133 tt134 ti134 tt135 ti135 tt136 ti136 tt137 ti137 tt138 ti138 tt139 ti139 tt140 ti140 tt141 ti141 tt143 ti143 tt145 ti145 tt146 ti146 tt148 ti148 tt149 ti149 tt150 ti150 tt151 ti151 tt152 ti152 tt153 ti153 tt154 ti154 tt155 ti155 tt156 ti156 tt158 ti158 tt159 ti159 tt160 ti160 tt161 ti161 tt162 ti162 tt163 ti163 tt165 ti165 tt166 ti166 tt167 ti167 tt168 ti168 tt170 ti170 tt171 ti171 tt172 ti172 tt174 ti174 tt175 ti175 tt178 ti178 tt179 ti179 tt180 ti180 tt181 ti181 tt182 ti182 tt183 ti183 tt184 ti184 tt185 ti185 tt186 ti186 tt187 ti187 tt189 ti189 tt190 ti190 tt191 ti191 tt192 ti192 tt193 ti193 tt194 ti194 tt195 ti195 tt196 ti196 tt197 ti197 tt198 ti198 tt199 ti199 tt200 ti200 tt201 ti201 tt202 ti202 tt203 ti203 tt204 ti204 tt205 ti205 tt206 ti206 tt207 ti207 tt208 ti208 tt209 ti209 tt210 ti210 tt211 ti211 tt212 ti212 tt213 ti213
theorem hmix : Tryz.prog.follows .mixedOrders = true := by decide +kernel
end Go.Proofs.YtkafbgdokgfjmaaGreatDoor
