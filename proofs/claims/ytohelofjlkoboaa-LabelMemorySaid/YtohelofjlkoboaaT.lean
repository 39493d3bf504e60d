/- The table of types, by program (gentab.py). -/
import Derived.Test.YtohelofjlkoboaaProg
import Derived.Test.YtohelofjlkoboaaA3
namespace Go.Proofs.Ytohelofjlkoboaa
open Go.RowKit
set_option maxHeartbeats 8000000
def ti1 : TI := { zero := [.nilFunc], size := 1, bytes := 8, td := {  } }
theorem tok1 : TIok Try.prog 1 ti1 := ⟨by kernel_rfl, by kernel_rfl, by kernel_rfl⟩
def ti2 : TI := { zero := [.int .i64 0], size := 1, bytes := 8, td := { ik := some .i64 } }
theorem tok2 : TIok Try.prog 2 ti2 := ⟨by kernel_rfl, by kernel_rfl, by kernel_rfl⟩
def ti3 : TI := { zero := [.int .i64 0], size := 1, bytes := 8, td := { ik := some .i64 } }
theorem tok3 : TIok Try.prog 3 ti3 := ⟨by kernel_rfl, by kernel_rfl, by kernel_rfl⟩
def ti4 : TI := { zero := [.bool false], size := 1, bytes := 1, td := { bl := true } }
theorem tok4 : TIok Try.prog 4 ti4 := ⟨by kernel_rfl, by kernel_rfl, by kernel_rfl⟩
def ti5 : TI := { zero := [.int .u8 0], size := 1, bytes := 1, td := { ik := some .u8 } }
theorem tok5 : TIok Try.prog 5 ti5 := ⟨by kernel_rfl, by kernel_rfl, by kernel_rfl⟩
def ti6 : TI := { zero := [.int .u8 0], size := 1, bytes := 1, td := { ik := some .u8 } }
theorem tok6 : TIok Try.prog 6 ti6 := ⟨by kernel_rfl, by kernel_rfl, by kernel_rfl⟩
def ti7 : TI := { zero := [.int .i64 0, .int .i64 0, .bool false, .int .u8 0], size := 4, bytes := 24, td := { agg := true, struct := true, flds := [(0, some 1, some false), (1, some 1, some false), (2, some 1, some false), (3, some 1, some false)] }, eqs := some [(0, 0), (1, 0), (2, 2), (3, 0)] }
theorem tok7 : TIok Try.prog 7 ti7 := ⟨by kernel_rfl, by kernel_rfl, by kernel_rfl⟩
def ti8 : TI := { zero := [.int .i64 0, .int .i64 0, .bool false, .int .u8 0], size := 4, bytes := 24, td := { agg := true, struct := true, flds := [(0, some 1, some false), (1, some 1, some false), (2, some 1, some false), (3, some 1, some false)] }, eqs := some [(0, 0), (1, 0), (2, 2), (3, 0)] }
theorem tok8 : TIok Try.prog 8 ti8 := ⟨by kernel_rfl, by kernel_rfl, by kernel_rfl⟩
def ti9 : TI := { zero := [.string ⟨#[]⟩], size := 1, bytes := 16, td := { str := true } }
theorem tok9 : TIok Try.prog 9 ti9 := ⟨by kernel_rfl, by kernel_rfl, by kernel_rfl⟩
def ti10 : TI := { zero := [.string ⟨#[]⟩], size := 1, bytes := 16, td := { str := true } }
theorem tok10 : TIok Try.prog 10 ti10 := ⟨by kernel_rfl, by kernel_rfl, by kernel_rfl⟩
def ti11 : TI := { zero := [.string ⟨#[]⟩], size := 1, bytes := 16, td := { str := true } }
theorem tok11 : TIok Try.prog 11 ti11 := ⟨by kernel_rfl, by kernel_rfl, by kernel_rfl⟩
def ti12 : TI := { zero := [.int .u64 0], size := 1, bytes := 8, td := { ik := some .u64 } }
theorem tok12 : TIok Try.prog 12 ti12 := ⟨by kernel_rfl, by kernel_rfl, by kernel_rfl⟩
def ti13 : TI := { zero := [.string ⟨#[]⟩, .int .u64 0], size := 2, bytes := 24, td := { agg := true, struct := true, flds := [(0, some 1, some false), (1, some 1, some false)] } }
theorem tok13 : TIok Try.prog 13 ti13 := ⟨by kernel_rfl, by kernel_rfl, by kernel_rfl⟩
def ti14 : TI := { zero := [.string ⟨#[]⟩, .int .u64 0], size := 2, bytes := 24, td := { agg := true, struct := true, flds := [(0, some 1, some false), (1, some 1, some false)] } }
theorem tok14 : TIok Try.prog 14 ti14 := ⟨by kernel_rfl, by kernel_rfl, by kernel_rfl⟩
def ti18 : TI := { zero := [.pointer none], size := 1, bytes := 8, td := { agg := true, struct := true, flds := [(0, some 1, some false)] } }
theorem tok18 : TIok Try.prog 18 ti18 := ⟨by kernel_rfl, by kernel_rfl, by kernel_rfl⟩
def ti19 : TI := { zero := [.pointer none], size := 1, bytes := 8, td := { agg := true, struct := true, flds := [(0, some 1, some false)] } }
theorem tok19 : TIok Try.prog 19 ti19 := ⟨by kernel_rfl, by kernel_rfl, by kernel_rfl⟩
def ti21 : TI := { zero := [.int .i32 0], size := 1, bytes := 4, td := { ik := some .i32 } }
theorem tok21 : TIok Try.prog 21 ti21 := ⟨by kernel_rfl, by kernel_rfl, by kernel_rfl⟩
def ti22 : TI := { zero := [.int .i64 0, .int .i64 0, .int .i64 0, .int .i64 0], size := 4, bytes := 32, td := { agg := true, arr := some (4, 3) } }
theorem tok22 : TIok Try.prog 22 ti22 := ⟨by kernel_rfl, by kernel_rfl, by kernel_rfl⟩
def ti23 : TI := { zero := [.slice none 0 0], size := 1, bytes := 24, td := { elem := some 3 } }
theorem tok23 : TIok Try.prog 23 ti23 := ⟨by kernel_rfl, by kernel_rfl, by kernel_rfl⟩
def ti24 : TI := { zero := [.nilFunc], size := 1, bytes := 8, td := {  } }
theorem tok24 : TIok Try.prog 24 ti24 := ⟨by kernel_rfl, by kernel_rfl, by kernel_rfl⟩
def ti25 : TI := { zero := [.int .i64 0, .slice none 0 0, .int .i64 0, .int .i64 0], size := 4, bytes := 48, td := { agg := true, struct := true, flds := [(0, some 1, some false), (1, some 1, some false), (2, some 1, some false), (3, some 1, some false)] } }
theorem tok25 : TIok Try.prog 25 ti25 := ⟨by kernel_rfl, by kernel_rfl, by kernel_rfl⟩
def ti26 : TI := { zero := [.int .i64 0, .slice none 0 0, .int .i64 0, .int .i64 0], size := 4, bytes := 48, td := { agg := true, struct := true, flds := [(0, some 1, some false), (1, some 1, some false), (2, some 1, some false), (3, some 1, some false)] } }
theorem tok26 : TIok Try.prog 26 ti26 := ⟨by kernel_rfl, by kernel_rfl, by kernel_rfl⟩
def ti27 : TI := { zero := [.nilFunc], size := 1, bytes := 8, td := {  } }
theorem tok27 : TIok Try.prog 27 ti27 := ⟨by kernel_rfl, by kernel_rfl, by kernel_rfl⟩
def ti28 : TI := { zero := [.nilFunc], size := 1, bytes := 8, td := {  } }
theorem tok28 : TIok Try.prog 28 ti28 := ⟨by kernel_rfl, by kernel_rfl, by kernel_rfl⟩
def ti29 : TI := { zero := [.slice none 0 0], size := 1, bytes := 24, td := { elem := some 26 } }
theorem tok29 : TIok Try.prog 29 ti29 := ⟨by kernel_rfl, by kernel_rfl, by kernel_rfl⟩
def ti30 : TI := { zero := [.nilFunc], size := 1, bytes := 8, td := {  } }
theorem tok30 : TIok Try.prog 30 ti30 := ⟨by kernel_rfl, by kernel_rfl, by kernel_rfl⟩
def ti31 : TI := { zero := [.nilFunc], size := 1, bytes := 8, td := {  } }
theorem tok31 : TIok Try.prog 31 ti31 := ⟨by kernel_rfl, by kernel_rfl, by kernel_rfl⟩
def ti32 : TI := { zero := [.nilFunc], size := 1, bytes := 8, td := {  } }
theorem tok32 : TIok Try.prog 32 ti32 := ⟨by kernel_rfl, by kernel_rfl, by kernel_rfl⟩
def ti33 : TI := { zero := [.nilFunc], size := 1, bytes := 8, td := {  } }
theorem tok33 : TIok Try.prog 33 ti33 := ⟨by kernel_rfl, by kernel_rfl, by kernel_rfl⟩
def ti34 : TI := { zero := [.int .i64 0, .int .i64 0, .int .i64 0], size := 3, bytes := 24, td := { agg := true, arr := some (3, 3) } }
theorem tok34 : TIok Try.prog 34 ti34 := ⟨by kernel_rfl, by kernel_rfl, by kernel_rfl⟩
def ti35 : TI := { zero := [.slice none 0 0], size := 1, bytes := 24, td := { elem := some 23 } }
theorem tok35 : TIok Try.prog 35 ti35 := ⟨by kernel_rfl, by kernel_rfl, by kernel_rfl⟩
def ti36 : TI := { zero := [.nilFunc], size := 1, bytes := 8, td := {  } }
theorem tok36 : TIok Try.prog 36 ti36 := ⟨by kernel_rfl, by kernel_rfl, by kernel_rfl⟩
def ti37 : TI := { zero := [.nilFunc], size := 1, bytes := 8, td := {  } }
theorem tok37 : TIok Try.prog 37 ti37 := ⟨by kernel_rfl, by kernel_rfl, by kernel_rfl⟩
def ti38 : TI := { zero := [.nilFunc], size := 1, bytes := 8, td := {  } }
theorem tok38 : TIok Try.prog 38 ti38 := ⟨by kernel_rfl, by kernel_rfl, by kernel_rfl⟩
def ti39 : TI := { zero := [.nilFunc], size := 1, bytes := 8, td := {  } }
theorem tok39 : TIok Try.prog 39 ti39 := ⟨by kernel_rfl, by kernel_rfl, by kernel_rfl⟩
def ti40 : TI := { zero := [.nilFunc], size := 1, bytes := 8, td := {  } }
theorem tok40 : TIok Try.prog 40 ti40 := ⟨by kernel_rfl, by kernel_rfl, by kernel_rfl⟩
def ti41 : TI := { zero := [.nilFunc], size := 1, bytes := 8, td := {  } }
theorem tok41 : TIok Try.prog 41 ti41 := ⟨by kernel_rfl, by kernel_rfl, by kernel_rfl⟩
def ti42 : TI := { zero := [.nilFunc], size := 1, bytes := 8, td := {  } }
theorem tok42 : TIok Try.prog 42 ti42 := ⟨by kernel_rfl, by kernel_rfl, by kernel_rfl⟩
def ti43 : TI := { zero := [.nilFunc], size := 1, bytes := 8, td := {  } }
theorem tok43 : TIok Try.prog 43 ti43 := ⟨by kernel_rfl, by kernel_rfl, by kernel_rfl⟩
def ti44 : TI := { zero := [.int .u64 0], size := 1, bytes := 8, td := { ik := some .u64 } }
theorem tok44 : TIok Try.prog 44 ti44 := ⟨by kernel_rfl, by kernel_rfl, by kernel_rfl⟩
def ti45 : TI := { zero := [.nilFunc], size := 1, bytes := 8, td := {  } }
theorem tok45 : TIok Try.prog 45 ti45 := ⟨by kernel_rfl, by kernel_rfl, by kernel_rfl⟩
def ti46 : TI := { zero := [.int .i64 0, .int .i64 0, .int .i64 0], size := 3, bytes := 24, td := { agg := true, struct := true, flds := [(0, some 1, some false), (1, some 1, some false), (2, some 1, some false)] }, eqs := some [(0, 0), (1, 0), (2, 0)] }
theorem tok46 : TIok Try.prog 46 ti46 := ⟨by kernel_rfl, by kernel_rfl, by kernel_rfl⟩
def ti47 : TI := { zero := [.int .i64 0, .int .i64 0, .int .i64 0], size := 3, bytes := 24, td := { agg := true, struct := true, flds := [(0, some 1, some false), (1, some 1, some false), (2, some 1, some false)] }, eqs := some [(0, 0), (1, 0), (2, 0)] }
theorem tok47 : TIok Try.prog 47 ti47 := ⟨by kernel_rfl, by kernel_rfl, by kernel_rfl⟩
def ti48 : TI := { zero := [.nilFunc], size := 1, bytes := 8, td := {  } }
theorem tok48 : TIok Try.prog 48 ti48 := ⟨by kernel_rfl, by kernel_rfl, by kernel_rfl⟩
def ti49 : TI := { zero := [.nilFunc], size := 1, bytes := 8, td := {  } }
theorem tok49 : TIok Try.prog 49 ti49 := ⟨by kernel_rfl, by kernel_rfl, by kernel_rfl⟩
def ti50 : TI := { zero := [.nilFunc], size := 1, bytes := 8, td := {  } }
theorem tok50 : TIok Try.prog 50 ti50 := ⟨by kernel_rfl, by kernel_rfl, by kernel_rfl⟩
def ti51 : TI := { zero := [.nilFunc], size := 1, bytes := 8, td := {  } }
theorem tok51 : TIok Try.prog 51 ti51 := ⟨by kernel_rfl, by kernel_rfl, by kernel_rfl⟩
def ti52 : TI := { zero := [.nilFunc], size := 1, bytes := 8, td := {  } }
theorem tok52 : TIok Try.prog 52 ti52 := ⟨by kernel_rfl, by kernel_rfl, by kernel_rfl⟩
def ti53 : TI := { zero := [.slice none 0 0], size := 1, bytes := 24, td := { elem := some 47 } }
theorem tok53 : TIok Try.prog 53 ti53 := ⟨by kernel_rfl, by kernel_rfl, by kernel_rfl⟩
def ti54 : TI := { zero := [.nilFunc], size := 1, bytes := 8, td := {  } }
theorem tok54 : TIok Try.prog 54 ti54 := ⟨by kernel_rfl, by kernel_rfl, by kernel_rfl⟩
def ti55 : TI := { zero := [.nilFunc], size := 1, bytes := 8, td := {  } }
theorem tok55 : TIok Try.prog 55 ti55 := ⟨by kernel_rfl, by kernel_rfl, by kernel_rfl⟩
def ti56 : TI := { zero := [.int .u64 0], size := 1, bytes := 8, td := { ik := some .u64 } }
theorem tok56 : TIok Try.prog 56 ti56 := ⟨by kernel_rfl, by kernel_rfl, by kernel_rfl⟩
def ti57 : TI := { zero := [.nilFunc], size := 1, bytes := 8, td := {  } }
theorem tok57 : TIok Try.prog 57 ti57 := ⟨by kernel_rfl, by kernel_rfl, by kernel_rfl⟩
def ti58 : TI := { zero := [.nilFunc], size := 1, bytes := 8, td := {  } }
theorem tok58 : TIok Try.prog 58 ti58 := ⟨by kernel_rfl, by kernel_rfl, by kernel_rfl⟩
def ti59 : TI := { zero := [.int .i64 0], size := 1, bytes := 8, td := { ik := some .i64 } }
theorem tok59 : TIok Try.prog 59 ti59 := ⟨by kernel_rfl, by kernel_rfl, by kernel_rfl⟩
def ti61 : TI := { zero := [.nilFunc], size := 1, bytes := 8, td := {  } }
theorem tok61 : TIok Try.prog 61 ti61 := ⟨by kernel_rfl, by kernel_rfl, by kernel_rfl⟩
def ti62 : TI := { zero := [.nilFunc], size := 1, bytes := 8, td := {  } }
theorem tok62 : TIok Try.prog 62 ti62 := ⟨by kernel_rfl, by kernel_rfl, by kernel_rfl⟩
def ti63 : TI := { zero := [.nilFunc], size := 1, bytes := 8, td := {  } }
theorem tok63 : TIok Try.prog 63 ti63 := ⟨by kernel_rfl, by kernel_rfl, by kernel_rfl⟩
def ti65 : TI := { zero := [.nilFunc], size := 1, bytes := 8, td := {  } }
theorem tok65 : TIok Try.prog 65 ti65 := ⟨by kernel_rfl, by kernel_rfl, by kernel_rfl⟩
def ti66 : TI := { zero := [.nilFunc], size := 1, bytes := 8, td := {  } }
theorem tok66 : TIok Try.prog 66 ti66 := ⟨by kernel_rfl, by kernel_rfl, by kernel_rfl⟩
def ti67 : TI := { zero := [.int .u32 0], size := 1, bytes := 4, td := { ik := some .u32 } }
theorem tok67 : TIok Try.prog 67 ti67 := ⟨by kernel_rfl, by kernel_rfl, by kernel_rfl⟩
def ti68 : TI := { zero := [.nilFunc], size := 1, bytes := 8, td := {  } }
theorem tok68 : TIok Try.prog 68 ti68 := ⟨by kernel_rfl, by kernel_rfl, by kernel_rfl⟩
def ti69 : TI := { zero := [.int .u64 0], size := 1, bytes := 8, td := { ik := some .u64 } }
theorem tok69 : TIok Try.prog 69 ti69 := ⟨by kernel_rfl, by kernel_rfl, by kernel_rfl⟩
def ti70 : TI := { zero := [.nilFunc], size := 1, bytes := 8, td := {  } }
theorem tok70 : TIok Try.prog 70 ti70 := ⟨by kernel_rfl, by kernel_rfl, by kernel_rfl⟩
def ti71 : TI := { zero := [.nilFunc], size := 1, bytes := 8, td := {  } }
theorem tok71 : TIok Try.prog 71 ti71 := ⟨by kernel_rfl, by kernel_rfl, by kernel_rfl⟩
def ti72 : TI := { zero := [.nilFunc], size := 1, bytes := 8, td := {  } }
theorem tok72 : TIok Try.prog 72 ti72 := ⟨by kernel_rfl, by kernel_rfl, by kernel_rfl⟩
def ti74 : TI := { zero := [.nilFunc], size := 1, bytes := 8, td := {  } }
theorem tok74 : TIok Try.prog 74 ti74 := ⟨by kernel_rfl, by kernel_rfl, by kernel_rfl⟩
def ti75 : TI := { zero := [.nilFunc], size := 1, bytes := 8, td := {  } }
theorem tok75 : TIok Try.prog 75 ti75 := ⟨by kernel_rfl, by kernel_rfl, by kernel_rfl⟩
def ti78 : TI := { zero := [.nilFunc], size := 1, bytes := 8, td := {  } }
theorem tok78 : TIok Try.prog 78 ti78 := ⟨by kernel_rfl, by kernel_rfl, by kernel_rfl⟩
def ti79 : TI := { zero := [.nilFunc], size := 1, bytes := 8, td := {  } }
theorem tok79 : TIok Try.prog 79 ti79 := ⟨by kernel_rfl, by kernel_rfl, by kernel_rfl⟩
def ti80 : TI := { zero := [.pointer none, .pointer none, .pointer none, .string ⟨#[]⟩], size := 4, bytes := 40, td := { agg := true, struct := true, flds := [(0, some 1, some false), (1, some 1, some false), (2, some 1, some false), (3, some 1, some false)] } }
theorem tok80 : TIok Try.prog 80 ti80 := ⟨by kernel_rfl, by kernel_rfl, by kernel_rfl⟩
def ti81 : TI := { zero := [.pointer none, .pointer none, .pointer none, .string ⟨#[]⟩], size := 4, bytes := 40, td := { agg := true, struct := true, flds := [(0, some 1, some false), (1, some 1, some false), (2, some 1, some false), (3, some 1, some false)] } }
theorem tok81 : TIok Try.prog 81 ti81 := ⟨by kernel_rfl, by kernel_rfl, by kernel_rfl⟩
def ti82 : TI := { zero := [], size := 0, bytes := 0, td := { agg := true, arr := some (0, 16) } }
theorem tok82 : TIok Try.prog 82 ti82 := ⟨by kernel_rfl, by kernel_rfl, by kernel_rfl⟩
def ti83 : TI := { zero := [], size := 0, bytes := 0, td := { agg := true, struct := true, flds := [(0, some 0, some true)] } }
theorem tok83 : TIok Try.prog 83 ti83 := ⟨by kernel_rfl, by kernel_rfl, by kernel_rfl⟩
def ti84 : TI := { zero := [], size := 0, bytes := 0, td := { agg := true, struct := true, flds := [(0, some 0, some true)] } }
theorem tok84 : TIok Try.prog 84 ti84 := ⟨by kernel_rfl, by kernel_rfl, by kernel_rfl⟩
def ti85 : TI := { zero := [.nilFunc], size := 1, bytes := 8, td := {  } }
theorem tok85 : TIok Try.prog 85 ti85 := ⟨by kernel_rfl, by kernel_rfl, by kernel_rfl⟩
def ti86 : TI := { zero := [.int .u8 0], size := 1, bytes := 1, td := { ik := some .u8 } }
theorem tok86 : TIok Try.prog 86 ti86 := ⟨by kernel_rfl, by kernel_rfl, by kernel_rfl⟩
def ti87 : TI := { zero := [.int .u8 0], size := 1, bytes := 1, td := { ik := some .u8 } }
theorem tok87 : TIok Try.prog 87 ti87 := ⟨by kernel_rfl, by kernel_rfl, by kernel_rfl⟩
def ti88 : TI := { zero := [.nilFunc], size := 1, bytes := 8, td := {  } }
theorem tok88 : TIok Try.prog 88 ti88 := ⟨by kernel_rfl, by kernel_rfl, by kernel_rfl⟩
def ti90 : TI := { zero := [.int .i32 0], size := 1, bytes := 4, td := { ik := some .i32 } }
theorem tok90 : TIok Try.prog 90 ti90 := ⟨by kernel_rfl, by kernel_rfl, by kernel_rfl⟩
def ti91 : TI := { zero := [.int .i32 0], size := 1, bytes := 4, td := { ik := some .i32 } }
theorem tok91 : TIok Try.prog 91 ti91 := ⟨by kernel_rfl, by kernel_rfl, by kernel_rfl⟩
def ti92 : TI := { zero := [.int .u64 0, .int .u64 0, .int .u32 0, .int .u8 0, .int .u8 0, .int .u8 0, .int .u8 0, .nilFunc, .pointer none, .int .i32 0, .int .i32 0], size := 11, bytes := 48, td := { agg := true, struct := true, flds := [(0, some 1, some false), (1, some 1, some false), (2, some 1, some false), (3, some 1, some false), (4, some 1, some false), (5, some 1, some false), (6, some 1, some false), (7, some 1, some false), (8, some 1, some false), (9, some 1, some false), (10, some 1, some false)] } }
theorem tok92 : TIok Try.prog 92 ti92 := ⟨by kernel_rfl, by kernel_rfl, by kernel_rfl⟩
def ti93 : TI := { zero := [.int .u64 0, .int .u64 0, .int .u32 0, .int .u8 0, .int .u8 0, .int .u8 0, .int .u8 0, .nilFunc, .pointer none, .int .i32 0, .int .i32 0], size := 11, bytes := 48, td := { agg := true, struct := true, flds := [(0, some 1, some false), (1, some 1, some false), (2, some 1, some false), (3, some 1, some false), (4, some 1, some false), (5, some 1, some false), (6, some 1, some false), (7, some 1, some false), (8, some 1, some false), (9, some 1, some false), (10, some 1, some false)] } }
theorem tok93 : TIok Try.prog 93 ti93 := ⟨by kernel_rfl, by kernel_rfl, by kernel_rfl⟩
def TT_0 : Tab := fun t => match t with
  | 1 => some ti1
  | 2 => some ti2
  | 3 => some ti3
  | 4 => some ti4
  | 5 => some ti5
  | 6 => some ti6
  | 7 => some ti7
  | 8 => some ti8
  | 9 => some ti9
  | 10 => some ti10
  | 11 => some ti11
  | 12 => some ti12
  | 13 => some ti13
  | 14 => some ti14
  | 18 => some ti18
  | 19 => some ti19
  | 21 => some ti21
  | 22 => some ti22
  | 23 => some ti23
  | 24 => some ti24
  | 25 => some ti25
  | 26 => some ti26
  | 27 => some ti27
  | 28 => some ti28
  | 29 => some ti29
  | 30 => some ti30
  | 31 => some ti31
  | 32 => some ti32
  | 33 => some ti33
  | 34 => some ti34
  | 35 => some ti35
  | 36 => some ti36
  | 37 => some ti37
  | 38 => some ti38
  | 39 => some ti39
  | 40 => some ti40
  | 41 => some ti41
  | 42 => some ti42
  | 43 => some ti43
  | 44 => some ti44
  | _ => none
theorem ttok_0 : TabOk Try.prog TT_0 := by
  intro t i h
  unfold TT_0 at h
  split at h
  · injection h with h; subst h; exact tok1
  · injection h with h; subst h; exact tok2
  · injection h with h; subst h; exact tok3
  · injection h with h; subst h; exact tok4
  · injection h with h; subst h; exact tok5
  · injection h with h; subst h; exact tok6
  · injection h with h; subst h; exact tok7
  · injection h with h; subst h; exact tok8
  · injection h with h; subst h; exact tok9
  · injection h with h; subst h; exact tok10
  · injection h with h; subst h; exact tok11
  · injection h with h; subst h; exact tok12
  · injection h with h; subst h; exact tok13
  · injection h with h; subst h; exact tok14
  · injection h with h; subst h; exact tok18
  · injection h with h; subst h; exact tok19
  · injection h with h; subst h; exact tok21
  · injection h with h; subst h; exact tok22
  · injection h with h; subst h; exact tok23
  · injection h with h; subst h; exact tok24
  · injection h with h; subst h; exact tok25
  · injection h with h; subst h; exact tok26
  · injection h with h; subst h; exact tok27
  · injection h with h; subst h; exact tok28
  · injection h with h; subst h; exact tok29
  · injection h with h; subst h; exact tok30
  · injection h with h; subst h; exact tok31
  · injection h with h; subst h; exact tok32
  · injection h with h; subst h; exact tok33
  · injection h with h; subst h; exact tok34
  · injection h with h; subst h; exact tok35
  · injection h with h; subst h; exact tok36
  · injection h with h; subst h; exact tok37
  · injection h with h; subst h; exact tok38
  · injection h with h; subst h; exact tok39
  · injection h with h; subst h; exact tok40
  · injection h with h; subst h; exact tok41
  · injection h with h; subst h; exact tok42
  · injection h with h; subst h; exact tok43
  · injection h with h; subst h; exact tok44
  · cases h
def TT_1 : Tab := fun t => match t with
  | 45 => some ti45
  | 46 => some ti46
  | 47 => some ti47
  | 48 => some ti48
  | 49 => some ti49
  | 50 => some ti50
  | 51 => some ti51
  | 52 => some ti52
  | 53 => some ti53
  | 54 => some ti54
  | 55 => some ti55
  | 56 => some ti56
  | 57 => some ti57
  | 58 => some ti58
  | 59 => some ti59
  | 61 => some ti61
  | 62 => some ti62
  | 63 => some ti63
  | 65 => some ti65
  | 66 => some ti66
  | 67 => some ti67
  | 68 => some ti68
  | 69 => some ti69
  | 70 => some ti70
  | 71 => some ti71
  | 72 => some ti72
  | 74 => some ti74
  | 75 => some ti75
  | 78 => some ti78
  | 79 => some ti79
  | 80 => some ti80
  | 81 => some ti81
  | 82 => some ti82
  | 83 => some ti83
  | 84 => some ti84
  | 85 => some ti85
  | 86 => some ti86
  | 87 => some ti87
  | 88 => some ti88
  | 90 => some ti90
  | _ => none
theorem ttok_1 : TabOk Try.prog TT_1 := by
  intro t i h
  unfold TT_1 at h
  split at h
  · injection h with h; subst h; exact tok45
  · injection h with h; subst h; exact tok46
  · injection h with h; subst h; exact tok47
  · injection h with h; subst h; exact tok48
  · injection h with h; subst h; exact tok49
  · injection h with h; subst h; exact tok50
  · injection h with h; subst h; exact tok51
  · injection h with h; subst h; exact tok52
  · injection h with h; subst h; exact tok53
  · injection h with h; subst h; exact tok54
  · injection h with h; subst h; exact tok55
  · injection h with h; subst h; exact tok56
  · injection h with h; subst h; exact tok57
  · injection h with h; subst h; exact tok58
  · injection h with h; subst h; exact tok59
  · injection h with h; subst h; exact tok61
  · injection h with h; subst h; exact tok62
  · injection h with h; subst h; exact tok63
  · injection h with h; subst h; exact tok65
  · injection h with h; subst h; exact tok66
  · injection h with h; subst h; exact tok67
  · injection h with h; subst h; exact tok68
  · injection h with h; subst h; exact tok69
  · injection h with h; subst h; exact tok70
  · injection h with h; subst h; exact tok71
  · injection h with h; subst h; exact tok72
  · injection h with h; subst h; exact tok74
  · injection h with h; subst h; exact tok75
  · injection h with h; subst h; exact tok78
  · injection h with h; subst h; exact tok79
  · injection h with h; subst h; exact tok80
  · injection h with h; subst h; exact tok81
  · injection h with h; subst h; exact tok82
  · injection h with h; subst h; exact tok83
  · injection h with h; subst h; exact tok84
  · injection h with h; subst h; exact tok85
  · injection h with h; subst h; exact tok86
  · injection h with h; subst h; exact tok87
  · injection h with h; subst h; exact tok88
  · injection h with h; subst h; exact tok90
  · cases h
def TT_2 : Tab := fun t => match t with
  | 91 => some ti91
  | 92 => some ti92
  | 93 => some ti93
  | _ => none
theorem ttok_2 : TabOk Try.prog TT_2 := by
  intro t i h
  unfold TT_2 at h
  split at h
  · injection h with h; subst h; exact tok91
  · injection h with h; subst h; exact tok92
  · injection h with h; subst h; exact tok93
  · cases h
def tjoin (a b : Tab) : Tab := fun t => match a t with
  | some i => some i
  | none => b t
theorem tjoin_ok {P : Program} {a b : Tab} (ha : TabOk P a) (hb : TabOk P b) : TabOk P (tjoin a b) := by
  intro t i h
  unfold tjoin at h
  split at h
  · rename_i j hj
    injection h with h; subst h
    exact ha t _ hj
  · exact hb t i h
def TT : Tab := (tjoin TT_0 (tjoin TT_1 TT_2))
theorem ttok : TabOk Try.prog TT := (tjoin_ok ttok_0 (tjoin_ok ttok_1 ttok_2))
theorem tt1 : TT 1 = some ti1 := rfl
theorem tt2 : TT 2 = some ti2 := rfl
theorem tt3 : TT 3 = some ti3 := rfl
theorem tt4 : TT 4 = some ti4 := rfl
theorem tt5 : TT 5 = some ti5 := rfl
theorem tt6 : TT 6 = some ti6 := rfl
theorem tt7 : TT 7 = some ti7 := rfl
theorem tt8 : TT 8 = some ti8 := rfl
theorem tt9 : TT 9 = some ti9 := rfl
theorem tt10 : TT 10 = some ti10 := rfl
theorem tt11 : TT 11 = some ti11 := rfl
theorem tt12 : TT 12 = some ti12 := rfl
theorem tt13 : TT 13 = some ti13 := rfl
theorem tt14 : TT 14 = some ti14 := rfl
theorem tt18 : TT 18 = some ti18 := rfl
theorem tt19 : TT 19 = some ti19 := rfl
theorem tt21 : TT 21 = some ti21 := rfl
theorem tt22 : TT 22 = some ti22 := rfl
theorem tt23 : TT 23 = some ti23 := rfl
theorem tt24 : TT 24 = some ti24 := rfl
theorem tt25 : TT 25 = some ti25 := rfl
theorem tt26 : TT 26 = some ti26 := rfl
theorem tt27 : TT 27 = some ti27 := rfl
theorem tt28 : TT 28 = some ti28 := rfl
theorem tt29 : TT 29 = some ti29 := rfl
theorem tt30 : TT 30 = some ti30 := rfl
theorem tt31 : TT 31 = some ti31 := rfl
theorem tt32 : TT 32 = some ti32 := rfl
theorem tt33 : TT 33 = some ti33 := rfl
theorem tt34 : TT 34 = some ti34 := rfl
theorem tt35 : TT 35 = some ti35 := rfl
theorem tt36 : TT 36 = some ti36 := rfl
theorem tt37 : TT 37 = some ti37 := rfl
theorem tt38 : TT 38 = some ti38 := rfl
theorem tt39 : TT 39 = some ti39 := rfl
theorem tt40 : TT 40 = some ti40 := rfl
theorem tt41 : TT 41 = some ti41 := rfl
theorem tt42 : TT 42 = some ti42 := rfl
theorem tt43 : TT 43 = some ti43 := rfl
theorem tt44 : TT 44 = some ti44 := rfl
theorem tt45 : TT 45 = some ti45 := rfl
theorem tt46 : TT 46 = some ti46 := rfl
theorem tt47 : TT 47 = some ti47 := rfl
theorem tt48 : TT 48 = some ti48 := rfl
theorem tt49 : TT 49 = some ti49 := rfl
theorem tt50 : TT 50 = some ti50 := rfl
theorem tt51 : TT 51 = some ti51 := rfl
theorem tt52 : TT 52 = some ti52 := rfl
theorem tt53 : TT 53 = some ti53 := rfl
theorem tt54 : TT 54 = some ti54 := rfl
theorem tt55 : TT 55 = some ti55 := rfl
theorem tt56 : TT 56 = some ti56 := rfl
theorem tt57 : TT 57 = some ti57 := rfl
theorem tt58 : TT 58 = some ti58 := rfl
theorem tt59 : TT 59 = some ti59 := rfl
theorem tt61 : TT 61 = some ti61 := rfl
theorem tt62 : TT 62 = some ti62 := rfl
theorem tt63 : TT 63 = some ti63 := rfl
theorem tt65 : TT 65 = some ti65 := rfl
theorem tt66 : TT 66 = some ti66 := rfl
theorem tt67 : TT 67 = some ti67 := rfl
theorem tt68 : TT 68 = some ti68 := rfl
theorem tt69 : TT 69 = some ti69 := rfl
theorem tt70 : TT 70 = some ti70 := rfl
theorem tt71 : TT 71 = some ti71 := rfl
theorem tt72 : TT 72 = some ti72 := rfl
theorem tt74 : TT 74 = some ti74 := rfl
theorem tt75 : TT 75 = some ti75 := rfl
theorem tt78 : TT 78 = some ti78 := rfl
theorem tt79 : TT 79 = some ti79 := rfl
theorem tt80 : TT 80 = some ti80 := rfl
theorem tt81 : TT 81 = some ti81 := rfl
theorem tt82 : TT 82 = some ti82 := rfl
theorem tt83 : TT 83 = some ti83 := rfl
theorem tt84 : TT 84 = some ti84 := rfl
theorem tt85 : TT 85 = some ti85 := rfl
theorem tt86 : TT 86 = some ti86 := rfl
theorem tt87 : TT 87 = some ti87 := rfl
theorem tt88 : TT 88 = some ti88 := rfl
theorem tt90 : TT 90 = some ti90 := rfl
theorem tt91 : TT 91 = some ti91 := rfl
theorem tt92 : TT 92 = some ti92 := rfl
theorem tt93 : TT 93 = some ti93 := rfl
attribute [go_sem] tt1 ti1 tt2 ti2 tt3 ti3 tt4 ti4 tt5 ti5 tt6 ti6 tt7 ti7 tt8 ti8 tt9 ti9 tt10 ti10 tt11 ti11 tt12 ti12 tt13 ti13 tt14 ti14 tt18 ti18 tt19 ti19 tt21 ti21 tt22 ti22 tt23 ti23 tt24 ti24 tt25 ti25 tt26 ti26 tt27 ti27 tt28 ti28 tt29 ti29 tt30 ti30 tt31 ti31 tt32 ti32 tt33 ti33 tt34 ti34 tt35 ti35 tt36 ti36 tt37 ti37 tt38 ti38 tt39 ti39 tt40 ti40 tt41 ti41 tt42 ti42 tt43 ti43 tt44 ti44 tt45 ti45 tt46 ti46 tt47 ti47 tt48 ti48 tt49 ti49 tt50 ti50 tt51 ti51 tt52 ti52 tt53 ti53 tt54 ti54 tt55 ti55 tt56 ti56 tt57 ti57 tt58 ti58 tt59 ti59 tt61 ti61 tt62 ti62 tt63 ti63 tt65 ti65 tt66 ti66 tt67 ti67 tt68 ti68 tt69 ti69 tt70 ti70 tt71 ti71 tt72 ti72 tt74 ti74 tt75 ti75 tt78 ti78 tt79 ti79 tt80 ti80 tt81 ti81 tt82 ti82 tt83 ti83 tt84 ti84 tt85 ti85 tt86 ti86 tt87 ti87 tt88 ti88 tt90 ti90 tt91 ti91 tt92 ti92 tt93 ti93
theorem hmix : Try.prog.follows .mixedOrders = true := by decide +kernel
end Go.Proofs.Ytohelofjlkoboaa
