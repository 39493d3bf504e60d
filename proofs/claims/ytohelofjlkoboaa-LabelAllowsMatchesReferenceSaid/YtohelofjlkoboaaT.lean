/- The table of types, by program (gentab.py). -/
import Derived.Test.YtohelofjlkoboaaProg
import Derived.Test.YtohelofjlkoboaaA3
namespace Go.Proofs.Ytohelofjlkoboaa
open Go.RowKit
def ti2 : TI := { zero := [.int .i64 0], size := 1, bytes := 8, td := { ik := some .i64 } }
theorem tok2 : TIok Try.prog 2 ti2 := ⟨by kernel_rfl, by kernel_rfl⟩
def ti3 : TI := { zero := [.int .i64 0], size := 1, bytes := 8, td := { ik := some .i64 } }
theorem tok3 : TIok Try.prog 3 ti3 := ⟨by kernel_rfl, by kernel_rfl⟩
def ti4 : TI := { zero := [.bool false], size := 1, bytes := 1, td := { bl := true } }
theorem tok4 : TIok Try.prog 4 ti4 := ⟨by kernel_rfl, by kernel_rfl⟩
def ti5 : TI := { zero := [.int .u8 0], size := 1, bytes := 1, td := { ik := some .u8 } }
theorem tok5 : TIok Try.prog 5 ti5 := ⟨by kernel_rfl, by kernel_rfl⟩
def ti6 : TI := { zero := [.int .u8 0], size := 1, bytes := 1, td := { ik := some .u8 } }
theorem tok6 : TIok Try.prog 6 ti6 := ⟨by kernel_rfl, by kernel_rfl⟩
def ti7 : TI := { zero := [.int .i64 0, .int .i64 0, .bool false, .int .u8 0], size := 4, bytes := 24, td := { agg := true, struct := true, flds := [(0, some 1, some false), (1, some 1, some false), (2, some 1, some false), (3, some 1, some false)] } }
theorem tok7 : TIok Try.prog 7 ti7 := ⟨by kernel_rfl, by kernel_rfl⟩
def ti8 : TI := { zero := [.int .i64 0, .int .i64 0, .bool false, .int .u8 0], size := 4, bytes := 24, td := { agg := true, struct := true, flds := [(0, some 1, some false), (1, some 1, some false), (2, some 1, some false), (3, some 1, some false)] } }
theorem tok8 : TIok Try.prog 8 ti8 := ⟨by kernel_rfl, by kernel_rfl⟩
def ti9 : TI := { zero := [.string ⟨#[]⟩], size := 1, bytes := 16, td := { str := true } }
theorem tok9 : TIok Try.prog 9 ti9 := ⟨by kernel_rfl, by kernel_rfl⟩
def ti10 : TI := { zero := [.string ⟨#[]⟩], size := 1, bytes := 16, td := { str := true } }
theorem tok10 : TIok Try.prog 10 ti10 := ⟨by kernel_rfl, by kernel_rfl⟩
def ti11 : TI := { zero := [.string ⟨#[]⟩], size := 1, bytes := 16, td := { str := true } }
theorem tok11 : TIok Try.prog 11 ti11 := ⟨by kernel_rfl, by kernel_rfl⟩
def ti12 : TI := { zero := [.int .u64 0], size := 1, bytes := 8, td := { ik := some .u64 } }
theorem tok12 : TIok Try.prog 12 ti12 := ⟨by kernel_rfl, by kernel_rfl⟩
def ti13 : TI := { zero := [.string ⟨#[]⟩, .int .u64 0], size := 2, bytes := 24, td := { agg := true, struct := true, flds := [(0, some 1, some false), (1, some 1, some false)] } }
theorem tok13 : TIok Try.prog 13 ti13 := ⟨by kernel_rfl, by kernel_rfl⟩
def ti14 : TI := { zero := [.string ⟨#[]⟩, .int .u64 0], size := 2, bytes := 24, td := { agg := true, struct := true, flds := [(0, some 1, some false), (1, some 1, some false)] } }
theorem tok14 : TIok Try.prog 14 ti14 := ⟨by kernel_rfl, by kernel_rfl⟩
def ti18 : TI := { zero := [.pointer none], size := 1, bytes := 8, td := { agg := true, struct := true, flds := [(0, some 1, some false)] } }
theorem tok18 : TIok Try.prog 18 ti18 := ⟨by kernel_rfl, by kernel_rfl⟩
def ti19 : TI := { zero := [.pointer none], size := 1, bytes := 8, td := { agg := true, struct := true, flds := [(0, some 1, some false)] } }
theorem tok19 : TIok Try.prog 19 ti19 := ⟨by kernel_rfl, by kernel_rfl⟩
def ti21 : TI := { zero := [.int .i32 0], size := 1, bytes := 4, td := { ik := some .i32 } }
theorem tok21 : TIok Try.prog 21 ti21 := ⟨by kernel_rfl, by kernel_rfl⟩
def ti22 : TI := { zero := [.int .i64 0, .int .i64 0, .int .i64 0, .int .i64 0], size := 4, bytes := 32, td := { agg := true, arr := some (4, 3) } }
theorem tok22 : TIok Try.prog 22 ti22 := ⟨by kernel_rfl, by kernel_rfl⟩
def ti23 : TI := { zero := [.slice none 0 0], size := 1, bytes := 24, td := { elem := some 3 } }
theorem tok23 : TIok Try.prog 23 ti23 := ⟨by kernel_rfl, by kernel_rfl⟩
def ti25 : TI := { zero := [.int .i64 0, .slice none 0 0, .int .i64 0, .int .i64 0], size := 4, bytes := 48, td := { agg := true, struct := true, flds := [(0, some 1, some false), (1, some 1, some false), (2, some 1, some false), (3, some 1, some false)] } }
theorem tok25 : TIok Try.prog 25 ti25 := ⟨by kernel_rfl, by kernel_rfl⟩
def ti26 : TI := { zero := [.int .i64 0, .slice none 0 0, .int .i64 0, .int .i64 0], size := 4, bytes := 48, td := { agg := true, struct := true, flds := [(0, some 1, some false), (1, some 1, some false), (2, some 1, some false), (3, some 1, some false)] } }
theorem tok26 : TIok Try.prog 26 ti26 := ⟨by kernel_rfl, by kernel_rfl⟩
def ti29 : TI := { zero := [.slice none 0 0], size := 1, bytes := 24, td := { elem := some 26 } }
theorem tok29 : TIok Try.prog 29 ti29 := ⟨by kernel_rfl, by kernel_rfl⟩
def ti34 : TI := { zero := [.int .i64 0, .int .i64 0, .int .i64 0], size := 3, bytes := 24, td := { agg := true, arr := some (3, 3) } }
theorem tok34 : TIok Try.prog 34 ti34 := ⟨by kernel_rfl, by kernel_rfl⟩
def ti35 : TI := { zero := [.slice none 0 0], size := 1, bytes := 24, td := { elem := some 23 } }
theorem tok35 : TIok Try.prog 35 ti35 := ⟨by kernel_rfl, by kernel_rfl⟩
def ti44 : TI := { zero := [.int .u64 0], size := 1, bytes := 8, td := { ik := some .u64 } }
theorem tok44 : TIok Try.prog 44 ti44 := ⟨by kernel_rfl, by kernel_rfl⟩
def ti46 : TI := { zero := [.int .i64 0, .int .i64 0, .int .i64 0], size := 3, bytes := 24, td := { agg := true, struct := true, flds := [(0, some 1, some false), (1, some 1, some false), (2, some 1, some false)] } }
theorem tok46 : TIok Try.prog 46 ti46 := ⟨by kernel_rfl, by kernel_rfl⟩
def ti47 : TI := { zero := [.int .i64 0, .int .i64 0, .int .i64 0], size := 3, bytes := 24, td := { agg := true, struct := true, flds := [(0, some 1, some false), (1, some 1, some false), (2, some 1, some false)] } }
theorem tok47 : TIok Try.prog 47 ti47 := ⟨by kernel_rfl, by kernel_rfl⟩
def ti53 : TI := { zero := [.slice none 0 0], size := 1, bytes := 24, td := { elem := some 47 } }
theorem tok53 : TIok Try.prog 53 ti53 := ⟨by kernel_rfl, by kernel_rfl⟩
def ti56 : TI := { zero := [.int .u64 0], size := 1, bytes := 8, td := { ik := some .u64 } }
theorem tok56 : TIok Try.prog 56 ti56 := ⟨by kernel_rfl, by kernel_rfl⟩
def ti59 : TI := { zero := [.int .i64 0], size := 1, bytes := 8, td := { ik := some .i64 } }
theorem tok59 : TIok Try.prog 59 ti59 := ⟨by kernel_rfl, by kernel_rfl⟩
def ti67 : TI := { zero := [.int .u32 0], size := 1, bytes := 4, td := { ik := some .u32 } }
theorem tok67 : TIok Try.prog 67 ti67 := ⟨by kernel_rfl, by kernel_rfl⟩
def ti69 : TI := { zero := [.int .u64 0], size := 1, bytes := 8, td := { ik := some .u64 } }
theorem tok69 : TIok Try.prog 69 ti69 := ⟨by kernel_rfl, by kernel_rfl⟩
def ti80 : TI := { zero := [.pointer none, .pointer none, .pointer none, .string ⟨#[]⟩], size := 4, bytes := 40, td := { agg := true, struct := true, flds := [(0, some 1, some false), (1, some 1, some false), (2, some 1, some false), (3, some 1, some false)] } }
theorem tok80 : TIok Try.prog 80 ti80 := ⟨by kernel_rfl, by kernel_rfl⟩
def ti81 : TI := { zero := [.pointer none, .pointer none, .pointer none, .string ⟨#[]⟩], size := 4, bytes := 40, td := { agg := true, struct := true, flds := [(0, some 1, some false), (1, some 1, some false), (2, some 1, some false), (3, some 1, some false)] } }
theorem tok81 : TIok Try.prog 81 ti81 := ⟨by kernel_rfl, by kernel_rfl⟩
def ti82 : TI := { zero := [], size := 0, bytes := 0, td := { agg := true, arr := some (0, 16) } }
theorem tok82 : TIok Try.prog 82 ti82 := ⟨by kernel_rfl, by kernel_rfl⟩
def ti83 : TI := { zero := [], size := 0, bytes := 0, td := { agg := true, struct := true, flds := [(0, some 0, some true)] } }
theorem tok83 : TIok Try.prog 83 ti83 := ⟨by kernel_rfl, by kernel_rfl⟩
def ti84 : TI := { zero := [], size := 0, bytes := 0, td := { agg := true, struct := true, flds := [(0, some 0, some true)] } }
theorem tok84 : TIok Try.prog 84 ti84 := ⟨by kernel_rfl, by kernel_rfl⟩
def ti86 : TI := { zero := [.int .u8 0], size := 1, bytes := 1, td := { ik := some .u8 } }
theorem tok86 : TIok Try.prog 86 ti86 := ⟨by kernel_rfl, by kernel_rfl⟩
def ti87 : TI := { zero := [.int .u8 0], size := 1, bytes := 1, td := { ik := some .u8 } }
theorem tok87 : TIok Try.prog 87 ti87 := ⟨by kernel_rfl, by kernel_rfl⟩
def ti90 : TI := { zero := [.int .i32 0], size := 1, bytes := 4, td := { ik := some .i32 } }
theorem tok90 : TIok Try.prog 90 ti90 := ⟨by kernel_rfl, by kernel_rfl⟩
def ti91 : TI := { zero := [.int .i32 0], size := 1, bytes := 4, td := { ik := some .i32 } }
theorem tok91 : TIok Try.prog 91 ti91 := ⟨by kernel_rfl, by kernel_rfl⟩
def ti92 : TI := { zero := [.int .u64 0, .int .u64 0, .int .u32 0, .int .u8 0, .int .u8 0, .int .u8 0, .int .u8 0, .nilFunc, .pointer none, .int .i32 0, .int .i32 0], size := 11, bytes := 48, td := { agg := true, struct := true, flds := [(0, some 1, some false), (1, some 1, some false), (2, some 1, some false), (3, some 1, some false), (4, some 1, some false), (5, some 1, some false), (6, some 1, some false), (7, some 1, some false), (8, some 1, some false), (9, some 1, some false), (10, some 1, some false)] } }
theorem tok92 : TIok Try.prog 92 ti92 := ⟨by kernel_rfl, by kernel_rfl⟩
def ti93 : TI := { zero := [.int .u64 0, .int .u64 0, .int .u32 0, .int .u8 0, .int .u8 0, .int .u8 0, .int .u8 0, .nilFunc, .pointer none, .int .i32 0, .int .i32 0], size := 11, bytes := 48, td := { agg := true, struct := true, flds := [(0, some 1, some false), (1, some 1, some false), (2, some 1, some false), (3, some 1, some false), (4, some 1, some false), (5, some 1, some false), (6, some 1, some false), (7, some 1, some false), (8, some 1, some false), (9, some 1, some false), (10, some 1, some false)] } }
theorem tok93 : TIok Try.prog 93 ti93 := ⟨by kernel_rfl, by kernel_rfl⟩
def TT : Tab := fun t => match t with
  | 2 => some ti2
  | 3 => some ti3
  | 4 => some ti4
  | 5 => some ti5
  | 6 => some ti6
  | 7 => some ti7
  | 8 => some ti8
  | 9 => some ti9
  | 10 => some ti10
  | 11 => some ti11
  | 12 => some ti12
  | 13 => some ti13
  | 14 => some ti14
  | 18 => some ti18
  | 19 => some ti19
  | 21 => some ti21
  | 22 => some ti22
  | 23 => some ti23
  | 25 => some ti25
  | 26 => some ti26
  | 29 => some ti29
  | 34 => some ti34
  | 35 => some ti35
  | 44 => some ti44
  | 46 => some ti46
  | 47 => some ti47
  | 53 => some ti53
  | 56 => some ti56
  | 59 => some ti59
  | 67 => some ti67
  | 69 => some ti69
  | 80 => some ti80
  | 81 => some ti81
  | 82 => some ti82
  | 83 => some ti83
  | 84 => some ti84
  | 86 => some ti86
  | 87 => some ti87
  | 90 => some ti90
  | 91 => some ti91
  | 92 => some ti92
  | 93 => some ti93
  | _ => none
theorem ttok : TabOk Try.prog TT := by
  intro t i h
  unfold TT at h
  split at h
  · injection h with h; subst h; exact tok2
  · injection h with h; subst h; exact tok3
  · injection h with h; subst h; exact tok4
  · injection h with h; subst h; exact tok5
  · injection h with h; subst h; exact tok6
  · injection h with h; subst h; exact tok7
  · injection h with h; subst h; exact tok8
  · injection h with h; subst h; exact tok9
  · injection h with h; subst h; exact tok10
  · injection h with h; subst h; exact tok11
  · injection h with h; subst h; exact tok12
  · injection h with h; subst h; exact tok13
  · injection h with h; subst h; exact tok14
  · injection h with h; subst h; exact tok18
  · injection h with h; subst h; exact tok19
  · injection h with h; subst h; exact tok21
  · injection h with h; subst h; exact tok22
  · injection h with h; subst h; exact tok23
  · injection h with h; subst h; exact tok25
  · injection h with h; subst h; exact tok26
  · injection h with h; subst h; exact tok29
  · injection h with h; subst h; exact tok34
  · injection h with h; subst h; exact tok35
  · injection h with h; subst h; exact tok44
  · injection h with h; subst h; exact tok46
  · injection h with h; subst h; exact tok47
  · injection h with h; subst h; exact tok53
  · injection h with h; subst h; exact tok56
  · injection h with h; subst h; exact tok59
  · injection h with h; subst h; exact tok67
  · injection h with h; subst h; exact tok69
  · injection h with h; subst h; exact tok80
  · injection h with h; subst h; exact tok81
  · injection h with h; subst h; exact tok82
  · injection h with h; subst h; exact tok83
  · injection h with h; subst h; exact tok84
  · injection h with h; subst h; exact tok86
  · injection h with h; subst h; exact tok87
  · injection h with h; subst h; exact tok90
  · injection h with h; subst h; exact tok91
  · injection h with h; subst h; exact tok92
  · injection h with h; subst h; exact tok93
  · cases h
theorem tt2 : TT 2 = some ti2 := rfl
theorem tt3 : TT 3 = some ti3 := rfl
theorem tt4 : TT 4 = some ti4 := rfl
theorem tt5 : TT 5 = some ti5 := rfl
theorem tt6 : TT 6 = some ti6 := rfl
theorem tt7 : TT 7 = some ti7 := rfl
theorem tt8 : TT 8 = some ti8 := rfl
theorem tt9 : TT 9 = some ti9 := rfl
theorem tt10 : TT 10 = some ti10 := rfl
theorem tt11 : TT 11 = some ti11 := rfl
theorem tt12 : TT 12 = some ti12 := rfl
theorem tt13 : TT 13 = some ti13 := rfl
theorem tt14 : TT 14 = some ti14 := rfl
theorem tt18 : TT 18 = some ti18 := rfl
theorem tt19 : TT 19 = some ti19 := rfl
theorem tt21 : TT 21 = some ti21 := rfl
theorem tt22 : TT 22 = some ti22 := rfl
theorem tt23 : TT 23 = some ti23 := rfl
theorem tt25 : TT 25 = some ti25 := rfl
theorem tt26 : TT 26 = some ti26 := rfl
theorem tt29 : TT 29 = some ti29 := rfl
theorem tt34 : TT 34 = some ti34 := rfl
theorem tt35 : TT 35 = some ti35 := rfl
theorem tt44 : TT 44 = some ti44 := rfl
theorem tt46 : TT 46 = some ti46 := rfl
theorem tt47 : TT 47 = some ti47 := rfl
theorem tt53 : TT 53 = some ti53 := rfl
theorem tt56 : TT 56 = some ti56 := rfl
theorem tt59 : TT 59 = some ti59 := rfl
theorem tt67 : TT 67 = some ti67 := rfl
theorem tt69 : TT 69 = some ti69 := rfl
theorem tt80 : TT 80 = some ti80 := rfl
theorem tt81 : TT 81 = some ti81 := rfl
theorem tt82 : TT 82 = some ti82 := rfl
theorem tt83 : TT 83 = some ti83 := rfl
theorem tt84 : TT 84 = some ti84 := rfl
theorem tt86 : TT 86 = some ti86 := rfl
theorem tt87 : TT 87 = some ti87 := rfl
theorem tt90 : TT 90 = some ti90 := rfl
theorem tt91 : TT 91 = some ti91 := rfl
theorem tt92 : TT 92 = some ti92 := rfl
theorem tt93 : TT 93 = some ti93 := rfl
attribute [go_sem] tt2 ti2 tt3 ti3 tt4 ti4 tt5 ti5 tt6 ti6 tt7 ti7 tt8 ti8 tt9 ti9 tt10 ti10 tt11 ti11 tt12 ti12 tt13 ti13 tt14 ti14 tt18 ti18 tt19 ti19 tt21 ti21 tt22 ti22 tt23 ti23 tt25 ti25 tt26 ti26 tt29 ti29 tt34 ti34 tt35 ti35 tt44 ti44 tt46 ti46 tt47 ti47 tt53 ti53 tt56 ti56 tt59 ti59 tt67 ti67 tt69 ti69 tt80 ti80 tt81 ti81 tt82 ti82 tt83 ti83 tt84 ti84 tt86 ti86 tt87 ti87 tt90 ti90 tt91 ti91 tt92 ti92 tt93 ti93
theorem hmix : Try.prog.follows .mixedOrders = true := by decide +kernel
end Go.Proofs.Ytohelofjlkoboaa
