/- Whatever is sent, taken, lost, doubled and spoilt, each call answers what the chapter says, and all that is on its way is what it says. (part 4 of 8) -/
import Derived.Test.YtedcgeghgbgonaaGreatDoorKLinesDoes3
import Derived.KernelRfl
import Derived.LaidEql
import Derived.RowKitTokens
import Derived.Stop.Asserts
import Derived.Test.YtedcgeghgbgonaaGreatDoorProg
import Derived.WalkKit
namespace Go.Proofs.YtedcgeghgbgonaaGreatDoor
open Go Go.Va
set_option linter.unusedSimpArgs false
def ty_0 : TypeId → Option TI
  | 1 => some ⟨.func, 1, 8, .nilf⟩
  | 2 => some ⟨.int .i64, 1, 8, .int .i64 0⟩
  | 3 => some ⟨.int .i64, 1, 8, .int .i64 0⟩
  | 4 => some ⟨.bool, 1, 1, .bool false⟩
  | 5 => some ⟨.int .u8, 1, 1, .int .u8 0⟩
  | 6 => some ⟨.int .u8, 1, 1, .int .u8 0⟩
  | 7 => some ⟨.struct [(0, 2), (1, 3), (2, 4), (3, 6)], 4, 24, .agg [.int .i64 0, .int .i64 0, .bool false, .int .u8 0]⟩
  | 8 => some ⟨.struct [(0, 2), (1, 3), (2, 4), (3, 6)], 4, 24, .agg [.int .i64 0, .int .i64 0, .bool false, .int .u8 0]⟩
  | 9 => some ⟨.str, 1, 16, .str ⟨#[]⟩⟩
  | 10 => some ⟨.str, 1, 16, .str ⟨#[]⟩⟩
  | 11 => some ⟨.str, 1, 16, .str ⟨#[]⟩⟩
  | 12 => some ⟨.int .u64, 1, 8, .int .u64 0⟩
  | 13 => some ⟨.struct [(0, 9), (1, 12)], 2, 24, .agg [.str ⟨#[]⟩, .int .u64 0]⟩
  | 14 => some ⟨.struct [(0, 9), (1, 12)], 2, 24, .agg [.str ⟨#[]⟩, .int .u64 0]⟩
  | 15 => some ⟨.ptr 155, 1, 8, .nilp⟩
  | 16 => some ⟨.ptr 158, 1, 8, .nilp⟩
  | 17 => some ⟨.ptr 166, 1, 8, .nilp⟩
  | 18 => some ⟨.struct [(0, 17)], 1, 8, .agg [.nilp]⟩
  | 19 => some ⟨.struct [(0, 17)], 1, 8, .agg [.nilp]⟩
  | 20 => some ⟨.iface, 1, 16, .nili⟩
  | 21 => some ⟨.int .i32, 1, 4, .int .i32 0⟩
  | 22 => some ⟨.slice 34, 1, 24, .nils⟩
  | 23 => some ⟨.func, 1, 8, .nilf⟩
  | 24 => some ⟨.func, 1, 8, .nilf⟩
  | 25 => some ⟨.ptr 58, 1, 8, .nilp⟩
  | 26 => some ⟨.func, 1, 8, .nilf⟩
  | 27 => some ⟨.slice 44, 1, 24, .nils⟩
  | 28 => some ⟨.slice 4, 1, 24, .nils⟩
  | 29 => some ⟨.struct [(0, 27), (1, 28), (2, 3)], 3, 56, .agg [.nils, .nils, .int .i64 0]⟩
  | 30 => some ⟨.struct [(0, 27), (1, 28), (2, 3)], 3, 56, .agg [.nils, .nils, .int .i64 0]⟩
  | 32 => some ⟨.func, 1, 8, .nilf⟩
  | 33 => some ⟨.struct [(0, 3), (1, 27), (2, 3), (3, 3), (4, 5)], 5, 56, .agg [.int .i64 0, .nils, .int .i64 0, .int .i64 0, .int .u8 0]⟩
  | 34 => some ⟨.struct [(0, 3), (1, 27), (2, 3), (3, 3), (4, 5)], 5, 56, .agg [.int .i64 0, .nils, .int .i64 0, .int .i64 0, .int .u8 0]⟩
  | 35 => some ⟨.func, 1, 8, .nilf⟩
  | 36 => some ⟨.func, 1, 8, .nilf⟩
  | 37 => some ⟨.func, 1, 8, .nilf⟩
  | 38 => some ⟨.func, 1, 8, .nilf⟩
  | 39 => some ⟨.slice 42, 1, 24, .nils⟩
  | 40 => some ⟨.slice 5, 1, 24, .nils⟩
  | 41 => some ⟨.struct [(0, 9), (1, 3), (2, 3), (3, 3), (4, 40)], 5, 64, .agg [.str ⟨#[]⟩, .int .i64 0, .int .i64 0, .int .i64 0, .nils]⟩
  | 42 => some ⟨.struct [(0, 9), (1, 3), (2, 3), (3, 3), (4, 40)], 5, 64, .agg [.str ⟨#[]⟩, .int .i64 0, .int .i64 0, .int .i64 0, .nils]⟩
  | 43 => some ⟨.struct [(0, 3), (1, 3), (2, 3), (3, 3), (4, 3), (5, 42), (10, 4)], 11, 112, .agg [.int .i64 0, .int .i64 0, .int .i64 0, .int .i64 0, .int .i64 0, .str ⟨#[]⟩, .int .i64 0, .int .i64 0, .int .i64 0, .nils, .bool false]⟩
  | 44 => some ⟨.struct [(0, 3), (1, 3), (2, 3), (3, 3), (4, 3), (5, 42), (10, 4)], 11, 112, .agg [.int .i64 0, .int .i64 0, .int .i64 0, .int .i64 0, .int .i64 0, .str ⟨#[]⟩, .int .i64 0, .int .i64 0, .int .i64 0, .nils, .bool false]⟩
  | 45 => some ⟨.func, 1, 8, .nilf⟩
  | 46 => some ⟨.func, 1, 8, .nilf⟩
  | 47 => some ⟨.iface, 1, 16, .nili⟩
  | 48 => some ⟨.iface, 1, 16, .nili⟩
  | 49 => some ⟨.func, 1, 8, .nilf⟩
  | 50 => some ⟨.func, 1, 8, .nilf⟩
  | 52 => some ⟨.func, 1, 8, .nilf⟩
  | 53 => some ⟨.int .i64, 1, 8, .int .i64 0⟩
  | 54 => some ⟨.func, 1, 8, .nilf⟩
  | 55 => some ⟨.func, 1, 8, .nilf⟩
  | 56 => some ⟨.slice 68, 1, 24, .nils⟩
  | 57 => some ⟨.struct [(0, 56), (1, 3)], 2, 32, .agg [.nils, .int .i64 0]⟩
  | 58 => some ⟨.struct [(0, 56), (1, 3)], 2, 32, .agg [.nils, .int .i64 0]⟩
  | 59 => some ⟨.func, 1, 8, .nilf⟩
  | 61 => some ⟨.func, 1, 8, .nilf⟩
  | 63 => some ⟨.func, 1, 8, .nilf⟩
  | 64 => some ⟨.func, 1, 8, .nilf⟩
  | _ => none
def ty_1 : TypeId → Option TI
  | 66 => some ⟨.func, 1, 8, .nilf⟩
  | 67 => some ⟨.struct [(0, 40), (1, 4)], 2, 32, .agg [.nils, .bool false]⟩
  | 68 => some ⟨.struct [(0, 40), (1, 4)], 2, 32, .agg [.nils, .bool false]⟩
  | 70 => some ⟨.func, 1, 8, .nilf⟩
  | 71 => some ⟨.func, 1, 8, .nilf⟩
  | 72 => some ⟨.ptr 68, 1, 8, .nilp⟩
  | 73 => some ⟨.func, 1, 8, .nilf⟩
  | 74 => some ⟨.func, 1, 8, .nilf⟩
  | 75 => some ⟨.func, 1, 8, .nilf⟩
  | 76 => some ⟨.func, 1, 8, .nilf⟩
  | 77 => some ⟨.func, 1, 8, .nilf⟩
  | 78 => some ⟨.ptr 82, 1, 8, .nilp⟩
  | 79 => some ⟨.func, 1, 8, .nilf⟩
  | 80 => some ⟨.ptr 78, 1, 8, .nilp⟩
  | 81 => some ⟨.struct [(0, 9), (1, 3), (2, 53), (3, 48)], 4, 48, .agg [.str ⟨#[]⟩, .int .i64 0, .int .i64 0, .nili]⟩
  | 82 => some ⟨.struct [(0, 9), (1, 3), (2, 53), (3, 48)], 4, 48, .agg [.str ⟨#[]⟩, .int .i64 0, .int .i64 0, .nili]⟩
  | 83 => some ⟨.func, 1, 8, .nilf⟩
  | 84 => some ⟨.func, 1, 8, .nilf⟩
  | 85 => some ⟨.func, 1, 8, .nilf⟩
  | 86 => some ⟨.func, 1, 8, .nilf⟩
  | 87 => some ⟨.func, 1, 8, .nilf⟩
  | 89 => some ⟨.func, 1, 8, .nilf⟩
  | 90 => some ⟨.func, 1, 8, .nilf⟩
  | 91 => some ⟨.func, 1, 8, .nilf⟩
  | 92 => some ⟨.func, 1, 8, .nilf⟩
  | 93 => some ⟨.func, 1, 8, .nilf⟩
  | 94 => some ⟨.func, 1, 8, .nilf⟩
  | 95 => some ⟨.func, 1, 8, .nilf⟩
  | 96 => some ⟨.struct [(0, 53)], 1, 8, .agg [.int .i64 0]⟩
  | 97 => some ⟨.struct [(0, 53)], 1, 8, .agg [.int .i64 0]⟩
  | 99 => some ⟨.int .u64, 1, 8, .int .u64 0⟩
  | 102 => some ⟨.func, 1, 8, .nilf⟩
  | 103 => some ⟨.iface, 1, 16, .nili⟩
  | 104 => some ⟨.iface, 1, 16, .nili⟩
  | 105 => some ⟨.func, 1, 8, .nilf⟩
  | 106 => some ⟨.int .u8, 1, 1, .int .u8 0⟩
  | 107 => some ⟨.func, 1, 8, .nilf⟩
  | 108 => some ⟨.func, 1, 8, .nilf⟩
  | 109 => some ⟨.func, 1, 8, .nilf⟩
  | 110 => some ⟨.func, 1, 8, .nilf⟩
  | 111 => some ⟨.func, 1, 8, .nilf⟩
  | 112 => some ⟨.func, 1, 8, .nilf⟩
  | 113 => some ⟨.slice 3, 1, 24, .nils⟩
  | 114 => some ⟨.func, 1, 8, .nilf⟩
  | 115 => some ⟨.func, 1, 8, .nilf⟩
  | 116 => some ⟨.ptr 144, 1, 8, .nilp⟩
  | 117 => some ⟨.func, 1, 8, .nilf⟩
  | 118 => some ⟨.func, 1, 8, .nilf⟩
  | 119 => some ⟨.func, 1, 8, .nilf⟩
  | 120 => some ⟨.func, 1, 8, .nilf⟩
  | 121 => some ⟨.func, 1, 8, .nilf⟩
  | 122 => some ⟨.func, 1, 8, .nilf⟩
  | 123 => some ⟨.arr 4 5, 4, 4, .agg [.int .u8 0, .int .u8 0, .int .u8 0, .int .u8 0]⟩
  | 124 => some ⟨.func, 1, 8, .nilf⟩
  | 125 => some ⟨.int .u32, 1, 4, .int .u32 0⟩
  | 126 => some ⟨.func, 1, 8, .nilf⟩
  | 127 => some ⟨.func, 1, 8, .nilf⟩
  | 128 => some ⟨.func, 1, 8, .nilf⟩
  | 129 => some ⟨.struct [(0, 17)], 1, 8, .agg [.nilp]⟩
  | 130 => some ⟨.struct [(0, 17)], 1, 8, .agg [.nilp]⟩
  | _ => none
def ty_2 : TypeId → Option TI
  | 131 => some ⟨.ptr 171, 1, 8, .nilp⟩
  | 132 => some ⟨.func, 1, 8, .nilf⟩
  | 133 => some ⟨.func, 1, 8, .nilf⟩
  | 134 => some ⟨.iface, 1, 16, .nili⟩
  | 136 => some ⟨.func, 1, 8, .nilf⟩
  | 137 => some ⟨.iface, 1, 16, .nili⟩
  | 138 => some ⟨.func, 1, 8, .nilf⟩
  | 139 => some ⟨.iface, 1, 16, .nili⟩
  | 140 => some ⟨.slice 48, 1, 24, .nils⟩
  | 141 => some ⟨.func, 1, 8, .nilf⟩
  | 142 => some ⟨.func, 1, 8, .nilf⟩
  | 143 => some ⟨.struct [(0, 40), (1, 3), (2, 53)], 3, 40, .agg [.nils, .int .i64 0, .int .i64 0]⟩
  | 144 => some ⟨.struct [(0, 40), (1, 3), (2, 53)], 3, 40, .agg [.nils, .int .i64 0, .int .i64 0]⟩
  | 145 => some ⟨.func, 1, 8, .nilf⟩
  | 146 => some ⟨.int .u64, 1, 8, .int .u64 0⟩
  | 147 => some ⟨.func, 1, 8, .nilf⟩
  | 148 => some ⟨.func, 1, 8, .nilf⟩
  | 149 => some ⟨.iface, 1, 16, .nili⟩
  | 151 => some ⟨.func, 1, 8, .nilf⟩
  | 152 => some ⟨.func, 1, 8, .nilf⟩
  | 153 => some ⟨.func, 1, 8, .nilf⟩
  | 154 => some ⟨.struct [(0, 17), (1, 17), (2, 17), (3, 9)], 4, 40, .agg [.nilp, .nilp, .nilp, .str ⟨#[]⟩]⟩
  | 163 => some ⟨.int .i32, 1, 4, .int .i32 0⟩
  | 164 => some ⟨.int .i32, 1, 4, .int .i32 0⟩
  | 170 => some ⟨.struct [(0, 9), (1, 106)], 2, 24, .agg [.str ⟨#[]⟩, .int .u8 0]⟩
  | 171 => some ⟨.struct [(0, 9), (1, 106)], 2, 24, .agg [.str ⟨#[]⟩, .int .u8 0]⟩
  | 178 => some ⟨.int .i32, 1, 4, .int .i32 0⟩
  | 179 => some ⟨.struct [(0, 163), (1, 164), (2, 178), (3, 178)], 4, 16, .agg [.int .i32 0, .int .i32 0, .int .i32 0, .int .i32 0]⟩
  | 180 => some ⟨.struct [(0, 163), (1, 164), (2, 178), (3, 178)], 4, 16, .agg [.int .i32 0, .int .i32 0, .int .i32 0, .int .i32 0]⟩
  | _ => none
def ty : TypeId → Option TI := fun t => bif Nat.ble t 64 then ty_0 t else bif Nat.ble t 130 then ty_1 t else ty_2 t
theorem ty3 : ty 3 = some ⟨.int .i64, 1, 8, .int .i64 0⟩ := rfl
theorem td3 : tdOf ty 3 = .int .i64 := rfl
theorem sz3 : szOf ty 3 = 1 := rfl
theorem ty4 : ty 4 = some ⟨.bool, 1, 1, .bool false⟩ := rfl
theorem td4 : tdOf ty 4 = .bool := rfl
theorem sz4 : szOf ty 4 = 1 := rfl
theorem ty5 : ty 5 = some ⟨.int .u8, 1, 1, .int .u8 0⟩ := rfl
theorem td5 : tdOf ty 5 = .int .u8 := rfl
theorem sz5 : szOf ty 5 = 1 := rfl
theorem ty9 : ty 9 = some ⟨.str, 1, 16, .str ⟨#[]⟩⟩ := rfl
theorem td9 : tdOf ty 9 = .str := rfl
theorem sz9 : szOf ty 9 = 1 := rfl
theorem td22 : tdOf ty 22 = .slice 34 := rfl
theorem sz22 : szOf ty 22 = 1 := rfl
theorem ty27 : ty 27 = some ⟨.slice 44, 1, 24, .nils⟩ := rfl
theorem td27 : tdOf ty 27 = .slice 44 := rfl
theorem sz27 : szOf ty 27 = 1 := rfl
theorem ty28 : ty 28 = some ⟨.slice 4, 1, 24, .nils⟩ := rfl
theorem td28 : tdOf ty 28 = .slice 4 := rfl
theorem sz28 : szOf ty 28 = 1 := rfl
theorem ty30 : ty 30 = some ⟨.struct [(0, 27), (1, 28), (2, 3)], 3, 56, .agg [.nils, .nils, .int .i64 0]⟩ := rfl
theorem sz30 : szOf ty 30 = 3 := rfl
theorem sz34 : szOf ty 34 = 5 := rfl
theorem td39 : tdOf ty 39 = .slice 42 := rfl
theorem ty40 : ty 40 = some ⟨.slice 5, 1, 24, .nils⟩ := rfl
theorem td40 : tdOf ty 40 = .slice 5 := rfl
theorem sz40 : szOf ty 40 = 1 := rfl
theorem ty42 : ty 42 = some ⟨.struct [(0, 9), (1, 3), (2, 3), (3, 3), (4, 40)], 5, 64, .agg [.str ⟨#[]⟩, .int .i64 0, .int .i64 0, .int .i64 0, .nils]⟩ := rfl
theorem sz42 : szOf ty 42 = 5 := rfl
theorem ty44 : ty 44 = some ⟨.struct [(0, 3), (1, 3), (2, 3), (3, 3), (4, 3), (5, 42), (10, 4)], 11, 112, .agg [.int .i64 0, .int .i64 0, .int .i64 0, .int .i64 0, .int .i64 0, .str ⟨#[]⟩, .int .i64 0, .int .i64 0, .int .i64 0, .nils, .bool false]⟩ := rfl
theorem sz44 : szOf ty 44 = 11 := rfl
theorem ty48 : ty 48 = some ⟨.iface, 1, 16, .nili⟩ := rfl
theorem td48 : tdOf ty 48 = .iface := rfl
theorem sz48 : szOf ty 48 = 1 := rfl
theorem ty53 : ty 53 = some ⟨.int .i64, 1, 8, .int .i64 0⟩ := rfl
theorem td53 : tdOf ty 53 = .int .i64 := rfl
theorem sz53 : szOf ty 53 = 1 := rfl
theorem ty56 : ty 56 = some ⟨.slice 68, 1, 24, .nils⟩ := rfl
theorem td56 : tdOf ty 56 = .slice 68 := rfl
theorem ty68 : ty 68 = some ⟨.struct [(0, 40), (1, 4)], 2, 32, .agg [.nils, .bool false]⟩ := rfl
theorem sz68 : szOf ty 68 = 2 := rfl
theorem ty78 : ty 78 = some ⟨.ptr 82, 1, 8, .nilp⟩ := rfl
theorem sz82 : szOf ty 82 = 4 := rfl
theorem ty97 : ty 97 = some ⟨.struct [(0, 53)], 1, 8, .agg [.int .i64 0]⟩ := rfl
theorem td113 : tdOf ty 113 = .slice 3 := rfl
theorem ty123 : ty 123 = some ⟨.arr 4 5, 4, 4, .agg [.int .u8 0, .int .u8 0, .int .u8 0, .int .u8 0]⟩ := rfl
theorem td123 : tdOf ty 123 = .arr 4 5 := rfl
theorem sz123 : szOf ty 123 = 4 := rfl
theorem td125 : tdOf ty 125 = .int .u32 := rfl
theorem sz125 : szOf ty 125 = 1 := rfl
theorem sz144 : szOf ty 144 = 3 := rfl
theorem ok1 : TiOk Tryz.prog 1 ⟨.func, 1, 8, .nilf⟩ := tiOk_mk (.nilFunc) ⟨_, _, _, Tryz.underlying1⟩ (by kernel_rfl) rfl rfl rfl (by simp [Value.cells, Value.oneCell'])
theorem ok2 : TiOk Tryz.prog 2 ⟨.int .i64, 1, 8, .int .i64 0⟩ := tiOk_mk (.int .i64 0) Tryz.underlying2 (by kernel_rfl) rfl rfl rfl (by simp [Value.cells, Value.oneCell'])
theorem ok3 : TiOk Tryz.prog 3 ⟨.int .i64, 1, 8, .int .i64 0⟩ := tiOk_mk (.int .i64 0) Tryz.underlying3 (by kernel_rfl) rfl rfl rfl (by simp [Value.cells, Value.oneCell'])
theorem ok4 : TiOk Tryz.prog 4 ⟨.bool, 1, 1, .bool false⟩ := tiOk_mk (.bool false) Tryz.underlying4 (by kernel_rfl) rfl rfl rfl (by simp [Value.cells, Value.oneCell'])
theorem ok5 : TiOk Tryz.prog 5 ⟨.int .u8, 1, 1, .int .u8 0⟩ := tiOk_mk (.int .u8 0) Tryz.underlying5 (by kernel_rfl) rfl rfl rfl (by simp [Value.cells, Value.oneCell'])
theorem ok6 : TiOk Tryz.prog 6 ⟨.int .u8, 1, 1, .int .u8 0⟩ := tiOk_mk (.int .u8 0) Tryz.underlying6 (by kernel_rfl) rfl rfl rfl (by simp [Value.cells, Value.oneCell'])
theorem ok7 : TiOk Tryz.prog 7 ⟨.struct [(0, 2), (1, 3), (2, 4), (3, 6)], 4, 24, .agg [.int .i64 0, .int .i64 0, .bool false, .int .u8 0]⟩ := tiOk_mk (.agg #[.int .i64 0, .int .i64 0, .bool false, .int .u8 0]) ⟨_, Tryz.underlying7, rfl⟩ (by kernel_rfl) rfl rfl rfl (by simp [Value.cells, Value.oneCell'])
theorem ok8 : TiOk Tryz.prog 8 ⟨.struct [(0, 2), (1, 3), (2, 4), (3, 6)], 4, 24, .agg [.int .i64 0, .int .i64 0, .bool false, .int .u8 0]⟩ := tiOk_mk (.agg #[.int .i64 0, .int .i64 0, .bool false, .int .u8 0]) ⟨_, Tryz.underlying8, rfl⟩ (by kernel_rfl) rfl rfl rfl (by simp [Value.cells, Value.oneCell'])
theorem ok9 : TiOk Tryz.prog 9 ⟨.str, 1, 16, .str ⟨#[]⟩⟩ := tiOk_mk (.string ⟨#[]⟩) Tryz.underlying9 (by kernel_rfl) rfl rfl rfl (by simp [Value.cells, Value.oneCell'])
theorem ok10 : TiOk Tryz.prog 10 ⟨.str, 1, 16, .str ⟨#[]⟩⟩ := tiOk_mk (.string ⟨#[]⟩) Tryz.underlying10 (by kernel_rfl) rfl rfl rfl (by simp [Value.cells, Value.oneCell'])
theorem ok11 : TiOk Tryz.prog 11 ⟨.str, 1, 16, .str ⟨#[]⟩⟩ := tiOk_mk (.string ⟨#[]⟩) Tryz.underlying11 (by kernel_rfl) rfl rfl rfl (by simp [Value.cells, Value.oneCell'])
theorem ok12 : TiOk Tryz.prog 12 ⟨.int .u64, 1, 8, .int .u64 0⟩ := tiOk_mk (.int .u64 0) Tryz.underlying12 (by kernel_rfl) rfl rfl rfl (by simp [Value.cells, Value.oneCell'])
theorem ok13 : TiOk Tryz.prog 13 ⟨.struct [(0, 9), (1, 12)], 2, 24, .agg [.str ⟨#[]⟩, .int .u64 0]⟩ := tiOk_mk (.agg #[.string ⟨#[]⟩, .int .u64 0]) ⟨_, Tryz.underlying13, rfl⟩ (by kernel_rfl) rfl rfl rfl (by simp [Value.cells, Value.oneCell'])
theorem ok14 : TiOk Tryz.prog 14 ⟨.struct [(0, 9), (1, 12)], 2, 24, .agg [.str ⟨#[]⟩, .int .u64 0]⟩ := tiOk_mk (.agg #[.string ⟨#[]⟩, .int .u64 0]) ⟨_, Tryz.underlying14, rfl⟩ (by kernel_rfl) rfl rfl rfl (by simp [Value.cells, Value.oneCell'])
theorem ok15 : TiOk Tryz.prog 15 ⟨.ptr 155, 1, 8, .nilp⟩ := tiOk_mk (.pointer none) Tryz.underlying15 (by kernel_rfl) rfl rfl rfl (by simp [Value.cells, Value.oneCell'])
theorem ok16 : TiOk Tryz.prog 16 ⟨.ptr 158, 1, 8, .nilp⟩ := tiOk_mk (.pointer none) Tryz.underlying16 (by kernel_rfl) rfl rfl rfl (by simp [Value.cells, Value.oneCell'])
theorem ok17 : TiOk Tryz.prog 17 ⟨.ptr 166, 1, 8, .nilp⟩ := tiOk_mk (.pointer none) Tryz.underlying17 (by kernel_rfl) rfl rfl rfl (by simp [Value.cells, Value.oneCell'])
theorem ok18 : TiOk Tryz.prog 18 ⟨.struct [(0, 17)], 1, 8, .agg [.nilp]⟩ := tiOk_mk (.agg #[.pointer none]) ⟨_, Tryz.underlying18, rfl⟩ (by kernel_rfl) rfl rfl rfl (by simp [Value.cells, Value.oneCell'])
theorem ok19 : TiOk Tryz.prog 19 ⟨.struct [(0, 17)], 1, 8, .agg [.nilp]⟩ := tiOk_mk (.agg #[.pointer none]) ⟨_, Tryz.underlying19, rfl⟩ (by kernel_rfl) rfl rfl rfl (by simp [Value.cells, Value.oneCell'])
theorem ok20 : TiOk Tryz.prog 20 ⟨.iface, 1, 16, .nili⟩ := tiOk_mk (.nilIface) ⟨_, Tryz.underlying20⟩ (by kernel_rfl) rfl rfl rfl (by simp [Value.cells, Value.oneCell'])
theorem ok21 : TiOk Tryz.prog 21 ⟨.int .i32, 1, 4, .int .i32 0⟩ := tiOk_mk (.int .i32 0) Tryz.underlying21 (by kernel_rfl) rfl rfl rfl (by simp [Value.cells, Value.oneCell'])
theorem ok22 : TiOk Tryz.prog 22 ⟨.slice 34, 1, 24, .nils⟩ := tiOk_mk (.slice none 0 0) Tryz.underlying22 (by kernel_rfl) rfl rfl rfl (by simp [Value.cells, Value.oneCell'])
theorem ok23 : TiOk Tryz.prog 23 ⟨.func, 1, 8, .nilf⟩ := tiOk_mk (.nilFunc) ⟨_, _, _, Tryz.underlying23⟩ (by kernel_rfl) rfl rfl rfl (by simp [Value.cells, Value.oneCell'])
theorem ok24 : TiOk Tryz.prog 24 ⟨.func, 1, 8, .nilf⟩ := tiOk_mk (.nilFunc) ⟨_, _, _, Tryz.underlying24⟩ (by kernel_rfl) rfl rfl rfl (by simp [Value.cells, Value.oneCell'])
theorem ok25 : TiOk Tryz.prog 25 ⟨.ptr 58, 1, 8, .nilp⟩ := tiOk_mk (.pointer none) Tryz.underlying25 (by kernel_rfl) rfl rfl rfl (by simp [Value.cells, Value.oneCell'])
theorem ok26 : TiOk Tryz.prog 26 ⟨.func, 1, 8, .nilf⟩ := tiOk_mk (.nilFunc) ⟨_, _, _, Tryz.underlying26⟩ (by kernel_rfl) rfl rfl rfl (by simp [Value.cells, Value.oneCell'])
theorem ok27 : TiOk Tryz.prog 27 ⟨.slice 44, 1, 24, .nils⟩ := tiOk_mk (.slice none 0 0) Tryz.underlying27 (by kernel_rfl) rfl rfl rfl (by simp [Value.cells, Value.oneCell'])
theorem ok28 : TiOk Tryz.prog 28 ⟨.slice 4, 1, 24, .nils⟩ := tiOk_mk (.slice none 0 0) Tryz.underlying28 (by kernel_rfl) rfl rfl rfl (by simp [Value.cells, Value.oneCell'])
theorem ok29 : TiOk Tryz.prog 29 ⟨.struct [(0, 27), (1, 28), (2, 3)], 3, 56, .agg [.nils, .nils, .int .i64 0]⟩ := tiOk_mk (.agg #[.slice none 0 0, .slice none 0 0, .int .i64 0]) ⟨_, Tryz.underlying29, rfl⟩ (by kernel_rfl) rfl rfl rfl (by simp [Value.cells, Value.oneCell'])
theorem ok30 : TiOk Tryz.prog 30 ⟨.struct [(0, 27), (1, 28), (2, 3)], 3, 56, .agg [.nils, .nils, .int .i64 0]⟩ := tiOk_mk (.agg #[.slice none 0 0, .slice none 0 0, .int .i64 0]) ⟨_, Tryz.underlying30, rfl⟩ (by kernel_rfl) rfl rfl rfl (by simp [Value.cells, Value.oneCell'])
theorem ok32 : TiOk Tryz.prog 32 ⟨.func, 1, 8, .nilf⟩ := tiOk_mk (.nilFunc) ⟨_, _, _, Tryz.underlying32⟩ (by kernel_rfl) rfl rfl rfl (by simp [Value.cells, Value.oneCell'])
theorem ok33 : TiOk Tryz.prog 33 ⟨.struct [(0, 3), (1, 27), (2, 3), (3, 3), (4, 5)], 5, 56, .agg [.int .i64 0, .nils, .int .i64 0, .int .i64 0, .int .u8 0]⟩ := tiOk_mk (.agg #[.int .i64 0, .slice none 0 0, .int .i64 0, .int .i64 0, .int .u8 0]) ⟨_, Tryz.underlying33, rfl⟩ (by kernel_rfl) rfl rfl rfl (by simp [Value.cells, Value.oneCell'])
theorem ok34 : TiOk Tryz.prog 34 ⟨.struct [(0, 3), (1, 27), (2, 3), (3, 3), (4, 5)], 5, 56, .agg [.int .i64 0, .nils, .int .i64 0, .int .i64 0, .int .u8 0]⟩ := tiOk_mk (.agg #[.int .i64 0, .slice none 0 0, .int .i64 0, .int .i64 0, .int .u8 0]) ⟨_, Tryz.underlying34, rfl⟩ (by kernel_rfl) rfl rfl rfl (by simp [Value.cells, Value.oneCell'])
theorem ok35 : TiOk Tryz.prog 35 ⟨.func, 1, 8, .nilf⟩ := tiOk_mk (.nilFunc) ⟨_, _, _, Tryz.underlying35⟩ (by kernel_rfl) rfl rfl rfl (by simp [Value.cells, Value.oneCell'])
theorem ok36 : TiOk Tryz.prog 36 ⟨.func, 1, 8, .nilf⟩ := tiOk_mk (.nilFunc) ⟨_, _, _, Tryz.underlying36⟩ (by kernel_rfl) rfl rfl rfl (by simp [Value.cells, Value.oneCell'])
theorem ok37 : TiOk Tryz.prog 37 ⟨.func, 1, 8, .nilf⟩ := tiOk_mk (.nilFunc) ⟨_, _, _, Tryz.underlying37⟩ (by kernel_rfl) rfl rfl rfl (by simp [Value.cells, Value.oneCell'])
theorem ok38 : TiOk Tryz.prog 38 ⟨.func, 1, 8, .nilf⟩ := tiOk_mk (.nilFunc) ⟨_, _, _, Tryz.underlying38⟩ (by kernel_rfl) rfl rfl rfl (by simp [Value.cells, Value.oneCell'])
theorem ok39 : TiOk Tryz.prog 39 ⟨.slice 42, 1, 24, .nils⟩ := tiOk_mk (.slice none 0 0) Tryz.underlying39 (by kernel_rfl) rfl rfl rfl (by simp [Value.cells, Value.oneCell'])
theorem ok40 : TiOk Tryz.prog 40 ⟨.slice 5, 1, 24, .nils⟩ := tiOk_mk (.slice none 0 0) Tryz.underlying40 (by kernel_rfl) rfl rfl rfl (by simp [Value.cells, Value.oneCell'])
theorem ok41 : TiOk Tryz.prog 41 ⟨.struct [(0, 9), (1, 3), (2, 3), (3, 3), (4, 40)], 5, 64, .agg [.str ⟨#[]⟩, .int .i64 0, .int .i64 0, .int .i64 0, .nils]⟩ := tiOk_mk (.agg #[.string ⟨#[]⟩, .int .i64 0, .int .i64 0, .int .i64 0, .slice none 0 0]) ⟨_, Tryz.underlying41, rfl⟩ (by kernel_rfl) rfl rfl rfl (by simp [Value.cells, Value.oneCell'])
theorem ok42 : TiOk Tryz.prog 42 ⟨.struct [(0, 9), (1, 3), (2, 3), (3, 3), (4, 40)], 5, 64, .agg [.str ⟨#[]⟩, .int .i64 0, .int .i64 0, .int .i64 0, .nils]⟩ := tiOk_mk (.agg #[.string ⟨#[]⟩, .int .i64 0, .int .i64 0, .int .i64 0, .slice none 0 0]) ⟨_, Tryz.underlying42, rfl⟩ (by kernel_rfl) rfl rfl rfl (by simp [Value.cells, Value.oneCell'])
theorem ok43 : TiOk Tryz.prog 43 ⟨.struct [(0, 3), (1, 3), (2, 3), (3, 3), (4, 3), (5, 42), (10, 4)], 11, 112, .agg [.int .i64 0, .int .i64 0, .int .i64 0, .int .i64 0, .int .i64 0, .str ⟨#[]⟩, .int .i64 0, .int .i64 0, .int .i64 0, .nils, .bool false]⟩ := tiOk_mk (.agg #[.int .i64 0, .int .i64 0, .int .i64 0, .int .i64 0, .int .i64 0, .string ⟨#[]⟩, .int .i64 0, .int .i64 0, .int .i64 0, .slice none 0 0, .bool false]) ⟨_, Tryz.underlying43, rfl⟩ (by kernel_rfl) rfl rfl rfl (by simp [Value.cells, Value.oneCell'])
theorem ok44 : TiOk Tryz.prog 44 ⟨.struct [(0, 3), (1, 3), (2, 3), (3, 3), (4, 3), (5, 42), (10, 4)], 11, 112, .agg [.int .i64 0, .int .i64 0, .int .i64 0, .int .i64 0, .int .i64 0, .str ⟨#[]⟩, .int .i64 0, .int .i64 0, .int .i64 0, .nils, .bool false]⟩ := tiOk_mk (.agg #[.int .i64 0, .int .i64 0, .int .i64 0, .int .i64 0, .int .i64 0, .string ⟨#[]⟩, .int .i64 0, .int .i64 0, .int .i64 0, .slice none 0 0, .bool false]) ⟨_, Tryz.underlying44, rfl⟩ (by kernel_rfl) rfl rfl rfl (by simp [Value.cells, Value.oneCell'])
theorem ok45 : TiOk Tryz.prog 45 ⟨.func, 1, 8, .nilf⟩ := tiOk_mk (.nilFunc) ⟨_, _, _, Tryz.underlying45⟩ (by kernel_rfl) rfl rfl rfl (by simp [Value.cells, Value.oneCell'])
theorem ok46 : TiOk Tryz.prog 46 ⟨.func, 1, 8, .nilf⟩ := tiOk_mk (.nilFunc) ⟨_, _, _, Tryz.underlying46⟩ (by kernel_rfl) rfl rfl rfl (by simp [Value.cells, Value.oneCell'])
theorem ok47 : TiOk Tryz.prog 47 ⟨.iface, 1, 16, .nili⟩ := tiOk_mk (.nilIface) ⟨_, Tryz.underlying47⟩ (by kernel_rfl) rfl rfl rfl (by simp [Value.cells, Value.oneCell'])
theorem ok48 : TiOk Tryz.prog 48 ⟨.iface, 1, 16, .nili⟩ := tiOk_mk (.nilIface) ⟨_, Tryz.underlying48⟩ (by kernel_rfl) rfl rfl rfl (by simp [Value.cells, Value.oneCell'])
theorem ok49 : TiOk Tryz.prog 49 ⟨.func, 1, 8, .nilf⟩ := tiOk_mk (.nilFunc) ⟨_, _, _, Tryz.underlying49⟩ (by kernel_rfl) rfl rfl rfl (by simp [Value.cells, Value.oneCell'])
theorem ok50 : TiOk Tryz.prog 50 ⟨.func, 1, 8, .nilf⟩ := tiOk_mk (.nilFunc) ⟨_, _, _, Tryz.underlying50⟩ (by kernel_rfl) rfl rfl rfl (by simp [Value.cells, Value.oneCell'])
theorem ok52 : TiOk Tryz.prog 52 ⟨.func, 1, 8, .nilf⟩ := tiOk_mk (.nilFunc) ⟨_, _, _, Tryz.underlying52⟩ (by kernel_rfl) rfl rfl rfl (by simp [Value.cells, Value.oneCell'])
theorem ok53 : TiOk Tryz.prog 53 ⟨.int .i64, 1, 8, .int .i64 0⟩ := tiOk_mk (.int .i64 0) Tryz.underlying53 (by kernel_rfl) rfl rfl rfl (by simp [Value.cells, Value.oneCell'])
theorem ok54 : TiOk Tryz.prog 54 ⟨.func, 1, 8, .nilf⟩ := tiOk_mk (.nilFunc) ⟨_, _, _, Tryz.underlying54⟩ (by kernel_rfl) rfl rfl rfl (by simp [Value.cells, Value.oneCell'])
theorem ok55 : TiOk Tryz.prog 55 ⟨.func, 1, 8, .nilf⟩ := tiOk_mk (.nilFunc) ⟨_, _, _, Tryz.underlying55⟩ (by kernel_rfl) rfl rfl rfl (by simp [Value.cells, Value.oneCell'])
theorem ok56 : TiOk Tryz.prog 56 ⟨.slice 68, 1, 24, .nils⟩ := tiOk_mk (.slice none 0 0) Tryz.underlying56 (by kernel_rfl) rfl rfl rfl (by simp [Value.cells, Value.oneCell'])
theorem ok57 : TiOk Tryz.prog 57 ⟨.struct [(0, 56), (1, 3)], 2, 32, .agg [.nils, .int .i64 0]⟩ := tiOk_mk (.agg #[.slice none 0 0, .int .i64 0]) ⟨_, Tryz.underlying57, rfl⟩ (by kernel_rfl) rfl rfl rfl (by simp [Value.cells, Value.oneCell'])
theorem ok58 : TiOk Tryz.prog 58 ⟨.struct [(0, 56), (1, 3)], 2, 32, .agg [.nils, .int .i64 0]⟩ := tiOk_mk (.agg #[.slice none 0 0, .int .i64 0]) ⟨_, Tryz.underlying58, rfl⟩ (by kernel_rfl) rfl rfl rfl (by simp [Value.cells, Value.oneCell'])
theorem ok59 : TiOk Tryz.prog 59 ⟨.func, 1, 8, .nilf⟩ := tiOk_mk (.nilFunc) ⟨_, _, _, Tryz.underlying59⟩ (by kernel_rfl) rfl rfl rfl (by simp [Value.cells, Value.oneCell'])
theorem ok61 : TiOk Tryz.prog 61 ⟨.func, 1, 8, .nilf⟩ := tiOk_mk (.nilFunc) ⟨_, _, _, Tryz.underlying61⟩ (by kernel_rfl) rfl rfl rfl (by simp [Value.cells, Value.oneCell'])
theorem ok63 : TiOk Tryz.prog 63 ⟨.func, 1, 8, .nilf⟩ := tiOk_mk (.nilFunc) ⟨_, _, _, Tryz.underlying63⟩ (by kernel_rfl) rfl rfl rfl (by simp [Value.cells, Value.oneCell'])
theorem ok64 : TiOk Tryz.prog 64 ⟨.func, 1, 8, .nilf⟩ := tiOk_mk (.nilFunc) ⟨_, _, _, Tryz.underlying64⟩ (by kernel_rfl) rfl rfl rfl (by simp [Value.cells, Value.oneCell'])
theorem ok66 : TiOk Tryz.prog 66 ⟨.func, 1, 8, .nilf⟩ := tiOk_mk (.nilFunc) ⟨_, _, _, Tryz.underlying66⟩ (by kernel_rfl) rfl rfl rfl (by simp [Value.cells, Value.oneCell'])
theorem ok67 : TiOk Tryz.prog 67 ⟨.struct [(0, 40), (1, 4)], 2, 32, .agg [.nils, .bool false]⟩ := tiOk_mk (.agg #[.slice none 0 0, .bool false]) ⟨_, Tryz.underlying67, rfl⟩ (by kernel_rfl) rfl rfl rfl (by simp [Value.cells, Value.oneCell'])
theorem ok68 : TiOk Tryz.prog 68 ⟨.struct [(0, 40), (1, 4)], 2, 32, .agg [.nils, .bool false]⟩ := tiOk_mk (.agg #[.slice none 0 0, .bool false]) ⟨_, Tryz.underlying68, rfl⟩ (by kernel_rfl) rfl rfl rfl (by simp [Value.cells, Value.oneCell'])
theorem ok70 : TiOk Tryz.prog 70 ⟨.func, 1, 8, .nilf⟩ := tiOk_mk (.nilFunc) ⟨_, _, _, Tryz.underlying70⟩ (by kernel_rfl) rfl rfl rfl (by simp [Value.cells, Value.oneCell'])
theorem ok71 : TiOk Tryz.prog 71 ⟨.func, 1, 8, .nilf⟩ := tiOk_mk (.nilFunc) ⟨_, _, _, Tryz.underlying71⟩ (by kernel_rfl) rfl rfl rfl (by simp [Value.cells, Value.oneCell'])
theorem ok72 : TiOk Tryz.prog 72 ⟨.ptr 68, 1, 8, .nilp⟩ := tiOk_mk (.pointer none) Tryz.underlying72 (by kernel_rfl) rfl rfl rfl (by simp [Value.cells, Value.oneCell'])
theorem ok73 : TiOk Tryz.prog 73 ⟨.func, 1, 8, .nilf⟩ := tiOk_mk (.nilFunc) ⟨_, _, _, Tryz.underlying73⟩ (by kernel_rfl) rfl rfl rfl (by simp [Value.cells, Value.oneCell'])
theorem ok74 : TiOk Tryz.prog 74 ⟨.func, 1, 8, .nilf⟩ := tiOk_mk (.nilFunc) ⟨_, _, _, Tryz.underlying74⟩ (by kernel_rfl) rfl rfl rfl (by simp [Value.cells, Value.oneCell'])
theorem ok75 : TiOk Tryz.prog 75 ⟨.func, 1, 8, .nilf⟩ := tiOk_mk (.nilFunc) ⟨_, _, _, Tryz.underlying75⟩ (by kernel_rfl) rfl rfl rfl (by simp [Value.cells, Value.oneCell'])
theorem ok76 : TiOk Tryz.prog 76 ⟨.func, 1, 8, .nilf⟩ := tiOk_mk (.nilFunc) ⟨_, _, _, Tryz.underlying76⟩ (by kernel_rfl) rfl rfl rfl (by simp [Value.cells, Value.oneCell'])
theorem ok77 : TiOk Tryz.prog 77 ⟨.func, 1, 8, .nilf⟩ := tiOk_mk (.nilFunc) ⟨_, _, _, Tryz.underlying77⟩ (by kernel_rfl) rfl rfl rfl (by simp [Value.cells, Value.oneCell'])
theorem ok78 : TiOk Tryz.prog 78 ⟨.ptr 82, 1, 8, .nilp⟩ := tiOk_mk (.pointer none) Tryz.underlying78 (by kernel_rfl) rfl rfl rfl (by simp [Value.cells, Value.oneCell'])
theorem ok79 : TiOk Tryz.prog 79 ⟨.func, 1, 8, .nilf⟩ := tiOk_mk (.nilFunc) ⟨_, _, _, Tryz.underlying79⟩ (by kernel_rfl) rfl rfl rfl (by simp [Value.cells, Value.oneCell'])
theorem ok80 : TiOk Tryz.prog 80 ⟨.ptr 78, 1, 8, .nilp⟩ := tiOk_mk (.pointer none) Tryz.underlying80 (by kernel_rfl) rfl rfl rfl (by simp [Value.cells, Value.oneCell'])
theorem ok81 : TiOk Tryz.prog 81 ⟨.struct [(0, 9), (1, 3), (2, 53), (3, 48)], 4, 48, .agg [.str ⟨#[]⟩, .int .i64 0, .int .i64 0, .nili]⟩ := tiOk_mk (.agg #[.string ⟨#[]⟩, .int .i64 0, .int .i64 0, .nilIface]) ⟨_, Tryz.underlying81, rfl⟩ (by kernel_rfl) rfl rfl rfl (by simp [Value.cells, Value.oneCell'])
theorem ok82 : TiOk Tryz.prog 82 ⟨.struct [(0, 9), (1, 3), (2, 53), (3, 48)], 4, 48, .agg [.str ⟨#[]⟩, .int .i64 0, .int .i64 0, .nili]⟩ := tiOk_mk (.agg #[.string ⟨#[]⟩, .int .i64 0, .int .i64 0, .nilIface]) ⟨_, Tryz.underlying82, rfl⟩ (by kernel_rfl) rfl rfl rfl (by simp [Value.cells, Value.oneCell'])
theorem ok83 : TiOk Tryz.prog 83 ⟨.func, 1, 8, .nilf⟩ := tiOk_mk (.nilFunc) ⟨_, _, _, Tryz.underlying83⟩ (by kernel_rfl) rfl rfl rfl (by simp [Value.cells, Value.oneCell'])
theorem ok84 : TiOk Tryz.prog 84 ⟨.func, 1, 8, .nilf⟩ := tiOk_mk (.nilFunc) ⟨_, _, _, Tryz.underlying84⟩ (by kernel_rfl) rfl rfl rfl (by simp [Value.cells, Value.oneCell'])
theorem ok85 : TiOk Tryz.prog 85 ⟨.func, 1, 8, .nilf⟩ := tiOk_mk (.nilFunc) ⟨_, _, _, Tryz.underlying85⟩ (by kernel_rfl) rfl rfl rfl (by simp [Value.cells, Value.oneCell'])
theorem ok86 : TiOk Tryz.prog 86 ⟨.func, 1, 8, .nilf⟩ := tiOk_mk (.nilFunc) ⟨_, _, _, Tryz.underlying86⟩ (by kernel_rfl) rfl rfl rfl (by simp [Value.cells, Value.oneCell'])
theorem ok87 : TiOk Tryz.prog 87 ⟨.func, 1, 8, .nilf⟩ := tiOk_mk (.nilFunc) ⟨_, _, _, Tryz.underlying87⟩ (by kernel_rfl) rfl rfl rfl (by simp [Value.cells, Value.oneCell'])
theorem ok89 : TiOk Tryz.prog 89 ⟨.func, 1, 8, .nilf⟩ := tiOk_mk (.nilFunc) ⟨_, _, _, Tryz.underlying89⟩ (by kernel_rfl) rfl rfl rfl (by simp [Value.cells, Value.oneCell'])
theorem ok90 : TiOk Tryz.prog 90 ⟨.func, 1, 8, .nilf⟩ := tiOk_mk (.nilFunc) ⟨_, _, _, Tryz.underlying90⟩ (by kernel_rfl) rfl rfl rfl (by simp [Value.cells, Value.oneCell'])
theorem ok91 : TiOk Tryz.prog 91 ⟨.func, 1, 8, .nilf⟩ := tiOk_mk (.nilFunc) ⟨_, _, _, Tryz.underlying91⟩ (by kernel_rfl) rfl rfl rfl (by simp [Value.cells, Value.oneCell'])
theorem ok92 : TiOk Tryz.prog 92 ⟨.func, 1, 8, .nilf⟩ := tiOk_mk (.nilFunc) ⟨_, _, _, Tryz.underlying92⟩ (by kernel_rfl) rfl rfl rfl (by simp [Value.cells, Value.oneCell'])
theorem ok93 : TiOk Tryz.prog 93 ⟨.func, 1, 8, .nilf⟩ := tiOk_mk (.nilFunc) ⟨_, _, _, Tryz.underlying93⟩ (by kernel_rfl) rfl rfl rfl (by simp [Value.cells, Value.oneCell'])
theorem ok94 : TiOk Tryz.prog 94 ⟨.func, 1, 8, .nilf⟩ := tiOk_mk (.nilFunc) ⟨_, _, _, Tryz.underlying94⟩ (by kernel_rfl) rfl rfl rfl (by simp [Value.cells, Value.oneCell'])
theorem ok95 : TiOk Tryz.prog 95 ⟨.func, 1, 8, .nilf⟩ := tiOk_mk (.nilFunc) ⟨_, _, _, Tryz.underlying95⟩ (by kernel_rfl) rfl rfl rfl (by simp [Value.cells, Value.oneCell'])
theorem ok96 : TiOk Tryz.prog 96 ⟨.struct [(0, 53)], 1, 8, .agg [.int .i64 0]⟩ := tiOk_mk (.agg #[.int .i64 0]) ⟨_, Tryz.underlying96, rfl⟩ (by kernel_rfl) rfl rfl rfl (by simp [Value.cells, Value.oneCell'])
theorem ok97 : TiOk Tryz.prog 97 ⟨.struct [(0, 53)], 1, 8, .agg [.int .i64 0]⟩ := tiOk_mk (.agg #[.int .i64 0]) ⟨_, Tryz.underlying97, rfl⟩ (by kernel_rfl) rfl rfl rfl (by simp [Value.cells, Value.oneCell'])
theorem ok99 : TiOk Tryz.prog 99 ⟨.int .u64, 1, 8, .int .u64 0⟩ := tiOk_mk (.int .u64 0) Tryz.underlying99 (by kernel_rfl) rfl rfl rfl (by simp [Value.cells, Value.oneCell'])
theorem ok102 : TiOk Tryz.prog 102 ⟨.func, 1, 8, .nilf⟩ := tiOk_mk (.nilFunc) ⟨_, _, _, Tryz.underlying102⟩ (by kernel_rfl) rfl rfl rfl (by simp [Value.cells, Value.oneCell'])
theorem ok103 : TiOk Tryz.prog 103 ⟨.iface, 1, 16, .nili⟩ := tiOk_mk (.nilIface) ⟨_, Tryz.underlying103⟩ (by kernel_rfl) rfl rfl rfl (by simp [Value.cells, Value.oneCell'])
theorem ok104 : TiOk Tryz.prog 104 ⟨.iface, 1, 16, .nili⟩ := tiOk_mk (.nilIface) ⟨_, Tryz.underlying104⟩ (by kernel_rfl) rfl rfl rfl (by simp [Value.cells, Value.oneCell'])
theorem ok105 : TiOk Tryz.prog 105 ⟨.func, 1, 8, .nilf⟩ := tiOk_mk (.nilFunc) ⟨_, _, _, Tryz.underlying105⟩ (by kernel_rfl) rfl rfl rfl (by simp [Value.cells, Value.oneCell'])
theorem ok106 : TiOk Tryz.prog 106 ⟨.int .u8, 1, 1, .int .u8 0⟩ := tiOk_mk (.int .u8 0) Tryz.underlying106 (by kernel_rfl) rfl rfl rfl (by simp [Value.cells, Value.oneCell'])
theorem ok107 : TiOk Tryz.prog 107 ⟨.func, 1, 8, .nilf⟩ := tiOk_mk (.nilFunc) ⟨_, _, _, Tryz.underlying107⟩ (by kernel_rfl) rfl rfl rfl (by simp [Value.cells, Value.oneCell'])
theorem ok108 : TiOk Tryz.prog 108 ⟨.func, 1, 8, .nilf⟩ := tiOk_mk (.nilFunc) ⟨_, _, _, Tryz.underlying108⟩ (by kernel_rfl) rfl rfl rfl (by simp [Value.cells, Value.oneCell'])
theorem ok109 : TiOk Tryz.prog 109 ⟨.func, 1, 8, .nilf⟩ := tiOk_mk (.nilFunc) ⟨_, _, _, Tryz.underlying109⟩ (by kernel_rfl) rfl rfl rfl (by simp [Value.cells, Value.oneCell'])
theorem ok110 : TiOk Tryz.prog 110 ⟨.func, 1, 8, .nilf⟩ := tiOk_mk (.nilFunc) ⟨_, _, _, Tryz.underlying110⟩ (by kernel_rfl) rfl rfl rfl (by simp [Value.cells, Value.oneCell'])
theorem ok111 : TiOk Tryz.prog 111 ⟨.func, 1, 8, .nilf⟩ := tiOk_mk (.nilFunc) ⟨_, _, _, Tryz.underlying111⟩ (by kernel_rfl) rfl rfl rfl (by simp [Value.cells, Value.oneCell'])
theorem ok112 : TiOk Tryz.prog 112 ⟨.func, 1, 8, .nilf⟩ := tiOk_mk (.nilFunc) ⟨_, _, _, Tryz.underlying112⟩ (by kernel_rfl) rfl rfl rfl (by simp [Value.cells, Value.oneCell'])
theorem ok113 : TiOk Tryz.prog 113 ⟨.slice 3, 1, 24, .nils⟩ := tiOk_mk (.slice none 0 0) Tryz.underlying113 (by kernel_rfl) rfl rfl rfl (by simp [Value.cells, Value.oneCell'])
theorem ok114 : TiOk Tryz.prog 114 ⟨.func, 1, 8, .nilf⟩ := tiOk_mk (.nilFunc) ⟨_, _, _, Tryz.underlying114⟩ (by kernel_rfl) rfl rfl rfl (by simp [Value.cells, Value.oneCell'])
theorem ok115 : TiOk Tryz.prog 115 ⟨.func, 1, 8, .nilf⟩ := tiOk_mk (.nilFunc) ⟨_, _, _, Tryz.underlying115⟩ (by kernel_rfl) rfl rfl rfl (by simp [Value.cells, Value.oneCell'])
theorem ok116 : TiOk Tryz.prog 116 ⟨.ptr 144, 1, 8, .nilp⟩ := tiOk_mk (.pointer none) Tryz.underlying116 (by kernel_rfl) rfl rfl rfl (by simp [Value.cells, Value.oneCell'])
theorem ok117 : TiOk Tryz.prog 117 ⟨.func, 1, 8, .nilf⟩ := tiOk_mk (.nilFunc) ⟨_, _, _, Tryz.underlying117⟩ (by kernel_rfl) rfl rfl rfl (by simp [Value.cells, Value.oneCell'])
theorem ok118 : TiOk Tryz.prog 118 ⟨.func, 1, 8, .nilf⟩ := tiOk_mk (.nilFunc) ⟨_, _, _, Tryz.underlying118⟩ (by kernel_rfl) rfl rfl rfl (by simp [Value.cells, Value.oneCell'])
theorem ok119 : TiOk Tryz.prog 119 ⟨.func, 1, 8, .nilf⟩ := tiOk_mk (.nilFunc) ⟨_, _, _, Tryz.underlying119⟩ (by kernel_rfl) rfl rfl rfl (by simp [Value.cells, Value.oneCell'])
theorem ok120 : TiOk Tryz.prog 120 ⟨.func, 1, 8, .nilf⟩ := tiOk_mk (.nilFunc) ⟨_, _, _, Tryz.underlying120⟩ (by kernel_rfl) rfl rfl rfl (by simp [Value.cells, Value.oneCell'])
theorem ok121 : TiOk Tryz.prog 121 ⟨.func, 1, 8, .nilf⟩ := tiOk_mk (.nilFunc) ⟨_, _, _, Tryz.underlying121⟩ (by kernel_rfl) rfl rfl rfl (by simp [Value.cells, Value.oneCell'])
theorem ok122 : TiOk Tryz.prog 122 ⟨.func, 1, 8, .nilf⟩ := tiOk_mk (.nilFunc) ⟨_, _, _, Tryz.underlying122⟩ (by kernel_rfl) rfl rfl rfl (by simp [Value.cells, Value.oneCell'])
theorem ok123 : TiOk Tryz.prog 123 ⟨.arr 4 5, 4, 4, .agg [.int .u8 0, .int .u8 0, .int .u8 0, .int .u8 0]⟩ := tiOk_mk (.agg #[.int .u8 0, .int .u8 0, .int .u8 0, .int .u8 0]) Tryz.underlying123 (by kernel_rfl) rfl rfl rfl (by simp [Value.cells, Value.oneCell'])
theorem ok124 : TiOk Tryz.prog 124 ⟨.func, 1, 8, .nilf⟩ := tiOk_mk (.nilFunc) ⟨_, _, _, Tryz.underlying124⟩ (by kernel_rfl) rfl rfl rfl (by simp [Value.cells, Value.oneCell'])
theorem ok125 : TiOk Tryz.prog 125 ⟨.int .u32, 1, 4, .int .u32 0⟩ := tiOk_mk (.int .u32 0) Tryz.underlying125 (by kernel_rfl) rfl rfl rfl (by simp [Value.cells, Value.oneCell'])
theorem ok126 : TiOk Tryz.prog 126 ⟨.func, 1, 8, .nilf⟩ := tiOk_mk (.nilFunc) ⟨_, _, _, Tryz.underlying126⟩ (by kernel_rfl) rfl rfl rfl (by simp [Value.cells, Value.oneCell'])
theorem ok127 : TiOk Tryz.prog 127 ⟨.func, 1, 8, .nilf⟩ := tiOk_mk (.nilFunc) ⟨_, _, _, Tryz.underlying127⟩ (by kernel_rfl) rfl rfl rfl (by simp [Value.cells, Value.oneCell'])
theorem ok128 : TiOk Tryz.prog 128 ⟨.func, 1, 8, .nilf⟩ := tiOk_mk (.nilFunc) ⟨_, _, _, Tryz.underlying128⟩ (by kernel_rfl) rfl rfl rfl (by simp [Value.cells, Value.oneCell'])
theorem ok129 : TiOk Tryz.prog 129 ⟨.struct [(0, 17)], 1, 8, .agg [.nilp]⟩ := tiOk_mk (.agg #[.pointer none]) ⟨_, Tryz.underlying129, rfl⟩ (by kernel_rfl) rfl rfl rfl (by simp [Value.cells, Value.oneCell'])
theorem ok130 : TiOk Tryz.prog 130 ⟨.struct [(0, 17)], 1, 8, .agg [.nilp]⟩ := tiOk_mk (.agg #[.pointer none]) ⟨_, Tryz.underlying130, rfl⟩ (by kernel_rfl) rfl rfl rfl (by simp [Value.cells, Value.oneCell'])
theorem ok131 : TiOk Tryz.prog 131 ⟨.ptr 171, 1, 8, .nilp⟩ := tiOk_mk (.pointer none) Tryz.underlying131 (by kernel_rfl) rfl rfl rfl (by simp [Value.cells, Value.oneCell'])
theorem ok132 : TiOk Tryz.prog 132 ⟨.func, 1, 8, .nilf⟩ := tiOk_mk (.nilFunc) ⟨_, _, _, Tryz.underlying132⟩ (by kernel_rfl) rfl rfl rfl (by simp [Value.cells, Value.oneCell'])
theorem ok133 : TiOk Tryz.prog 133 ⟨.func, 1, 8, .nilf⟩ := tiOk_mk (.nilFunc) ⟨_, _, _, Tryz.underlying133⟩ (by kernel_rfl) rfl rfl rfl (by simp [Value.cells, Value.oneCell'])
theorem ok134 : TiOk Tryz.prog 134 ⟨.iface, 1, 16, .nili⟩ := tiOk_mk (.nilIface) ⟨_, Tryz.underlying134⟩ (by kernel_rfl) rfl rfl rfl (by simp [Value.cells, Value.oneCell'])
theorem ok136 : TiOk Tryz.prog 136 ⟨.func, 1, 8, .nilf⟩ := tiOk_mk (.nilFunc) ⟨_, _, _, Tryz.underlying136⟩ (by kernel_rfl) rfl rfl rfl (by simp [Value.cells, Value.oneCell'])
theorem ok137 : TiOk Tryz.prog 137 ⟨.iface, 1, 16, .nili⟩ := tiOk_mk (.nilIface) ⟨_, Tryz.underlying137⟩ (by kernel_rfl) rfl rfl rfl (by simp [Value.cells, Value.oneCell'])
theorem ok138 : TiOk Tryz.prog 138 ⟨.func, 1, 8, .nilf⟩ := tiOk_mk (.nilFunc) ⟨_, _, _, Tryz.underlying138⟩ (by kernel_rfl) rfl rfl rfl (by simp [Value.cells, Value.oneCell'])
theorem ok139 : TiOk Tryz.prog 139 ⟨.iface, 1, 16, .nili⟩ := tiOk_mk (.nilIface) ⟨_, Tryz.underlying139⟩ (by kernel_rfl) rfl rfl rfl (by simp [Value.cells, Value.oneCell'])
theorem ok140 : TiOk Tryz.prog 140 ⟨.slice 48, 1, 24, .nils⟩ := tiOk_mk (.slice none 0 0) Tryz.underlying140 (by kernel_rfl) rfl rfl rfl (by simp [Value.cells, Value.oneCell'])
theorem ok141 : TiOk Tryz.prog 141 ⟨.func, 1, 8, .nilf⟩ := tiOk_mk (.nilFunc) ⟨_, _, _, Tryz.underlying141⟩ (by kernel_rfl) rfl rfl rfl (by simp [Value.cells, Value.oneCell'])
theorem ok142 : TiOk Tryz.prog 142 ⟨.func, 1, 8, .nilf⟩ := tiOk_mk (.nilFunc) ⟨_, _, _, Tryz.underlying142⟩ (by kernel_rfl) rfl rfl rfl (by simp [Value.cells, Value.oneCell'])
theorem ok143 : TiOk Tryz.prog 143 ⟨.struct [(0, 40), (1, 3), (2, 53)], 3, 40, .agg [.nils, .int .i64 0, .int .i64 0]⟩ := tiOk_mk (.agg #[.slice none 0 0, .int .i64 0, .int .i64 0]) ⟨_, Tryz.underlying143, rfl⟩ (by kernel_rfl) rfl rfl rfl (by simp [Value.cells, Value.oneCell'])
theorem ok144 : TiOk Tryz.prog 144 ⟨.struct [(0, 40), (1, 3), (2, 53)], 3, 40, .agg [.nils, .int .i64 0, .int .i64 0]⟩ := tiOk_mk (.agg #[.slice none 0 0, .int .i64 0, .int .i64 0]) ⟨_, Tryz.underlying144, rfl⟩ (by kernel_rfl) rfl rfl rfl (by simp [Value.cells, Value.oneCell'])
theorem ok145 : TiOk Tryz.prog 145 ⟨.func, 1, 8, .nilf⟩ := tiOk_mk (.nilFunc) ⟨_, _, _, Tryz.underlying145⟩ (by kernel_rfl) rfl rfl rfl (by simp [Value.cells, Value.oneCell'])
theorem ok146 : TiOk Tryz.prog 146 ⟨.int .u64, 1, 8, .int .u64 0⟩ := tiOk_mk (.int .u64 0) Tryz.underlying146 (by kernel_rfl) rfl rfl rfl (by simp [Value.cells, Value.oneCell'])
theorem ok147 : TiOk Tryz.prog 147 ⟨.func, 1, 8, .nilf⟩ := tiOk_mk (.nilFunc) ⟨_, _, _, Tryz.underlying147⟩ (by kernel_rfl) rfl rfl rfl (by simp [Value.cells, Value.oneCell'])
theorem ok148 : TiOk Tryz.prog 148 ⟨.func, 1, 8, .nilf⟩ := tiOk_mk (.nilFunc) ⟨_, _, _, Tryz.underlying148⟩ (by kernel_rfl) rfl rfl rfl (by simp [Value.cells, Value.oneCell'])
theorem ok149 : TiOk Tryz.prog 149 ⟨.iface, 1, 16, .nili⟩ := tiOk_mk (.nilIface) ⟨_, Tryz.underlying149⟩ (by kernel_rfl) rfl rfl rfl (by simp [Value.cells, Value.oneCell'])
theorem ok151 : TiOk Tryz.prog 151 ⟨.func, 1, 8, .nilf⟩ := tiOk_mk (.nilFunc) ⟨_, _, _, Tryz.underlying151⟩ (by kernel_rfl) rfl rfl rfl (by simp [Value.cells, Value.oneCell'])
theorem ok152 : TiOk Tryz.prog 152 ⟨.func, 1, 8, .nilf⟩ := tiOk_mk (.nilFunc) ⟨_, _, _, Tryz.underlying152⟩ (by kernel_rfl) rfl rfl rfl (by simp [Value.cells, Value.oneCell'])
theorem ok153 : TiOk Tryz.prog 153 ⟨.func, 1, 8, .nilf⟩ := tiOk_mk (.nilFunc) ⟨_, _, _, Tryz.underlying153⟩ (by kernel_rfl) rfl rfl rfl (by simp [Value.cells, Value.oneCell'])
theorem ok154 : TiOk Tryz.prog 154 ⟨.struct [(0, 17), (1, 17), (2, 17), (3, 9)], 4, 40, .agg [.nilp, .nilp, .nilp, .str ⟨#[]⟩]⟩ := tiOk_mk (.agg #[.pointer none, .pointer none, .pointer none, .string ⟨#[]⟩]) ⟨_, Tryz.underlying154, rfl⟩ (by kernel_rfl) rfl rfl rfl (by simp [Value.cells, Value.oneCell'])
theorem ok163 : TiOk Tryz.prog 163 ⟨.int .i32, 1, 4, .int .i32 0⟩ := tiOk_mk (.int .i32 0) Tryz.underlying163 (by kernel_rfl) rfl rfl rfl (by simp [Value.cells, Value.oneCell'])
theorem ok164 : TiOk Tryz.prog 164 ⟨.int .i32, 1, 4, .int .i32 0⟩ := tiOk_mk (.int .i32 0) Tryz.underlying164 (by kernel_rfl) rfl rfl rfl (by simp [Value.cells, Value.oneCell'])
theorem ok170 : TiOk Tryz.prog 170 ⟨.struct [(0, 9), (1, 106)], 2, 24, .agg [.str ⟨#[]⟩, .int .u8 0]⟩ := tiOk_mk (.agg #[.string ⟨#[]⟩, .int .u8 0]) ⟨_, Tryz.underlying170, rfl⟩ (by kernel_rfl) rfl rfl rfl (by simp [Value.cells, Value.oneCell'])
theorem ok171 : TiOk Tryz.prog 171 ⟨.struct [(0, 9), (1, 106)], 2, 24, .agg [.str ⟨#[]⟩, .int .u8 0]⟩ := tiOk_mk (.agg #[.string ⟨#[]⟩, .int .u8 0]) ⟨_, Tryz.underlying171, rfl⟩ (by kernel_rfl) rfl rfl rfl (by simp [Value.cells, Value.oneCell'])
theorem ok178 : TiOk Tryz.prog 178 ⟨.int .i32, 1, 4, .int .i32 0⟩ := tiOk_mk (.int .i32 0) Tryz.underlying178 (by kernel_rfl) rfl rfl rfl (by simp [Value.cells, Value.oneCell'])
theorem ok179 : TiOk Tryz.prog 179 ⟨.struct [(0, 163), (1, 164), (2, 178), (3, 178)], 4, 16, .agg [.int .i32 0, .int .i32 0, .int .i32 0, .int .i32 0]⟩ := tiOk_mk (.agg #[.int .i32 0, .int .i32 0, .int .i32 0, .int .i32 0]) ⟨_, Tryz.underlying179, rfl⟩ (by kernel_rfl) rfl rfl rfl (by simp [Value.cells, Value.oneCell'])
theorem ok180 : TiOk Tryz.prog 180 ⟨.struct [(0, 163), (1, 164), (2, 178), (3, 178)], 4, 16, .agg [.int .i32 0, .int .i32 0, .int .i32 0, .int .i32 0]⟩ := tiOk_mk (.agg #[.int .i32 0, .int .i32 0, .int .i32 0, .int .i32 0]) ⟨_, Tryz.underlying180, rfl⟩ (by kernel_rfl) rfl rfl rfl (by simp [Value.cells, Value.oneCell'])
theorem tk_0 : TyOk Tryz.prog ty_0 := by
  intro t i h
  unfold ty_0 at h
  split at h
  · cases h; exact ok1
  · cases h; exact ok2
  · cases h; exact ok3
  · cases h; exact ok4
  · cases h; exact ok5
  · cases h; exact ok6
  · cases h; exact ok7
  · cases h; exact ok8
  · cases h; exact ok9
  · cases h; exact ok10
  · cases h; exact ok11
  · cases h; exact ok12
  · cases h; exact ok13
  · cases h; exact ok14
  · cases h; exact ok15
  · cases h; exact ok16
  · cases h; exact ok17
  · cases h; exact ok18
  · cases h; exact ok19
  · cases h; exact ok20
  · cases h; exact ok21
  · cases h; exact ok22
  · cases h; exact ok23
  · cases h; exact ok24
  · cases h; exact ok25
  · cases h; exact ok26
  · cases h; exact ok27
  · cases h; exact ok28
  · cases h; exact ok29
  · cases h; exact ok30
  · cases h; exact ok32
  · cases h; exact ok33
  · cases h; exact ok34
  · cases h; exact ok35
  · cases h; exact ok36
  · cases h; exact ok37
  · cases h; exact ok38
  · cases h; exact ok39
  · cases h; exact ok40
  · cases h; exact ok41
  · cases h; exact ok42
  · cases h; exact ok43
  · cases h; exact ok44
  · cases h; exact ok45
  · cases h; exact ok46
  · cases h; exact ok47
  · cases h; exact ok48
  · cases h; exact ok49
  · cases h; exact ok50
  · cases h; exact ok52
  · cases h; exact ok53
  · cases h; exact ok54
  · cases h; exact ok55
  · cases h; exact ok56
  · cases h; exact ok57
  · cases h; exact ok58
  · cases h; exact ok59
  · cases h; exact ok61
  · cases h; exact ok63
  · cases h; exact ok64
  · cases h
theorem tk_1 : TyOk Tryz.prog ty_1 := by
  intro t i h
  unfold ty_1 at h
  split at h
  · cases h; exact ok66
  · cases h; exact ok67
  · cases h; exact ok68
  · cases h; exact ok70
  · cases h; exact ok71
  · cases h; exact ok72
  · cases h; exact ok73
  · cases h; exact ok74
  · cases h; exact ok75
  · cases h; exact ok76
  · cases h; exact ok77
  · cases h; exact ok78
  · cases h; exact ok79
  · cases h; exact ok80
  · cases h; exact ok81
  · cases h; exact ok82
  · cases h; exact ok83
  · cases h; exact ok84
  · cases h; exact ok85
  · cases h; exact ok86
  · cases h; exact ok87
  · cases h; exact ok89
  · cases h; exact ok90
  · cases h; exact ok91
  · cases h; exact ok92
  · cases h; exact ok93
  · cases h; exact ok94
  · cases h; exact ok95
  · cases h; exact ok96
  · cases h; exact ok97
  · cases h; exact ok99
  · cases h; exact ok102
  · cases h; exact ok103
  · cases h; exact ok104
  · cases h; exact ok105
  · cases h; exact ok106
  · cases h; exact ok107
  · cases h; exact ok108
  · cases h; exact ok109
  · cases h; exact ok110
  · cases h; exact ok111
  · cases h; exact ok112
  · cases h; exact ok113
  · cases h; exact ok114
  · cases h; exact ok115
  · cases h; exact ok116
  · cases h; exact ok117
  · cases h; exact ok118
  · cases h; exact ok119
  · cases h; exact ok120
  · cases h; exact ok121
  · cases h; exact ok122
  · cases h; exact ok123
  · cases h; exact ok124
  · cases h; exact ok125
  · cases h; exact ok126
  · cases h; exact ok127
  · cases h; exact ok128
  · cases h; exact ok129
  · cases h; exact ok130
  · cases h
theorem tk_2 : TyOk Tryz.prog ty_2 := by
  intro t i h
  unfold ty_2 at h
  split at h
  · cases h; exact ok131
  · cases h; exact ok132
  · cases h; exact ok133
  · cases h; exact ok134
  · cases h; exact ok136
  · cases h; exact ok137
  · cases h; exact ok138
  · cases h; exact ok139
  · cases h; exact ok140
  · cases h; exact ok141
  · cases h; exact ok142
  · cases h; exact ok143
  · cases h; exact ok144
  · cases h; exact ok145
  · cases h; exact ok146
  · cases h; exact ok147
  · cases h; exact ok148
  · cases h; exact ok149
  · cases h; exact ok151
  · cases h; exact ok152
  · cases h; exact ok153
  · cases h; exact ok154
  · cases h; exact ok163
  · cases h; exact ok164
  · cases h; exact ok170
  · cases h; exact ok171
  · cases h; exact ok178
  · cases h; exact ok179
  · cases h; exact ok180
  · cases h
theorem tk : TyOk Tryz.prog ty := by
  intro t i h
  unfold ty at h
  cases hb0 : Nat.ble t 64
  case true => simp only [hb0, cond_true] at h; exact tk_0 t i h
  cases hb1 : Nat.ble t 130
  case true => simp only [hb1, cond_true, hb0, cond_false] at h; exact tk_1 t i h
  simp only [hb0, hb1, cond_false] at h
  exact tk_2 t i h
theorem mixed : Tryz.prog.follows .mixedOrders = true := by kernel_rfl
end Go.Proofs.YtedcgeghgbgonaaGreatDoor
namespace Go.Proofs.YtedcgeghgbgonaaGreatDoor
open Go Go.Va
set_option linter.unusedSimpArgs false
set_option linter.unusedVariables false
inductive Err where
  | nil
  | fault (op : List (BitVec 8)) (at_ : Int) (code : Int) (under : Err)
  deriving DecidableEq
def Err.isNil : Err → Bool
  | .nil => true
  | _ => false
def eErr : Err → AV
  | .nil => .nili
  | .fault o a c u => .iface 78 (.fptr [eS o, eI a, eI c, eErr u] 0)
theorem eErr_cut (nl nt : Nat → Option Nat) : ∀ e, cutAV nl nt (eErr e) = eErr e
  | .nil => rfl
  | .fault o a c u => by simp only [eErr, cutAV, cutL, eErr_cut nl nt u, eS, eI]
theorem eErr_flat (e : Err) : flatAV (eErr e) = true := by cases e <;> rfl
theorem nsp_err (e : Err) : spcl [eErr e] = false := by cases e <;> rfl
theorem encErr : Enc ty 48 1 eErr := ⟨sz48, by decide, fun x => (by cases x <;> rfl), fun h => (by cases h), fun _ x => (by cases x <;> rfl), fun x => (by cases x <;> rfl), eErr_cut⟩
structure runtime_boundsError where
  x : Int
  y : Int
  signed : Bool
  code : BitVec 8
  deriving DecidableEq
def c_runtime_boundsError (x : runtime_boundsError) : List AV := [eI x.x, eI x.y, eB x.signed, (@eU .u8 8) x.code]
def e_runtime_boundsError (x : runtime_boundsError) : AV := .agg (c_runtime_boundsError x)
def z_runtime_boundsError : runtime_boundsError := ⟨(0 : Int), (0 : Int), false, 0#8⟩
structure runtime_errorAddressString where
  msg : List (BitVec 8)
  addr : BitVec 64
  deriving DecidableEq
def c_runtime_errorAddressString (x : runtime_errorAddressString) : List AV := [eS x.msg, (@eU .u64 64) x.addr]
def e_runtime_errorAddressString (x : runtime_errorAddressString) : AV := .agg (c_runtime_errorAddressString x)
def z_runtime_errorAddressString : runtime_errorAddressString := ⟨([] : List (BitVec 8)), 0#64⟩
structure api_Entry where
  Key : List (BitVec 8)
  Version : Int
  AsOf : Int
  Ends : Int
  Value : List (BitVec 8)
  deriving DecidableEq
def c_api_Entry (x : api_Entry) : List AV := [eS x.Key, eI x.Version, eI x.AsOf, eI x.Ends, (eL 1 (@eU .u8 8)) x.Value]
def e_api_Entry (x : api_Entry) : AV := .agg (c_api_Entry x)
def z_api_Entry : api_Entry := ⟨([] : List (BitVec 8)), (0 : Int), (0 : Int), (0 : Int), ([] : List (BitVec 8))⟩
theorem c_api_Entry_cut (nl nt : Nat → Option Nat) (x : api_Entry) : cutL nl nt (c_api_Entry x) = c_api_Entry x := by simp only [cutL, e_api_Entry, c_api_Entry, cutAV, (enc_s td9 sz9).cut nl nt, (enc_i64 td3 sz3).cut nl nt, (enc_i64 td3 sz3).cut nl nt, (enc_i64 td3 sz3).cut nl nt, (enc_l td40 sz40 (enc_u td5 sz5).cut).cut nl nt]
theorem enc42 : Enc ty 42 5 e_api_Entry := ⟨sz42, by decide, fun _ => rfl, fun _ _ => rfl, fun h => (by cases h), fun _ => rfl, fun nl nt x => by simp only [e_api_Entry, cutAV, c_api_Entry_cut]⟩
structure api_Msg where
  Kind : Int
  From : Int
  To : Int
  Epoch : Int
  Id : Int
  X : api_Entry
  Found : Bool
  deriving DecidableEq
def c_api_Msg (x : api_Msg) : List AV := [eI x.Kind] ++ [eI x.From] ++ [eI x.To] ++ [eI x.Epoch] ++ [eI x.Id] ++ (c_api_Entry x.X) ++ [eB x.Found]
def e_api_Msg (x : api_Msg) : AV := .agg (c_api_Msg x)
def z_api_Msg : api_Msg := ⟨(0 : Int), (0 : Int), (0 : Int), (0 : Int), (0 : Int), z_api_Entry, false⟩
theorem c_api_Msg_cut (nl nt : Nat → Option Nat) (x : api_Msg) : cutL nl nt (c_api_Msg x) = c_api_Msg x := by simp only [cutL, e_api_Msg, c_api_Msg, cutAV, (enc_i64 td3 sz3).cut nl nt, (enc_i64 td3 sz3).cut nl nt, (enc_i64 td3 sz3).cut nl nt, (enc_i64 td3 sz3).cut nl nt, (enc_i64 td3 sz3).cut nl nt, (enc_b td4 sz4).cut nl nt, c_api_Entry_cut nl nt, cutL_append]
theorem enc44 : Enc ty 44 11 e_api_Msg := ⟨sz44, by decide, fun _ => rfl, fun _ _ => rfl, fun h => (by cases h), fun _ => rfl, fun nl nt x => by simp only [e_api_Msg, cutAV, c_api_Msg_cut]⟩
structure R26_Lines where
  L : List api_Msg
  Bad : List Bool
  Lost : Int
  deriving DecidableEq
def c_R26_Lines (x : R26_Lines) : List AV := [(eL 11 e_api_Msg) x.L, (eL 1 eB) x.Bad, eI x.Lost]
def e_R26_Lines (x : R26_Lines) : AV := .agg (c_R26_Lines x)
def z_R26_Lines : R26_Lines := ⟨([] : List api_Msg), ([] : List Bool), (0 : Int)⟩
theorem c_R26_Lines_cut (nl nt : Nat → Option Nat) (x : R26_Lines) : cutL nl nt (c_R26_Lines x) = c_R26_Lines x := by simp only [cutL, e_R26_Lines, c_R26_Lines, cutAV, (enc_l td27 sz27 enc44.cut).cut nl nt, (enc_l td28 sz28 (enc_b td4 sz4).cut).cut nl nt, (enc_i64 td3 sz3).cut nl nt]
theorem enc30 : Enc ty 30 3 e_R26_Lines := ⟨sz30, by decide, fun _ => rfl, fun _ _ => rfl, fun h => (by cases h), fun _ => rfl, fun nl nt x => by simp only [e_R26_Lines, cutAV, c_R26_Lines_cut]⟩
structure L26_Op where
  Kind : Int
  L : List api_Msg
  I : Int
  At : Int
  By : BitVec 8
  deriving DecidableEq
def c_L26_Op (x : L26_Op) : List AV := [eI x.Kind, (eL 11 e_api_Msg) x.L, eI x.I, eI x.At, (@eU .u8 8) x.By]
def e_L26_Op (x : L26_Op) : AV := .agg (c_L26_Op x)
def z_L26_Op : L26_Op := ⟨(0 : Int), ([] : List api_Msg), (0 : Int), (0 : Int), 0#8⟩
theorem c_L26_Op_cut (nl nt : Nat → Option Nat) (x : L26_Op) : cutL nl nt (c_L26_Op x) = c_L26_Op x := by simp only [cutL, e_L26_Op, c_L26_Op, cutAV, (enc_i64 td3 sz3).cut nl nt, (enc_l td27 sz27 enc44.cut).cut nl nt, (enc_i64 td3 sz3).cut nl nt, (enc_i64 td3 sz3).cut nl nt, (enc_u td5 sz5).cut nl nt]
theorem enc34 : Enc ty 34 5 e_L26_Op := ⟨sz34, by decide, fun _ => rfl, fun _ _ => rfl, fun h => (by cases h), fun _ => rfl, fun nl nt x => by simp only [e_L26_Op, cutAV, c_L26_Op_cut]⟩
structure lines_parcel where
  b : List (BitVec 8)
  spoilt : Bool
  deriving DecidableEq
def c_lines_parcel (x : lines_parcel) : List AV := [(eL 1 (@eU .u8 8)) x.b, eB x.spoilt]
def e_lines_parcel (x : lines_parcel) : AV := .agg (c_lines_parcel x)
def z_lines_parcel : lines_parcel := ⟨([] : List (BitVec 8)), false⟩
theorem c_lines_parcel_cut (nl nt : Nat → Option Nat) (x : lines_parcel) : cutL nl nt (c_lines_parcel x) = c_lines_parcel x := by simp only [cutL, e_lines_parcel, c_lines_parcel, cutAV, (enc_l td40 sz40 (enc_u td5 sz5).cut).cut nl nt, (enc_b td4 sz4).cut nl nt]
theorem enc68 : Enc ty 68 2 e_lines_parcel := ⟨sz68, by decide, fun _ => rfl, fun _ _ => rfl, fun h => (by cases h), fun _ => rfl, fun nl nt x => by simp only [e_lines_parcel, cutAV, c_lines_parcel_cut]⟩
structure lines_Lines where
  l : List lines_parcel
  lost : Int
  deriving DecidableEq
def c_lines_Lines (x : lines_Lines) : List AV := [(eL 2 e_lines_parcel) x.l, eI x.lost]
def e_lines_Lines (x : lines_Lines) : AV := .agg (c_lines_Lines x)
def z_lines_Lines : lines_Lines := ⟨([] : List lines_parcel), (0 : Int)⟩
structure trouble_fault where
  op : List (BitVec 8)
  at_ : Int
  code : Int
  under : Err
  deriving DecidableEq
def c_trouble_fault (x : trouble_fault) : List AV := [eS x.op, eI x.at_, eI x.code, eErr x.under]
def e_trouble_fault (x : trouble_fault) : AV := .agg (c_trouble_fault x)
def z_trouble_fault : trouble_fault := ⟨([] : List (BitVec 8)), (0 : Int), (0 : Int), Err.nil⟩
theorem c_trouble_fault_cut (nl nt : Nat → Option Nat) (x : trouble_fault) : cutL nl nt (c_trouble_fault x) = c_trouble_fault x := by simp only [cutL, e_trouble_fault, c_trouble_fault, cutAV, (enc_s td9 sz9).cut nl nt, (enc_i64 td3 sz3).cut nl nt, (enc_i64 td53 sz53).cut nl nt, encErr.cut nl nt]
theorem enc82 : Enc ty 82 4 e_trouble_fault := ⟨sz82, by decide, fun _ => rfl, fun _ _ => rfl, fun h => (by cases h), fun x => (by simp only [e_trouble_fault, c_trouble_fault, AV.cells, List.all_cons, List.all_nil, eErr_flat]; rfl), fun nl nt x => by simp only [e_trouble_fault, cutAV, c_trouble_fault_cut]⟩
structure trouble_mark where
  code : Int
  deriving DecidableEq
def c_trouble_mark (x : trouble_mark) : List AV := [eI x.code]
def e_trouble_mark (x : trouble_mark) : AV := .agg (c_trouble_mark x)
def z_trouble_mark : trouble_mark := ⟨(0 : Int)⟩
structure octets_Reader where
  b : List (BitVec 8)
  at_ : Int
  code : Int
  deriving DecidableEq
def c_octets_Reader (x : octets_Reader) : List AV := [(eL 1 (@eU .u8 8)) x.b, eI x.at_, eI x.code]
def e_octets_Reader (x : octets_Reader) : AV := .agg (c_octets_Reader x)
def z_octets_Reader : octets_Reader := ⟨([] : List (BitVec 8)), (0 : Int), (0 : Int)⟩
theorem c_octets_Reader_cut (nl nt : Nat → Option Nat) (x : octets_Reader) : cutL nl nt (c_octets_Reader x) = c_octets_Reader x := by simp only [cutL, e_octets_Reader, c_octets_Reader, cutAV, (enc_l td40 sz40 (enc_u td5 sz5).cut).cut nl nt, (enc_i64 td3 sz3).cut nl nt, (enc_i64 td53 sz53).cut nl nt]
theorem enc144 : Enc ty 144 3 e_octets_Reader := ⟨sz144, by decide, fun _ => rfl, fun _ _ => rfl, fun h => (by cases h), fun _ => rfl, fun nl nt x => by simp only [e_octets_Reader, cutAV, c_octets_Reader_cut]⟩
structure reflectlite_ValueError where
  Method : List (BitVec 8)
  Kind : BitVec 8
  deriving DecidableEq
def c_reflectlite_ValueError (x : reflectlite_ValueError) : List AV := [eS x.Method, (@eU .u8 8) x.Kind]
def e_reflectlite_ValueError (x : reflectlite_ValueError) : AV := .agg (c_reflectlite_ValueError x)
def z_reflectlite_ValueError : reflectlite_ValueError := ⟨([] : List (BitVec 8)), 0#8⟩
structure abi_Method where
  Name : Int
  Mtyp : Int
  Ifn : Int
  Tfn : Int
  deriving DecidableEq
def c_abi_Method (x : abi_Method) : List AV := [(eK .i32) x.Name, (eK .i32) x.Mtyp, (eK .i32) x.Ifn, (eK .i32) x.Tfn]
def e_abi_Method (x : abi_Method) : AV := .agg (c_abi_Method x)
def z_abi_Method : abi_Method := ⟨(0 : Int), (0 : Int), (0 : Int), (0 : Int)⟩
end Go.Proofs.YtedcgeghgbgonaaGreatDoor
namespace Go.Proofs.YtedcgeghgbgonaaGreatDoor
open Go Go.Va
set_option linter.unusedVariables false
set_option linter.unusedSimpArgs false
set_option maxRecDepth 20000
noncomputable def R02_Same_b0 (x0 : List (BitVec 8)) (x1 : List (BitVec 8)) (c8 : Int) : Option ((Int) ⊕ (Unit ⊕ (Bool))) :=
 lt (((x0).length : Int)) fun v19 =>
 lt (decide (c8 < v19)) fun v21 =>
 if v21 = true then
  (ix x0 c8).bind fun v24 =>
  (ix x1 c8).bind fun v26 =>
  lt (v24 != v26) fun v28 =>
  if v28 = true then
   some (.inr (.inr false))
  else
   lt (w64 (c8 + (1 : Int))) fun v32 =>
   some (.inl v32)
 else
  some (.inr (.inl ()))
noncomputable def R02_Same_l0 (x0 : List (BitVec 8)) (x1 : List (BitVec 8)) (s : Int) : Option (Unit ⊕ (Bool)) := loopO (fun s => R02_Same_b0 x0 x1 s) s
noncomputable def R02_Same (x0 : List (BitVec 8)) (x1 : List (BitVec 8)) : Option (Bool) :=
 lt (((x0).length : Int)) fun v2 =>
 lt (((x1).length : Int)) fun v4 =>
 lt (v2 != v4) fun v6 =>
 if v6 = true then
  some false
 else
  (R02_Same_l0 x0 x1 (0 : Int)).bind fun o9 =>
   Sum.elim (fun s16 : Unit =>
    some true
    ) (fun y => some y) o9
noncomputable def R06_Same (x0 : api_Entry) (x1 : api_Entry) : Option (Bool) :=
 lt (x0.Key == x1.Key) fun v2 =>
 if v2 = true then
  lt (x0.Version == x1.Version) fun v5 =>
  if v5 = true then
   lt (x0.AsOf == x1.AsOf) fun v8 =>
   if v8 = true then
    lt (x0.Ends == x1.Ends) fun v11 =>
    if v11 = true then
     (R02_Same x0.Value x1.Value).bind fun v14 =>
     some v14
    else
     some false
   else
    some false
  else
   some false
 else
  some false
noncomputable def R23_Same (x0 : api_Msg) (x1 : api_Msg) : Option (Bool) :=
 lt (x0.Kind == x1.Kind) fun v2 =>
 if v2 = true then
  lt (x0.From == x1.From) fun v5 =>
  if v5 = true then
   lt (x0.To == x1.To) fun v8 =>
   if v8 = true then
    lt (x0.Epoch == x1.Epoch) fun v11 =>
    if v11 = true then
     lt (x0.Id == x1.Id) fun v14 =>
     if v14 = true then
      lt (x0.Found == x1.Found) fun v17 =>
      if v17 = true then
       (R06_Same x0.X x1.X).bind fun v20 =>
       some v20
      else
       some false
     else
      some false
    else
     some false
   else
    some false
  else
   some false
 else
  some false
noncomputable def R23_SameAll_b0 (x0 : List api_Msg) (x1 : List api_Msg) (c8 : Int) : Option ((Int) ⊕ (Unit ⊕ (Bool))) :=
 lt (((x0).length : Int)) fun v19 =>
 lt (decide (c8 < v19)) fun v21 =>
 if v21 = true then
  (ix x0 c8).bind fun v24 =>
  (ix x1 c8).bind fun v26 =>
  (R23_Same v24 v26).bind fun v28 =>
  lt (!v28) fun v30 =>
  if v30 = true then
   some (.inr (.inr false))
  else
   lt (w64 (c8 + (1 : Int))) fun v34 =>
   some (.inl v34)
 else
  some (.inr (.inl ()))
noncomputable def R23_SameAll_l0 (x0 : List api_Msg) (x1 : List api_Msg) (s : Int) : Option (Unit ⊕ (Bool)) := loopO (fun s => R23_SameAll_b0 x0 x1 s) s
noncomputable def R23_SameAll (x0 : List api_Msg) (x1 : List api_Msg) : Option (Bool) :=
 lt (((x0).length : Int)) fun v2 =>
 lt (((x1).length : Int)) fun v4 =>
 lt (v2 != v4) fun v6 =>
 if v6 = true then
  some false
 else
  (R23_SameAll_l0 x0 x1 (0 : Int)).bind fun o9 =>
   Sum.elim (fun s16 : Unit =>
    some true
    ) (fun y => some y) o9
noncomputable def trouble_New (x0 : List (BitVec 8)) (x1 : Int) (x2 : Int) : Option (Err) :=
 lt (x2 == (0 : Int)) fun v2 =>
 if v2 = true then
  some Err.nil
 else
  lt ((⟨x0, x1, x2, Err.nil⟩ : trouble_fault)) fun v5 =>
  some (Err.fault v5.op v5.at_ v5.code v5.under)
noncomputable def lines_Lines_at (x0 : lines_Lines) (x1 : List (BitVec 8)) (x2 : Int) : Option (Err) :=
 (
  lt (decide (x2 < (0 : Int))) fun v6 =>
  if v6 = true then
   some true
  else
   lt ((((x0.l).length : Nat) : Int)) fun v9 =>
   lt (decide (x2 ≥ v9)) fun v11 =>
   some v11
 : Option (Bool)).bind fun s1 =>
  if s1 = true then
   (trouble_New x1 x2 (9 : Int)).bind fun v15 =>
   some v15
  else
   some Err.nil
noncomputable def trouble_Wrap (x0 : List (BitVec 8)) (x1 : Int) (x2 : Err) : Option (Err) :=
 lt (Err.isNil x2) fun v2 =>
 if v2 = true then
  some Err.nil
 else
  lt ((⟨x0, x1, (0 : Int), x2⟩ : trouble_fault)) fun v5 =>
  some (Err.fault v5.op v5.at_ v5.code v5.under)
noncomputable def wire_parts (x0 : Int) : Option ((List (BitVec 8))) :=
 lt (x0 == (2 : Int)) fun v2 =>
 if v2 = true then
  some ([65#8, 70#8] : List (BitVec 8))
 else
  lt (x0 == (3 : Int)) fun v5 =>
  (
   if v5 = true then
    some v5
   else
    lt (x0 == (4 : Int)) fun v12 =>
    some v12
  : Option (Bool)).bind fun s6 =>
   if s6 = true then
    some ([75#8, 65#8] : List (BitVec 8))
   else
    lt (x0 == (5 : Int)) fun v16 =>
    if v16 = true then
     some ([73#8, 75#8] : List (BitVec 8))
    else
     lt (x0 == (6 : Int)) fun v19 =>
     if v19 = true then
      some ([73#8, 75#8, 65#8, 70#8, 86#8] : List (BitVec 8))
     else
      some ([] : List (BitVec 8))
noncomputable def wire_down (x0 : Int) : Option (Bool) :=
 lt (x0 == (2 : Int)) fun v2 =>
 if v2 = true then
  some true
 else
  lt (x0 == (3 : Int)) fun v5 =>
  if v5 = true then
   some true
  else
   lt (x0 == (6 : Int)) fun v8 =>
   some v8
noncomputable def octets_Key (x0 : List (BitVec 8)) : Option (Int) :=
 lt (((x0).length : Int)) fun v2 =>
 lt (v2 == (0 : Int)) fun v4 =>
 if v4 = true then
  some (1 : Int)
 else
  lt (decide (v2 > (40 : Int))) fun v7 =>
  if v7 = true then
   some (3 : Int)
  else
   some (0 : Int)
noncomputable def item_Check_1_c (x0 : List (BitVec 8)) (x1 : Int) (x2 : Int) (x3 : Err) : Option (Err) :=
 (
  lt (Err.isNil x3) fun v6 =>
  if v6 = true then
   lt (decide (x1 < x2)) fun v9 =>
   if v9 = true then
    some true
   else
    lt (decide (x1 > (1099511627776 : Int))) fun v12 =>
    some v12
  else
   some false
 : Option (Bool)).bind fun s1 =>
  if s1 = true then
   (trouble_New x0 x1 (2 : Int)).bind fun v16 =>
   lt ((v16 : Err)) fun c18 =>
   some c18
  else
   some x3
noncomputable def item_Check (x0 : api_Entry) : Option (Err) :=
 (octets_Key x0.Key).bind fun v2 =>
 lt (v2 != (0 : Int)) fun v4 =>
 if v4 = true then
  lt (((x0.Key).length : Int)) fun v7 =>
  (trouble_New ([107#8, 101#8, 121#8] : List (BitVec 8)) v7 v2).bind fun v9 =>
  some v9
 else
  (item_Check_1_c ([118#8, 101#8, 114#8, 115#8, 105#8, 111#8, 110#8] : List (BitVec 8)) x0.Version (1 : Int) Err.nil).bind fun v13 =>
  (item_Check_1_c ([97#8, 115#8, 111#8, 102#8] : List (BitVec 8)) x0.AsOf x0.Version v13).bind fun v15 =>
  (item_Check_1_c ([101#8, 110#8, 100#8, 115#8] : List (BitVec 8)) x0.Ends (0 : Int) v15).bind fun v17 =>
  (
   lt (Err.isNil v17) fun v23 =>
   if v23 = true then
    lt (((x0.Value).length : Int)) fun v26 =>
    lt (decide (v26 > (4096 : Int))) fun v28 =>
    some v28
   else
    some false
  : Option (Bool)).bind fun s18 =>
   if s18 = true then
    lt (((x0.Value).length : Int)) fun v32 =>
    (trouble_New ([118#8, 97#8, 108#8, 117#8, 101#8] : List (BitVec 8)) v32 (3 : Int)).bind fun v34 =>
    lt ((v34 : Err)) fun c36 =>
    some c36
   else
    some v17
noncomputable def item_Same (x0 : api_Entry) (x1 : api_Entry) : Option (Bool) :=
 lt (x0.Key == x1.Key) fun v2 =>
 if v2 = true then
  lt (x0.Version == x1.Version) fun v5 =>
  if v5 = true then
   lt (x0.AsOf == x1.AsOf) fun v8 =>
   if v8 = true then
    lt (x0.Ends == x1.Ends) fun v11 =>
    if v11 = true then
     lt (x0.Value == x1.Value) fun v14 =>
     some v14
    else
     some false
   else
    some false
  else
   some false
 else
  some false
noncomputable def wire_Check_b0 (x0 : api_Msg) (c72 : List (BitVec 8) × Nat) (c73 : api_Msg) : Option (((List (BitVec 8) × Nat) × api_Msg) ⊕ (((List (BitVec 8) × Nat) × api_Msg) ⊕ (Err))) :=
 (nxS c72).bind fun v84 =>
 Option.elim v84 (
  some (.inr (.inl (c72, c73)))
 ) (fun c86 =>
  lt (c86 == (73 : Int)) fun v88 =>
  if v88 = true then
   (
    lt (decide (x0.Id < (1 : Int))) fun v95 =>
    if v95 = true then
     some true
    else
     lt (decide (x0.Id > (1099511627776 : Int))) fun v98 =>
     some v98
   : Option (Bool)).bind fun s90 =>
    if s90 = true then
     (trouble_New ([108#8, 101#8, 97#8, 115#8, 101#8] : List (BitVec 8)) x0.Id (2 : Int)).bind fun v102 =>
     some (.inr (.inr v102))
    else
     lt (({ c73 with Id := (0 : Int) } : api_Msg)) fun c105 =>
     some (.inl ((c72.1, c72.2 + 1), c105))
  else
   lt (c86 == (75 : Int)) fun v108 =>
   if v108 = true then
    (octets_Key x0.X.Key).bind fun v111 =>
    lt (v111 != (0 : Int)) fun v113 =>
    if v113 = true then
     lt (((x0.X.Key).length : Int)) fun v116 =>
     (trouble_New ([107#8, 101#8, 121#8] : List (BitVec 8)) v116 v111).bind fun v118 =>
     some (.inr (.inr v118))
    else
     lt (({ c73 with X := { c73.X with Key := ([] : List (BitVec 8)) } } : api_Msg)) fun c121 =>
     some (.inl ((c72.1, c72.2 + 1), c121))
   else
    lt (c86 == (65 : Int)) fun v124 =>
    if v124 = true then
     (
      lt (decide (x0.X.AsOf < (0 : Int))) fun v131 =>
      if v131 = true then
       some true
      else
       lt (decide (x0.X.AsOf > (1099511627776 : Int))) fun v134 =>
       some v134
     : Option (Bool)).bind fun s126 =>
      if s126 = true then
       (trouble_New ([97#8, 115#8, 111#8, 102#8] : List (BitVec 8)) x0.X.AsOf (2 : Int)).bind fun v138 =>
       some (.inr (.inr v138))
      else
       lt (({ c73 with X := { c73.X with AsOf := (0 : Int) } } : api_Msg)) fun c141 =>
       some (.inl ((c72.1, c72.2 + 1), c141))
    else
     lt (c86 == (70 : Int)) fun v144 =>
     if v144 = true then
      lt (({ c73 with Found := false } : api_Msg)) fun c147 =>
      some (.inl ((c72.1, c72.2 + 1), c147))
     else
      lt (c86 == (86 : Int)) fun v150 =>
      if v150 = true then
       lt (!x0.Found) fun v153 =>
       if v153 = true then
        some (.inl ((c72.1, c72.2 + 1), c73))
       else
        (item_Check x0.X).bind fun v156 =>
        lt (!Err.isNil v156) fun v158 =>
        if v158 = true then
         (trouble_Wrap ([118#8, 97#8, 108#8, 117#8, 101#8] : List (BitVec 8)) x0.Id v156).bind fun v161 =>
         some (.inr (.inr v161))
        else
         lt (({ c73 with X := (⟨([] : List (BitVec 8)), (0 : Int), (0 : Int), (0 : Int), ([] : List (BitVec 8))⟩ : api_Entry) } : api_Msg)) fun c164 =>
         some (.inl ((c72.1, c72.2 + 1), c164))
      else
       some (.inl ((c72.1, c72.2 + 1), c73))
 )
noncomputable def wire_Check_l0 (x0 : api_Msg) (s : (List (BitVec 8) × Nat) × api_Msg) : Option (((List (BitVec 8) × Nat) × api_Msg) ⊕ (Err)) := loopO (fun s => wire_Check_b0 x0 s.1 s.2) s
noncomputable def wire_Check (x0 : api_Msg) : Option (Err) :=
 (
  lt (decide (x0.Kind < (1 : Int))) fun v6 =>
  if v6 = true then
   some true
  else
   lt (decide (x0.Kind > (6 : Int))) fun v9 =>
   some v9
 : Option (Bool)).bind fun s1 =>
  if s1 = true then
   (trouble_New ([107#8, 105#8, 110#8, 100#8] : List (BitVec 8)) x0.Kind (12 : Int)).bind fun v13 =>
   some v13
  else
   (wire_down x0.Kind).bind fun v15 =>
   (
    if v15 = true then
     some (x0.To, x0.From)
    else
     some (x0.From, x0.To)
   : Option (Int × Int)).bind fun s16 =>
    (
     lt (decide (s16.1 < (1 : Int))) fun v27 =>
     if v27 = true then
      some true
     else
      lt (decide (s16.1 > (16 : Int))) fun v30 =>
      if v30 = true then
       some true
      else
       lt (s16.2 != (0 : Int)) fun v33 =>
       some v33
    : Option (Bool)).bind fun s22 =>
     if s22 = true then
      (trouble_New ([112#8, 108#8, 97#8, 99#8, 101#8] : List (BitVec 8)) s16.1 (2 : Int)).bind fun v37 =>
      some v37
     else
      (
       lt (decide (x0.Epoch < (1 : Int))) fun v43 =>
       if v43 = true then
        some true
       else
        lt (decide (x0.Epoch > (1099511627776 : Int))) fun v46 =>
        some v46
      : Option (Bool)).bind fun s38 =>
       if s38 = true then
        (trouble_New ([101#8, 112#8, 111#8, 99#8, 104#8] : List (BitVec 8)) x0.Epoch (2 : Int)).bind fun v50 =>
        some v50
       else
        lt ((x0 : api_Msg)) fun c54 =>
        lt (({ c54 with Kind := (0 : Int) } : api_Msg)) fun c57 =>
        lt (({ c57 with From := (0 : Int) } : api_Msg)) fun c60 =>
        lt (({ c60 with To := (0 : Int) } : api_Msg)) fun c63 =>
        lt (({ c63 with Epoch := (0 : Int) } : api_Msg)) fun c66 =>
        (wire_parts x0.Kind).bind fun v69 =>
        (wire_Check_l0 x0 ((v69, 0), c66)).bind fun o74 =>
         Sum.elim (fun s81 : (List (BitVec 8) × Nat) × api_Msg =>
          (
           lt (s81.2.Id != (0 : Int)) fun v172 =>
           if v172 = true then
            some true
           else
            if s81.2.Found = true then
             some true
            else
             (item_Same s81.2.X (⟨([] : List (BitVec 8)), (0 : Int), (0 : Int), (0 : Int), ([] : List (BitVec 8))⟩ : api_Entry)).bind fun v176 =>
             lt (!v176) fun v178 =>
             some v178
          : Option (Bool)).bind fun s167 =>
           if s167 = true then
            (trouble_New ([109#8, 101#8, 115#8, 115#8, 97#8, 103#8, 101#8] : List (BitVec 8)) x0.Kind (5 : Int)).bind fun v182 =>
            some v182
           else
            some Err.nil
          ) (fun y => some y) o74
noncomputable def checksum_Four (x0 : BitVec 32) : Option ((List (BitVec 8))) :=
 lt (BitVec.setWidth 8 x0) fun v4 =>
 lt (x0 >>> 8) fun v6 =>
 lt (BitVec.setWidth 8 v6) fun v8 =>
 lt (x0 >>> 16) fun v10 =>
 lt (BitVec.setWidth 8 v10) fun v12 =>
 lt (x0 >>> 24) fun v14 =>
 lt (BitVec.setWidth 8 v14) fun v16 =>
 lt (([v4, v8, v12, v16] : List (BitVec 8))) fun v18 =>
 (stW 4 (List.replicate 4 0#8) v18).bind fun c20 =>
 (whole 4 c20).bind fun w22 =>
 some w22
noncomputable def checksum_column_b0  (c3 : BitVec 32) (c4 : Int) : Option (((BitVec 32) × Int) ⊕ ((BitVec 32))) :=
 lt (decide (c4 < (8 : Int))) fun v15 =>
 if v15 = true then
  lt (c3 &&& 1#32) fun v18 =>
  lt (v18 == 1#32) fun v20 =>
  if v20 = true then
   lt (c3 >>> 1) fun v23 =>
   lt (v23 ^^^ 3988292384#32) fun v25 =>
   lt (w64 (c4 + (1 : Int))) fun v27 =>
   some (.inl (v25, v27))
  else
   lt (c3 >>> 1) fun v29 =>
   lt (w64 (c4 + (1 : Int))) fun v31 =>
   some (.inl (v29, v31))
 else
  some (.inr c3)
noncomputable def checksum_column_l0  (s : (BitVec 32) × Int) : Option ((BitVec 32)) := loopO (fun s => checksum_column_b0 s.1 s.2) s
noncomputable def checksum_column (x0 : BitVec 8) : Option ((BitVec 32)) :=
 lt (BitVec.setWidth 32 x0) fun v2 =>
 (checksum_column_l0 (v2, (0 : Int))).bind fun s12 =>
  some s12
noncomputable def checksum_More_b0 (x1 : List (BitVec 8)) (v4 : Int) (c5 : BitVec 32) (c6 : Int) : Option (((BitVec 32) × Int) ⊕ ((BitVec 32))) :=
 lt (decide (c6 < v4)) fun v17 =>
 if v17 = true then
  (ix x1 c6).bind fun v20 =>
  lt (c5 >>> 8) fun v22 =>
  lt (BitVec.setWidth 8 c5) fun v24 =>
  lt (v24 ^^^ v20) fun v26 =>
  (checksum_column v26).bind fun v28 =>
  lt (v22 ^^^ v28) fun v30 =>
  lt (w64 (c6 + (1 : Int))) fun v32 =>
  some (.inl (v30, v32))
 else
  some (.inr c5)
noncomputable def checksum_More_l0 (x1 : List (BitVec 8)) (v4 : Int) (s : (BitVec 32) × Int) : Option ((BitVec 32)) := loopO (fun s => checksum_More_b0 x1 v4 s.1 s.2) s
noncomputable def checksum_More (x0 : BitVec 32) (x1 : List (BitVec 8)) : Option ((BitVec 32)) :=
 lt (~~~ x0) fun v2 =>
 lt (((x1).length : Int)) fun v4 =>
 (checksum_More_l0 x1 v4 (v2, (0 : Int))).bind fun s14 =>
  lt (~~~ s14) fun v35 =>
  some v35
noncomputable def checksum_Sum (x0 : List (BitVec 8)) : Option ((BitVec 32)) :=
 (checksum_More 0#32 x0).bind fun v2 =>
 some v2
noncomputable def checksum_Fits (x0 : List (BitVec 8)) : Option (Bool) :=
 lt (((x0).length : Int)) fun v2 =>
 lt (w64 (v2 - (4 : Int))) fun v4 =>
 lt (decide (v4 < (0 : Int))) fun v6 =>
 if v6 = true then
  some false
 else
  (cutTo x0 v4).bind fun v9 =>
  (checksum_Sum v9).bind fun v11 =>
  (checksum_Four v11).bind fun v13 =>
  (cutFrom x0 v4).bind fun v15 =>
  (cutTo v15 4).bind fun v17 =>
  (whole 4 v17).bind fun v19 =>
  (eqA 4 v13 v19).bind fun v21 =>
  some v21
noncomputable def octets_Read (x0 : List (BitVec 8)) : Option (octets_Reader) :=
 (app 1 ([] : List (BitVec 8)) x0).bind fun v2 =>
 lt ((⟨v2, (0 : Int), (0 : Int)⟩ : octets_Reader)) fun v6 =>
 some v6
noncomputable def octets_Reader_Fail (x0 : octets_Reader) (x1 : Int) : Option (octets_Reader) :=
 lt (x0.code == (0 : Int)) fun v2 =>
 if v2 = true then
  lt (({ x0 with code := x1 } : octets_Reader)) fun c5 =>
  some c5
 else
  some x0
noncomputable def octets_Reader_Number_b0 (x1 : Int) (c1 : Int) (c2 : Int) (c3 : octets_Reader) : Option ((Int × Int × octets_Reader) ⊕ (octets_Reader ⊕ (Int × octets_Reader))) :=
 lt (c3.code == (0 : Int)) fun v14 =>
 if v14 = true then
  lt (((c3.b).length : Int)) fun v17 =>
  lt (decide (c2 ≥ v17)) fun v19 =>
  if v19 = true then
   (octets_Reader_Fail c3 (6 : Int)).bind fun v22 =>
   some (.inr (.inl v22))
  else
   (ix c3.b c2).bind fun v24 =>
   lt (w64 (c2 + (1 : Int))) fun v26 =>
   (
    lt (v24 == 128#8) fun v32 =>
    if v32 = true then
     lt (c1 == (0 : Int)) fun v35 =>
     if v35 = true then
      lt (w64 (c3.at_ + (1 : Int))) fun v38 =>
      lt (v26 == v38) fun v40 =>
      some v40
     else
      some false
    else
     some false
   : Option (Bool)).bind fun s27 =>
    if s27 = true then
     (octets_Reader_Fail c3 (5 : Int)).bind fun v44 =>
     some (.inl (c1, v26, v44))
    else
     lt (shr64 x1 7) fun v46 =>
     lt (decide (c1 > v46)) fun v48 =>
     if v48 = true then
      (octets_Reader_Fail c3 (2 : Int)).bind fun v51 =>
      some (.inl (c1, v26, v51))
     else
      lt (decide (128#8 ≤ v24)) fun v53 =>
      if v53 = true then
       lt (shl64 c1 7) fun v56 =>
       lt (v24 &&& 127#8) fun v58 =>
       lt ((BitVec.toNat v58 : Int)) fun v60 =>
       lt (or64 v56 v60) fun v62 =>
       some (.inl (v62, v26, c3))
      else
       lt (shl64 c1 7) fun v64 =>
       lt ((BitVec.toNat v24 : Int)) fun v66 =>
       lt (or64 v64 v66) fun v68 =>
       lt (decide (v68 > x1)) fun v70 =>
       if v70 = true then
        (octets_Reader_Fail c3 (2 : Int)).bind fun v73 =>
        some (.inl (v68, v26, v73))
       else
        lt (({ c3 with at_ := v26 } : octets_Reader)) fun c75 =>
        some (.inr (.inr (v68, c75)))
 else
  some (.inr (.inl c3))
noncomputable def octets_Reader_Number_l0 (x1 : Int) (s : Int × Int × octets_Reader) : Option (octets_Reader ⊕ (Int × octets_Reader)) := loopO (fun s => octets_Reader_Number_b0 x1 s.1 s.2.1 s.2.2) s
noncomputable def octets_Reader_Number (x0 : octets_Reader) (x1 : Int) : Option (Int × octets_Reader) :=
 (octets_Reader_Number_l0 x1 ((0 : Int), x0.at_, x0)).bind fun o4 =>
  Sum.elim (fun s11 : octets_Reader =>
   some ((0 : Int), s11)
   ) (fun y => some y) o4
noncomputable def octets_Reader_Code (x0 : octets_Reader) : Option (Int) :=
 some x0.code
noncomputable def octets_Reader_Left (x0 : octets_Reader) : Option (Int) :=
 lt (((x0.b).length : Int)) fun v2 =>
 lt (w64 (v2 - x0.at_)) fun v4 =>
 some v4
noncomputable def octets_Reader_Bytes (x0 : octets_Reader) (x1 : Int) : Option ((List (BitVec 8)) × octets_Reader) :=
 (octets_Reader_Number x0 x1).bind fun v2 =>
 lt (v2.2.code != (0 : Int)) fun v4 =>
 if v4 = true then
  some ([], v2.2)
 else
  (octets_Reader_Left v2.2).bind fun v7 =>
  lt (decide (v2.1 > v7)) fun v9 =>
  if v9 = true then
   lt (({ v2.2 with at_ := x0.at_ } : octets_Reader)) fun c12 =>
   (octets_Reader_Fail c12 (6 : Int)).bind fun v15 =>
   some ([], v15)
  else
   lt (w64 (v2.2.at_ + v2.1)) fun v17 =>
   (cutO v2.2.b v2.2.at_ v17).bind fun v19 =>
   (app 1 ([] : List (BitVec 8)) v19).bind fun v21 =>
   lt (w64 (v2.2.at_ + v2.1)) fun v25 =>
   lt (({ v2.2 with at_ := v25 } : octets_Reader)) fun c27 =>
   some (v21, c27)
noncomputable def octets_Reader_End (x0 : octets_Reader) : Option (Int × octets_Reader) :=
 (octets_Reader_Left x0).bind fun v2 =>
 lt (decide (v2 > (0 : Int))) fun v4 =>
 (
  if v4 = true then
   (octets_Reader_Fail x0 (5 : Int)).bind fun v11 =>
   some v11
  else
   some x0
 : Option (octets_Reader)).bind fun s5 =>
  some (s5.code, s5)
noncomputable def octets_Reader_At (x0 : octets_Reader) : Option (Int) :=
 some x0.at_
noncomputable def wire_Get_b0 (x0 : List (BitVec 8)) (c67 : List (BitVec 8) × Nat) (c68 : api_Msg) (c69 : octets_Reader) : Option (((List (BitVec 8) × Nat) × api_Msg × octets_Reader) ⊕ ((List (BitVec 8) × Nat) × api_Msg × octets_Reader)) :=
 (nxS c67).bind fun v80 =>
 Option.elim v80 (
  some (.inr (c67, c68, c69))
 ) (fun c82 =>
  (octets_Reader_Code c69).bind fun v84 =>
  lt (v84 != (0 : Int)) fun v86 =>
  if v86 = true then
   some (.inr ((c67.1, c67.2 + 1), c68, c69))
  else
   lt (c82 == (73 : Int)) fun v89 =>
   if v89 = true then
    (octets_Reader_Number c69 (1099511627776 : Int)).bind fun v92 =>
    lt (({ c68 with Id := v92.1 } : api_Msg)) fun c94 =>
    some (.inl ((c67.1, c67.2 + 1), c94, v92.2))
   else
    lt (c82 == (75 : Int)) fun v97 =>
    if v97 = true then
     (octets_Reader_Bytes c69 (40 : Int)).bind fun v100 =>
     lt (({ c68 with X := { c68.X with Key := v100.1 } } : api_Msg)) fun c102 =>
     some (.inl ((c67.1, c67.2 + 1), c102, v100.2))
    else
     lt (c82 == (65 : Int)) fun v105 =>
     if v105 = true then
      (octets_Reader_Number c69 (1099511627776 : Int)).bind fun v108 =>
      lt (({ c68 with X := { c68.X with AsOf := v108.1 } } : api_Msg)) fun c110 =>
      some (.inl ((c67.1, c67.2 + 1), c110, v108.2))
     else
      lt (c82 == (70 : Int)) fun v113 =>
      if v113 = true then
       (octets_Reader_Number c69 (1 : Int)).bind fun v116 =>
       lt (v116.1 == (1 : Int)) fun v118 =>
       lt (({ c68 with Found := v118 } : api_Msg)) fun c120 =>
       some (.inl ((c67.1, c67.2 + 1), c120, v116.2))
      else
       lt (c82 == (86 : Int)) fun v123 =>
       if v123 = true then
        if c68.Found = true then
         (octets_Reader_Number c69 (1099511627776 : Int)).bind fun v127 =>
         (octets_Reader_Number v127.2 (1099511627776 : Int)).bind fun v129 =>
         lt (({ c68 with X := { c68.X with Version := v127.1 } } : api_Msg)) fun c131 =>
         lt (({ c131 with X := { c131.X with Ends := v129.1 } } : api_Msg)) fun c134 =>
         (octets_Reader_Bytes v129.2 (4096 : Int)).bind fun v137 =>
         lt (({ c134 with X := { c134.X with Value := v137.1 } } : api_Msg)) fun c139 =>
         some (.inl ((c67.1, c67.2 + 1), c139, v137.2))
        else
         some (.inl ((c67.1, c67.2 + 1), c68, c69))
       else
        some (.inl ((c67.1, c67.2 + 1), c68, c69))
 )
noncomputable def wire_Get_l0 (x0 : List (BitVec 8)) (s : (List (BitVec 8) × Nat) × api_Msg × octets_Reader) : Option ((List (BitVec 8) × Nat) × api_Msg × octets_Reader) := loopO (fun s => wire_Get_b0 x0 s.1 s.2.1 s.2.2) s
noncomputable def wire_Get (x0 : List (BitVec 8)) : Option (api_Msg × Err) :=
 lt (((x0).length : Int)) fun v4 =>
 lt (decide (v4 < (4 : Int))) fun v6 =>
 if v6 = true then
  lt ((⟨(0 : Int), (0 : Int), (0 : Int), (0 : Int), (0 : Int), z_api_Entry, false⟩ : api_Msg)) fun v9 =>
  lt (((x0).length : Int)) fun v11 =>
  (trouble_New ([103#8, 101#8, 116#8] : List (BitVec 8)) v11 (6 : Int)).bind fun v13 =>
  lt ((v9 : api_Msg)) fun c15 =>
  some (c15, v13)
 else
  (checksum_Fits x0).bind fun v18 =>
  lt (!v18) fun v20 =>
  if v20 = true then
   lt ((⟨(0 : Int), (0 : Int), (0 : Int), (0 : Int), (0 : Int), z_api_Entry, false⟩ : api_Msg)) fun v23 =>
   lt (((x0).length : Int)) fun v25 =>
   (trouble_New ([103#8, 101#8, 116#8] : List (BitVec 8)) v25 (7 : Int)).bind fun v27 =>
   lt ((v23 : api_Msg)) fun c29 =>
   some (c29, v27)
  else
   lt (((x0).length : Int)) fun v32 =>
   lt (w64 (v32 - (4 : Int))) fun v34 =>
   (cutTo x0 v34).bind fun v36 =>
   (octets_Read v36).bind fun v38 =>
   (octets_Reader_Number v38 (6 : Int)).bind fun v44 =>
   (octets_Reader_Number v44.2 (16 : Int)).bind fun v46 =>
   (octets_Reader_Number v46.2 (16 : Int)).bind fun v48 =>
   (octets_Reader_Number v48.2 (1099511627776 : Int)).bind fun v50 =>
   lt (({ z_api_Msg with Kind := v44.1 } : api_Msg)) fun c52 =>
   lt (({ c52 with From := v46.1 } : api_Msg)) fun c55 =>
   lt (({ c55 with To := v48.1 } : api_Msg)) fun c58 =>
   lt (({ c58 with Epoch := v50.1 } : api_Msg)) fun c61 =>
   (wire_parts c61.Kind).bind fun v64 =>
   (wire_Get_l0 x0 ((v64, 0), c61, v50.2)).bind fun s77 =>
    (octets_Reader_End s77.2.2).bind fun v143 =>
    lt (v143.1 != (0 : Int)) fun v145 =>
    if v145 = true then
     lt ((⟨(0 : Int), (0 : Int), (0 : Int), (0 : Int), (0 : Int), z_api_Entry, false⟩ : api_Msg)) fun v148 =>
     (octets_Reader_At v143.2).bind fun v150 =>
     (trouble_New ([103#8, 101#8, 116#8] : List (BitVec 8)) v150 v143.1).bind fun v152 =>
     lt ((v148 : api_Msg)) fun c154 =>
     some (c154, v152)
    else
     (wire_Check s77.2.1).bind fun v157 =>
     lt (!Err.isNil v157) fun v159 =>
     if v159 = true then
      lt ((⟨(0 : Int), (0 : Int), (0 : Int), (0 : Int), (0 : Int), z_api_Entry, false⟩ : api_Msg)) fun v162 =>
      lt (((x0).length : Int)) fun v164 =>
      (trouble_Wrap ([103#8, 101#8, 116#8] : List (BitVec 8)) v164 v157).bind fun v166 =>
      lt ((v162 : api_Msg)) fun c168 =>
      some (c168, v166)
     else
      lt ((s77.2.1 : api_Msg)) fun c171 =>
      some (c171, Err.nil)
noncomputable def lines_Lines_Look (x0 : lines_Lines) (x1 : Int) : Option (api_Msg × Err) :=
 (lines_Lines_at x0 ([108#8, 111#8, 111#8, 107#8] : List (BitVec 8)) x1).bind fun v4 =>
 lt (!Err.isNil v4) fun v6 =>
 if v6 = true then
  lt ((⟨(0 : Int), (0 : Int), (0 : Int), (0 : Int), (0 : Int), z_api_Entry, false⟩ : api_Msg)) fun v9 =>
  lt ((v9 : api_Msg)) fun c11 =>
  some (c11, v4)
 else
  (chk (x0.l).length x1).bind fun v14 =>
  (ixA (x0.l).length x0.l x1).bind fun v16 =>
  (wire_Get v16.b).bind fun v18 =>
  lt ((v18.1 : api_Msg)) fun c22 =>
  (trouble_Wrap ([108#8, 111#8, 111#8, 107#8] : List (BitVec 8)) x1 v18.2).bind fun v25 =>
  lt ((c22 : api_Msg)) fun c27 =>
  some (c27, v25)
noncomputable def lines_Lines_All_b0 (x0 : lines_Lines) (v2 : Int) (c3 : List api_Msg) (c4 : Int) : Option (((List api_Msg) × Int) ⊕ ((List api_Msg))) :=
 lt (decide (c4 < v2)) fun v16 =>
 if v16 = true then
  (chk (x0.l).length c4).bind fun v19 =>
  (ixA (x0.l).length x0.l c4).bind fun v21 =>
  (lines_Lines_Look x0 c4).bind fun v26 =>
  lt ((v26.1 : api_Msg)) fun c30 =>
  (
   lt (Err.isNil v26.2) fun v37 =>
   if v37 = true then
    lt (!((v21 : lines_parcel).spoilt)) fun v40 =>
    some v40
   else
    some false
  : Option (Bool)).bind fun s32 =>
   if s32 = true then
    lt (([c30] : List api_Msg)) fun v44 =>
    (app 112 c3 v44).bind fun v46 =>
    lt (w64 (c4 + (1 : Int))) fun v50 =>
    some (.inl (v46, v50))
   else
    lt (w64 (c4 + (1 : Int))) fun v52 =>
    some (.inl (c3, v52))
 else
  some (.inr c3)
noncomputable def lines_Lines_All_l0 (x0 : lines_Lines) (v2 : Int) (s : (List api_Msg) × Int) : Option ((List api_Msg)) := loopO (fun s => lines_Lines_All_b0 x0 v2 s.1 s.2) s
noncomputable def lines_Lines_All (x0 : lines_Lines) : Option ((List api_Msg)) :=
 lt ((((x0.l).length : Nat) : Int)) fun v2 =>
 (lines_Lines_All_l0 x0 v2 ([], (0 : Int))).bind fun s13 =>
  some s13
noncomputable def R26_All_b0 (x0 : R26_Lines) (c1 : List api_Msg) (c2 : Int) : Option (((List api_Msg) × Int) ⊕ ((List api_Msg))) :=
 lt (((x0.L).length : Int)) fun v14 =>
 lt (decide (c2 < v14)) fun v16 =>
 if v16 = true then
  (ix x0.Bad c2).bind fun v19 =>
  lt (!v19) fun v21 =>
  if v21 = true then
   (ix x0.L c2).bind fun v24 =>
   lt (([v24] : List api_Msg)) fun v26 =>
   (app 112 c1 v26).bind fun v28 =>
   lt (w64 (c2 + (1 : Int))) fun v32 =>
   some (.inl (v28, v32))
  else
   lt (w64 (c2 + (1 : Int))) fun v34 =>
   some (.inl (c1, v34))
 else
  some (.inr c1)
noncomputable def R26_All_l0 (x0 : R26_Lines) (s : (List api_Msg) × Int) : Option ((List api_Msg)) := loopO (fun s => R26_All_b0 x0 s.1 s.2) s
noncomputable def R26_All (x0 : R26_Lines) : Option ((List api_Msg)) :=
 (R26_All_l0 x0 ([], (0 : Int))).bind fun s11 =>
  some s11
noncomputable def L06_Light_b0 (x0 : List api_Entry) (c6 : Int) (c7 : Int) : Option ((Int × Int) ⊕ (Unit ⊕ (Int))) :=
 lt (((x0).length : Int)) fun v18 =>
 lt (decide (c7 < v18)) fun v20 =>
 if v20 = true then
  (
   (ix x0 c7).bind fun v27 =>
   lt (((v27.Key).length : Int)) fun v29 =>
   lt (decide (v29 > (200 : Int))) fun v31 =>
   if v31 = true then
    some true
   else
    (ix x0 c7).bind fun v34 =>
    lt (((v34.Value).length : Int)) fun v36 =>
    lt (decide (v36 > (5000 : Int))) fun v38 =>
    some v38
  : Option (Bool)).bind fun s22 =>
   if s22 = true then
    some (.inr (.inr (1 : Int)))
   else
    (ix x0 c7).bind fun v43 =>
    lt (((v43.Value).length : Int)) fun v45 =>
    lt (w64 (c6 + v45)) fun v47 =>
    lt (decide (v47 > (12000 : Int))) fun v49 =>
    if v49 = true then
     some (.inr (.inr (1 : Int)))
    else
     lt (w64 (c7 + (1 : Int))) fun v53 =>
     some (.inl (v47, v53))
 else
  some (.inr (.inl ()))
noncomputable def L06_Light_l0 (x0 : List api_Entry) (s : Int × Int) : Option (Unit ⊕ (Int)) := loopO (fun s => L06_Light_b0 x0 s.1 s.2) s
noncomputable def L06_Light (x0 : List api_Entry) : Option (Int) :=
 lt (((x0).length : Int)) fun v2 =>
 lt (decide (v2 > (40 : Int))) fun v4 =>
 if v4 = true then
  some (1 : Int)
 else
  (L06_Light_l0 x0 ((0 : Int), (0 : Int))).bind fun o8 =>
   Sum.elim (fun s15 : Unit =>
    some (0 : Int)
    ) (fun y => some y) o8
noncomputable def L26_light_b1 (x0 : List L26_Op) (c7 : Int) (v27 : Int) (c32 : List api_Entry) (c33 : Int) : Option (((List api_Entry) × Int) ⊕ ((List api_Entry))) :=
 (
  (ix x0 c7).bind fun v49 =>
  lt (((v49.L).length : Int)) fun v51 =>
  lt (decide (c33 < v51)) fun v53 =>
  if v53 = true then
   lt (decide (c33 < (40 : Int))) fun v56 =>
   some v56
  else
   some false
 : Option (Bool)).bind fun s44 =>
  if s44 = true then
   (ix x0 c7).bind fun v60 =>
   (ix v60.L c33).bind fun v62 =>
   lt (([v62.X] : List api_Entry)) fun v64 =>
   (app 64 c32 v64).bind fun v66 =>
   lt (w64 (c33 + (1 : Int))) fun v70 =>
   some (.inl (v66, v70))
  else
   some (.inr c32)
noncomputable def L26_light_l1 (x0 : List L26_Op) (c7 : Int) (v27 : Int) (s : (List api_Entry) × Int) : Option ((List api_Entry)) := loopO (fun s => L26_light_b1 x0 c7 v27 s.1 s.2) s
noncomputable def L26_light_b0 (x0 : List L26_Op) (c6 : Int) (c7 : Int) : Option ((Int × Int) ⊕ (Unit ⊕ (Bool))) :=
 lt (((x0).length : Int)) fun v18 =>
 lt (decide (c7 < v18)) fun v20 =>
 if v20 = true then
  (ix x0 c7).bind fun v23 =>
  lt (((v23.L).length : Int)) fun v25 =>
  lt (w64 (c6 + v25)) fun v27 =>
  lt (decide (v27 > (300 : Int))) fun v29 =>
  if v29 = true then
   some (.inr (.inr false))
  else
   (L26_light_l1 x0 c7 v27 ([], (0 : Int))).bind fun s42 =>
    (
     (ix x0 c7).bind fun v77 =>
     lt (((v77.L).length : Int)) fun v79 =>
     lt (decide (v79 > (40 : Int))) fun v81 =>
     if v81 = true then
      some true
     else
      (L06_Light s42).bind fun v84 =>
      lt (decide (v84 > (0 : Int))) fun v86 =>
      some v86
    : Option (Bool)).bind fun s72 =>
     if s72 = true then
      some (.inr (.inr false))
     else
      lt (w64 (c7 + (1 : Int))) fun v91 =>
      some (.inl (v27, v91))
 else
  some (.inr (.inl ()))
noncomputable def L26_light_l0 (x0 : List L26_Op) (s : Int × Int) : Option (Unit ⊕ (Bool)) := loopO (fun s => L26_light_b0 x0 s.1 s.2) s
noncomputable def L26_light (x0 : List L26_Op) : Option (Bool) :=
 lt (((x0).length : Int)) fun v2 =>
 lt (decide (v2 > (40 : Int))) fun v4 =>
 if v4 = true then
  some false
 else
  (L26_light_l0 x0 ((0 : Int), (0 : Int))).bind fun o8 =>
   Sum.elim (fun s15 : Unit =>
    some true
    ) (fun y => some y) o8
noncomputable def octets_Put_b1 (x1 : List Int) (v6 : Int) (c7 : List (BitVec 8)) (c8 : Int) (v22 : Int) (c23 : Int) : Option ((Int) ⊕ (Int)) :=
 lt (w64 ((7 : Int) * c23)) fun v34 =>
 ((sc v34).map fun m => shr64 v22 m).bind fun v36 =>
 lt (decide (v36 ≥ (128 : Int))) fun v38 =>
 if v38 = true then
  lt (w64 (c23 + (1 : Int))) fun v41 =>
  some (.inl v41)
 else
  some (.inr c23)
noncomputable def octets_Put_l1 (x1 : List Int) (v6 : Int) (c7 : List (BitVec 8)) (c8 : Int) (v22 : Int) (s : Int) : Option (Int) := loopO (fun s => octets_Put_b1 x1 v6 c7 c8 v22 s) s
noncomputable def octets_Put_b2 (x1 : List Int) (v6 : Int) (c8 : Int) (v22 : Int) (c43 : List (BitVec 8)) (c44 : Int) : Option (((List (BitVec 8)) × Int) ⊕ ((List (BitVec 8)))) :=
 lt (decide (c44 > (0 : Int))) fun v55 =>
 if v55 = true then
  lt (w64 ((7 : Int) * c44)) fun v58 =>
  ((sc v58).map fun m => shr64 v22 m).bind fun v60 =>
  lt (BitVec.ofInt 8 v60) fun v62 =>
  lt (v62 ||| 128#8) fun v64 =>
  lt (([v64] : List (BitVec 8))) fun v66 =>
  (app 1 c43 v66).bind fun v68 =>
  lt (w64 (c44 - (1 : Int))) fun v72 =>
  some (.inl (v68, v72))
 else
  some (.inr c43)
noncomputable def octets_Put_l2 (x1 : List Int) (v6 : Int) (c8 : Int) (v22 : Int) (s : (List (BitVec 8)) × Int) : Option ((List (BitVec 8))) := loopO (fun s => octets_Put_b2 x1 v6 c8 v22 s.1 s.2) s
noncomputable def octets_Put_b0 (x1 : List Int) (v6 : Int) (c7 : List (BitVec 8)) (c8 : Int) : Option (((List (BitVec 8)) × Int) ⊕ ((List (BitVec 8)))) :=
 lt (decide (c8 < v6)) fun v19 =>
 if v19 = true then
  (ix x1 c8).bind fun v22 =>
  (octets_Put_l1 x1 v6 c7 c8 v22 (0 : Int)).bind fun s31 =>
   (octets_Put_l2 x1 v6 c8 v22 (c7, s31)).bind fun s52 =>
    lt (BitVec.ofInt 8 v22) fun v75 =>
    lt (v75 &&& 127#8) fun v77 =>
    lt (([v77] : List (BitVec 8))) fun v79 =>
    (app 1 s52 v79).bind fun v81 =>
    lt (w64 (c8 + (1 : Int))) fun v85 =>
    some (.inl (v81, v85))
 else
  some (.inr c7)
noncomputable def octets_Put_l0 (x1 : List Int) (v6 : Int) (s : (List (BitVec 8)) × Int) : Option ((List (BitVec 8))) := loopO (fun s => octets_Put_b0 x1 v6 s.1 s.2) s
noncomputable def octets_Put (x0 : List (BitVec 8)) (x1 : List Int) : Option ((List (BitVec 8))) :=
 (app 1 ([] : List (BitVec 8)) x0).bind fun v2 =>
 lt (((x1).length : Int)) fun v6 =>
 (octets_Put_l0 x1 v6 (v2, (0 : Int))).bind fun s16 =>
  some s16
noncomputable def octets_Bytes (x0 : List (BitVec 8)) (x1 : List (BitVec 8)) : Option ((List (BitVec 8))) :=
 lt (((x1).length : Int)) fun v2 =>
 lt (([v2] : List Int)) fun v4 =>
 (octets_Put x0 v4).bind fun v6 =>
 (app 1 v6 x1).bind fun v9 =>
 some v9
noncomputable def checksum_Seal (x0 : List (BitVec 8)) : Option ((List (BitVec 8))) :=
 (checksum_Sum x0).bind fun v2 =>
 (checksum_Four v2).bind fun v4 =>
 (stW 4 (List.replicate 4 0#8) v4).bind fun c8 =>
 (app 1 ([] : List (BitVec 8)) x0).bind fun v11 =>
 ((whole 4 c8).bind fun w => app 1 v11 w).bind fun v15 =>
 some v15
noncomputable def wire_Put_b0 (x0 : api_Msg) (c16 : List (BitVec 8)) (c17 : List (BitVec 8) × Nat) : Option (((List (BitVec 8)) × (List (BitVec 8) × Nat)) ⊕ ((List (BitVec 8)) × (List (BitVec 8) × Nat))) :=
 (nxS c17).bind fun v28 =>
 Option.elim v28 (
  some (.inr (c16, c17))
 ) (fun c30 =>
  lt (c30 == (73 : Int)) fun v32 =>
  if v32 = true then
   lt (([x0.Id] : List Int)) fun v35 =>
   (octets_Put c16 v35).bind fun v37 =>
   some (.inl (v37, (c17.1, c17.2 + 1)))
  else
   lt (c30 == (75 : Int)) fun v39 =>
   if v39 = true then
    (toBytes x0.X.Key).bind fun v42 =>
    (octets_Bytes c16 v42).bind fun v44 =>
    some (.inl (v44, (c17.1, c17.2 + 1)))
   else
    lt (c30 == (65 : Int)) fun v46 =>
    if v46 = true then
     lt (([x0.X.AsOf] : List Int)) fun v49 =>
     (octets_Put c16 v49).bind fun v51 =>
     some (.inl (v51, (c17.1, c17.2 + 1)))
    else
     lt (c30 == (70 : Int)) fun v53 =>
     if v53 = true then
      (
       if x0.Found = true then
        some (1 : Int)
       else
        some (0 : Int)
      : Option (Int)).bind fun s55 =>
       lt (([s55] : List Int)) fun v62 =>
       (octets_Put c16 v62).bind fun v64 =>
       some (.inl (v64, (c17.1, c17.2 + 1)))
     else
      lt (c30 == (86 : Int)) fun v66 =>
      if v66 = true then
       if x0.Found = true then
        lt (([x0.X.Version, x0.X.Ends] : List Int)) fun v70 =>
        (octets_Put c16 v70).bind fun v72 =>
        (octets_Bytes v72 x0.X.Value).bind fun v74 =>
        some (.inl (v74, (c17.1, c17.2 + 1)))
       else
        some (.inl (c16, (c17.1, c17.2 + 1)))
      else
       some (.inl (c16, (c17.1, c17.2 + 1)))
 )
noncomputable def wire_Put_l0 (x0 : api_Msg) (s : (List (BitVec 8)) × (List (BitVec 8) × Nat)) : Option ((List (BitVec 8)) × (List (BitVec 8) × Nat)) := loopO (fun s => wire_Put_b0 x0 s.1 s.2) s
noncomputable def wire_Put (x0 : api_Msg) : Option ((List (BitVec 8)) × Err) :=
 (wire_Check x0).bind fun v2 =>
 lt (!Err.isNil v2) fun v4 =>
 if v4 = true then
  (trouble_Wrap ([112#8, 117#8, 116#8] : List (BitVec 8)) x0.Kind v2).bind fun v7 =>
  some ([], v7)
 else
  lt (([x0.Kind, x0.From, x0.To, x0.Epoch] : List Int)) fun v9 =>
  (octets_Put [] v9).bind fun v11 =>
  (wire_parts x0.Kind).bind fun v13 =>
  (wire_Put_l0 x0 (v11, (v13, 0))).bind fun s25 =>
   (checksum_Seal s25.1).bind fun v77 =>
   some (v77, Err.nil)
noncomputable def lines_Lines_Send_b0 (x1 : List api_Msg) (v4 : Int) (c5 : Int) (c6 : List lines_parcel) (c7 : lines_Lines) : Option ((Int × (List lines_parcel) × lines_Lines) ⊕ ((List lines_parcel) × lines_Lines)) :=
 lt (decide (c5 < v4)) fun v18 =>
 if v18 = true then
  (ix x1 c5).bind fun v21 =>
  lt ((v21 : api_Msg)) fun c25 =>
  (wire_Put c25).bind fun v28 =>
  (
   lt (!Err.isNil v28.2) fun v34 =>
   if v34 = true then
    some true
   else
    lt ((((c6).length : Nat) : Int)) fun v37 =>
    lt (decide (v37 ≥ (200 : Int))) fun v39 =>
    some v39
  : Option (Bool)).bind fun s29 =>
   if s29 = true then
    lt (w64 (c7.lost + (1 : Int))) fun v43 =>
    lt (w64 (c5 + (1 : Int))) fun v46 =>
    some (.inl (v46, c6, ({ c7 with lost := v43 } : lines_Lines)))
   else
    lt ((⟨v28.1, false⟩ : lines_parcel)) fun v48 =>
    (app 32 c6 ([v48] : List lines_parcel)).bind fun v50 =>
    lt (w64 (c5 + (1 : Int))) fun v56 =>
    some (.inl (v56, v50, ({ c7 with l := v50 } : lines_Lines)))
 else
  some (.inr (c6, c7))
noncomputable def lines_Lines_Send_l0 (x1 : List api_Msg) (v4 : Int) (s : Int × (List lines_parcel) × lines_Lines) : Option ((List lines_parcel) × lines_Lines) := loopO (fun s => lines_Lines_Send_b0 x1 v4 s.1 s.2.1 s.2.2) s
noncomputable def lines_Lines_Send (x0 : lines_Lines) (x1 : List api_Msg) : Option (lines_Lines) :=
 lt (((x1).length : Int)) fun v4 =>
 (lines_Lines_Send_l0 x1 v4 ((0 : Int), x0.l, x0)).bind fun s15 =>
  some ({ s15.2 with l := s15.1 } : lines_Lines)
noncomputable def slices_Clone_byte_byteV (x0 : List (BitVec 8)) : Option ((List (BitVec 8))) :=
 (app 1 ([] : List (BitVec 8)) x0).bind fun v8 =>
 some v8
noncomputable def lines_Lines_Spoil (x0 : lines_Lines) (x1 : Int) (x2 : Int) (x3 : BitVec 8) : Option (Err × lines_Lines) :=
 (lines_Lines_at x0 ([115#8, 112#8, 111#8, 105#8, 108#8] : List (BitVec 8)) x1).bind fun v4 =>
 lt (!Err.isNil v4) fun v6 =>
 if v6 = true then
  some (v4, x0)
 else
  (chk (x0.l).length x1).bind fun v9 =>
  (ixA (x0.l).length x0.l x1).bind fun v11 =>
  if v11.spoilt = true then
   (trouble_New ([115#8, 112#8, 111#8, 105#8, 108#8] : List (BitVec 8)) x1 (13 : Int)).bind fun v14 =>
   some (v14, x0)
  else
   (
    lt (decide (x2 < (0 : Int))) fun v20 =>
    if v20 = true then
     some true
    else
     (ixA (x0.l).length x0.l x1).bind fun v23 =>
     lt (((v23.b).length : Int)) fun v25 =>
     lt (decide (x2 ≥ v25)) fun v27 =>
     if v27 = true then
      some true
     else
      lt (x3 == 0#8) fun v30 =>
      some v30
   : Option (Bool)).bind fun s15 =>
    if s15 = true then
     (trouble_New ([115#8, 112#8, 111#8, 105#8, 108#8] : List (BitVec 8)) x2 (2 : Int)).bind fun v34 =>
     some (v34, x0)
    else
     (ixA (x0.l).length x0.l x1).bind fun v36 =>
     (slices_Clone_byte_byteV v36.b).bind fun v38 =>
     (ixA (x0.l).length x0.l x1).bind fun v43 =>
     (chk (v38).length x2).bind fun v46 =>
     (ixA (v38).length v38 x2).bind fun v48 =>
     lt (v48 ^^^ x3) fun v50 =>
     (chk (v38).length x2).bind fun v52 =>
     (updA (v38).length v38 x2 (fun _ => v50)).bind fun c54 =>
     some (Err.nil, ({ x0 with l := (x0.l.set (x1 : Int).toNat ({ ({ v43 with spoilt := true } : lines_parcel) with b := c54 } : lines_parcel)) } : lines_Lines))
noncomputable def lines_Lines_Twice (x0 : lines_Lines) (x1 : Int) : Option (Err × lines_Lines) :=
 (lines_Lines_at x0 ([116#8, 119#8, 105#8, 99#8, 101#8] : List (BitVec 8)) x1).bind fun v4 =>
 lt (!Err.isNil v4) fun v6 =>
 if v6 = true then
  some (v4, x0)
 else
  lt ((((x0.l).length : Nat) : Int)) fun v9 =>
  lt (decide (v9 ≥ (200 : Int))) fun v11 =>
  if v11 = true then
   (trouble_New ([116#8, 119#8, 105#8, 99#8, 101#8] : List (BitVec 8)) x1 (4 : Int)).bind fun v14 =>
   some (v14, x0)
  else
   (chk (x0.l).length x1).bind fun v16 =>
   (ixA (x0.l).length x0.l x1).bind fun v18 =>
   lt (((v18.b).length : Int)) fun v20 =>
   (mkS 1 v20 0#8).bind fun v22 =>
   (chk (x0.l).length x1).bind fun v27 =>
   (ixA (x0.l).length x0.l x1).bind fun v29 =>
   (cpL v22 v29.b).bind fun c31 =>
   (chk (x0.l).length x1).bind fun v35 =>
   (ixA (x0.l).length x0.l x1).bind fun v37 =>
   lt ((⟨c31, v37.spoilt⟩ : lines_parcel)) fun v39 =>
   (app 32 x0.l ([v39] : List lines_parcel)).bind fun v41 =>
   some (Err.nil, ({ ({ x0 with l := v41 } : lines_Lines) with l := v41 } : lines_Lines))
end Go.Proofs.YtedcgeghgbgonaaGreatDoor
namespace Go.Va
open Go
set_option linter.unusedVariables false
set_option linter.unusedSimpArgs false

theorem loopO_up {S X : Type} {body : S → Option (S ⊕ X)} (g : Nat → S) (n : Nat) {x : X} (h : ∀ i, i < n → body (g i) = some (.inl (g (i + 1)))) (hx : body (g n) = some (.inr x)) : loopO body (g 0) = some x := by
  have key : ∀ k, k ≤ n → loopO body (g (n - k)) = some x := by
    intro k
    induction k with
    | zero => intro _; exact loopO_out hx
    | succ k ih =>
      intro hk
      rw [loopO_in (h (n - (k + 1)) (by omega)), show n - (k + 1) + 1 = n - k by omega]
      exact ih (by omega)
  have := key n (Nat.le_refl _)
  rwa [Nat.sub_self] at this
def nx {S X : Type} (o : Option X) (s : S) : S ⊕ X := match o with | none => .inl s | some y => .inr y
theorem loopO_find {S X : Type} {body : S → Option (S ⊕ X)} (g : Nat → S) (n : Nat) (f : Nat → Option X) {x : X} (h : ∀ i, i < n → body (g i) = some (nx (f i) (g (i + 1)))) (hx : body (g n) = some (.inr x)) : loopO body (g 0) = some (((List.range n).findSome? f).getD x) := by
  have key : ∀ k, k ≤ n → loopO body (g (n - k)) = some (((List.range' (n - k) k).findSome? f).getD x) := by
    intro k
    induction k with
    | zero => intro _; exact loopO_out hx
    | succ k ih =>
      intro hk
      rw [List.range'_succ, List.findSome?_cons]
      have h1 := h (n - (k + 1)) (by omega)
      cases hf : f (n - (k + 1)) with
      | none =>
        rw [hf] at h1
        rw [loopO_in (s' := g (n - (k + 1) + 1)) h1, show n - (k + 1) + 1 = n - k by omega]
        exact ih (by omega)
      | some y => rw [hf] at h1; exact loopO_out h1
  have := key n (Nat.le_refl _)
  rwa [Nat.sub_self, ← List.range_eq_range'] at this
theorem loopO_inv {S X : Type} {body : S → Option (S ⊕ X)} (I : S → Prop) (m : S → Nat) (Q : X → Prop) (h : ∀ s, I s → (∃ s', body s = some (.inl s') ∧ I s' ∧ m s' < m s) ∨ ∃ x, body s = some (.inr x) ∧ Q x) {s : S} (h0 : I s) : ∃ x, loopO body s = some x ∧ Q x := by
  generalize hk : m s = k
  induction k using Nat.strongRecOn generalizing s with
  | _ k ih =>
    rcases h s h0 with ⟨s', h1, h2, h3⟩ | ⟨x, h1, h2⟩
    · obtain ⟨x, k1, k2⟩ := ih (m s') (hk ▸ h3) h2 rfl
      exact ⟨x, by rw [loopO_in h1]; exact k1, k2⟩
    · exact ⟨x, loopO_out h1, h2⟩
theorem loopO_foldl {α σ X : Type} (l : List α) (f : σ → α → σ) (fin : σ → X) {body : σ × Int → Option ((σ × Int) ⊕ X)} (h1 : ∀ (s : σ) (i : Nat) (hi : i < l.length), body (s, (i : Int)) = some (.inl (f s l[i], ((i + 1 : Nat) : Int)))) (h2 : ∀ s, body (s, (l.length : Int)) = some (.inr (fin s))) (s0 : σ) : loopO body (s0, 0) = some (fin (l.foldl f s0)) := by
  have := loopO_up (body := body) (fun i => ((l.take i).foldl f s0, (i : Int))) l.length (x := fin (l.foldl f s0)) (fun i hi => by
    rw [h1 _ i hi, List.take_succ_eq_append_getElem hi, List.foldl_append]; rfl) (by rw [List.take_length]; exact h2 _)
  simpa using this
theorem ix_nat {α : Type} {l : List α} {i : Nat} (h : i < l.length) : ix l (i : Int) = some l[i] := by
  unfold ix
  rw [if_pos (by omega)]
  simp [h]
theorem ixA_nat {α : Type} {l : List α} {n i : Nat} (hn : i < n) (h : i < l.length) : ixA n l (i : Int) = some l[i] := by
  unfold ixA
  rw [if_pos ⟨by omega, by omega⟩]
  simp [h]
theorem w64_nat {i : Nat} (h : i < 9223372036854775807) : w64 ((i : Int) + 1) = ((i + 1 : Nat) : Int) := by
  rw [w64_eq (by omega) (by omega)]; omega
theorem whole_eq {α : Type} {n : Nat} {l : List α} (h : l.length = n) : whole n l = some l := by simp [whole, h]
theorem stW_eq {α : Type} {n : Nat} {l y : List α} (h : l.length = n) (h2 : y.length = n) : stW n l y = some y := by simp [stW, whole, h, h2]
theorem app_eq {α : Type} {b : Nat} {l m : List α} (h : (l.length + m.length) * b ≤ 140737488355328) : app b l m = some (l ++ m) := by simp [app, h]
theorem cutTo_eq {α : Type} {l : List α} {n : Nat} (h : n ≤ l.length) : cutTo l (n : Int) = some (l.take n) := by
  unfold cutTo
  rw [if_pos ⟨by omega, by omega⟩]; simp
theorem cutFrom_eq {α : Type} {l : List α} {n : Nat} (h : n ≤ l.length) : cutFrom l (n : Int) = some (l.drop n) := by
  unfold cutFrom
  rw [if_pos ⟨by omega, by omega⟩]; simp
theorem cutO_eq {α : Type} {l : List α} {n m : Nat} (h : n ≤ m) (h2 : m ≤ l.length) : cutO l (n : Int) (m : Int) = some ((l.take m).drop n) := by
  unfold cutO
  rw [if_pos ⟨by omega, by omega, by omega⟩]; simp
theorem sc_eq {y : Int} (h : 0 ≤ y) : sc y = some y.toNat := by
  unfold sc; rw [if_neg (by omega)]
theorem eqA_eq {α : Type} [DecidableEq α] {n : Nat} {x y : List α} (h : x.length = n) (h2 : y.length = n) : eqA n x y = some (x == y) := by simp [eqA, h, h2]
end Go.Va
namespace Go.Proofs.YtedcgeghgbgonaaGreatDoor
open Go Go.Va
set_option linter.unusedVariables false
def hasE : Err → Int → Bool
 | .nil, _ => false
 | .fault o a c u, k => (c == k && c != 0) || hasE u k
def trouble_Has (x : Err) (k : Int) : Option Bool := some (hasE x k)
end Go.Proofs.YtedcgeghgbgonaaGreatDoor
namespace Go.Proofs.YtedcgeghgbgonaaGreatDoor
open Go Go.Va
set_option linter.unusedVariables false
set_option linter.unusedSimpArgs false
set_option maxRecDepth 20000
noncomputable def slices_Delete_lines_parcel_lines_parcel (x0 : List lines_parcel) (x1 x2 : Int) : Option (List lines_parcel) := delO x0 x1 x2
noncomputable def lines_Lines_Take (x0 : lines_Lines) (x1 : Int) : Option (api_Msg × Err × lines_Lines) :=
 (lines_Lines_Look x0 x1).bind fun v6 =>
 lt ((v6.1 : api_Msg)) fun c10 =>
 (trouble_Has v6.2 (9 : Int)).bind fun v13 =>
 if v13 = true then
  lt ((⟨(0 : Int), (0 : Int), (0 : Int), (0 : Int), (0 : Int), z_api_Entry, false⟩ : api_Msg)) fun v16 =>
  (trouble_Wrap ([116#8, 97#8, 107#8, 101#8] : List (BitVec 8)) x1 v6.2).bind fun v18 =>
  lt ((v16 : api_Msg)) fun c20 =>
  some (c20, v18, x0)
 else
  lt (w64 (x1 + (1 : Int))) fun v23 =>
  (slices_Delete_lines_parcel_lines_parcel x0.l x1 v23).bind fun v25 =>
  lt (!Err.isNil v6.2) fun v32 =>
  if v32 = true then
   lt (w64 ((({ x0 with l := v25 } : lines_Lines).lost) + (1 : Int))) fun v35 =>
   lt ((⟨(0 : Int), (0 : Int), (0 : Int), (0 : Int), (0 : Int), z_api_Entry, false⟩ : api_Msg)) fun v38 =>
   (trouble_Wrap ([116#8, 97#8, 107#8, 101#8] : List (BitVec 8)) x1 v6.2).bind fun v40 =>
   lt ((v38 : api_Msg)) fun c42 =>
   some (c42, v40, ({ ({ ({ x0 with l := v25 } : lines_Lines) with lost := v35 } : lines_Lines) with l := v25 } : lines_Lines))
  else
   lt ((c10 : api_Msg)) fun c45 =>
   some (c45, Err.nil, ({ ({ x0 with l := v25 } : lines_Lines) with l := v25 } : lines_Lines))
noncomputable def lines_Lines_Drop (x0 : lines_Lines) (x1 : Int) : Option (Err × lines_Lines) :=
 (lines_Lines_at x0 ([100#8, 114#8, 111#8, 112#8] : List (BitVec 8)) x1).bind fun v4 =>
 lt (!Err.isNil v4) fun v6 =>
 if v6 = true then
  some (v4, x0)
 else
  lt (w64 (x1 + (1 : Int))) fun v9 =>
  (slices_Delete_lines_parcel_lines_parcel x0.l x1 v9).bind fun v11 =>
  lt (w64 ((({ x0 with l := v11 } : lines_Lines).lost) + (1 : Int))) fun v18 =>
  some (Err.nil, ({ ({ ({ x0 with l := v11 } : lines_Lines) with lost := v18 } : lines_Lines) with l := v11 } : lines_Lines))
def codeOf : Err → Int
 | .nil => 0
 | .fault o a c u => if c = 0 then codeOf u else c
def trouble_Of_b0 : Err → Option (Err ⊕ (Unit ⊕ Int))
 | .nil => some (.inr (.inl ()))
 | .fault o a c u => if (c != 0) = true then some (.inr (.inr c)) else some (.inl u)
def trouble_Of (x : Err) : Option Int := some (codeOf x)
theorem trouble_Of_l0 : ∀ x : Err, loopO trouble_Of_b0 x = some (if codeOf x = 0 then .inl () else .inr (codeOf x))
 | .nil => loopO_out rfl
 | .fault o a c u => by
  by_cases hc : c = 0
  · rw [loopO_in (s' := u) (by simp [trouble_Of_b0, hc]), trouble_Of_l0 u]; simp [codeOf, hc]
  · rw [loopO_out (x := .inr c) (by simp [trouble_Of_b0, hc])]; simp [codeOf, hc]
noncomputable def lines_New : Option (lines_Lines) :=
 some ({ (⟨([] : List lines_parcel), (0 : Int)⟩ : lines_Lines) with l := ([] : List lines_parcel) } : lines_Lines)
noncomputable def lines_Lines_Len (x0 : lines_Lines) : Option (Int) :=
 lt ((((x0.l).length : Nat) : Int)) fun v2 =>
 some v2
noncomputable def lines_Lines_Lost (x0 : lines_Lines) : Option (Int) :=
 some x0.lost
noncomputable def L26_works : Option (Bool) :=
 (lines_New).bind fun v2 =>
 lt ((⟨(1 : Int), (3 : Int), (0 : Int), (1 : Int), (0 : Int), z_api_Entry, false⟩ : api_Msg)) fun v6 =>
 lt ((v6 : api_Msg)) fun c10 =>
 lt ((⟨(0 : Int), (0 : Int), (0 : Int), (0 : Int), (0 : Int), z_api_Entry, false⟩ : api_Msg)) fun v13 =>
 lt (([c10, v13, c10] : List api_Msg)) fun v15 =>
 (lines_Lines_Send v2 v15).bind fun v17 =>
 (lines_Lines_Spoil v17 (0 : Int) (2 : Int) 9#8).bind fun v22 =>
 (lines_Lines_Spoil v22.2 (0 : Int) (2 : Int) 9#8).bind fun v27 =>
 (lines_Lines_Twice v27.2 (1 : Int)).bind fun v32 =>
 (lines_Lines_Take v32.2 (0 : Int)).bind fun v39 =>
 lt ((v39.1 : api_Msg)) fun c46 =>
 (lines_Lines_Take v39.2.2 (1 : Int)).bind fun v51 =>
 lt ((v51.1 : api_Msg)) fun c58 =>
 (lines_Lines_Drop v51.2.2 (5 : Int)).bind fun v63 =>
 lt (Err.isNil v22.1) fun v68 =>
 if v68 = true then
  (trouble_Of v27.1).bind fun v71 =>
  lt (v71 == (13 : Int)) fun v73 =>
  if v73 = true then
   lt (Err.isNil v32.1) fun v76 =>
   if v76 = true then
    (trouble_Of v39.2.1).bind fun v79 =>
    lt (v79 == (7 : Int)) fun v81 =>
    if v81 = true then
     lt (Err.isNil v51.2.1) fun v84 =>
     if v84 = true then
      (R23_Same c58 c10).bind fun v87 =>
      if v87 = true then
       (trouble_Of v63.1).bind fun v90 =>
       lt (v90 == (9 : Int)) fun v92 =>
       if v92 = true then
        (lines_Lines_Len v63.2).bind fun v95 =>
        lt (v95 == (1 : Int)) fun v97 =>
        if v97 = true then
         (lines_Lines_Lost v63.2).bind fun v100 =>
         lt (v100 == (2 : Int)) fun v102 =>
         if v102 = true then
          (lines_Lines_All v63.2).bind fun v105 =>
          lt (((v105).length : Int)) fun v107 =>
          lt (v107 == (1 : Int)) fun v109 =>
          some v109
         else
          some false
        else
         some false
       else
        some false
      else
       some false
     else
      some false
    else
     some false
   else
    some false
  else
   some false
 else
  some false
noncomputable def R23_lease (x0 : Int) : Option (Bool) :=
 lt (x0 == (5 : Int)) fun v2 =>
 if v2 = true then
  some true
 else
  lt (x0 == (6 : Int)) fun v5 =>
  some v5
noncomputable def R23_key (x0 : Int) : Option (Bool) :=
 lt (decide (x0 ≥ (3 : Int))) fun v2 =>
 if v2 = true then
  lt (decide (x0 ≤ (6 : Int))) fun v5 =>
  some v5
 else
  some false
noncomputable def R23_asof (x0 : Int) : Option (Bool) :=
 lt (x0 == (2 : Int)) fun v2 =>
 if v2 = true then
  some true
 else
  lt (x0 == (3 : Int)) fun v5 =>
  if v5 = true then
   some true
  else
   lt (x0 == (4 : Int)) fun v8 =>
   if v8 = true then
    some true
   else
    lt (x0 == (6 : Int)) fun v11 =>
    some v11
noncomputable def R02_Key (x0 : List (BitVec 8)) : Option (Int) :=
 lt (x0 == ([] : List (BitVec 8))) fun v2 =>
 if v2 = true then
  some (1 : Int)
 else
  lt (((x0).length : Int)) fun v5 =>
  lt (decide (v5 > (40 : Int))) fun v7 =>
  if v7 = true then
   some (3 : Int)
  else
   some (0 : Int)
noncomputable def R06_Check (x0 : api_Entry) : Option (Int) :=
 (R02_Key x0.Key).bind fun v2 =>
 lt (v2 != (0 : Int)) fun v4 =>
 if v4 = true then
  some v2
 else
  (
   lt (decide (x0.Version < (1 : Int))) fun v11 =>
   if v11 = true then
    some true
   else
    lt (decide (x0.Version > (1099511627776 : Int))) fun v14 =>
    if v14 = true then
     some true
    else
     lt (decide (x0.AsOf < x0.Version)) fun v17 =>
     if v17 = true then
      some true
     else
      lt (decide (x0.AsOf > (1099511627776 : Int))) fun v20 =>
      if v20 = true then
       some true
      else
       lt (decide (x0.Ends < (0 : Int))) fun v23 =>
       if v23 = true then
        some true
       else
        lt (decide (x0.Ends > (1099511627776 : Int))) fun v26 =>
        some v26
  : Option (Bool)).bind fun s6 =>
   if s6 = true then
    some (2 : Int)
   else
    lt (((x0.Value).length : Int)) fun v30 =>
    lt (decide (v30 > (4096 : Int))) fun v32 =>
    if v32 = true then
     some (3 : Int)
    else
     some (0 : Int)
noncomputable def R23_fields (x0 : api_Msg) : Option (Int) :=
 (
  (R23_lease x0.Kind).bind fun v6 =>
  if v6 = true then
   lt (decide (x0.Id < (1 : Int))) fun v9 =>
   if v9 = true then
    some true
   else
    lt (decide (x0.Id > (1099511627776 : Int))) fun v12 =>
    some v12
  else
   some false
 : Option (Bool)).bind fun s1 =>
  if s1 = true then
   some (2 : Int)
  else
   (R23_key x0.Kind).bind fun v16 =>
   (
    if v16 = true then
     (R02_Key x0.X.Key).bind fun v23 =>
     lt (v23 != (0 : Int)) fun v25 =>
     if v25 = true then
      some (.inr v23)
     else
      some (.inl ())
    else
     some (.inl ())
   : Option (Unit ⊕ _)).bind fun o18 =>
    Sum.elim (fun s17 : Unit =>
     (
      (R23_asof x0.Kind).bind fun v34 =>
      if v34 = true then
       lt (decide (x0.X.AsOf < (0 : Int))) fun v37 =>
       if v37 = true then
        some true
       else
        lt (decide (x0.X.AsOf > (1099511627776 : Int))) fun v40 =>
        some v40
      else
       some false
     : Option (Bool)).bind fun s29 =>
      if s29 = true then
       some (2 : Int)
      else
       (
        lt (x0.Kind == (6 : Int)) fun v48 =>
        if v48 = true then
         some x0.Found
        else
         some false
       : Option (Bool)).bind fun s43 =>
        if s43 = true then
         (R06_Check x0.X).bind fun v53 =>
         some v53
        else
         some (0 : Int)
     ) (fun y => some y) o18
noncomputable def R23_found (x0 : Int) : Option (Bool) :=
 lt (x0 == (2 : Int)) fun v2 =>
 if v2 = true then
  some true
 else
  lt (x0 == (6 : Int)) fun v5 =>
  some v5
noncomputable def R23_only (x0 : api_Msg) : Option (api_Msg) :=
 lt ((⟨x0.Kind, x0.From, x0.To, x0.Epoch, (0 : Int), z_api_Entry, false⟩ : api_Msg)) fun v4 =>
 lt ((v4 : api_Msg)) fun c8 =>
 (R23_lease x0.Kind).bind fun v11 =>
 (
  if v11 = true then
   lt (({ c8 with Id := x0.Id } : api_Msg)) fun c18 =>
   some c18
  else
   some c8
 : Option (api_Msg)).bind fun s12 =>
  (R23_key x0.Kind).bind fun v22 =>
  (
   if v22 = true then
    lt (({ s12 with X := { s12.X with Key := x0.X.Key } } : api_Msg)) fun c29 =>
    some c29
   else
    some s12
  : Option (api_Msg)).bind fun s23 =>
   (R23_asof x0.Kind).bind fun v33 =>
   (
    if v33 = true then
     lt (({ s23 with X := { s23.X with AsOf := x0.X.AsOf } } : api_Msg)) fun c40 =>
     some c40
    else
     some s23
   : Option (api_Msg)).bind fun s34 =>
    (R23_found x0.Kind).bind fun v44 =>
    (
     if v44 = true then
      lt (({ s34 with Found := x0.Found } : api_Msg)) fun c51 =>
      some c51
     else
      some s34
    : Option (api_Msg)).bind fun s45 =>
     (
      lt (x0.Kind == (6 : Int)) fun v59 =>
      if v59 = true then
       some x0.Found
      else
       some false
     : Option (Bool)).bind fun s54 =>
      if s54 = true then
       lt (({ s45 with X := x0.X } : api_Msg)) fun c64 =>
       lt ((c64 : api_Msg)) fun c67 =>
       some c67
      else
       lt ((s45 : api_Msg)) fun c70 =>
       some c70
noncomputable def R23_Check (x0 : api_Msg) : Option (Int) :=
 (
  lt (decide (x0.Kind < (1 : Int))) fun v6 =>
  if v6 = true then
   some true
  else
   lt (decide (x0.Kind > (6 : Int))) fun v9 =>
   some v9
 : Option (Bool)).bind fun s1 =>
  if s1 = true then
   some (12 : Int)
  else
   (
    lt (x0.Kind == (2 : Int)) fun v17 =>
    if v17 = true then
     some true
    else
     lt (x0.Kind == (3 : Int)) fun v20 =>
     if v20 = true then
      some true
     else
      lt (x0.Kind == (6 : Int)) fun v23 =>
      some v23
   : Option (Bool)).bind fun s12 =>
    (
     if s12 = true then
      some (x0.To, x0.From)
     else
      some (x0.From, x0.To)
    : Option (Int × Int)).bind fun s25 =>
     (
      lt (decide (s25.1 < (1 : Int))) fun v36 =>
      if v36 = true then
       some true
      else
       lt (decide (s25.1 > (16 : Int))) fun v39 =>
       if v39 = true then
        some true
       else
        lt (s25.2 != (0 : Int)) fun v42 =>
        if v42 = true then
         some true
        else
         lt (decide (x0.Epoch < (1 : Int))) fun v45 =>
         if v45 = true then
          some true
         else
          lt (decide (x0.Epoch > (1099511627776 : Int))) fun v48 =>
          some v48
     : Option (Bool)).bind fun s31 =>
      if s31 = true then
       some (2 : Int)
      else
       (R23_fields x0).bind fun v52 =>
       lt (v52 != (0 : Int)) fun v54 =>
       if v54 = true then
        some v52
       else
        (R23_only x0).bind fun v57 =>
        (R23_Same x0 v57).bind fun v59 =>
        lt (!v59) fun v61 =>
        if v61 = true then
         some (5 : Int)
        else
         some (0 : Int)
noncomputable def R26_with (x0 : R26_Lines) (x1 : api_Msg) (x2 : Bool) : Option (R26_Lines) :=
 (app 112 ([] : List api_Msg) x0.L).bind fun v7 =>
 lt (([x1] : List api_Msg)) fun v12 =>
 (app 112 (({ ((⟨([] : List api_Msg), ([] : List Bool), x0.Lost⟩ : R26_Lines) : R26_Lines) with L := v7 } : R26_Lines).L) v12).bind fun v14 =>
 (app 1 ([] : List Bool) x0.Bad).bind fun v19 =>
 lt (([x2] : List Bool)) fun v24 =>
 (app 1 (({ ({ ({ ((⟨([] : List api_Msg), ([] : List Bool), x0.Lost⟩ : R26_Lines) : R26_Lines) with L := v7 } : R26_Lines) with L := v14 } : R26_Lines) with Bad := v19 } : R26_Lines).Bad) v24).bind fun v26 =>
 some (({ ({ ({ ({ ((⟨([] : List api_Msg), ([] : List Bool), x0.Lost⟩ : R26_Lines) : R26_Lines) with L := v7 } : R26_Lines) with L := v14 } : R26_Lines) with Bad := v19 } : R26_Lines) with Bad := v26 } : R26_Lines) : R26_Lines)
noncomputable def R26_Send_b0 (x1 : List api_Msg) (c6 : Int) (c7 : R26_Lines) : Option ((Int × R26_Lines) ⊕ (R26_Lines)) :=
 lt (((x1).length : Int)) fun v18 =>
 lt (decide (c6 < v18)) fun v20 =>
 if v20 = true then
  (
   (ix x1 c6).bind fun v27 =>
   (R23_Check v27).bind fun v29 =>
   lt (v29 != (0 : Int)) fun v31 =>
   if v31 = true then
    some true
   else
    lt (((c7.L).length : Int)) fun v34 =>
    lt (decide (v34 ≥ (200 : Int))) fun v36 =>
    some v36
  : Option (Bool)).bind fun s22 =>
   if s22 = true then
    lt (w64 (c7.Lost + (1 : Int))) fun v40 =>
    lt (({ c7 with Lost := v40 } : R26_Lines)) fun c42 =>
    lt (w64 (c6 + (1 : Int))) fun v45 =>
    some (.inl (v45, c42))
   else
    (ix x1 c6).bind fun v47 =>
    (R26_with c7 v47 false).bind fun v49 =>
    lt ((v49 : R26_Lines)) fun c51 =>
    lt (w64 (c6 + (1 : Int))) fun v54 =>
    some (.inl (v54, c51))
 else
  some (.inr c7)
noncomputable def R26_Send_l0 (x1 : List api_Msg) (s : Int × R26_Lines) : Option (R26_Lines) := loopO (fun s => R26_Send_b0 x1 s.1 s.2) s
noncomputable def R26_Send (x0 : R26_Lines) (x1 : List api_Msg) : Option (R26_Lines) :=
 (R26_Send_l0 x1 ((0 : Int), (x0 : R26_Lines))).bind fun s15 =>
  some (s15 : R26_Lines)
noncomputable def R26_there (x0 : R26_Lines) (x1 : Int) : Option (Bool) :=
 lt (decide (x1 ≥ (0 : Int))) fun v2 =>
 if v2 = true then
  lt (((x0.L).length : Int)) fun v5 =>
  lt (decide (x1 < v5)) fun v7 =>
  some v7
 else
  some false
noncomputable def R26_Look (x0 : R26_Lines) (x1 : Int) : Option (api_Msg × Int) :=
 (R26_there x0 x1).bind fun v4 =>
 lt (!v4) fun v6 =>
 if v6 = true then
  lt ((⟨(0 : Int), (0 : Int), (0 : Int), (0 : Int), (0 : Int), z_api_Entry, false⟩ : api_Msg)) fun v9 =>
  lt ((v9 : api_Msg)) fun c11 =>
  some (c11, (9 : Int))
 else
  (ix x0.Bad x1).bind fun v14 =>
  if v14 = true then
   lt ((⟨(0 : Int), (0 : Int), (0 : Int), (0 : Int), (0 : Int), z_api_Entry, false⟩ : api_Msg)) fun v17 =>
   lt ((v17 : api_Msg)) fun c19 =>
   some (c19, (7 : Int))
  else
   (ix x0.L x1).bind fun v22 =>
   lt ((v22 : api_Msg)) fun c24 =>
   some (c24, (0 : Int))
noncomputable def R26_but (x0 : R26_Lines) (x1 : Int) : Option (R26_Lines) :=
 (cutTo x0.L x1).bind fun v7 =>
 (app 112 ([] : List api_Msg) v7).bind fun v9 =>
 lt (w64 (x1 + (1 : Int))) fun v14 =>
 (cutFrom x0.L v14).bind fun v16 =>
 (app 112 (({ ((⟨([] : List api_Msg), ([] : List Bool), x0.Lost⟩ : R26_Lines) : R26_Lines) with L := v9 } : R26_Lines).L) v16).bind fun v18 =>
 (cutTo x0.Bad x1).bind fun v23 =>
 (app 1 ([] : List Bool) v23).bind fun v25 =>
 lt (w64 (x1 + (1 : Int))) fun v30 =>
 (cutFrom x0.Bad v30).bind fun v32 =>
 (app 1 (({ ({ ({ ((⟨([] : List api_Msg), ([] : List Bool), x0.Lost⟩ : R26_Lines) : R26_Lines) with L := v9 } : R26_Lines) with L := v18 } : R26_Lines) with Bad := v25 } : R26_Lines).Bad) v32).bind fun v34 =>
 some (({ ({ ({ ({ ((⟨([] : List api_Msg), ([] : List Bool), x0.Lost⟩ : R26_Lines) : R26_Lines) with L := v9 } : R26_Lines) with L := v18 } : R26_Lines) with Bad := v25 } : R26_Lines) with Bad := v34 } : R26_Lines) : R26_Lines)
noncomputable def R26_Take (x0 : R26_Lines) (x1 : Int) : Option (R26_Lines × api_Msg × Int) :=
 (R26_Look x0 x1).bind fun v6 =>
 lt ((v6.1 : api_Msg)) fun c10 =>
 lt (v6.2 == (9 : Int)) fun v13 =>
 if v13 = true then
  lt ((c10 : api_Msg)) fun c17 =>
  some ((x0 : R26_Lines), c17, v6.2)
 else
  (R26_but x0 x1).bind fun v20 =>
  lt (v6.2 != (0 : Int)) fun v25 =>
  (
   if v25 = true then
    lt (w64 (x0.Lost + (1 : Int))) fun v32 =>
    lt (({ (v20 : R26_Lines) with Lost := v32 } : R26_Lines)) fun c34 =>
    some c34
   else
    some (v20 : R26_Lines)
  : Option (R26_Lines)).bind fun s26 =>
   lt ((c10 : api_Msg)) fun c39 =>
   some ((s26 : R26_Lines), c39, v6.2)
noncomputable def R26_Drop (x0 : R26_Lines) (x1 : Int) : Option (R26_Lines × Int) :=
 (R26_there x0 x1).bind fun v4 =>
 lt (!v4) fun v6 =>
 if v6 = true then
  some ((x0 : R26_Lines), (9 : Int))
 else
  (R26_but x0 x1).bind fun v10 =>
  lt (w64 (x0.Lost + (1 : Int))) fun v15 =>
  lt (({ (v10 : R26_Lines) with Lost := v15 } : R26_Lines)) fun c17 =>
  some ((c17 : R26_Lines), (0 : Int))
noncomputable def R26_Twice (x0 : R26_Lines) (x1 : Int) : Option (R26_Lines × Int) :=
 (R26_there x0 x1).bind fun v4 =>
 lt (!v4) fun v6 =>
 if v6 = true then
  some ((x0 : R26_Lines), (9 : Int))
 else
  lt (((x0.L).length : Int)) fun v10 =>
  lt (decide (v10 ≥ (200 : Int))) fun v12 =>
  if v12 = true then
   some ((x0 : R26_Lines), (4 : Int))
  else
   (ix x0.L x1).bind fun v16 =>
   (ix x0.Bad x1).bind fun v18 =>
   (R26_with x0 v16 v18).bind fun v20 =>
   some ((v20 : R26_Lines), (0 : Int))
noncomputable def R02_num_b0  (c9 : List (BitVec 8)) (c10 : Int) : Option (((List (BitVec 8)) × Int) ⊕ ((List (BitVec 8)))) :=
 lt (decide (c10 > (0 : Int))) fun v22 =>
 if v22 = true then
  lt (Int.tmod c10 (128 : Int)) fun v25 =>
  lt (w64 (v25 + (128 : Int))) fun v27 =>
  lt (BitVec.ofInt 8 v27) fun v29 =>
  lt (([v29] : List (BitVec 8))) fun v31 =>
  (app 1 v31 c9).bind fun v33 =>
  lt (quo64 c10 (128 : Int)) fun v37 =>
  some (.inl (v33, v37))
 else
  some (.inr c9)
noncomputable def R02_num_l0  (s : (List (BitVec 8)) × Int) : Option ((List (BitVec 8))) := loopO (fun s => R02_num_b0 s.1 s.2) s
noncomputable def R02_num (x0 : Int) : Option ((List (BitVec 8))) :=
 lt (Int.tmod x0 (128 : Int)) fun v2 =>
 lt (BitVec.ofInt 8 v2) fun v4 =>
 lt (([v4] : List (BitVec 8))) fun v6 =>
 lt (quo64 x0 (128 : Int)) fun v8 =>
 (R02_num_l0 (v6, v8)).bind fun s19 =>
  some s19
noncomputable def R02_Put_b0 (x1 : List Int) (c5 : List (BitVec 8)) (c6 : Int) : Option (((List (BitVec 8)) × Int) ⊕ ((List (BitVec 8)))) :=
 lt (((x1).length : Int)) fun v17 =>
 lt (decide (c6 < v17)) fun v19 =>
 if v19 = true then
  (ix x1 c6).bind fun v22 =>
  (R02_num v22).bind fun v24 =>
  (app 1 c5 v24).bind fun v26 =>
  lt (w64 (c6 + (1 : Int))) fun v30 =>
  some (.inl (v26, v30))
 else
  some (.inr c5)
noncomputable def R02_Put_l0 (x1 : List Int) (s : (List (BitVec 8)) × Int) : Option ((List (BitVec 8))) := loopO (fun s => R02_Put_b0 x1 s.1 s.2) s
noncomputable def R02_Put (x0 : List (BitVec 8)) (x1 : List Int) : Option ((List (BitVec 8))) :=
 (app 1 ([] : List (BitVec 8)) x0).bind fun v2 =>
 (R02_Put_l0 x1 (v2, (0 : Int))).bind fun s14 =>
  some s14
noncomputable def R02_Bytes (x0 : List (BitVec 8)) (x1 : List (BitVec 8)) : Option ((List (BitVec 8))) :=
 lt (((x1).length : Int)) fun v2 =>
 lt (([v2] : List Int)) fun v4 =>
 (R02_Put x0 v4).bind fun v6 =>
 (app 1 v6 x1).bind fun v9 =>
 some v9
noncomputable def R03_Sum_b1 (x0 : List (BitVec 8)) (c2 : Int) (c17 : BitVec 32) (c18 : Int) : Option (((BitVec 32) × Int) ⊕ ((BitVec 32))) :=
 lt (decide (c18 < (8 : Int))) fun v29 =>
 if v29 = true then
  (ix x0 c2).bind fun v32 =>
  ((sc c18).map fun m => v32 >>> m).bind fun v34 =>
  lt (BitVec.setWidth 32 v34) fun v36 =>
  lt (v36 % 2#32) fun v38 =>
  lt (c17 % 2#32) fun v40 =>
  lt (c17 / 2#32) fun v42 =>
  lt (v38 != v40) fun v44 =>
  if v44 = true then
   lt (v42 ^^^ 3988292384#32) fun v47 =>
   lt (w64 (c18 + (1 : Int))) fun v49 =>
   some (.inl (v47, v49))
  else
   lt (w64 (c18 + (1 : Int))) fun v51 =>
   some (.inl (v42, v51))
 else
  some (.inr c17)
noncomputable def R03_Sum_l1 (x0 : List (BitVec 8)) (c2 : Int) (s : (BitVec 32) × Int) : Option ((BitVec 32)) := loopO (fun s => R03_Sum_b1 x0 c2 s.1 s.2) s
noncomputable def R03_Sum_b0 (x0 : List (BitVec 8)) (c1 : BitVec 32) (c2 : Int) : Option (((BitVec 32) × Int) ⊕ ((BitVec 32))) :=
 lt (((x0).length : Int)) fun v13 =>
 lt (decide (c2 < v13)) fun v15 =>
 if v15 = true then
  (R03_Sum_l1 x0 c2 (c1, (0 : Int))).bind fun s26 =>
   lt (w64 (c2 + (1 : Int))) fun v54 =>
   some (.inl (s26, v54))
 else
  some (.inr c1)
noncomputable def R03_Sum_l0 (x0 : List (BitVec 8)) (s : (BitVec 32) × Int) : Option ((BitVec 32)) := loopO (fun s => R03_Sum_b0 x0 s.1 s.2) s
noncomputable def R03_Sum (x0 : List (BitVec 8)) : Option ((BitVec 32)) :=
 (R03_Sum_l0 x0 (4294967295#32, (0 : Int))).bind fun s10 =>
  lt (4294967295#32 - s10) fun v57 =>
  some v57
noncomputable def R03_Seal_b0  (c7 : List (BitVec 8)) (c8 : BitVec 32) (c9 : Int) : Option (((List (BitVec 8)) × (BitVec 32) × Int) ⊕ ((List (BitVec 8)))) :=
 lt (decide (c9 < (4 : Int))) fun v20 =>
 if v20 = true then
  lt (c8 % 256#32) fun v23 =>
  lt (BitVec.setWidth 8 v23) fun v25 =>
  lt (([v25] : List (BitVec 8))) fun v27 =>
  (app 1 c7 v27).bind fun v29 =>
  lt (c8 / 256#32) fun v33 =>
  lt (w64 (c9 + (1 : Int))) fun v35 =>
  some (.inl (v29, v33, v35))
 else
  some (.inr c7)
noncomputable def R03_Seal_l0  (s : (List (BitVec 8)) × (BitVec 32) × Int) : Option ((List (BitVec 8))) := loopO (fun s => R03_Seal_b0 s.1 s.2.1 s.2.2) s
noncomputable def R03_Seal (x0 : List (BitVec 8)) : Option ((List (BitVec 8))) :=
 (app 1 ([] : List (BitVec 8)) x0).bind fun v2 =>
 (R03_Sum x0).bind fun v6 =>
 (R03_Seal_l0 (v2, v6, (0 : Int))).bind fun s17 =>
  some s17
noncomputable def R23_Put (x0 : api_Msg) : Option ((List (BitVec 8)) × Int) :=
 (R23_Check x0).bind fun v2 =>
 lt (v2 != (0 : Int)) fun v4 =>
 if v4 = true then
  some ([], v2)
 else
  lt (([x0.Kind, x0.From, x0.To, x0.Epoch] : List Int)) fun v7 =>
  (R02_Put [] v7).bind fun v9 =>
  (R23_lease x0.Kind).bind fun v11 =>
  (
   if v11 = true then
    lt (([x0.Id] : List Int)) fun v18 =>
    (R02_Put v9 v18).bind fun v20 =>
    some v20
   else
    some v9
  : Option ((List (BitVec 8)))).bind fun s12 =>
   (R23_key x0.Kind).bind fun v23 =>
   (
    if v23 = true then
     (toBytes x0.X.Key).bind fun v30 =>
     (R02_Bytes s12 v30).bind fun v32 =>
     some v32
    else
     some s12
   : Option ((List (BitVec 8)))).bind fun s24 =>
    (R23_asof x0.Kind).bind fun v35 =>
    (
     if v35 = true then
      lt (([x0.X.AsOf] : List Int)) fun v42 =>
      (R02_Put s24 v42).bind fun v44 =>
      some v44
     else
      some s24
    : Option ((List (BitVec 8)))).bind fun s36 =>
     (
      (R23_found x0.Kind).bind fun v51 =>
      if v51 = true then
       some x0.Found
      else
       some false
     : Option (Bool)).bind fun s46 =>
      (
       if s46 = true then
        (R02_Put s36 ([(1 : Int)] : List Int)).bind fun v60 =>
        some v60
       else
        some s36
      : Option ((List (BitVec 8)))).bind fun s54 =>
       (
        (R23_found x0.Kind).bind fun v67 =>
        if v67 = true then
         lt (!x0.Found) fun v70 =>
         some v70
        else
         some false
       : Option (Bool)).bind fun s62 =>
        (
         if s62 = true then
          (R02_Put s54 ([(0 : Int)] : List Int)).bind fun v78 =>
          some v78
         else
          some s54
        : Option ((List (BitVec 8)))).bind fun s72 =>
         (
          lt (x0.Kind == (6 : Int)) fun v85 =>
          if v85 = true then
           some x0.Found
          else
           some false
         : Option (Bool)).bind fun s80 =>
          if s80 = true then
           lt (([x0.X.Version, x0.X.Ends] : List Int)) fun v90 =>
           (R02_Put s72 v90).bind fun v92 =>
           (R02_Bytes v92 x0.X.Value).bind fun v94 =>
           (R03_Seal v94).bind fun v96 =>
           some (v96, (0 : Int))
          else
           (R03_Seal s72).bind fun v98 =>
           some (v98, (0 : Int))
noncomputable def R26_Spoil (x0 : R26_Lines) (x1 : Int) (x2 : Int) (x3 : BitVec 8) : Option (R26_Lines × Int) :=
 (R26_there x0 x1).bind fun v4 =>
 lt (!v4) fun v6 =>
 if v6 = true then
  some ((x0 : R26_Lines), (9 : Int))
 else
  (ix x0.Bad x1).bind fun v10 =>
  if v10 = true then
   some ((x0 : R26_Lines), (13 : Int))
  else
   (ix x0.L x1).bind fun v14 =>
   (R23_Put v14).bind fun v16 =>
   (
    lt (decide (x2 < (0 : Int))) fun v22 =>
    if v22 = true then
     some true
    else
     lt (((v16.1).length : Int)) fun v25 =>
     lt (decide (x2 ≥ v25)) fun v27 =>
     if v27 = true then
      some true
     else
      lt (x3 == 0#8) fun v30 =>
      some v30
   : Option (Bool)).bind fun s17 =>
    if s17 = true then
     some ((x0 : R26_Lines), (2 : Int))
    else
     (app 1 ([] : List Bool) x0.Bad).bind fun v38 =>
     (chk (v38).length x1).bind fun v44 =>
     (updA (v38).length v38 x1 (fun _ => true)).bind fun c46 =>
     some ((({ ({ ((⟨x0.L, ([] : List Bool), x0.Lost⟩ : R26_Lines) : R26_Lines) with Bad := v38 } : R26_Lines) with Bad := c46 } : R26_Lines) : R26_Lines), (0 : Int))
noncomputable def L26_do (x0 : lines_Lines) (x1 : R26_Lines) (x2 : L26_Op) : Option (R26_Lines × Bool × lines_Lines) :=
 lt (x2.Kind == (0 : Int)) fun v6 =>
 if v6 = true then
  (lines_Lines_Send x0 x2.L).bind fun v9 =>
  (R26_Send x1 x2.L).bind fun v14 =>
  some ((v14 : R26_Lines), true, v9)
 else
  lt (x2.Kind == (1 : Int)) fun v17 =>
  if v17 = true then
   (R26_Take x1 x2.I).bind fun v20 =>
   lt ((v20.2.1 : api_Msg)) fun c27 =>
   (lines_Lines_Take x0 x2.I).bind fun v30 =>
   lt ((v30.1 : api_Msg)) fun c37 =>
   (R23_Same c27 c37).bind fun v40 =>
   if v40 = true then
    (trouble_Of v30.2.1).bind fun v43 =>
    lt (v43 == v20.2.2) fun v45 =>
    some (((v20.1 : R26_Lines) : R26_Lines), v45, v30.2.2)
   else
    some (((v20.1 : R26_Lines) : R26_Lines), false, v30.2.2)
  else
   lt (x2.Kind == (2 : Int)) fun v49 =>
   if v49 = true then
    (R26_Drop x1 x2.I).bind fun v52 =>
    (lines_Lines_Drop x0 x2.I).bind fun v57 =>
    (trouble_Of v57.1).bind fun v62 =>
    lt (v62 == v52.2) fun v64 =>
    some (((v52.1 : R26_Lines) : R26_Lines), v64, v57.2)
   else
    lt (x2.Kind == (3 : Int)) fun v67 =>
    if v67 = true then
     (R26_Twice x1 x2.I).bind fun v70 =>
     (lines_Lines_Twice x0 x2.I).bind fun v75 =>
     (trouble_Of v75.1).bind fun v80 =>
     lt (v80 == v70.2) fun v82 =>
     some (((v70.1 : R26_Lines) : R26_Lines), v82, v75.2)
    else
     lt (x2.Kind == (4 : Int)) fun v85 =>
     if v85 = true then
      (R26_Spoil x1 x2.I x2.At x2.By).bind fun v88 =>
      (lines_Lines_Spoil x0 x2.I x2.At x2.By).bind fun v93 =>
      (trouble_Of v93.1).bind fun v98 =>
      lt (v98 == v88.2) fun v100 =>
      some (((v88.1 : R26_Lines) : R26_Lines), v100, v93.2)
     else
      (R26_Look x1 x2.I).bind fun v103 =>
      lt ((v103.1 : api_Msg)) fun c107 =>
      (lines_Lines_Look x0 x2.I).bind fun v110 =>
      lt ((v110.1 : api_Msg)) fun c114 =>
      (R23_Same c107 c114).bind fun v117 =>
      if v117 = true then
       (trouble_Of v110.2).bind fun v120 =>
       lt (v120 == v103.2) fun v122 =>
       some ((x1 : R26_Lines), v122, x0)
      else
       some ((x1 : R26_Lines), false, x0)
noncomputable def L26_LinesDoes_b0 (x0 : List L26_Op) (c15 : Int) (c16 : List lines_parcel) (c17 : R26_Lines) (c18 : lines_Lines) : Option ((Int × (List lines_parcel) × R26_Lines × lines_Lines) ⊕ (((List lines_parcel) × R26_Lines × lines_Lines) ⊕ (Bool))) :=
 lt (((x0).length : Int)) fun v29 =>
 lt (decide (c15 < v29)) fun v31 =>
 if v31 = true then
  (ix x0 c15).bind fun v36 =>
  (L26_do ({ c18 with l := c16 } : lines_Lines) c17 v36).bind fun v39 =>
  lt (((v39.1 : R26_Lines) : R26_Lines)) fun c47 =>
  (
   lt (!v39.2.1) fun v54 =>
   if v54 = true then
    some true
   else
    (lines_Lines_Len v39.2.2).bind fun v57 =>
    lt (((c47.L).length : Int)) fun v59 =>
    lt (v57 != v59) fun v61 =>
    if v61 = true then
     some true
    else
     (lines_Lines_Lost v39.2.2).bind fun v64 =>
     lt (v64 != c47.Lost) fun v66 =>
     if v66 = true then
      some true
     else
      (lines_Lines_All v39.2.2).bind fun v69 =>
      (R26_All c47).bind fun v71 =>
      (R23_SameAll v69 v71).bind fun v73 =>
      lt (!v73) fun v75 =>
      some v75
  : Option (Bool)).bind fun s49 =>
   if s49 = true then
    some (.inr (.inr false))
   else
    lt (w64 (c15 + (1 : Int))) fun v80 =>
    some (.inl (v80, v39.2.2.l, c47, v39.2.2))
 else
  some (.inr (.inl (c16, c17, c18)))
noncomputable def L26_LinesDoes_l0 (x0 : List L26_Op) (s : Int × (List lines_parcel) × R26_Lines × lines_Lines) : Option (((List lines_parcel) × R26_Lines × lines_Lines) ⊕ (Bool)) := loopO (fun s => L26_LinesDoes_b0 x0 s.1 s.2.1 s.2.2.1 s.2.2.2) s
noncomputable def L26_LinesDoes (x0 : List L26_Op) : Option (Bool) :=
 (L26_light x0).bind fun v2 =>
 lt (!v2) fun v4 =>
 if v4 = true then
  (L26_works).bind fun v7 =>
  some v7
 else
  (lines_New).bind fun v9 =>
  (L26_LinesDoes_l0 x0 ((0 : Int), v9.l, ((⟨([] : List api_Msg), ([] : List Bool), (0 : Int)⟩ : R26_Lines) : R26_Lines), v9)).bind fun o19 =>
   Sum.elim (fun s26 : (List lines_parcel) × R26_Lines × lines_Lines =>
    (L26_works).bind fun v83 =>
    some v83
    ) (fun y => some y) o19
end Go.Proofs.YtedcgeghgbgonaaGreatDoor
namespace Go.Proofs.YtedcgeghgbgonaaGreatDoor
open Go.RowKit Go.Extern.Stop Go.Stop Go.Extern
theorem Tryz.valueOf27 (t : Addr) (w : World) : (ReflectliteValue.unpack (.iface 80 (.pointer (some t)))).run Tryz.prog w
    = .ok (.agg #[.pointer (some ⟨1, 80, none⟩), .pointer (some ⟨w.heap.size, 0, none⟩), .int .u64 150]) (w.alloc (.cells #[.pointer (some t)] 80)) := by kernel_rfl
theorem Tryz.type27 (a : Addr) (w : World) : (ReflectliteValue.methodAny (ReflectliteValue.valueError "reflectlite.Value.Type" 0) (fun t _ _ _ => ReflectliteType.toType t) #[.agg #[.pointer (some ⟨1, 80, none⟩), .pointer (some a), .int .u64 150]]).run Tryz.prog w
    = .ok (.iface 130 (.agg #[.pointer (some ⟨1, 80, none⟩)])) w := by kernel_rfl
theorem Tryz.methodKind (h : Value) (w : World) : (Go.method 282 130 (.agg #[h]) "Kind").run Tryz.prog w = .ok (103, h) w := by kernel_rfl
theorem Tryz.kind27 (w : World) : ((ReflectliteType.abiMethod fun t => (fun a : Nat => Value.int IntKind.u8 (a : Int)) <$> Rtype.kind t) #[.pointer (some ⟨1, 80, none⟩)]).run Tryz.prog w = .ok (.int .u8 22) w := by kernel_rfl
theorem Tryz.kind25 (w : World) : ((ReflectliteType.abiMethod fun t => (fun a : Nat => Value.int IntKind.u8 (a : Int)) <$> Rtype.kind t) #[.pointer (some ⟨1, 78, none⟩)]).run Tryz.prog w = .ok (.int .u8 22) w := by kernel_rfl

theorem rlm (z : Sem Value) (f : TypeId → Addr → Nat → Nat → Sem Value) (v : Value) :
    ReflectliteValue.method z f #[v] = (do match ← ReflectliteValue.parts v with | none => z | some (t, a, fl) => f t a fl (fl % 32)) := rfl
theorem Tryz.parts27 (a : Addr) (w : World) : (ReflectliteValue.parts (.agg #[.pointer (some ⟨1, 80, none⟩), .pointer (some a), .int .u64 150])).run Tryz.prog w = .ok (some (80, a, 150)) w := by kernel_rfl
theorem Tryz.isNil27 (a p : Addr) (W : World) (ha : W.cell? a = some (.pointer (some p))) :
    (ReflectliteValue.method (ReflectliteValue.valueError "reflectlite.Value.IsNil" 0) ReflectliteValue.isNil #[.agg #[.pointer (some ⟨1, 80, none⟩), .pointer (some a), .int .u64 150]]).run Tryz.prog W = .ok (.bool false) W := by
  rw [rlm]
  simp only [Sem.run_bind, Tryz.parts27, Result.andThen]
  simp [ReflectliteValue.isNil, loadVar, isAgg, underlying, Tryz.underlying80, ha, Result.andThen]

theorem Tryz.methodElem (h : Value) (w : World) : (Go.method 282 130 (.agg #[h]) "Elem").run Tryz.prog w = .ok (116, .agg #[h]) w := by kernel_rfl
theorem Tryz.methodImplements (h : Value) (w : World) : (Go.method 282 130 (.agg #[h]) "Implements").run Tryz.prog w = .ok (117, .agg #[h]) w := by kernel_rfl
theorem Tryz.methodAssignableTo (h : Value) (w : World) : (Go.method 282 130 (.agg #[h]) "AssignableTo").run Tryz.prog w = .ok (114, .agg #[h]) w := by kernel_rfl
theorem Tryz.elem27 (w : World) : (ReflectliteType.method ReflectliteType.elem #[.agg #[.pointer (some ⟨1, 80, none⟩)]]).run Tryz.prog w = .ok (.iface 130 (.agg #[.pointer (some ⟨1, 78, none⟩)])) w := by kernel_rfl
theorem Tryz.implements25 (w : World) : (ReflectliteType.relation "Implements" ReflectliteType.implements_ #[.agg #[.pointer (some ⟨1, 78, none⟩)], .iface 130 (.agg #[.pointer (some ⟨1, 48, none⟩)])]).run Tryz.prog w = .ok (.bool true) w := by kernel_rfl
theorem Tryz.typeOf25 (v : Value) (w : World) : (ReflectliteType.typeOf #[.iface 78 v]).run Tryz.prog w = .ok (.iface 130 (.agg #[.pointer (some ⟨1, 78, none⟩)])) w := by kernel_rfl
theorem Tryz.assignable25 (w : World) : (ReflectliteType.relation "AssignableTo" ReflectliteType.assignableTo #[.agg #[.pointer (some ⟨1, 78, none⟩)], .iface 130 (.agg #[.pointer (some ⟨1, 78, none⟩)])]).run Tryz.prog w = .ok (.bool true) w := by kernel_rfl
theorem Tryz.valueOf25 (e : Addr) (w : World) : (ReflectliteValue.unpack (.iface 78 (.pointer (some e)))).run Tryz.prog w
    = .ok (.agg #[.pointer (some ⟨1, 78, none⟩), .pointer (some ⟨w.heap.size, 0, none⟩), .int .u64 150]) (w.alloc (.cells #[.pointer (some e)] 78)) := by kernel_rfl

theorem Tryz.elemOf27 (w : World) : (Rtype.elem? 80).run Tryz.prog w = .ok (some 78) w := by kernel_rfl
theorem Tryz.mk25 (p : Addr) (w : World) : (ReflectliteValue.mk 78 p ReflectliteValue.flagAddr).run Tryz.prog w = .ok (.agg #[.pointer (some ⟨1, 78, none⟩), .pointer (some p), .int .u64 406]) w := by kernel_rfl
theorem Tryz.elemV27 (a p : Addr) (W : World) (ha : W.cell? a = some (.pointer (some p))) :
    (ReflectliteValue.method (ReflectliteValue.valueError "reflectlite.Value.Elem" 0) ReflectliteValue.elem #[.agg #[.pointer (some ⟨1, 80, none⟩), .pointer (some a), .int .u64 150]]).run Tryz.prog W
      = .ok (.agg #[.pointer (some ⟨1, 78, none⟩), .pointer (some p), .int .u64 406]) W := by
  rw [rlm]
  simp only [Sem.run_bind, Tryz.parts27, Result.andThen]
  simp [ReflectliteValue.elem, loadVar, isAgg, underlying, Tryz.underlying80, ha, Result.andThen, Tryz.elemOf27, Tryz.mk25]
theorem rls (v x : Value) : ReflectliteValue.set #[v, x] = (do
    let (some (dst, a, fl), some (src, b, _)) := (← ReflectliteValue.parts v, ← ReflectliteValue.parts x)
      | unsupported (.noEntry "extern/(internal/reflectlite.Value).Set.zeroValue")
    if fl / ReflectliteValue.flagAddr % 2 == 0 then unsupported (.noEntry "extern/(internal/reflectlite.Value).Set.unaddressable")
    let val ← loadVar src b
    if ← Rtype.directlyAssignable dst src then storeVar dst a val
    else if ← Rtype.implements dst src then
      if (← Rtype.kind src) == 20 then
        match val with
        | .nilIface => unsupported (.noEntry "extern/reflectlite: a nil value of one interface type handed on as a value of another")
        | _ => storeVar dst a val
      else storeVar dst a (.iface src val)
    else panicString ("reflectlite.Set: value of type " ++ (← Rtype.spelt src) ++ " is not assignable to type " ++ (← Rtype.spelt dst))
    pure (.tuple #[])) := rfl
theorem Tryz.parts25a (a : Addr) (w : World) : (ReflectliteValue.parts (.agg #[.pointer (some ⟨1, 78, none⟩), .pointer (some a), .int .u64 406])).run Tryz.prog w = .ok (some (78, a, 406)) w := by kernel_rfl
theorem Tryz.parts25 (a : Addr) (w : World) : (ReflectliteValue.parts (.agg #[.pointer (some ⟨1, 78, none⟩), .pointer (some a), .int .u64 150])).run Tryz.prog w = .ok (some (78, a, 150)) w := by kernel_rfl
theorem Tryz.direct25 (w : World) : (Rtype.directlyAssignable 78 78).run Tryz.prog w = .ok true w := by kernel_rfl
theorem Tryz.set25 (ta b e : Addr) (old : Value) (W : World) (hb : W.cell? b = some (.pointer (some e))) (ht : W.cell? ta = some old) (hf : W.frozen? ta = false) :
    (ReflectliteValue.set #[.agg #[.pointer (some ⟨1, 78, none⟩), .pointer (some ta), .int .u64 406], .agg #[.pointer (some ⟨1, 78, none⟩), .pointer (some b), .int .u64 150]]).run Tryz.prog W
      = .ok (.tuple #[]) (W.setCell ta (.pointer (some e))) := by
  rw [rls]
  simp only [Sem.run_bind, Tryz.parts25a, Tryz.parts25, Result.andThen]
  simp [ReflectliteValue.flagAddr, loadVar, isAgg, underlying, Tryz.underlying78, hb, Result.andThen, Tryz.direct25, storeVar, Value.cells, storeCells, Addr.add]
  rw [run_store Tryz.prog W ta _ _ (by rfl)]
  simp [ht, hf]

set_option maxHeartbeats 8000000 in
set_option maxRecDepth 100000 in
theorem as_hit (e t : Addr) (old : Value) (w : World) (hg : w.cell? ⟨0, 0, none⟩ = some (.iface 130 (.agg #[.pointer (some ⟨1, 48, none⟩)]))) (ht0 : w.cell? t = some old) (hf0 : w.frozen? t = false) :
    Calls Tryz.prog 35 #[.iface 78 (.pointer (some e)), .iface 80 (.pointer (some t))] w fun ev w' => ev = .returned (.bool true) ∧ w' = ((((w.alloc (.cells #[.pointer (some t)] 80)).alloc (.cells #[.pointer (some ⟨1, 80, none⟩), .pointer (some ⟨w.heap.size, 0, none⟩), .int .u64 150] 101)).alloc (.cells #[.pointer (some ⟨1, 80, none⟩), .pointer (some ⟨w.heap.size, 0, none⟩), .int .u64 150] 101)).alloc (.cells #[.pointer (some e)] 78)).setCell t (.pointer (some e)) := by
  have h6 := @run_callFunc_extern Tryz.prog 49 _ (fun args => ReflectliteValue.unpack (args.getD 0 (.tuple #[]))) Tryz.func49 (by kernel_rfl) (by kernel_rfl) (by kernel_rfl) (by kernel_rfl)
  have h7 := @run_callFunc_extern Tryz.prog 50 _ (ReflectliteValue.methodAny (ReflectliteValue.valueError "reflectlite.Value.Type" 0) (fun t _ _ _ => ReflectliteType.toType t)) Tryz.func50 (by kernel_rfl) (by kernel_rfl) (by kernel_rfl) (by kernel_rfl)
  have h8 := @run_callFunc_extern Tryz.prog 51 _ (ReflectliteValue.method (ReflectliteValue.valueError "reflectlite.Value.IsNil" 0) ReflectliteValue.isNil) Tryz.func51 (by kernel_rfl) (by kernel_rfl) (by kernel_rfl) (by kernel_rfl)
  have h27 := @run_callFunc_extern Tryz.prog 103 _ (ReflectliteType.abiMethod fun t => do pure (.int .u8 (← Rtype.kind t))) Tryz.func103 (by kernel_rfl) (by kernel_rfl) (by kernel_rfl) (by kernel_rfl)
  have h37 := @run_callFunc_extern Tryz.prog 116 _ (ReflectliteType.method ReflectliteType.elem) Tryz.func116 (by kernel_rfl) (by kernel_rfl) (by kernel_rfl) (by kernel_rfl)
  have h38 := @run_callFunc_extern Tryz.prog 117 _ (ReflectliteType.relation "Implements" ReflectliteType.implements_) Tryz.func117 (by kernel_rfl) (by kernel_rfl) (by kernel_rfl) (by kernel_rfl)
  have h10 := @run_callFunc_extern Tryz.prog 76 _ ReflectliteType.typeOf Tryz.func76 (by kernel_rfl) (by kernel_rfl) (by kernel_rfl) (by kernel_rfl)
  have h35 := @run_callFunc_extern Tryz.prog 114 _ (ReflectliteType.relation "AssignableTo" ReflectliteType.assignableTo) Tryz.func114 (by kernel_rfl) (by kernel_rfl) (by kernel_rfl) (by kernel_rfl)
  have h11 := @run_callFunc_extern Tryz.prog 78 _ (ReflectliteValue.method (ReflectliteValue.valueError "reflectlite.Value.Elem" 0) ReflectliteValue.elem) Tryz.func78 (by kernel_rfl) (by kernel_rfl) (by kernel_rfl) (by kernel_rfl)
  have h12 := @run_callFunc_extern Tryz.prog 79 _ ReflectliteValue.set Tryz.func79 (by kernel_rfl) (by kernel_rfl) (by kernel_rfl) (by kernel_rfl)
  have tO := Tryz.typeOf25
  have mA := Tryz.methodAssignableTo
  have a25 := Tryz.assignable25
  have v25 := Tryz.valueOf25
  have f6 := Tryz.valueOf27
  have f7 := Tryz.type27
  have mK := Tryz.methodKind
  have mE := Tryz.methodElem
  have mI := Tryz.methodImplements
  have k27 := Tryz.kind27
  have k25 := Tryz.kind25
  have e27 := Tryz.elem27
  have i25 := Tryz.implements25
  have n8 := Tryz.isNil27 ⟨w.heap.size, 0, none⟩ t ((w.alloc (.cells #[.pointer (some t)] 80)).alloc (.cells #[.pointer (some ⟨1, 80, none⟩), .pointer (some ⟨w.heap.size, 0, none⟩), .int .u64 150] 101)) (by simp)
  have hlt : 0 < w.heap.size := by
    rcases Nat.eq_zero_or_pos w.heap.size with h0 | h
    · simp [World.cell?, h0] at hg
    · exact h
  have hg2 : ((w.alloc (.cells #[.pointer (some t)] 80)).alloc (.cells #[.pointer (some ⟨1, 80, none⟩), .pointer (some ⟨w.heap.size, 0, none⟩), .int .u64 150] 101)).cell? ⟨0, 0, none⟩ = some (.iface 130 (.agg #[.pointer (some ⟨1, 48, none⟩)])) := by
    rw [World.cell?_alloc_lt _ _ ⟨0, 0, none⟩ (by simp), World.cell?_alloc_lt _ _ ⟨0, 0, none⟩ hlt]; exact hg
  have htl : t.block < w.heap.size := by
    rcases Nat.lt_or_ge t.block w.heap.size with h | h
    · exact h
    · simp [World.cell?, Array.getElem?_eq_none h] at ht0
  have el := Tryz.elemV27 ⟨w.heap.size, 0, none⟩ t (((w.alloc (.cells #[.pointer (some t)] 80)).alloc (.cells #[.pointer (some ⟨1, 80, none⟩), .pointer (some ⟨w.heap.size, 0, none⟩), .int .u64 150] 101)).alloc (.cells #[.pointer (some ⟨1, 80, none⟩), .pointer (some ⟨w.heap.size, 0, none⟩), .int .u64 150] 101)) (by rw [World.cell?_alloc_lt _ _ ⟨w.heap.size, 0, none⟩ (by simp; omega)]; simp)
  have st := Tryz.set25 t ⟨w.heap.size + 1 + 1 + 1, 0, none⟩ e old ((((w.alloc (.cells #[.pointer (some t)] 80)).alloc (.cells #[.pointer (some ⟨1, 80, none⟩), .pointer (some ⟨w.heap.size, 0, none⟩), .int .u64 150] 101)).alloc (.cells #[.pointer (some ⟨1, 80, none⟩), .pointer (some ⟨w.heap.size, 0, none⟩), .int .u64 150] 101)).alloc (.cells #[.pointer (some e)] 78))
    (by rw [World.cell?_alloc_at _ _ _ _ (by simp)]; rfl)
    (by rw [World.cell?_alloc_lt _ _ t (by simp; omega), World.cell?_alloc_lt _ _ t (by simp; omega), World.cell?_alloc_lt _ _ t (by simp; omega), World.cell?_alloc_lt _ _ t htl]; exact ht0)
    (by rw [World.frozen?_alloc_old _ _ t (by simp; omega), World.frozen?_alloc_old _ _ t (by simp; omega), World.frozen?_alloc_old _ _ t (by simp; omega), World.frozen?_alloc_old _ _ t (Nat.ne_of_lt htl)]; exact hf0)
  go_enter Tryz.func35, Tryz.ntmps35
  go_wp2
  refine wp_loop_rounds 1 ?_
  rw [rounds_succ]
  go_wp2
  go_ret
  exact ⟨rfl, rfl⟩
end Go.Proofs.YtedcgeghgbgonaaGreatDoor
namespace Go.Proofs.YtedcgeghgbgonaaGreatDoor
open Go Go.Va
set_option linter.unusedVariables false
set_option linter.unusedSimpArgs false
def gls : List (Addr × Value) := [(⟨0, 0, none⟩, .iface 130 (.agg #[.pointer (some ⟨1, 48, none⟩)]))]
section
variable {P : Program} {Ty : TypeId → Option TI} {fr : Nat → AV} {d : Option Tmp} {t : TypeId} {pos : String} {af : Array Edge} {g : Option (Nat × Bool)} {ox oy : Operand} {T T' : TypeId}
theorem o_err_eql (hT : TyOk P Ty) {x : Err} (ht : tdOf Ty T = .iface) (hx : aeval fr ox = eErr x) (hy : oy = .const .nilIface) : OpP P ⟨d, .binOp .eql T ox oy T', t, pos, af, g⟩ fr (eB x.isNil) := by
  subst hy
  refine OpP.of_aop' hT (mu := false) rfl (fun τ => ?_)
  have h2 : aeval fr (.const .nilIface) = .nili := rfl
  simp only [aop, hx, h2]
  cases x with
  | nil => simp [eErr, abin', abin, ht, isC, aeq, pairO, Err.isNil, eB]
  | fault o a c u => simp [eErr, abin', abin, ht, isC, aeq, pairO, Err.isNil, eB]
theorem o_err_neq (hT : TyOk P Ty) {x : Err} (ht : tdOf Ty T = .iface) (hx : aeval fr ox = eErr x) (hy : oy = .const .nilIface) : OpP P ⟨d, .binOp .neq T ox oy T', t, pos, af, g⟩ fr (eB (!x.isNil)) := by
  subst hy
  refine OpP.of_aop' hT (mu := false) rfl (fun τ => ?_)
  have h2 : aeval fr (.const .nilIface) = .nili := rfl
  simp only [aop, hx, h2]
  cases x with
  | nil => simp [eErr, abin', abin, ht, isC, aeq, pairO, Err.isNil, eB]
  | fault o a c u => simp [eErr, abin', abin, ht, isC, aeq, pairO, Err.isNil, eB]
end
def Err.ptr : Err → AV
  | .nil => .nilp
  | .fault o a c u => .fptr [eS o, eI a, eI c, eErr u] 0
theorem as_ok {x : Err} (hx : x.isNil = false) {σ : St} {id : Nat} (ho : σ.objs[id]? = some [.nilp]) (hg : σ.gl = gls) : ACall Tryz.prog 35 [eErr x, .iface 80 (.ref id 0)] σ (fun a τ => a = eB true ∧ τ = σ.puts [(id, [x.ptr])]) := by
  cases x with
  | nil => cases hx
  | fault o a c u =>
    refine ⟨⟨_, Tryz.func35, by decide, rfl⟩, fun w0 G w vs hI hr => ?_⟩
    obtain ⟨v0, h0, r0⟩ := hr.get (i := 0) rfl
    obtain ⟨v1, h1, r1⟩ := hr.get (i := 1) rfl
    have hvs : vs = #[v0, v1] := by
      obtain ⟨l⟩ := vs
      have hl := hr.len
      simp only [List.length_cons, List.length_nil] at hl h0 h1
      match l, hl, h0, h1 with
      | [x, y], _, h0, h1 => simp at h0 h1; subst h0; subst h1; rfl
    subst hvs
    simp only [eErr] at r0
    cases r0 with | iface _ v0 _ r0 =>
    cases r1 with | iface _ v1 _ r1 =>
    cases r0 with | fptr b o' off _ val hf hv =>
    cases r1 with | ref _ _ b1 hl =>
    obtain ⟨b2, T, cs, e1, e2, e3, e4, e5, e6⟩ := hI.loc id _ ho (by simp) rfl
    rw [hl] at e1
    cases e1
    obtain ⟨u1, hu1, ru1⟩ := e4.rel.get (i := 0) rfl
    have hcs : cs[0]? = some (.pointer none) := by
      cases ru1
      rw [List.getElem?_take] at hu1
      simpa using hu1
    have hsz : 1 ≤ cs.size := e4.le
    have hglob := hI.below
    have hg0 : w0.cell? ⟨0, 0, none⟩ = some (.iface 130 (.agg #[.pointer (some ⟨1, 48, none⟩)])) := hI.gl _ (by rw [hg]; exact List.mem_singleton.2 rfl)
    have hg1 : w.cell? ⟨0, 0, none⟩ = some (.iface 130 (.agg #[.pointer (some ⟨1, 48, none⟩)])) := by
      have hb := World.block_lt_of_cell? w0 _ hg0
      simp only [World.cell?] at hg0 ⊢
      rw [hI.below.block _ hb]; exact hg0
    have hc : w.cell? ⟨b1, 0, none⟩ = some (.pointer none) := by simp [World.cell?, e3, hcs]
    have hfz : w.frozen? ⟨b1, 0, none⟩ = false := by simp [World.frozen?, e3]
    refine (as_hit ⟨b, o' + 0, none⟩ ⟨b1, 0, none⟩ (.pointer none) w hg1 hc hfz).mono ?_
    rintro e w' ⟨rfl, rfl⟩
    have k1 := hI.alloc_fz #[.pointer (some ⟨b1, 0, none⟩)] 80 (by simp [Value.oneCell']) (0, 0)
    have k2 := k1.2.alloc_fz #[.pointer (some ⟨1, 80, none⟩), .pointer (some ⟨w.heap.size, 0, none⟩), .int .u64 150] 101 (by simp [Value.oneCell']) (0, 0)
    have k3 := k2.2.alloc_fz #[.pointer (some ⟨1, 80, none⟩), .pointer (some ⟨w.heap.size, 0, none⟩), .int .u64 150] 101 (by simp [Value.oneCell']) (0, 0)
    have k4 := k3.2.alloc_fz #[.pointer (some ⟨b, o' + 0, none⟩)] 78 (by simp [Value.oneCell']) (0, 0)
    have hle := k1.1.trans (k2.1.trans (k3.1.trans k4.1))
    have hb1 : b1 < w.heap.size := (Array.getElem?_eq_some_iff.1 e3).1
    have k5 := k4.2.write (id := id) (off := 0) (news := [.pointer (some ⟨b, o' + 0, none⟩)]) (nc := [.fptr [eS o, eI a, eI c, eErr u] 0]) ho (hle.loc _ _ hl) (by simp) rfl ((RelL.nil _).cons (.fptr b o' 0 _ val (fun j a h1 => hle.fz _ _ _ (hf j a h1)) (fun j a h1 => (hv j a h1).mono hle))) (by simp [Value.oneCell']) (by simp) (by rw [hle.bsz _ _ hl, ← e6]; simpa using hsz)
    refine ⟨.bool true, eB true, _, _, rfl, hle, ?_, .bool true, rfl, rfl⟩
    simp only [World.setCells, List.take_zero, List.nil_append, List.length_cons, List.length_nil, List.drop_succ_cons, List.drop_zero, List.drop_nil, List.append_nil] at k5
    exact k5
end Go.Proofs.YtedcgeghgbgonaaGreatDoor
namespace Go.Proofs.YtedcgeghgbgonaaGreatDoor
open Go Go.Va
set_option linter.unusedVariables false
set_option linter.unusedSimpArgs false
set_option maxRecDepth 20000
theorem R02_Same_ok {x0 : List (BitVec 8)} {x1 : List (BitVec 8)} {r : Bool} (H : R02_Same x0 x1 = some r) (σ : St)  : ACall Tryz.prog 53 [((eL 1 (@eU .u8 8)) x0), ((eL 1 (@eU .u8 8)) x1)] σ (fun a τ => a = eB r ∧ τ = σ) := by
 unfold R02_Same at H
 refine ACall.pure (acall_start tk Tryz.func53 (by decide) rfl (nb rfl) ?_)
 have hH := Holds.init σ
 refine sr rfl (ma tk (eB false) rfl rfl (wpo_nil (awp_seq (sr rfl (mm tk ((eL 1 (@eU .u8 8)) x0) rfl rfl ?_)))))
 refine l_ H eI rfl (o_len tk td40 rfl) fun v2 H1 => ?_
 refine mm tk ((eL 1 (@eU .u8 8)) x1) rfl rfl ?_
 refine l_ H1 eI rfl (o_len tk td40 rfl) fun v4 H3 => ?_
 refine l_ H3 eB rfl (o_ar tk rfl rfl rfl) fun v6 H5 => ?_
 refine wpo_nil ?_
 refine awp_if H5 rfl (fun H7 => ?_) (fun H7 => ?_)
 ·refine sr rfl (ma tk (eB false) rfl rfl (wpo_nil (awp_ret ?_)))
  obtain rfl := oi H7
  exact ⟨_, (eB false), rfl, wr, .of_eq ((enc_b td4 sz4).cut _ _ _), hH.noT⟩
 ·refine awp_skip (awp_seq (sr rfl (ma tk (eI (0 : Int)) rfl rfl (wpo_nil (awp_block ?_)))))
  obtain ⟨o9, hs10, hj11⟩ := ob H7
  refine awp_cutx 0 (fun fr τ => ∃ s16 : Unit, o9 = .inl s16 ∧ WkF fr (fm []) ∧ Holds σ [] [] τ) ?_ ?_
  ·rintro fr τ ⟨s16, rfl, hfr, hH⟩
   have H33 := hj11
   simp only [Sum.elim_inl] at H33
   refine AWP.fm [] hfr ?_
   refine sr rfl (ma tk (eB true) rfl rfl (wpo_nil (awp_ret ?_)))
   obtain rfl := oi H33
   exact ⟨_, (eB true), rfl, wr, .of_eq ((enc_b td4 sz4).cut _ _ _), hH.noT⟩
  ·refine awp_loopO (body := fun s => R02_Same_b0 x0 x1 s) hs10 (fun (s : Int) fr τ => WkF fr (fm [(0, ((eL 1 (@eU .u8 8)) x0)), (1, ((eL 1 (@eU .u8 8)) x1)), (5, (eI s))]) ∧ Holds σ [] [] τ) ⟨(wc (wc (wc (wkf_nil _)))), hH⟩ ?_
   rintro c8 fr τ y12 ⟨hfr, hH⟩ hb14 hy15
   have H17 : R02_Same_b0 x0 x1 c8 = some y12 := hb14
   unfold R02_Same_b0 at H17
   refine AWP.fm [(0, ((eL 1 (@eU .u8 8)) x0)), (1, ((eL 1 (@eU .u8 8)) x1)), (5, (eI c8))] hfr ?_
   have hH : Holds σ [] [] τ := hH
   refine awp_seq (sr rfl (mm tk (eI c8) rfl rfl (mm tk ((eL 1 (@eU .u8 8)) x0) rfl rfl ?_)))
   refine l_ H17 eI rfl (o_len tk td40 rfl) fun v19 H18 => ?_
   refine l_ H18 eB rfl (o_ar tk rfl rfl rfl) fun v21 H20 => ?_
   refine wpo_nil ?_
   refine awp_if H20 rfl (fun H22 => ?_) (fun H22 => ?_)
   ·refine awp_skip (awp_seq (awp_block (awp_seq ?_)))
    refine awp_drawS mixed [] rfl (by decide +kernel) rfl rfl ?_
    refine wpdS_mv (a := ((eL 1 (@eU .u8 8)) x0)) rfl rfl rfl (o_mv tk rfl (Wk.refl _)) (wpdS_mv (a := (eI c8)) rfl rfl rfl (o_mv tk rfl (Wk.refl _)) ?_)
    refine wpdS_bd H22 (fun y => .fptr ((@eU .u8 8) y).cells 0) rfl rfl rfl (fun v24 hv => o_ixa tk hv td40 (enc_u td5 sz5) rfl rfl) fun v24 hv24 H23 => ?_
    refine wpdS_mv (a := ((@eU .u8 8) v24)) rfl rfl rfl (o_ld_e tk (enc_u td5 sz5) rfl rfl) (wpdS_mv (a := ((eL 1 (@eU .u8 8)) x1)) rfl rfl rfl (o_mv tk rfl (Wk.refl _)) (wpdS_mv (a := (eI c8)) rfl rfl rfl (o_mv tk rfl (Wk.refl _)) ?_))
    refine wpdS_bd H23 (fun y => .fptr ((@eU .u8 8) y).cells 0) rfl rfl rfl (fun v26 hv => o_ixa tk hv td40 (enc_u td5 sz5) rfl rfl) fun v26 hv26 H25 => ?_
    refine wpdS_mv (a := ((@eU .u8 8) v26)) rfl rfl rfl (o_ld_e tk (enc_u td5 sz5) rfl rfl) ?_
    refine wpdS_lt H25 eB rfl rfl rfl (o_neq_u tk rfl rfl) fun v28 H27 => ?_
    refine wpdS_nil ?_
    refine awp_if H27 rfl (fun H29 => ?_) (fun H29 => ?_)
    ·refine sr rfl (ma tk (eB false) rfl rfl (wpo_nil (awp_ret ?_)))
     have hz := hy15 _ (inj_inr H29)
     refine ⟨⟨_, inj_inr H29⟩, ?_⟩
     rw [← hz] at hj11
     have H30 := (show some _ = some _ from hj11)
     obtain rfl := oi H30
     exact ⟨_, (eB false), rfl, wr, .of_eq ((enc_b td4 sz4).cut _ _ _), hH.noT⟩
    ·refine awp_skip (awp_region rfl (mm tk (eI c8) rfl rfl ?_))
     refine l_ H29 eI rfl (o_ar tk rfl rfl rfl) fun v32 H31 => ?_
     refine ma tk (eI v32) rfl rfl (wpo_nil ?_)
     exact ⟨v32, inj_inl H31, (wc (wc (wc (wkf_nil _)))), hH⟩
   ·refine awp_exit ?_
    have hz := hy15 _ (inj_inr H22)
    exact ⟨⟨_, inj_inr H22⟩, (), hz.symm, (wkf_nil _), hH⟩
theorem R06_Same_ok {x0 : api_Entry} {x1 : api_Entry} {r : Bool} (H : R06_Same x0 x1 = some r) (σ : St)  : ACall Tryz.prog 36 [(e_api_Entry x0), (e_api_Entry x1)] σ (fun a τ => a = eB r ∧ τ = σ) := by
 unfold R06_Same at H
 refine ACall.pure (acall_start tk Tryz.func36 (by decide) rfl (nb rfl) ?_)
 have hH := Holds.init σ
 refine sr rfl (m_ (.fptr (c_api_Entry x0) 0) rfl (o_boxf tk rfl wr (b := (e_api_Entry x0)) (enc42.flat _)) (m_ (.fptr (c_api_Entry x1) 0) rfl (o_boxf tk rfl wr (b := (e_api_Entry x1)) (enc42.flat _)) (ma tk (eB false) rfl rfl (wpo_nil (sr rfl (mc tk (.fptr (c_api_Entry x0) 0) rfl rfl (fun _ => rfl) (m_ (eS x0.Key) rfl (o_ld tk rfl rfl) (mc tk (.fptr (c_api_Entry x1) 0) rfl rfl (fun _ => rfl) ?_))))))))
 refine m_ (eS x1.Key) rfl (o_ld tk rfl rfl) ?_
 refine l_ H eB rfl (o_eql_s tk rfl rfl) fun v2 H1 => ?_
 refine mm tk (eB v2) rfl rfl ?_
 refine if_split H1 (fun hb H3 => ?_) (fun hb H3 => ?_)
 ·subst hb
  refine mc tk (.fptr (c_api_Entry x0) 1) rfl rfl (fun _ => rfl) (m_ (eI x0.Version) rfl (o_ld tk rfl rfl) (mc tk (.fptr (c_api_Entry x1) 1) rfl rfl (fun _ => rfl) (m_ (eI x1.Version) rfl (o_ld tk rfl rfl) ?_)))
  refine l_ H3 eB rfl (o_ar tk rfl rfl rfl) fun v5 H4 => ?_
  refine pt tk (eB v5) rfl rfl rfl (mm tk (eB v5) rfl rfl ?_)
  refine if_split H4 (fun hb H6 => ?_) (fun hb H6 => ?_)
  ·subst hb
   refine mc tk (.fptr (c_api_Entry x0) 2) rfl rfl (fun _ => rfl) (m_ (eI x0.AsOf) rfl (o_ld tk rfl rfl) (mc tk (.fptr (c_api_Entry x1) 2) rfl rfl (fun _ => rfl) (m_ (eI x1.AsOf) rfl (o_ld tk rfl rfl) ?_)))
   refine l_ H6 eB rfl (o_ar tk rfl rfl rfl) fun v8 H7 => ?_
   refine pt tk (eB v8) rfl rfl rfl (mm tk (eB v8) rfl rfl ?_)
   refine if_split H7 (fun hb H9 => ?_) (fun hb H9 => ?_)
   ·subst hb
    refine mc tk (.fptr (c_api_Entry x0) 3) rfl rfl (fun _ => rfl) (m_ (eI x0.Ends) rfl (o_ld tk rfl rfl) (mc tk (.fptr (c_api_Entry x1) 3) rfl rfl (fun _ => rfl) (m_ (eI x1.Ends) rfl (o_ld tk rfl rfl) ?_)))
    refine l_ H9 eB rfl (o_ar tk rfl rfl rfl) fun v11 H10 => ?_
    refine pt tk (eB v11) rfl rfl rfl (mm tk (eB v11) rfl rfl ?_)
    refine if_split H10 (fun hb H12 => ?_) (fun hb H12 => ?_)
    ·subst hb
     refine mc tk (.fptr (c_api_Entry x0) 4) rfl rfl (fun _ => rfl) (m_ ((eL 1 (@eU .u8 8)) x0.Value) rfl (o_ld tk rfl rfl) (mc tk (.fptr (c_api_Entry x1) 4) rfl rfl (fun _ => rfl) (m_ ((eL 1 (@eU .u8 8)) x1.Value) rfl (o_ld tk rfl rfl) ?_)))
     refine b_ H12 eB rfl (fun v14 hv => OpP.of_call rfl rfl (.cons wr (.cons wr .nil)) (R02_Same_ok hv)) fun v14 hv14 H13 => ?_
     refine pt tk (eB v14) rfl rfl rfl (ma tk (eB v14) rfl rfl (wpo_nil (awp_ret ?_)))
     obtain rfl := oi H13
     exact ⟨_, (eB v14), rfl, wr, .of_eq ((enc_b td4 sz4).cut _ _ _), hH.noT⟩
    ·subst hb
     refine k_ rfl (k_ rfl (k_ rfl (k_ rfl (k_ rfl (pf tk (eB false) rfl rfl rfl (ma tk (eB false) rfl rfl (wpo_nil (awp_ret ?_))))))))
     obtain rfl := oi H12
     exact ⟨_, (eB false), rfl, wr, .of_eq ((enc_b td4 sz4).cut _ _ _), hH.noT⟩
   ·subst hb
    refine k_ rfl (k_ rfl (k_ rfl (k_ rfl (k_ rfl (pf tk (eB false) rfl rfl rfl (mm tk (eB false) rfl rfl (k_ rfl (k_ rfl ?_))))))))
    refine k_ rfl (k_ rfl (k_ rfl (pf tk (eB false) rfl rfl rfl (ma tk (eB false) rfl rfl (wpo_nil (awp_ret ?_))))))
    obtain rfl := oi H9
    exact ⟨_, (eB false), rfl, wr, .of_eq ((enc_b td4 sz4).cut _ _ _), hH.noT⟩
  ·subst hb
   refine k_ rfl (k_ rfl (k_ rfl (k_ rfl (k_ rfl (pf tk (eB false) rfl rfl rfl (mm tk (eB false) rfl rfl (k_ rfl (k_ rfl ?_))))))))
   refine k_ rfl (k_ rfl (k_ rfl (pf tk (eB false) rfl rfl rfl (mm tk (eB false) rfl rfl (k_ rfl (k_ rfl (k_ rfl (k_ rfl ?_))))))))
   refine k_ rfl (pf tk (eB false) rfl rfl rfl (ma tk (eB false) rfl rfl (wpo_nil (awp_ret ?_))))
   obtain rfl := oi H6
   exact ⟨_, (eB false), rfl, wr, .of_eq ((enc_b td4 sz4).cut _ _ _), hH.noT⟩
 ·subst hb
  refine k_ rfl (k_ rfl (k_ rfl (k_ rfl (k_ rfl (pf tk (eB false) rfl rfl rfl (mm tk (eB false) rfl rfl (k_ rfl (k_ rfl ?_))))))))
  refine k_ rfl (k_ rfl (k_ rfl (pf tk (eB false) rfl rfl rfl (mm tk (eB false) rfl rfl (k_ rfl (k_ rfl (k_ rfl (k_ rfl ?_))))))))
  refine k_ rfl (pf tk (eB false) rfl rfl rfl (mm tk (eB false) rfl rfl (k_ rfl (k_ rfl (k_ rfl (k_ rfl (k_ rfl (pf tk (eB false) rfl rfl rfl ?_))))))))
  refine ma tk (eB false) rfl rfl (wpo_nil (awp_ret ?_))
  obtain rfl := oi H3
  exact ⟨_, (eB false), rfl, wr, .of_eq ((enc_b td4 sz4).cut _ _ _), hH.noT⟩
theorem R23_Same_ok {x0 : api_Msg} {x1 : api_Msg} {r : Bool} (H : R23_Same x0 x1 = some r) (σ : St)  : ACall Tryz.prog 20 [(e_api_Msg x0), (e_api_Msg x1)] σ (fun a τ => a = eB r ∧ τ = σ) := by
 unfold R23_Same at H
 refine ACall.pure (acall_start tk Tryz.func20 (by decide) rfl (nb rfl) ?_)
 have hH := Holds.init σ
 refine sr rfl (m_ (.fptr (c_api_Msg x0) 0) rfl (o_boxf tk rfl wr (b := (e_api_Msg x0)) (enc44.flat _)) (m_ (.fptr (c_api_Msg x1) 0) rfl (o_boxf tk rfl wr (b := (e_api_Msg x1)) (enc44.flat _)) (ma tk (eB false) rfl rfl (wpo_nil (sr rfl (mc tk (.fptr (c_api_Msg x0) 0) rfl rfl (fun _ => rfl) (m_ (eI x0.Kind) rfl (o_ld tk rfl rfl) (mc tk (.fptr (c_api_Msg x1) 0) rfl rfl (fun _ => rfl) ?_))))))))
 refine m_ (eI x1.Kind) rfl (o_ld tk rfl rfl) ?_
 refine l_ H eB rfl (o_ar tk rfl rfl rfl) fun v2 H1 => ?_
 refine mm tk (eB v2) rfl rfl ?_
 refine if_split H1 (fun hb H3 => ?_) (fun hb H3 => ?_)
 ·subst hb
  refine mc tk (.fptr (c_api_Msg x0) 1) rfl rfl (fun _ => rfl) (m_ (eI x0.From) rfl (o_ld tk rfl rfl) (mc tk (.fptr (c_api_Msg x1) 1) rfl rfl (fun _ => rfl) (m_ (eI x1.From) rfl (o_ld tk rfl rfl) ?_)))
  refine l_ H3 eB rfl (o_ar tk rfl rfl rfl) fun v5 H4 => ?_
  refine pt tk (eB v5) rfl rfl rfl (mm tk (eB v5) rfl rfl ?_)
  refine if_split H4 (fun hb H6 => ?_) (fun hb H6 => ?_)
  ·subst hb
   refine mc tk (.fptr (c_api_Msg x0) 2) rfl rfl (fun _ => rfl) (m_ (eI x0.To) rfl (o_ld tk rfl rfl) (mc tk (.fptr (c_api_Msg x1) 2) rfl rfl (fun _ => rfl) (m_ (eI x1.To) rfl (o_ld tk rfl rfl) ?_)))
   refine l_ H6 eB rfl (o_ar tk rfl rfl rfl) fun v8 H7 => ?_
   refine pt tk (eB v8) rfl rfl rfl (mm tk (eB v8) rfl rfl ?_)
   refine if_split H7 (fun hb H9 => ?_) (fun hb H9 => ?_)
   ·subst hb
    refine mc tk (.fptr (c_api_Msg x0) 3) rfl rfl (fun _ => rfl) (m_ (eI x0.Epoch) rfl (o_ld tk rfl rfl) (mc tk (.fptr (c_api_Msg x1) 3) rfl rfl (fun _ => rfl) (m_ (eI x1.Epoch) rfl (o_ld tk rfl rfl) ?_)))
    refine l_ H9 eB rfl (o_ar tk rfl rfl rfl) fun v11 H10 => ?_
    refine pt tk (eB v11) rfl rfl rfl (mm tk (eB v11) rfl rfl ?_)
    refine if_split H10 (fun hb H12 => ?_) (fun hb H12 => ?_)
    ·subst hb
     refine mc tk (.fptr (c_api_Msg x0) 4) rfl rfl (fun _ => rfl) (m_ (eI x0.Id) rfl (o_ld tk rfl rfl) (mc tk (.fptr (c_api_Msg x1) 4) rfl rfl (fun _ => rfl) (m_ (eI x1.Id) rfl (o_ld tk rfl rfl) ?_)))
     refine l_ H12 eB rfl (o_ar tk rfl rfl rfl) fun v14 H13 => ?_
     refine pt tk (eB v14) rfl rfl rfl (mm tk (eB v14) rfl rfl ?_)
     refine if_split H13 (fun hb H15 => ?_) (fun hb H15 => ?_)
     ·subst hb
      refine mc tk (.fptr (c_api_Msg x0) 10) rfl rfl (fun _ => rfl) (m_ (eB x0.Found) rfl (o_ld tk rfl rfl) (mc tk (.fptr (c_api_Msg x1) 10) rfl rfl (fun _ => rfl) (m_ (eB x1.Found) rfl (o_ld tk rfl rfl) ?_)))
      refine l_ H15 eB rfl (o_bool_eql tk td4 rfl rfl) fun v17 H16 => ?_
      refine pt tk (eB v17) rfl rfl rfl (mm tk (eB v17) rfl rfl ?_)
      refine if_split H16 (fun hb H18 => ?_) (fun hb H18 => ?_)
      ·subst hb
       refine mc tk (.fptr (c_api_Msg x0) 5) rfl rfl (fun _ => rfl) (m_ (e_api_Entry x0.X) rfl (o_ld tk rfl rfl) (mc tk (.fptr (c_api_Msg x1) 5) rfl rfl (fun _ => rfl) (m_ (e_api_Entry x1.X) rfl (o_ld tk rfl rfl) ?_)))
       refine b_ H18 eB rfl (fun v20 hv => OpP.of_call rfl rfl (.cons wr (.cons wr .nil)) (R06_Same_ok hv)) fun v20 hv20 H19 => ?_
       refine pt tk (eB v20) rfl rfl rfl (ma tk (eB v20) rfl rfl (wpo_nil (awp_ret ?_)))
       obtain rfl := oi H19
       exact ⟨_, (eB v20), rfl, wr, .of_eq ((enc_b td4 sz4).cut _ _ _), hH.noT⟩
      ·subst hb
       refine k_ rfl (k_ rfl (k_ rfl (k_ rfl (k_ rfl (pf tk (eB false) rfl rfl rfl (ma tk (eB false) rfl rfl (wpo_nil (awp_ret ?_))))))))
       obtain rfl := oi H18
       exact ⟨_, (eB false), rfl, wr, .of_eq ((enc_b td4 sz4).cut _ _ _), hH.noT⟩
     ·subst hb
      refine k_ rfl (k_ rfl (k_ rfl (k_ rfl (k_ rfl (pf tk (eB false) rfl rfl rfl (mm tk (eB false) rfl rfl (k_ rfl (k_ rfl ?_))))))))
      refine k_ rfl (k_ rfl (k_ rfl (pf tk (eB false) rfl rfl rfl (ma tk (eB false) rfl rfl (wpo_nil (awp_ret ?_))))))
      obtain rfl := oi H15
      exact ⟨_, (eB false), rfl, wr, .of_eq ((enc_b td4 sz4).cut _ _ _), hH.noT⟩
    ·subst hb
     refine k_ rfl (k_ rfl (k_ rfl (k_ rfl (k_ rfl (pf tk (eB false) rfl rfl rfl (mm tk (eB false) rfl rfl (k_ rfl (k_ rfl ?_))))))))
     refine k_ rfl (k_ rfl (k_ rfl (pf tk (eB false) rfl rfl rfl (mm tk (eB false) rfl rfl (k_ rfl (k_ rfl (k_ rfl (k_ rfl ?_))))))))
     refine k_ rfl (pf tk (eB false) rfl rfl rfl (ma tk (eB false) rfl rfl (wpo_nil (awp_ret ?_))))
     obtain rfl := oi H12
     exact ⟨_, (eB false), rfl, wr, .of_eq ((enc_b td4 sz4).cut _ _ _), hH.noT⟩
   ·subst hb
    refine k_ rfl (k_ rfl (k_ rfl (k_ rfl (k_ rfl (pf tk (eB false) rfl rfl rfl (mm tk (eB false) rfl rfl (k_ rfl (k_ rfl ?_))))))))
    refine k_ rfl (k_ rfl (k_ rfl (pf tk (eB false) rfl rfl rfl (mm tk (eB false) rfl rfl (k_ rfl (k_ rfl (k_ rfl (k_ rfl ?_))))))))
    refine k_ rfl (pf tk (eB false) rfl rfl rfl (mm tk (eB false) rfl rfl (k_ rfl (k_ rfl (k_ rfl (k_ rfl (k_ rfl (pf tk (eB false) rfl rfl rfl ?_))))))))
    refine ma tk (eB false) rfl rfl (wpo_nil (awp_ret ?_))
    obtain rfl := oi H9
    exact ⟨_, (eB false), rfl, wr, .of_eq ((enc_b td4 sz4).cut _ _ _), hH.noT⟩
  ·subst hb
   refine k_ rfl (k_ rfl (k_ rfl (k_ rfl (k_ rfl (pf tk (eB false) rfl rfl rfl (mm tk (eB false) rfl rfl (k_ rfl (k_ rfl ?_))))))))
   refine k_ rfl (k_ rfl (k_ rfl (pf tk (eB false) rfl rfl rfl (mm tk (eB false) rfl rfl (k_ rfl (k_ rfl (k_ rfl (k_ rfl ?_))))))))
   refine k_ rfl (pf tk (eB false) rfl rfl rfl (mm tk (eB false) rfl rfl (k_ rfl (k_ rfl (k_ rfl (k_ rfl (k_ rfl (pf tk (eB false) rfl rfl rfl ?_))))))))
   refine mm tk (eB false) rfl rfl (k_ rfl (k_ rfl (k_ rfl (k_ rfl (k_ rfl (pf tk (eB false) rfl rfl rfl (ma tk (eB false) rfl rfl (wpo_nil ?_))))))))
   refine awp_ret ?_
   obtain rfl := oi H6
   exact ⟨_, (eB false), rfl, wr, .of_eq ((enc_b td4 sz4).cut _ _ _), hH.noT⟩
 ·subst hb
  refine k_ rfl (k_ rfl (k_ rfl (k_ rfl (k_ rfl (pf tk (eB false) rfl rfl rfl (mm tk (eB false) rfl rfl (k_ rfl (k_ rfl ?_))))))))
  refine k_ rfl (k_ rfl (k_ rfl (pf tk (eB false) rfl rfl rfl (mm tk (eB false) rfl rfl (k_ rfl (k_ rfl (k_ rfl (k_ rfl ?_))))))))
  refine k_ rfl (pf tk (eB false) rfl rfl rfl (mm tk (eB false) rfl rfl (k_ rfl (k_ rfl (k_ rfl (k_ rfl (k_ rfl (pf tk (eB false) rfl rfl rfl ?_))))))))
  refine mm tk (eB false) rfl rfl (k_ rfl (k_ rfl (k_ rfl (k_ rfl (k_ rfl (pf tk (eB false) rfl rfl rfl (mm tk (eB false) rfl rfl (k_ rfl ?_))))))))
  refine k_ rfl (k_ rfl (k_ rfl (k_ rfl (pf tk (eB false) rfl rfl rfl (ma tk (eB false) rfl rfl (wpo_nil (awp_ret ?_)))))))
  obtain rfl := oi H3
  exact ⟨_, (eB false), rfl, wr, .of_eq ((enc_b td4 sz4).cut _ _ _), hH.noT⟩
theorem R23_SameAll_ok {x0 : List api_Msg} {x1 : List api_Msg} {r : Bool} (H : R23_SameAll x0 x1 = some r) (σ : St)  : ACall Tryz.prog 10 [((eL 11 e_api_Msg) x0), ((eL 11 e_api_Msg) x1)] σ (fun a τ => a = eB r ∧ τ = σ) := by
 unfold R23_SameAll at H
 refine ACall.pure (acall_start tk Tryz.func10 (by decide) rfl (nb rfl) ?_)
 have hH := Holds.init σ
 refine sr rfl (ma tk (eB false) rfl rfl (wpo_nil (awp_seq (sr rfl (mm tk ((eL 11 e_api_Msg) x0) rfl rfl ?_)))))
 refine l_ H eI rfl (o_len tk td27 rfl) fun v2 H1 => ?_
 refine mm tk ((eL 11 e_api_Msg) x1) rfl rfl ?_
 refine l_ H1 eI rfl (o_len tk td27 rfl) fun v4 H3 => ?_
 refine l_ H3 eB rfl (o_ar tk rfl rfl rfl) fun v6 H5 => ?_
 refine wpo_nil ?_
 refine awp_if H5 rfl (fun H7 => ?_) (fun H7 => ?_)
 ·refine sr rfl (ma tk (eB false) rfl rfl (wpo_nil (awp_ret ?_)))
  obtain rfl := oi H7
  exact ⟨_, (eB false), rfl, wr, .of_eq ((enc_b td4 sz4).cut _ _ _), hH.noT⟩
 ·refine awp_skip (awp_seq (sr rfl (ma tk (eI (0 : Int)) rfl rfl (wpo_nil (awp_block ?_)))))
  obtain ⟨o9, hs10, hj11⟩ := ob H7
  refine awp_cutx 0 (fun fr τ => ∃ s16 : Unit, o9 = .inl s16 ∧ WkF fr (fm []) ∧ Holds σ [] [] τ) ?_ ?_
  ·rintro fr τ ⟨s16, rfl, hfr, hH⟩
   have H35 := hj11
   simp only [Sum.elim_inl] at H35
   refine AWP.fm [] hfr ?_
   refine sr rfl (ma tk (eB true) rfl rfl (wpo_nil (awp_ret ?_)))
   obtain rfl := oi H35
   exact ⟨_, (eB true), rfl, wr, .of_eq ((enc_b td4 sz4).cut _ _ _), hH.noT⟩
  ·refine awp_loopO (body := fun s => R23_SameAll_b0 x0 x1 s) hs10 (fun (s : Int) fr τ => WkF fr (fm [(0, ((eL 11 e_api_Msg) x0)), (1, ((eL 11 e_api_Msg) x1)), (5, (eI s))]) ∧ Holds σ [] [] τ) ⟨(wc (wc (wc (wkf_nil _)))), hH⟩ ?_
   rintro c8 fr τ y12 ⟨hfr, hH⟩ hb14 hy15
   have H17 : R23_SameAll_b0 x0 x1 c8 = some y12 := hb14
   unfold R23_SameAll_b0 at H17
   refine AWP.fm [(0, ((eL 11 e_api_Msg) x0)), (1, ((eL 11 e_api_Msg) x1)), (5, (eI c8))] hfr ?_
   have hH : Holds σ [] [] τ := hH
   refine awp_seq (sr rfl (mm tk (eI c8) rfl rfl (mm tk ((eL 11 e_api_Msg) x0) rfl rfl ?_)))
   refine l_ H17 eI rfl (o_len tk td27 rfl) fun v19 H18 => ?_
   refine l_ H18 eB rfl (o_ar tk rfl rfl rfl) fun v21 H20 => ?_
   refine wpo_nil ?_
   refine awp_if H20 rfl (fun H22 => ?_) (fun H22 => ?_)
   ·refine awp_skip (awp_seq (awp_block (awp_seq ?_)))
    refine awp_drawS mixed [] rfl (by decide +kernel) rfl rfl ?_
    refine wpdS_mv (a := ((eL 11 e_api_Msg) x0)) rfl rfl rfl (o_mv tk rfl (Wk.refl _)) (wpdS_mv (a := (eI c8)) rfl rfl rfl (o_mv tk rfl (Wk.refl _)) ?_)
    refine wpdS_bd H22 (fun y => .fptr (e_api_Msg y).cells 0) rfl rfl rfl (fun v24 hv => o_ixa tk hv td27 enc44 rfl rfl) fun v24 hv24 H23 => ?_
    refine wpdS_mv (a := (e_api_Msg v24)) rfl rfl rfl (o_ld_e tk enc44 rfl rfl) (wpdS_mv (a := ((eL 11 e_api_Msg) x1)) rfl rfl rfl (o_mv tk rfl (Wk.refl _)) (wpdS_mv (a := (eI c8)) rfl rfl rfl (o_mv tk rfl (Wk.refl _)) ?_))
    refine wpdS_bd H23 (fun y => .fptr (e_api_Msg y).cells 0) rfl rfl rfl (fun v26 hv => o_ixa tk hv td27 enc44 rfl rfl) fun v26 hv26 H25 => ?_
    refine wpdS_mv (a := (e_api_Msg v26)) rfl rfl rfl (o_ld_e tk enc44 rfl rfl) ?_
    refine wpdS_bd H25 eB rfl rfl rfl (fun v28 hv => OpP.of_call rfl rfl (.cons wr (.cons wr .nil)) (R23_Same_ok hv)) fun v28 hv28 H27 => ?_
    refine wpdS_lt H27 eB rfl rfl rfl (o_un tk rfl rfl) fun v30 H29 => ?_
    refine wpdS_nil ?_
    refine awp_if H29 rfl (fun H31 => ?_) (fun H31 => ?_)
    ·refine sr rfl (ma tk (eB false) rfl rfl (wpo_nil (awp_ret ?_)))
     have hz := hy15 _ (inj_inr H31)
     refine ⟨⟨_, inj_inr H31⟩, ?_⟩
     rw [← hz] at hj11
     have H32 := (show some _ = some _ from hj11)
     obtain rfl := oi H32
     exact ⟨_, (eB false), rfl, wr, .of_eq ((enc_b td4 sz4).cut _ _ _), hH.noT⟩
    ·refine awp_skip (awp_region rfl (mm tk (eI c8) rfl rfl ?_))
     refine l_ H31 eI rfl (o_ar tk rfl rfl rfl) fun v34 H33 => ?_
     refine ma tk (eI v34) rfl rfl (wpo_nil ?_)
     exact ⟨v34, inj_inl H33, (wc (wc (wc (wkf_nil _)))), hH⟩
   ·refine awp_exit ?_
    have hz := hy15 _ (inj_inr H22)
    exact ⟨⟨_, inj_inr H22⟩, (), hz.symm, (wkf_nil _), hH⟩
theorem trouble_New_ok {x0 : List (BitVec 8)} {x1 : Int} {x2 : Int} {r : Err} (H : trouble_New x0 x1 x2 = some r) (σ : St)  : ACall Tryz.prog 30 [(eS x0), (eI x1), (eI x2)] σ (fun a τ => a = eErr r ∧ τ = σ) := by
 unfold trouble_New at H
 refine ACall.pure (acall_start tk Tryz.func30 (by decide) rfl (nb rfl) ?_)
 have hH := Holds.init σ
 refine sr rfl (ma tk (eErr Err.nil) rfl rfl (wpo_nil (awp_seq (sr rfl (mm tk (eI x2) rfl rfl ?_)))))
 refine l_ H eB rfl (o_ar tk rfl rfl rfl) fun v2 H1 => ?_
 refine wpo_nil ?_
 refine awp_if H1 rfl (fun H3 => ?_) (fun H3 => ?_)
 ·refine sr rfl (ma tk (eErr Err.nil) rfl rfl (wpo_nil (awp_ret ?_)))
  obtain rfl := oi H3
  exact ⟨_, (eErr Err.nil), rfl, wr, .of_eq (encErr.cut _ _ _), hH.noT⟩
 ·refine awp_skip (sr rfl (mm tk (eS x0) rfl rfl (mm tk (eI x1) rfl rfl (mm tk (eI x2) rfl rfl ?_))))
  refine l_ H3 e_trouble_fault rfl (o_c tk false rfl (fun _ => rfl)) fun v5 H4 => ?_
  refine m_ (.fptr (c_trouble_fault v5) 0) rfl (o_boxf tk rfl wr (b := (e_trouble_fault v5)) (enc82.flat _)) (mc tk (eErr (Err.fault v5.op v5.at_ v5.code v5.under)) rfl rfl (fun _ => rfl) (ma tk (eErr (Err.fault v5.op v5.at_ v5.code v5.under)) rfl rfl (wpo_nil (awp_ret ?_))))
  obtain rfl := oi H4
  exact ⟨_, (eErr (Err.fault v5.op v5.at_ v5.code v5.under)), rfl, wr, .of_eq (encErr.cut _ _ _), hH.noT⟩
theorem lines_Lines_at_ok {x0 : lines_Lines} {x1 : List (BitVec 8)} {x2 : Int} {r : Err} (H : lines_Lines_at x0 x1 x2 = some r) (σ : St) {p0 p0_l c_p0_l : Nat} {g_p0_l : AV} (h0 : σ.objs[p0]? = some [g_p0_l, (eI x0.lost)]) (h0_l : σ.objs[p0_l]? = some (gK e_lines_parcel c_p0_l x0.l)) (hd : [p0, p0_l].Pairwise fun a b => a ≠ b) (gg_p0_l : GG p0_l 2 c_p0_l (x0.l).length g_p0_l) : ACall Tryz.prog 29 [(.ref p0 0), (eS x1), (eI x2)] σ (fun a τ => a = eErr r ∧ τ = σ) := by
 unfold lines_Lines_at at H
 refine ACall.pure (acall_start tk Tryz.func29 (by decide) rfl (nb rfl) ?_)
 have hH := Holds.brings (σ := σ) [(p0, [g_p0_l, (eI x0.lost)]), (p0_l, (gK e_lines_parcel c_p0_l x0.l))] (by simp only [List.mem_cons, List.not_mem_nil, or_false]; rintro _ (rfl | rfl) <;> assumption) hd
 refine sr rfl (ma tk (eErr Err.nil) rfl rfl (wpo_nil (awp_seq (awp_seq ?_))))
 obtain ⟨s1, hs3, hj4⟩ := ob H
 refine awp_cutn (fun fr τ => WkF fr (fm [(1, (eS x1)), (2, (eI x2)), (17, (eB s1))]) ∧ Holds σ [(p0, [g_p0_l, (eI x0.lost)]), (p0_l, (gK e_lines_parcel c_p0_l x0.l))] [] τ) ?_ ?_
 ·rintro fr τ ⟨hfr, hH⟩
  have H12 := hj4
  refine AWP.fm [(1, (eS x1)), (2, (eI x2)), (17, (eB s1))] hfr ?_
  refine awp_if H12 rfl (fun H13 => ?_) (fun H13 => ?_)
  ·refine sr rfl (mm tk (eS x1) rfl rfl (mm tk (eI x2) rfl rfl ?_))
   refine b_ H13 eErr rfl (fun v15 hv => OpP.of_call rfl rfl (.cons wr (.cons wr (.cons wr .nil))) (trouble_New_ok hv)) fun v15 hv15 H14 => ?_
   refine ma tk (eErr v15) rfl rfl (wpo_nil (awp_ret ?_))
   obtain rfl := oi H14
   exact ⟨_, (eErr v15), rfl, wr, .of_eq (encErr.cut _ _ _), ((hH.noT.unbring h0).unbring h0_l)⟩
  ·refine awp_skip (sr rfl (ma tk (eErr Err.nil) rfl rfl (wpo_nil (awp_ret ?_))))
   obtain rfl := oi H13
   exact ⟨_, (eErr Err.nil), rfl, wr, .of_eq (encErr.cut _ _ _), ((hH.noT.unbring h0).unbring h0_l)⟩
 ·refine awp_region rfl (mm tk (eI x2) rfl rfl ?_)
  refine l_ hs3 eB rfl (o_ar tk rfl rfl rfl) fun v6 H5 => ?_
  refine mm tk (eB v6) rfl rfl ?_
  refine if_split H5 (fun hb H7 => ?_) (fun hb H7 => ?_)
  ·subst hb
   refine k_ rfl (k_ rfl (k_ rfl (k_ rfl (k_ rfl (k_ rfl (k_ rfl (pt tk (eB true) rfl rfl rfl (wpo_nil ?_))))))))
   have e := oi H7
   subst e
   exact ⟨(wc (wc (wc (wkf_nil _)))), hH⟩
  ·subst hb
   refine mm tk (eI x2) rfl rfl (mm tk (.ref p0 0) rfl rfl (mc tk (.ref p0 0) rfl rfl (fun _ => rfl) (mc tk (.ref p0 0) rfl rfl (fun _ => rfl) (wpo_rd (a := (gC p0_l 2 c_p0_l (x0.l).length)) rfl rfl rfl (OpS.wkr gg_p0_l.wk (h_ld tk hH 0 rfl rfl rfl)) ?_))))
   refine l_ H7 eI rfl (o_glen tk td56 rfl) fun v9 H8 => ?_
   refine l_ H8 eB rfl (o_ar tk rfl rfl rfl) fun v11 H10 => ?_
   refine pf tk (eB v11) rfl rfl rfl (wpo_nil ?_)
   have e := oi H10
   subst e
   exact ⟨(wc (wc (wc (wkf_nil _)))), hH⟩
theorem trouble_Wrap_ok {x0 : List (BitVec 8)} {x1 : Int} {x2 : Err} {r : Err} (H : trouble_Wrap x0 x1 x2 = some r) (σ : St)  : ACall Tryz.prog 33 [(eS x0), (eI x1), (eErr x2)] σ (fun a τ => a = eErr r ∧ τ = σ) := by
 unfold trouble_Wrap at H
 refine ACall.pure (acall_start tk Tryz.func33 (by decide) rfl (nb rfl) ?_)
 have hH := Holds.init σ
 refine sr rfl (ma tk (eErr Err.nil) rfl rfl (wpo_nil (awp_seq (sr rfl (mm tk (eErr x2) rfl rfl ?_)))))
 refine l_ H eB rfl (o_err_eql tk rfl rfl rfl) fun v2 H1 => ?_
 refine wpo_nil ?_
 refine awp_if H1 rfl (fun H3 => ?_) (fun H3 => ?_)
 ·refine sr rfl (ma tk (eErr Err.nil) rfl rfl (wpo_nil (awp_ret ?_)))
  obtain rfl := oi H3
  exact ⟨_, (eErr Err.nil), rfl, wr, .of_eq (encErr.cut _ _ _), hH.noT⟩
 ·refine awp_skip (sr rfl (mm tk (eS x0) rfl rfl (mm tk (eI x1) rfl rfl (mm tk (eErr x2) rfl rfl ?_))))
  refine l_ H3 e_trouble_fault rfl (o_c tk false rfl (fun _ => by generalize x2 = z0; cases z0 <;> rfl)) fun v5 H4 => ?_
  refine m_ (.fptr (c_trouble_fault v5) 0) rfl (o_boxf tk rfl wr (b := (e_trouble_fault v5)) (enc82.flat _)) (mc tk (eErr (Err.fault v5.op v5.at_ v5.code v5.under)) rfl rfl (fun _ => rfl) (ma tk (eErr (Err.fault v5.op v5.at_ v5.code v5.under)) rfl rfl (wpo_nil (awp_ret ?_))))
  obtain rfl := oi H4
  exact ⟨_, (eErr (Err.fault v5.op v5.at_ v5.code v5.under)), rfl, wr, .of_eq (encErr.cut _ _ _), hH.noT⟩
theorem wire_parts_ok {x0 : Int} {r : (List (BitVec 8))} (H : wire_parts x0 = some r) (σ : St)  : ACall Tryz.prog 45 [(eI x0)] σ (fun a τ => a = eS r ∧ τ = σ) := by
 unfold wire_parts at H
 refine ACall.pure (acall_start tk Tryz.func45 (by decide) rfl (nb rfl) ?_)
 have hH := Holds.init σ
 refine sr rfl (ma tk (eS ([] : List (BitVec 8))) rfl rfl (wpo_nil (awp_seq (sr rfl (mm tk (eI x0) rfl rfl (wpo_nil (awp_block (sr rfl ?_))))))))
 refine l_ H eB rfl (o_ar tk rfl rfl rfl) fun v2 H1 => ?_
 refine ma tk (eB v2) rfl rfl (wpo_nil ?_)
 refine awp_if H1 rfl (fun H3 => ?_) (fun H3 => ?_)
 ·refine sr rfl (ma tk (eS ([65#8, 70#8] : List (BitVec 8))) rfl rfl (wpo_nil (awp_ret ?_)))
  obtain rfl := oi H3
  exact ⟨_, (eS ([65#8, 70#8] : List (BitVec 8))), rfl, wr, .of_eq ((enc_s td9 sz9).cut _ _ _), hH.noT⟩
 ·refine awp_seq (sr rfl ?_)
  refine l_ H3 eB rfl (o_ar tk rfl rfl rfl) fun v5 H4 => ?_
  refine ma tk (eB v5) rfl rfl (wpo_nil ?_)
  obtain ⟨s6, hs8, hj9⟩ := ob H4
  refine awp_cutn (fun fr τ => WkF fr (fm [(3, (eI x0)), (6, (eB s6))]) ∧ Holds σ [] [] τ) ?_ ?_
  ·rintro fr τ ⟨hfr, hH⟩
   have H13 := hj9
   refine AWP.fm [(3, (eI x0)), (6, (eB s6))] hfr ?_
   refine awp_if H13 rfl (fun H14 => ?_) (fun H14 => ?_)
   ·refine sr rfl (ma tk (eS ([75#8, 65#8] : List (BitVec 8))) rfl rfl (wpo_nil (awp_ret ?_)))
    obtain rfl := oi H14
    exact ⟨_, (eS ([75#8, 65#8] : List (BitVec 8))), rfl, wr, .of_eq ((enc_s td9 sz9).cut _ _ _), hH.noT⟩
   ·refine sr rfl ?_
    refine l_ H14 eB rfl (o_ar tk rfl rfl rfl) fun v16 H15 => ?_
    refine ma tk (eB v16) rfl rfl (wpo_nil ?_)
    refine awp_if H15 rfl (fun H17 => ?_) (fun H17 => ?_)
    ·refine sr rfl (ma tk (eS ([73#8, 75#8] : List (BitVec 8))) rfl rfl (wpo_nil (awp_ret ?_)))
     obtain rfl := oi H17
     exact ⟨_, (eS ([73#8, 75#8] : List (BitVec 8))), rfl, wr, .of_eq ((enc_s td9 sz9).cut _ _ _), hH.noT⟩
    ·refine sr rfl ?_
     refine l_ H17 eB rfl (o_ar tk rfl rfl rfl) fun v19 H18 => ?_
     refine ma tk (eB v19) rfl rfl (wpo_nil ?_)
     refine awp_if H18 rfl (fun H20 => ?_) (fun H20 => ?_)
     ·refine sr rfl (ma tk (eS ([73#8, 75#8, 65#8, 70#8, 86#8] : List (BitVec 8))) rfl rfl (wpo_nil (awp_ret ?_)))
      obtain rfl := oi H20
      exact ⟨_, (eS ([73#8, 75#8, 65#8, 70#8, 86#8] : List (BitVec 8))), rfl, wr, .of_eq ((enc_s td9 sz9).cut _ _ _), hH.noT⟩
     ·refine awp_skip (sr rfl (ma tk (eS ([] : List (BitVec 8))) rfl rfl (wpo_nil (awp_ret ?_))))
      obtain rfl := oi H20
      exact ⟨_, (eS ([] : List (BitVec 8))), rfl, wr, .of_eq ((enc_s td9 sz9).cut _ _ _), hH.noT⟩
  ·refine awp_if hs8 rfl (fun H10 => ?_) (fun H10 => ?_)
   ·refine awp_skip ?_
    have e := oi H10
    subst e
    exact ⟨(wc (wc (wkf_nil _))), hH⟩
   ·refine awp_region rfl ?_
    refine l_ H10 eB rfl (o_ar tk rfl rfl rfl) fun v12 H11 => ?_
    refine ma tk (eB v12) rfl rfl (wpo_nil ?_)
    have e := oi H11
    subst e
    exact ⟨(wc (wc (wkf_nil _))), hH⟩
theorem wire_down_ok {x0 : Int} {r : Bool} (H : wire_down x0 = some r) (σ : St)  : ACall Tryz.prog 70 [(eI x0)] σ (fun a τ => a = eB r ∧ τ = σ) := by
 unfold wire_down at H
 refine ACall.pure (acall_start tk Tryz.func70 (by decide) rfl (nb rfl) ?_)
 have hH := Holds.init σ
 refine sr rfl (ma tk (eB false) rfl rfl (wpo_nil (sr rfl (mm tk (eI x0) rfl rfl ?_))))
 refine l_ H eB rfl (o_ar tk rfl rfl rfl) fun v2 H1 => ?_
 refine mm tk (eB v2) rfl rfl ?_
 refine if_split H1 (fun hb H3 => ?_) (fun hb H3 => ?_)
 ·subst hb
  refine k_ rfl (k_ rfl (pt tk (eB true) rfl rfl rfl (mm tk (eB true) rfl rfl (k_ rfl (k_ rfl (pt tk (eB true) rfl rfl rfl (ma tk (eB true) rfl rfl (wpo_nil ?_))))))))
  refine awp_ret ?_
  obtain rfl := oi H3
  exact ⟨_, (eB true), rfl, wr, .of_eq ((enc_b td4 sz4).cut _ _ _), hH.noT⟩
 ·subst hb
  refine mm tk (eI x0) rfl rfl ?_
  refine l_ H3 eB rfl (o_ar tk rfl rfl rfl) fun v5 H4 => ?_
  refine pf tk (eB v5) rfl rfl rfl (mm tk (eB v5) rfl rfl ?_)
  refine if_split H4 (fun hb H6 => ?_) (fun hb H6 => ?_)
  ·subst hb
   refine k_ rfl (k_ rfl (pt tk (eB true) rfl rfl rfl (ma tk (eB true) rfl rfl (wpo_nil (awp_ret ?_)))))
   obtain rfl := oi H6
   exact ⟨_, (eB true), rfl, wr, .of_eq ((enc_b td4 sz4).cut _ _ _), hH.noT⟩
  ·subst hb
   refine mm tk (eI x0) rfl rfl ?_
   refine l_ H6 eB rfl (o_ar tk rfl rfl rfl) fun v8 H7 => ?_
   refine pf tk (eB v8) rfl rfl rfl (ma tk (eB v8) rfl rfl (wpo_nil (awp_ret ?_)))
   obtain rfl := oi H7
   exact ⟨_, (eB v8), rfl, wr, .of_eq ((enc_b td4 sz4).cut _ _ _), hH.noT⟩
theorem octets_Key_ok {x0 : List (BitVec 8)} {r : Int} (H : octets_Key x0 = some r) (σ : St)  : ACall Tryz.prog 71 [(eS x0)] σ (fun a τ => a = eI r ∧ τ = σ) := by
 unfold octets_Key at H
 refine ACall.pure (acall_start tk Tryz.func71 (by decide) rfl (nb rfl) ?_)
 have hH := Holds.init σ
 refine sr rfl (ma tk (eI (0 : Int)) rfl rfl (wpo_nil (awp_seq (sr rfl (mm tk (eS x0) rfl rfl ?_)))))
 refine l_ H eI rfl (o_len_s tk td9 rfl) fun v2 H1 => ?_
 refine ma tk (eI v2) rfl rfl (wpo_nil (awp_block (sr rfl (mm tk (eI v2) rfl rfl ?_))))
 refine l_ H1 eB rfl (o_ar tk rfl rfl rfl) fun v4 H3 => ?_
 refine ma tk (eB v4) rfl rfl (wpo_nil ?_)
 refine awp_if H3 rfl (fun H5 => ?_) (fun H5 => ?_)
 ·refine sr rfl (ma tk (eI (1 : Int)) rfl rfl (wpo_nil (awp_ret ?_)))
  obtain rfl := oi H5
  exact ⟨_, (eI (1 : Int)), rfl, wr, .of_eq ((enc_i64 td53 sz53).cut _ _ _), hH.noT⟩
 ·refine sr rfl (mm tk (eI v2) rfl rfl ?_)
  refine l_ H5 eB rfl (o_ar tk rfl rfl rfl) fun v7 H6 => ?_
  refine ma tk (eB v7) rfl rfl (wpo_nil ?_)
  refine awp_if H6 rfl (fun H8 => ?_) (fun H8 => ?_)
  ·refine sr rfl (ma tk (eI (3 : Int)) rfl rfl (wpo_nil (awp_ret ?_)))
   obtain rfl := oi H8
   exact ⟨_, (eI (3 : Int)), rfl, wr, .of_eq ((enc_i64 td53 sz53).cut _ _ _), hH.noT⟩
  ·refine awp_skip (sr rfl (ma tk (eI (0 : Int)) rfl rfl (wpo_nil (awp_ret ?_))))
   obtain rfl := oi H8
   exact ⟨_, (eI (0 : Int)), rfl, wr, .of_eq ((enc_i64 td53 sz53).cut _ _ _), hH.noT⟩
theorem item_Check_1_c_ok {x0 : List (BitVec 8)} {x1 : Int} {x2 : Int} {x3 : Err} {r : Err} (H : item_Check_1_c x0 x1 x2 x3 = some r) (σ : St) {p3 : Nat} (h3 : σ.objs[p3]? = some [eErr x3]) : ACall Tryz.prog 86 [(eS x0), (eI x1), (eI x2), (.ref p3 0)] σ (fun a τ => a = .tup [] ∧ τ = σ.puts [(p3, [eErr r])]) := by
 unfold item_Check_1_c at H
 refine ACall.out [(p3, [eErr r])] (by simp only [List.mem_cons, List.not_mem_nil, or_false]; rintro _ (rfl) ρ κ <;> exact (by simp only [cutL, encErr.cut ρ κ])) (acall_start tk Tryz.func86 (by decide) rfl (nb rfl) ?_)
 have hH := Holds.init σ
 have hH := hH.bring h3 (fun _ h => by cases h)
 refine awp_seq ?_
 obtain ⟨s1, hs3, hj4⟩ := ob H
 refine awp_cutn (fun fr τ => WkF fr (fm [(0, (eS x0)), (1, (eI x1)), (3, (.ref p3 0)), (17, (eB s1))]) ∧ Holds σ [(p3, [eErr x3])] [] τ) ?_ ?_
 ·rintro fr τ ⟨hfr, hH⟩
  have H13 := hj4
  refine AWP.fm [(0, (eS x0)), (1, (eI x1)), (3, (.ref p3 0)), (17, (eB s1))] hfr ?_
  refine awp_if H13 rfl (fun H14 => ?_) (fun H14 => ?_)
  ·refine awp_region rfl (mm tk (eS x0) rfl rfl (mm tk (eI x1) rfl rfl ?_))
   refine b_ H14 eErr rfl (fun v16 hv => OpP.of_call rfl rfl (.cons wr (.cons wr (.cons wr .nil))) (trouble_New_ok hv)) fun v16 hv16 H15 => ?_
   obtain ⟨c18, hc19, H17⟩ := lt_ex H15
   refine wpo_z rfl rfl (h_st tk hH 0 rfl ty48 (by simp) rfl rfl wr (b := (eErr v16)) (encErr.flat _) (by rw [show (eErr _).cells = [eErr _] from encErr.one rfl _]; rfl) (nb rfl) [eErr c18] (by rw [← hc19, show (eErr _).cells = [eErr _] from encErr.one rfl _]; rfl) (hsp := nsp_err _)) fun τ hH => ?_
   refine wpo_nil ?_
   obtain rfl := oi H17
   exact ⟨_, (.tup []), rfl, wr, .of_eq rfl, hH.noT⟩
  ·refine awp_skip ?_
   obtain rfl := oi H14
   exact ⟨_, (.tup []), rfl, wr, .of_eq rfl, hH.noT⟩
 ·refine awp_region rfl (wpo_rd (a := (eErr x3)) rfl rfl rfl (h_ld tk hH 0 rfl rfl rfl (hsp := nsp_err _)) ?_)
  refine l_ hs3 eB rfl (o_err_eql tk rfl rfl rfl) fun v6 H5 => ?_
  refine mm tk (eB v6) rfl rfl ?_
  refine if_split H5 (fun hb H7 => ?_) (fun hb H7 => ?_)
  ·subst hb
   refine mm tk (eI x1) rfl rfl (mm tk (eI x2) rfl rfl ?_)
   refine l_ H7 eB rfl (o_ar tk rfl rfl rfl) fun v9 H8 => ?_
   refine mm tk (eB v9) rfl rfl ?_
   refine if_split H8 (fun hb H10 => ?_) (fun hb H10 => ?_)
   ·subst hb
    refine k_ rfl (k_ rfl (pt tk (eB true) rfl rfl rfl (pt tk (eB true) rfl rfl rfl (wpo_nil ?_))))
    have e := oi H10
    subst e
    exact ⟨(wc (wc (wc (wc (wkf_nil _))))), hH⟩
   ·subst hb
    refine mm tk (eI x1) rfl rfl ?_
    refine l_ H10 eB rfl (o_ar tk rfl rfl rfl) fun v12 H11 => ?_
    refine pf tk (eB v12) rfl rfl rfl (pt tk (eB v12) rfl rfl rfl (wpo_nil ?_))
    have e := oi H11
    subst e
    exact ⟨(wc (wc (wc (wc (wkf_nil _))))), hH⟩
  ·subst hb
   refine k_ rfl (k_ rfl (k_ rfl (k_ rfl (k_ rfl (k_ rfl (k_ rfl (pf tk (eB false) rfl rfl rfl (wpo_nil ?_))))))))
   have e := oi H7
   subst e
   exact ⟨(wc (wc (wc (wc (wkf_nil _))))), hH⟩
theorem item_Check_ok {x0 : api_Entry} {r : Err} (H : item_Check x0 = some r) (σ : St)  : ACall Tryz.prog 72 [(e_api_Entry x0)] σ (fun a τ => a = eErr r ∧ τ = σ) := by
 unfold item_Check at H
 refine ACall.pure (acall_start tk Tryz.func72 (by decide) rfl (nb rfl) ?_)
 have hH := Holds.init σ
 refine sr rfl (m_ (.fptr (c_api_Entry x0) 0) rfl (o_boxf tk rfl wr (b := (e_api_Entry x0)) (enc42.flat _)) (ma tk (eErr Err.nil) rfl rfl (wpo_nil (awp_seq (sr rfl (mc tk (.fptr (c_api_Entry x0) 0) rfl rfl (fun _ => rfl) (m_ (eS x0.Key) rfl (o_ld tk rfl rfl) ?_)))))))
 refine b_ H eI rfl (fun v2 hv => OpP.of_call rfl rfl (.cons wr .nil) (octets_Key_ok hv)) fun v2 hv2 H1 => ?_
 refine ma tk (eI v2) rfl rfl (wpo_nil (sr rfl (mm tk (eI v2) rfl rfl ?_)))
 refine l_ H1 eB rfl (o_ar tk rfl rfl rfl) fun v4 H3 => ?_
 refine wpo_nil ?_
 refine awp_if H3 rfl (fun H5 => ?_) (fun H5 => ?_)
 ·refine sr rfl (mc tk (.fptr (c_api_Entry x0) 0) rfl rfl (fun _ => rfl) (m_ (eS x0.Key) rfl (o_ld tk rfl rfl) ?_))
  refine l_ H5 eI rfl (o_len_s tk td9 rfl) fun v7 H6 => ?_
  refine mm tk (eI v2) rfl rfl ?_
  refine b_ H6 eErr rfl (fun v9 hv => OpP.of_call rfl rfl (.cons wr (.cons wr (.cons wr .nil))) (trouble_New_ok hv)) fun v9 hv9 H8 => ?_
  refine ma tk (eErr v9) rfl rfl (wpo_nil (awp_ret ?_))
  obtain rfl := oi H8
  exact ⟨_, (eErr v9), rfl, wr, .of_eq (encErr.cut _ _ _), hH.noT⟩
 ·refine awp_skip (sr rfl ?_)
  refine wpo_a (av := fun id => .ref id 0) rfl rfl rfl (h_alloc tk hH ty48 [eErr Err.nil] rfl) fun id10 τ ⟨hH, n11⟩ => ?_
  refine wpo_nil (sr rfl (mc tk (.fn (.func 86) [] [(.ref id10 0)]) rfl rfl (fun _ => rfl) (ma tk (.fn (.func 86) [] [(.ref id10 0)]) rfl rfl (wpo_nil (sr rfl (mm tk (.fn (.func 86) [] [(.ref id10 0)]) rfl rfl (mc tk (.fptr (c_api_Entry x0) 1) rfl rfl (fun _ => rfl) (m_ (eI x0.Version) rfl (o_ld tk rfl rfl) ?_))))))))
  refine wpo_cb H5 (fun x _ => .tup []) rfl rfl rfl (fun v13 hv => h_call1 hH [(0, (id10, [eErr v13]))] ⟨⟨_, rfl⟩, trivial⟩ rfl rfl (.cons wr (.cons wr (.cons wr (.cons wr .nil)))) (item_Check_1_c_ok hv _ (hH.at_ 0 rfl))) fun v13 _ τ hv13 H12 hH => ?_
  refine wpo_nil (sr rfl (mm tk (.fn (.func 86) [] [(.ref id10 0)]) rfl rfl (mc tk (.fptr (c_api_Entry x0) 2) rfl rfl (fun _ => rfl) (m_ (eI x0.AsOf) rfl (o_ld tk rfl rfl) (mc tk (.fptr (c_api_Entry x0) 1) rfl rfl (fun _ => rfl) (m_ (eI x0.Version) rfl (o_ld tk rfl rfl) ?_))))))
  refine wpo_cb H12 (fun x _ => .tup []) rfl rfl rfl (fun v15 hv => h_call1 hH [(0, (id10, [eErr v15]))] ⟨⟨_, rfl⟩, trivial⟩ rfl rfl (.cons wr (.cons wr (.cons wr (.cons wr .nil)))) (item_Check_1_c_ok hv _ (hH.at_ 0 rfl))) fun v15 _ τ hv15 H14 hH => ?_
  refine wpo_nil (sr rfl (mm tk (.fn (.func 86) [] [(.ref id10 0)]) rfl rfl (mc tk (.fptr (c_api_Entry x0) 3) rfl rfl (fun _ => rfl) (m_ (eI x0.Ends) rfl (o_ld tk rfl rfl) ?_))))
  refine wpo_cb H14 (fun x _ => .tup []) rfl rfl rfl (fun v17 hv => h_call1 hH [(0, (id10, [eErr v17]))] ⟨⟨_, rfl⟩, trivial⟩ rfl rfl (.cons wr (.cons wr (.cons wr (.cons wr .nil)))) (item_Check_1_c_ok hv _ (hH.at_ 0 rfl))) fun v17 _ τ hv17 H16 hH => ?_
  refine wpo_nil (awp_seq (awp_seq ?_))
  obtain ⟨s18, hs20, hj21⟩ := ob H16
  refine awp_cutn (fun fr τ => WkF fr (fm [(1, (.fptr (c_api_Entry x0) 0)), (4, (.ref id10 0)), (38, (eB s18))]) ∧ Holds σ [(id10, [eErr v17])] [] τ) ?_ ?_
  ·rintro fr τ ⟨hfr, hH⟩
   have H29 := hj21
   refine AWP.fm [(1, (.fptr (c_api_Entry x0) 0)), (4, (.ref id10 0)), (38, (eB s18))] hfr ?_
   refine awp_if H29 rfl (fun H30 => ?_) (fun H30 => ?_)
   ·refine awp_region rfl (mc tk (.fptr (c_api_Entry x0) 4) rfl rfl (fun _ => rfl) (m_ ((eL 1 (@eU .u8 8)) x0.Value) rfl (o_ld tk rfl rfl) ?_))
    refine l_ H30 eI rfl (o_len tk td40 rfl) fun v32 H31 => ?_
    refine b_ H31 eErr rfl (fun v34 hv => OpP.of_call rfl rfl (.cons wr (.cons wr (.cons wr .nil))) (trouble_New_ok hv)) fun v34 hv34 H33 => ?_
    obtain ⟨c36, hc37, H35⟩ := lt_ex H33
    refine wpo_z rfl rfl (h_st tk hH 0 rfl ty48 (by simp) rfl rfl wr (b := (eErr v34)) (encErr.flat _) (by rw [show (eErr _).cells = [eErr _] from encErr.one rfl _]; rfl) (nb rfl) [eErr c36] (by rw [← hc37, show (eErr _).cells = [eErr _] from encErr.one rfl _]; rfl) (hsp := nsp_err _)) fun τ hH => ?_
    refine wpo_nil (sr rfl (wpo_rd (a := (eErr c36)) rfl rfl rfl (h_ld tk hH 0 rfl rfl rfl (hsp := nsp_err _)) (ma tk (eErr c36) rfl rfl (wpo_nil (awp_ret ?_)))))
    obtain rfl := oi H35
    exact ⟨_, (eErr c36), rfl, wr, .of_eq (encErr.cut _ _ _), (hH.noT.drop n11)⟩
   ·refine awp_skip (sr rfl (wpo_rd (a := (eErr v17)) rfl rfl rfl (h_ld tk hH 0 rfl rfl rfl (hsp := nsp_err _)) (ma tk (eErr v17) rfl rfl (wpo_nil (awp_ret ?_)))))
    obtain rfl := oi H30
    exact ⟨_, (eErr v17), rfl, wr, .of_eq (encErr.cut _ _ _), (hH.noT.drop n11)⟩
  ·refine awp_region rfl (wpo_rd (a := (eErr v17)) rfl rfl rfl (h_ld tk hH 0 rfl rfl rfl (hsp := nsp_err _)) ?_)
   refine l_ hs20 eB rfl (o_err_eql tk rfl rfl rfl) fun v23 H22 => ?_
   refine mm tk (eB v23) rfl rfl ?_
   refine if_split H22 (fun hb H24 => ?_) (fun hb H24 => ?_)
   ·subst hb
    refine mc tk (.fptr (c_api_Entry x0) 4) rfl rfl (fun _ => rfl) (m_ ((eL 1 (@eU .u8 8)) x0.Value) rfl (o_ld tk rfl rfl) ?_)
    refine l_ H24 eI rfl (o_len tk td40 rfl) fun v26 H25 => ?_
    refine l_ H25 eB rfl (o_ar tk rfl rfl rfl) fun v28 H27 => ?_
    refine pt tk (eB v28) rfl rfl rfl (wpo_nil ?_)
    have e := oi H27
    subst e
    exact ⟨(wc (wc (wc (wkf_nil _)))), hH⟩
   ·subst hb
    refine k_ rfl (k_ rfl (k_ rfl (k_ rfl (pf tk (eB false) rfl rfl rfl (wpo_nil ?_)))))
    have e := oi H24
    subst e
    exact ⟨(wc (wc (wc (wkf_nil _)))), hH⟩
theorem item_Same_ok {x0 : api_Entry} {x1 : api_Entry} {r : Bool} (H : item_Same x0 x1 = some r) (σ : St)  : ACall Tryz.prog 73 [(e_api_Entry x0), (e_api_Entry x1)] σ (fun a τ => a = eB r ∧ τ = σ) := by
 unfold item_Same at H
 refine ACall.pure (acall_start tk Tryz.func73 (by decide) rfl (nb rfl) ?_)
 have hH := Holds.init σ
 refine sr rfl (m_ (.fptr (c_api_Entry x0) 0) rfl (o_boxf tk rfl wr (b := (e_api_Entry x0)) (enc42.flat _)) (m_ (.fptr (c_api_Entry x1) 0) rfl (o_boxf tk rfl wr (b := (e_api_Entry x1)) (enc42.flat _)) (ma tk (eB false) rfl rfl (wpo_nil (sr rfl (mc tk (.fptr (c_api_Entry x0) 0) rfl rfl (fun _ => rfl) (m_ (eS x0.Key) rfl (o_ld tk rfl rfl) (mc tk (.fptr (c_api_Entry x1) 0) rfl rfl (fun _ => rfl) ?_))))))))
 refine m_ (eS x1.Key) rfl (o_ld tk rfl rfl) ?_
 refine l_ H eB rfl (o_eql_s tk rfl rfl) fun v2 H1 => ?_
 refine mm tk (eB v2) rfl rfl ?_
 refine if_split H1 (fun hb H3 => ?_) (fun hb H3 => ?_)
 ·subst hb
  refine mc tk (.fptr (c_api_Entry x0) 1) rfl rfl (fun _ => rfl) (m_ (eI x0.Version) rfl (o_ld tk rfl rfl) (mc tk (.fptr (c_api_Entry x1) 1) rfl rfl (fun _ => rfl) (m_ (eI x1.Version) rfl (o_ld tk rfl rfl) ?_)))
  refine l_ H3 eB rfl (o_ar tk rfl rfl rfl) fun v5 H4 => ?_
  refine pt tk (eB v5) rfl rfl rfl (mm tk (eB v5) rfl rfl ?_)
  refine if_split H4 (fun hb H6 => ?_) (fun hb H6 => ?_)
  ·subst hb
   refine mc tk (.fptr (c_api_Entry x0) 2) rfl rfl (fun _ => rfl) (m_ (eI x0.AsOf) rfl (o_ld tk rfl rfl) (mc tk (.fptr (c_api_Entry x1) 2) rfl rfl (fun _ => rfl) (m_ (eI x1.AsOf) rfl (o_ld tk rfl rfl) ?_)))
   refine l_ H6 eB rfl (o_ar tk rfl rfl rfl) fun v8 H7 => ?_
   refine pt tk (eB v8) rfl rfl rfl (mm tk (eB v8) rfl rfl ?_)
   refine if_split H7 (fun hb H9 => ?_) (fun hb H9 => ?_)
   ·subst hb
    refine mc tk (.fptr (c_api_Entry x0) 3) rfl rfl (fun _ => rfl) (m_ (eI x0.Ends) rfl (o_ld tk rfl rfl) (mc tk (.fptr (c_api_Entry x1) 3) rfl rfl (fun _ => rfl) (m_ (eI x1.Ends) rfl (o_ld tk rfl rfl) ?_)))
    refine l_ H9 eB rfl (o_ar tk rfl rfl rfl) fun v11 H10 => ?_
    refine pt tk (eB v11) rfl rfl rfl (mm tk (eB v11) rfl rfl ?_)
    refine if_split H10 (fun hb H12 => ?_) (fun hb H12 => ?_)
    ·subst hb
     refine mc tk (.fptr (c_api_Entry x0) 4) rfl rfl (fun _ => rfl) (m_ ((eL 1 (@eU .u8 8)) x0.Value) rfl (o_ld tk rfl rfl) (m_ (eS x0.Value) rfl (o_b2s tk td40 td9 td5 rfl) (mc tk (.fptr (c_api_Entry x1) 4) rfl rfl (fun _ => rfl) (m_ ((eL 1 (@eU .u8 8)) x1.Value) rfl (o_ld tk rfl rfl) (m_ (eS x1.Value) rfl (o_b2s tk td40 td9 td5 rfl) ?_)))))
     refine l_ H12 eB rfl (o_eql_s tk rfl rfl) fun v14 H13 => ?_
     refine pt tk (eB v14) rfl rfl rfl (ma tk (eB v14) rfl rfl (wpo_nil (awp_ret ?_)))
     obtain rfl := oi H13
     exact ⟨_, (eB v14), rfl, wr, .of_eq ((enc_b td4 sz4).cut _ _ _), hH.noT⟩
    ·subst hb
     refine k_ rfl (k_ rfl (k_ rfl (k_ rfl (k_ rfl (k_ rfl (k_ rfl (pf tk (eB false) rfl rfl rfl (ma tk (eB false) rfl rfl ?_))))))))
     refine wpo_nil (awp_ret ?_)
     obtain rfl := oi H12
     exact ⟨_, (eB false), rfl, wr, .of_eq ((enc_b td4 sz4).cut _ _ _), hH.noT⟩
   ·subst hb
    refine k_ rfl (k_ rfl (k_ rfl (k_ rfl (k_ rfl (pf tk (eB false) rfl rfl rfl (mm tk (eB false) rfl rfl (k_ rfl (k_ rfl ?_))))))))
    refine k_ rfl (k_ rfl (k_ rfl (k_ rfl (k_ rfl (pf tk (eB false) rfl rfl rfl (ma tk (eB false) rfl rfl (wpo_nil (awp_ret ?_))))))))
    obtain rfl := oi H9
    exact ⟨_, (eB false), rfl, wr, .of_eq ((enc_b td4 sz4).cut _ _ _), hH.noT⟩
  ·subst hb
   refine k_ rfl (k_ rfl (k_ rfl (k_ rfl (k_ rfl (pf tk (eB false) rfl rfl rfl (mm tk (eB false) rfl rfl (k_ rfl (k_ rfl ?_))))))))
   refine k_ rfl (k_ rfl (k_ rfl (pf tk (eB false) rfl rfl rfl (mm tk (eB false) rfl rfl (k_ rfl (k_ rfl (k_ rfl (k_ rfl ?_))))))))
   refine k_ rfl (k_ rfl (k_ rfl (pf tk (eB false) rfl rfl rfl (ma tk (eB false) rfl rfl (wpo_nil (awp_ret ?_))))))
   obtain rfl := oi H6
   exact ⟨_, (eB false), rfl, wr, .of_eq ((enc_b td4 sz4).cut _ _ _), hH.noT⟩
 ·subst hb
  refine k_ rfl (k_ rfl (k_ rfl (k_ rfl (k_ rfl (pf tk (eB false) rfl rfl rfl (mm tk (eB false) rfl rfl (k_ rfl (k_ rfl ?_))))))))
  refine k_ rfl (k_ rfl (k_ rfl (pf tk (eB false) rfl rfl rfl (mm tk (eB false) rfl rfl (k_ rfl (k_ rfl (k_ rfl (k_ rfl ?_))))))))
  refine k_ rfl (pf tk (eB false) rfl rfl rfl (mm tk (eB false) rfl rfl (k_ rfl (k_ rfl (k_ rfl (k_ rfl (k_ rfl (k_ rfl ?_))))))))
  refine k_ rfl (pf tk (eB false) rfl rfl rfl (ma tk (eB false) rfl rfl (wpo_nil (awp_ret ?_))))
  obtain rfl := oi H3
  exact ⟨_, (eB false), rfl, wr, .of_eq ((enc_b td4 sz4).cut _ _ _), hH.noT⟩
end Go.Proofs.YtedcgeghgbgonaaGreatDoor
