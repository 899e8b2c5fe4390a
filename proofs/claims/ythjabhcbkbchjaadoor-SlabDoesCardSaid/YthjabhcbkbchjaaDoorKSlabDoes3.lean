/- Proves SlabDoes: whatever is taken and given back, each call answers what the chapter says; for every input. (part 3 of 6) -/
import Derived.Test.YthjabhcbkbchjaaDoorKSlabDoes2
import Derived.Carry
import Derived.ChangeArms
import Derived.ChangeOld
import Derived.KernelRfl
import Derived.LaidEql
import Derived.RowKitTokens
import Derived.Stop.Asserts
import Derived.Test.YthjabhcbkbchjaaDoorProg
import Derived.WalkKit
import Derived.WideShapes
namespace Go.Proofs.YthjabhcbkbchjaaDoor
open Go Go.Va
set_option linter.unusedSimpArgs false
def ty : TypeId → Option TI
  | 1 => some ⟨.func, 1, 8, .nilf⟩
  | 2 => some ⟨.int .i64, 1, 8, .int .i64 0⟩
  | 3 => some ⟨.int .i64, 1, 8, .int .i64 0⟩
  | 4 => some ⟨.bool, 1, 1, .bool false⟩
  | 5 => some ⟨.int .u8, 1, 1, .int .u8 0⟩
  | 6 => some ⟨.int .u8, 1, 1, .int .u8 0⟩
  | 7 => some ⟨.struct [(0, 2), (1, 3), (2, 4), (3, 6)], 4, 24, .agg [.int .i64 0, .int .i64 0, .bool false, .int .u8 0]⟩
  | 8 => some ⟨.struct [(0, 2), (1, 3), (2, 4), (3, 6)], 4, 24, .agg [.int .i64 0, .int .i64 0, .bool false, .int .u8 0]⟩
  | 9 => some ⟨.str, 1, 16, .str ⟨#[]⟩⟩
  | 10 => some ⟨.str, 1, 16, .str ⟨#[]⟩⟩
  | 11 => some ⟨.str, 1, 16, .str ⟨#[]⟩⟩
  | 12 => some ⟨.int .u64, 1, 8, .int .u64 0⟩
  | 13 => some ⟨.struct [(0, 9), (1, 12)], 2, 24, .agg [.str ⟨#[]⟩, .int .u64 0]⟩
  | 14 => some ⟨.struct [(0, 9), (1, 12)], 2, 24, .agg [.str ⟨#[]⟩, .int .u64 0]⟩
  | 15 => some ⟨.ptr 116, 1, 8, .nilp⟩
  | 16 => some ⟨.ptr 119, 1, 8, .nilp⟩
  | 17 => some ⟨.ptr 128, 1, 8, .nilp⟩
  | 18 => some ⟨.struct [(0, 17)], 1, 8, .agg [.nilp]⟩
  | 19 => some ⟨.struct [(0, 17)], 1, 8, .agg [.nilp]⟩
  | 20 => some ⟨.iface, 1, 16, .nili⟩
  | 21 => some ⟨.int .i32, 1, 4, .int .i32 0⟩
  | 22 => some ⟨.func, 1, 8, .nilf⟩
  | 23 => some ⟨.func, 1, 8, .nilf⟩
  | 24 => some ⟨.func, 1, 8, .nilf⟩
  | 25 => some ⟨.func, 1, 8, .nilf⟩
  | 26 => some ⟨.slice 33, 1, 24, .nils⟩
  | 27 => some ⟨.ptr 74, 1, 8, .nilp⟩
  | 28 => some ⟨.iface, 1, 16, .nili⟩
  | 29 => some ⟨.iface, 1, 16, .nili⟩
  | 31 => some ⟨.func, 1, 8, .nilf⟩
  | 32 => some ⟨.struct [(0, 3), (1, 3), (2, 3)], 3, 24, .agg [.int .i64 0, .int .i64 0, .int .i64 0]⟩
  | 33 => some ⟨.struct [(0, 3), (1, 3), (2, 3)], 3, 24, .agg [.int .i64 0, .int .i64 0, .int .i64 0]⟩
  | 34 => some ⟨.func, 1, 8, .nilf⟩
  | 35 => some ⟨.func, 1, 8, .nilf⟩
  | 36 => some ⟨.func, 1, 8, .nilf⟩
  | 37 => some ⟨.slice 50, 1, 24, .nils⟩
  | 38 => some ⟨.ptr 78, 1, 8, .nilp⟩
  | 40 => some ⟨.func, 1, 8, .nilf⟩
  | 41 => some ⟨.slice 48, 1, 24, .nils⟩
  | 42 => some ⟨.struct [(0, 3), (1, 3), (2, 41)], 3, 40, .agg [.int .i64 0, .int .i64 0, .nils]⟩
  | 43 => some ⟨.struct [(0, 3), (1, 3), (2, 41)], 3, 40, .agg [.int .i64 0, .int .i64 0, .nils]⟩
  | 44 => some ⟨.int .i64, 1, 8, .int .i64 0⟩
  | 46 => some ⟨.func, 1, 8, .nilf⟩
  | 47 => some ⟨.func, 1, 8, .nilf⟩
  | 48 => some ⟨.int .u64, 1, 8, .int .u64 0⟩
  | 49 => some ⟨.struct [(0, 48), (1, 5), (2, 4)], 3, 16, .agg [.int .u64 0, .int .u8 0, .bool false]⟩
  | 50 => some ⟨.struct [(0, 48), (1, 5), (2, 4)], 3, 16, .agg [.int .u64 0, .int .u8 0, .bool false]⟩
  | 52 => some ⟨.func, 1, 8, .nilf⟩
  | 53 => some ⟨.func, 1, 8, .nilf⟩
  | 54 => some ⟨.func, 1, 8, .nilf⟩
  | 55 => some ⟨.func, 1, 8, .nilf⟩
  | 56 => some ⟨.func, 1, 8, .nilf⟩
  | 57 => some ⟨.func, 1, 8, .nilf⟩
  | 58 => some ⟨.func, 1, 8, .nilf⟩
  | 59 => some ⟨.slice 3, 1, 24, .nils⟩
  | 60 => some ⟨.struct [(0, 3), (1, 59)], 2, 32, .agg [.int .i64 0, .nils]⟩
  | 61 => some ⟨.struct [(0, 3), (1, 59)], 2, 32, .agg [.int .i64 0, .nils]⟩
  | 63 => some ⟨.func, 1, 8, .nilf⟩
  | 64 => some ⟨.func, 1, 8, .nilf⟩
  | 65 => some ⟨.func, 1, 8, .nilf⟩
  | 66 => some ⟨.func, 1, 8, .nilf⟩
  | 67 => some ⟨.func, 1, 8, .nilf⟩
  | 68 => some ⟨.func, 1, 8, .nilf⟩
  | 69 => some ⟨.func, 1, 8, .nilf⟩
  | 70 => some ⟨.func, 1, 8, .nilf⟩
  | 71 => some ⟨.func, 1, 8, .nilf⟩
  | 72 => some ⟨.arr 9 3, 9, 72, .agg [.int .i64 0, .int .i64 0, .int .i64 0, .int .i64 0, .int .i64 0, .int .i64 0, .int .i64 0, .int .i64 0, .int .i64 0]⟩
  | 73 => some ⟨.struct [(0, 3), (1, 3), (2, 72)], 11, 88, .agg [.int .i64 0, .int .i64 0, .int .i64 0, .int .i64 0, .int .i64 0, .int .i64 0, .int .i64 0, .int .i64 0, .int .i64 0, .int .i64 0, .int .i64 0]⟩
  | 74 => some ⟨.struct [(0, 3), (1, 3), (2, 72)], 11, 88, .agg [.int .i64 0, .int .i64 0, .int .i64 0, .int .i64 0, .int .i64 0, .int .i64 0, .int .i64 0, .int .i64 0, .int .i64 0, .int .i64 0, .int .i64 0]⟩
  | 75 => some ⟨.func, 1, 8, .nilf⟩
  | 76 => some ⟨.arr 64 48, 64, 512, .agg [.int .u64 0, .int .u64 0, .int .u64 0, .int .u64 0, .int .u64 0, .int .u64 0, .int .u64 0, .int .u64 0, .int .u64 0, .int .u64 0, .int .u64 0, .int .u64 0, .int .u64 0, .int .u64 0, .int .u64 0, .int .u64 0, .int .u64 0, .int .u64 0, .int .u64 0, .int .u64 0, .int .u64 0, .int .u64 0, .int .u64 0, .int .u64 0, .int .u64 0, .int .u64 0, .int .u64 0, .int .u64 0, .int .u64 0, .int .u64 0, .int .u64 0, .int .u64 0, .int .u64 0, .int .u64 0, .int .u64 0, .int .u64 0, .int .u64 0, .int .u64 0, .int .u64 0, .int .u64 0, .int .u64 0, .int .u64 0, .int .u64 0, .int .u64 0, .int .u64 0, .int .u64 0, .int .u64 0, .int .u64 0, .int .u64 0, .int .u64 0, .int .u64 0, .int .u64 0, .int .u64 0, .int .u64 0, .int .u64 0, .int .u64 0, .int .u64 0, .int .u64 0, .int .u64 0, .int .u64 0, .int .u64 0, .int .u64 0, .int .u64 0, .int .u64 0]⟩
  | 77 => some ⟨.struct [(0, 3), (1, 3), (2, 76), (66, 3), (67, 3)], 68, 544, .agg [.int .i64 0, .int .i64 0, .int .u64 0, .int .u64 0, .int .u64 0, .int .u64 0, .int .u64 0, .int .u64 0, .int .u64 0, .int .u64 0, .int .u64 0, .int .u64 0, .int .u64 0, .int .u64 0, .int .u64 0, .int .u64 0, .int .u64 0, .int .u64 0, .int .u64 0, .int .u64 0, .int .u64 0, .int .u64 0, .int .u64 0, .int .u64 0, .int .u64 0, .int .u64 0, .int .u64 0, .int .u64 0, .int .u64 0, .int .u64 0, .int .u64 0, .int .u64 0, .int .u64 0, .int .u64 0, .int .u64 0, .int .u64 0, .int .u64 0, .int .u64 0, .int .u64 0, .int .u64 0, .int .u64 0, .int .u64 0, .int .u64 0, .int .u64 0, .int .u64 0, .int .u64 0, .int .u64 0, .int .u64 0, .int .u64 0, .int .u64 0, .int .u64 0, .int .u64 0, .int .u64 0, .int .u64 0, .int .u64 0, .int .u64 0, .int .u64 0, .int .u64 0, .int .u64 0, .int .u64 0, .int .u64 0, .int .u64 0, .int .u64 0, .int .u64 0, .int .u64 0, .int .u64 0, .int .i64 0, .int .i64 0]⟩
  | 78 => some ⟨.struct [(0, 3), (1, 3), (2, 76), (66, 3), (67, 3)], 68, 544, .agg [.int .i64 0, .int .i64 0, .int .u64 0, .int .u64 0, .int .u64 0, .int .u64 0, .int .u64 0, .int .u64 0, .int .u64 0, .int .u64 0, .int .u64 0, .int .u64 0, .int .u64 0, .int .u64 0, .int .u64 0, .int .u64 0, .int .u64 0, .int .u64 0, .int .u64 0, .int .u64 0, .int .u64 0, .int .u64 0, .int .u64 0, .int .u64 0, .int .u64 0, .int .u64 0, .int .u64 0, .int .u64 0, .int .u64 0, .int .u64 0, .int .u64 0, .int .u64 0, .int .u64 0, .int .u64 0, .int .u64 0, .int .u64 0, .int .u64 0, .int .u64 0, .int .u64 0, .int .u64 0, .int .u64 0, .int .u64 0, .int .u64 0, .int .u64 0, .int .u64 0, .int .u64 0, .int .u64 0, .int .u64 0, .int .u64 0, .int .u64 0, .int .u64 0, .int .u64 0, .int .u64 0, .int .u64 0, .int .u64 0, .int .u64 0, .int .u64 0, .int .u64 0, .int .u64 0, .int .u64 0, .int .u64 0, .int .u64 0, .int .u64 0, .int .u64 0, .int .u64 0, .int .u64 0, .int .i64 0, .int .i64 0]⟩
  | 79 => some ⟨.ptr 83, 1, 8, .nilp⟩
  | 80 => some ⟨.func, 1, 8, .nilf⟩
  | 81 => some ⟨.ptr 79, 1, 8, .nilp⟩
  | 82 => some ⟨.struct [(0, 9), (1, 3), (2, 44), (3, 29)], 4, 48, .agg [.str ⟨#[]⟩, .int .i64 0, .int .i64 0, .nili]⟩
  | 83 => some ⟨.struct [(0, 9), (1, 3), (2, 44), (3, 29)], 4, 48, .agg [.str ⟨#[]⟩, .int .i64 0, .int .i64 0, .nili]⟩
  | 84 => some ⟨.func, 1, 8, .nilf⟩
  | 85 => some ⟨.func, 1, 8, .nilf⟩
  | 86 => some ⟨.func, 1, 8, .nilf⟩
  | 87 => some ⟨.func, 1, 8, .nilf⟩
  | 89 => some ⟨.int .u64, 1, 8, .int .u64 0⟩
  | 92 => some ⟨.func, 1, 8, .nilf⟩
  | 93 => some ⟨.iface, 1, 16, .nili⟩
  | 94 => some ⟨.iface, 1, 16, .nili⟩
  | 95 => some ⟨.func, 1, 8, .nilf⟩
  | 96 => some ⟨.int .u8, 1, 1, .int .u8 0⟩
  | 97 => some ⟨.func, 1, 8, .nilf⟩
  | 98 => some ⟨.func, 1, 8, .nilf⟩
  | 99 => some ⟨.func, 1, 8, .nilf⟩
  | 100 => some ⟨.struct [(0, 17)], 1, 8, .agg [.nilp]⟩
  | 101 => some ⟨.struct [(0, 17)], 1, 8, .agg [.nilp]⟩
  | 102 => some ⟨.ptr 132, 1, 8, .nilp⟩
  | 103 => some ⟨.func, 1, 8, .nilf⟩
  | 104 => some ⟨.func, 1, 8, .nilf⟩
  | 105 => some ⟨.func, 1, 8, .nilf⟩
  | 106 => some ⟨.iface, 1, 16, .nili⟩
  | 108 => some ⟨.func, 1, 8, .nilf⟩
  | 109 => some ⟨.iface, 1, 16, .nili⟩
  | 110 => some ⟨.func, 1, 8, .nilf⟩
  | 111 => some ⟨.iface, 1, 16, .nili⟩
  | 112 => some ⟨.slice 29, 1, 24, .nils⟩
  | 113 => some ⟨.func, 1, 8, .nilf⟩
  | 114 => some ⟨.func, 1, 8, .nilf⟩
  | 115 => some ⟨.struct [(0, 17), (1, 17), (2, 17), (3, 9)], 4, 40, .agg [.nilp, .nilp, .nilp, .str ⟨#[]⟩]⟩
  | 116 => some ⟨.struct [(0, 17), (1, 17), (2, 17), (3, 9)], 4, 40, .agg [.nilp, .nilp, .nilp, .str ⟨#[]⟩]⟩
  | 120 => some ⟨.func, 1, 8, .nilf⟩
  | 121 => some ⟨.int .u32, 1, 4, .int .u32 0⟩
  | 122 => some ⟨.int .u8, 1, 1, .int .u8 0⟩
  | 123 => some ⟨.func, 1, 8, .nilf⟩
  | 124 => some ⟨.ptr 5, 1, 8, .nilp⟩
  | 125 => some ⟨.int .i32, 1, 4, .int .i32 0⟩
  | 126 => some ⟨.int .i32, 1, 4, .int .i32 0⟩
  | 127 => some ⟨.struct [(0, 12), (1, 12), (2, 121), (3, 122), (4, 5), (5, 5), (6, 96), (7, 123), (8, 124), (9, 125), (10, 126)], 11, 48, .agg [.int .u64 0, .int .u64 0, .int .u32 0, .int .u8 0, .int .u8 0, .int .u8 0, .int .u8 0, .nilf, .nilp, .int .i32 0, .int .i32 0]⟩
  | 128 => some ⟨.struct [(0, 12), (1, 12), (2, 121), (3, 122), (4, 5), (5, 5), (6, 96), (7, 123), (8, 124), (9, 125), (10, 126)], 11, 48, .agg [.int .u64 0, .int .u64 0, .int .u32 0, .int .u8 0, .int .u8 0, .int .u8 0, .int .u8 0, .nilf, .nilp, .int .i32 0, .int .i32 0]⟩
  | 129 => some ⟨.func, 1, 8, .nilf⟩
  | 130 => some ⟨.func, 1, 8, .nilf⟩
  | 131 => some ⟨.struct [(0, 9), (1, 96)], 2, 24, .agg [.str ⟨#[]⟩, .int .u8 0]⟩
  | 132 => some ⟨.struct [(0, 9), (1, 96)], 2, 24, .agg [.str ⟨#[]⟩, .int .u8 0]⟩
  | 133 => some ⟨.ptr 137, 1, 8, .nilp⟩
  | 134 => some ⟨.func, 1, 8, .nilf⟩
  | 135 => some ⟨.int .u16, 1, 2, .int .u16 0⟩
  | 136 => some ⟨.struct [(0, 125), (1, 135), (2, 135), (3, 121), (4, 121)], 5, 16, .agg [.int .i32 0, .int .u16 0, .int .u16 0, .int .u32 0, .int .u32 0]⟩
  | 137 => some ⟨.struct [(0, 125), (1, 135), (2, 135), (3, 121), (4, 121)], 5, 16, .agg [.int .i32 0, .int .u16 0, .int .u16 0, .int .u32 0, .int .u32 0]⟩
  | 138 => some ⟨.slice 141, 1, 24, .nils⟩
  | 139 => some ⟨.int .i32, 1, 4, .int .i32 0⟩
  | 140 => some ⟨.struct [(0, 125), (1, 126), (2, 139), (3, 139)], 4, 16, .agg [.int .i32 0, .int .i32 0, .int .i32 0, .int .i32 0]⟩
  | 141 => some ⟨.struct [(0, 125), (1, 126), (2, 139), (3, 139)], 4, 16, .agg [.int .i32 0, .int .i32 0, .int .i32 0, .int .i32 0]⟩
  | 142 => some ⟨.ptr 29, 1, 8, .nilp⟩
  | _ => none
theorem ty1 : ty 1 = some ⟨.func, 1, 8, .nilf⟩ := rfl
theorem td1 : tdOf ty 1 = .func := rfl
theorem sz1 : szOf ty 1 = 1 := rfl
theorem ty2 : ty 2 = some ⟨.int .i64, 1, 8, .int .i64 0⟩ := rfl
theorem td2 : tdOf ty 2 = .int .i64 := rfl
theorem sz2 : szOf ty 2 = 1 := rfl
theorem ty3 : ty 3 = some ⟨.int .i64, 1, 8, .int .i64 0⟩ := rfl
theorem td3 : tdOf ty 3 = .int .i64 := rfl
theorem sz3 : szOf ty 3 = 1 := rfl
theorem ty4 : ty 4 = some ⟨.bool, 1, 1, .bool false⟩ := rfl
theorem td4 : tdOf ty 4 = .bool := rfl
theorem sz4 : szOf ty 4 = 1 := rfl
theorem ty5 : ty 5 = some ⟨.int .u8, 1, 1, .int .u8 0⟩ := rfl
theorem td5 : tdOf ty 5 = .int .u8 := rfl
theorem sz5 : szOf ty 5 = 1 := rfl
theorem ty6 : ty 6 = some ⟨.int .u8, 1, 1, .int .u8 0⟩ := rfl
theorem td6 : tdOf ty 6 = .int .u8 := rfl
theorem sz6 : szOf ty 6 = 1 := rfl
theorem ty7 : ty 7 = some ⟨.struct [(0, 2), (1, 3), (2, 4), (3, 6)], 4, 24, .agg [.int .i64 0, .int .i64 0, .bool false, .int .u8 0]⟩ := rfl
theorem td7 : tdOf ty 7 = .struct [(0, 2), (1, 3), (2, 4), (3, 6)] := rfl
theorem sz7 : szOf ty 7 = 4 := rfl
theorem ty8 : ty 8 = some ⟨.struct [(0, 2), (1, 3), (2, 4), (3, 6)], 4, 24, .agg [.int .i64 0, .int .i64 0, .bool false, .int .u8 0]⟩ := rfl
theorem td8 : tdOf ty 8 = .struct [(0, 2), (1, 3), (2, 4), (3, 6)] := rfl
theorem sz8 : szOf ty 8 = 4 := rfl
theorem ty9 : ty 9 = some ⟨.str, 1, 16, .str ⟨#[]⟩⟩ := rfl
theorem td9 : tdOf ty 9 = .str := rfl
theorem sz9 : szOf ty 9 = 1 := rfl
theorem ty10 : ty 10 = some ⟨.str, 1, 16, .str ⟨#[]⟩⟩ := rfl
theorem td10 : tdOf ty 10 = .str := rfl
theorem sz10 : szOf ty 10 = 1 := rfl
theorem ty11 : ty 11 = some ⟨.str, 1, 16, .str ⟨#[]⟩⟩ := rfl
theorem td11 : tdOf ty 11 = .str := rfl
theorem sz11 : szOf ty 11 = 1 := rfl
theorem ty12 : ty 12 = some ⟨.int .u64, 1, 8, .int .u64 0⟩ := rfl
theorem td12 : tdOf ty 12 = .int .u64 := rfl
theorem sz12 : szOf ty 12 = 1 := rfl
theorem ty13 : ty 13 = some ⟨.struct [(0, 9), (1, 12)], 2, 24, .agg [.str ⟨#[]⟩, .int .u64 0]⟩ := rfl
theorem td13 : tdOf ty 13 = .struct [(0, 9), (1, 12)] := rfl
theorem sz13 : szOf ty 13 = 2 := rfl
theorem ty14 : ty 14 = some ⟨.struct [(0, 9), (1, 12)], 2, 24, .agg [.str ⟨#[]⟩, .int .u64 0]⟩ := rfl
theorem td14 : tdOf ty 14 = .struct [(0, 9), (1, 12)] := rfl
theorem sz14 : szOf ty 14 = 2 := rfl
theorem ty15 : ty 15 = some ⟨.ptr 116, 1, 8, .nilp⟩ := rfl
theorem td15 : tdOf ty 15 = .ptr 116 := rfl
theorem sz15 : szOf ty 15 = 1 := rfl
theorem ty16 : ty 16 = some ⟨.ptr 119, 1, 8, .nilp⟩ := rfl
theorem td16 : tdOf ty 16 = .ptr 119 := rfl
theorem sz16 : szOf ty 16 = 1 := rfl
theorem ty17 : ty 17 = some ⟨.ptr 128, 1, 8, .nilp⟩ := rfl
theorem td17 : tdOf ty 17 = .ptr 128 := rfl
theorem sz17 : szOf ty 17 = 1 := rfl
theorem ty18 : ty 18 = some ⟨.struct [(0, 17)], 1, 8, .agg [.nilp]⟩ := rfl
theorem td18 : tdOf ty 18 = .struct [(0, 17)] := rfl
theorem sz18 : szOf ty 18 = 1 := rfl
theorem ty19 : ty 19 = some ⟨.struct [(0, 17)], 1, 8, .agg [.nilp]⟩ := rfl
theorem td19 : tdOf ty 19 = .struct [(0, 17)] := rfl
theorem sz19 : szOf ty 19 = 1 := rfl
theorem ty20 : ty 20 = some ⟨.iface, 1, 16, .nili⟩ := rfl
theorem td20 : tdOf ty 20 = .iface := rfl
theorem sz20 : szOf ty 20 = 1 := rfl
theorem ty21 : ty 21 = some ⟨.int .i32, 1, 4, .int .i32 0⟩ := rfl
theorem td21 : tdOf ty 21 = .int .i32 := rfl
theorem sz21 : szOf ty 21 = 1 := rfl
theorem ty22 : ty 22 = some ⟨.func, 1, 8, .nilf⟩ := rfl
theorem td22 : tdOf ty 22 = .func := rfl
theorem sz22 : szOf ty 22 = 1 := rfl
theorem ty23 : ty 23 = some ⟨.func, 1, 8, .nilf⟩ := rfl
theorem td23 : tdOf ty 23 = .func := rfl
theorem sz23 : szOf ty 23 = 1 := rfl
theorem ty24 : ty 24 = some ⟨.func, 1, 8, .nilf⟩ := rfl
theorem td24 : tdOf ty 24 = .func := rfl
theorem sz24 : szOf ty 24 = 1 := rfl
theorem ty25 : ty 25 = some ⟨.func, 1, 8, .nilf⟩ := rfl
theorem td25 : tdOf ty 25 = .func := rfl
theorem sz25 : szOf ty 25 = 1 := rfl
theorem ty26 : ty 26 = some ⟨.slice 33, 1, 24, .nils⟩ := rfl
theorem td26 : tdOf ty 26 = .slice 33 := rfl
theorem sz26 : szOf ty 26 = 1 := rfl
theorem ty27 : ty 27 = some ⟨.ptr 74, 1, 8, .nilp⟩ := rfl
theorem td27 : tdOf ty 27 = .ptr 74 := rfl
theorem sz27 : szOf ty 27 = 1 := rfl
theorem ty28 : ty 28 = some ⟨.iface, 1, 16, .nili⟩ := rfl
theorem td28 : tdOf ty 28 = .iface := rfl
theorem sz28 : szOf ty 28 = 1 := rfl
theorem ty29 : ty 29 = some ⟨.iface, 1, 16, .nili⟩ := rfl
theorem td29 : tdOf ty 29 = .iface := rfl
theorem sz29 : szOf ty 29 = 1 := rfl
theorem ty31 : ty 31 = some ⟨.func, 1, 8, .nilf⟩ := rfl
theorem td31 : tdOf ty 31 = .func := rfl
theorem sz31 : szOf ty 31 = 1 := rfl
theorem ty32 : ty 32 = some ⟨.struct [(0, 3), (1, 3), (2, 3)], 3, 24, .agg [.int .i64 0, .int .i64 0, .int .i64 0]⟩ := rfl
theorem td32 : tdOf ty 32 = .struct [(0, 3), (1, 3), (2, 3)] := rfl
theorem sz32 : szOf ty 32 = 3 := rfl
theorem ty33 : ty 33 = some ⟨.struct [(0, 3), (1, 3), (2, 3)], 3, 24, .agg [.int .i64 0, .int .i64 0, .int .i64 0]⟩ := rfl
theorem td33 : tdOf ty 33 = .struct [(0, 3), (1, 3), (2, 3)] := rfl
theorem sz33 : szOf ty 33 = 3 := rfl
theorem ty34 : ty 34 = some ⟨.func, 1, 8, .nilf⟩ := rfl
theorem td34 : tdOf ty 34 = .func := rfl
theorem sz34 : szOf ty 34 = 1 := rfl
theorem ty35 : ty 35 = some ⟨.func, 1, 8, .nilf⟩ := rfl
theorem td35 : tdOf ty 35 = .func := rfl
theorem sz35 : szOf ty 35 = 1 := rfl
theorem ty36 : ty 36 = some ⟨.func, 1, 8, .nilf⟩ := rfl
theorem td36 : tdOf ty 36 = .func := rfl
theorem sz36 : szOf ty 36 = 1 := rfl
theorem ty37 : ty 37 = some ⟨.slice 50, 1, 24, .nils⟩ := rfl
theorem td37 : tdOf ty 37 = .slice 50 := rfl
theorem sz37 : szOf ty 37 = 1 := rfl
theorem ty38 : ty 38 = some ⟨.ptr 78, 1, 8, .nilp⟩ := rfl
theorem td38 : tdOf ty 38 = .ptr 78 := rfl
theorem sz38 : szOf ty 38 = 1 := rfl
theorem ty40 : ty 40 = some ⟨.func, 1, 8, .nilf⟩ := rfl
theorem td40 : tdOf ty 40 = .func := rfl
theorem sz40 : szOf ty 40 = 1 := rfl
theorem ty41 : ty 41 = some ⟨.slice 48, 1, 24, .nils⟩ := rfl
theorem td41 : tdOf ty 41 = .slice 48 := rfl
theorem sz41 : szOf ty 41 = 1 := rfl
theorem ty42 : ty 42 = some ⟨.struct [(0, 3), (1, 3), (2, 41)], 3, 40, .agg [.int .i64 0, .int .i64 0, .nils]⟩ := rfl
theorem td42 : tdOf ty 42 = .struct [(0, 3), (1, 3), (2, 41)] := rfl
theorem sz42 : szOf ty 42 = 3 := rfl
theorem ty43 : ty 43 = some ⟨.struct [(0, 3), (1, 3), (2, 41)], 3, 40, .agg [.int .i64 0, .int .i64 0, .nils]⟩ := rfl
theorem td43 : tdOf ty 43 = .struct [(0, 3), (1, 3), (2, 41)] := rfl
theorem sz43 : szOf ty 43 = 3 := rfl
theorem ty44 : ty 44 = some ⟨.int .i64, 1, 8, .int .i64 0⟩ := rfl
theorem td44 : tdOf ty 44 = .int .i64 := rfl
theorem sz44 : szOf ty 44 = 1 := rfl
theorem ty46 : ty 46 = some ⟨.func, 1, 8, .nilf⟩ := rfl
theorem td46 : tdOf ty 46 = .func := rfl
theorem sz46 : szOf ty 46 = 1 := rfl
theorem ty47 : ty 47 = some ⟨.func, 1, 8, .nilf⟩ := rfl
theorem td47 : tdOf ty 47 = .func := rfl
theorem sz47 : szOf ty 47 = 1 := rfl
theorem ty48 : ty 48 = some ⟨.int .u64, 1, 8, .int .u64 0⟩ := rfl
theorem td48 : tdOf ty 48 = .int .u64 := rfl
theorem sz48 : szOf ty 48 = 1 := rfl
theorem ty49 : ty 49 = some ⟨.struct [(0, 48), (1, 5), (2, 4)], 3, 16, .agg [.int .u64 0, .int .u8 0, .bool false]⟩ := rfl
theorem td49 : tdOf ty 49 = .struct [(0, 48), (1, 5), (2, 4)] := rfl
theorem sz49 : szOf ty 49 = 3 := rfl
theorem ty50 : ty 50 = some ⟨.struct [(0, 48), (1, 5), (2, 4)], 3, 16, .agg [.int .u64 0, .int .u8 0, .bool false]⟩ := rfl
theorem td50 : tdOf ty 50 = .struct [(0, 48), (1, 5), (2, 4)] := rfl
theorem sz50 : szOf ty 50 = 3 := rfl
theorem ty52 : ty 52 = some ⟨.func, 1, 8, .nilf⟩ := rfl
theorem td52 : tdOf ty 52 = .func := rfl
theorem sz52 : szOf ty 52 = 1 := rfl
theorem ty53 : ty 53 = some ⟨.func, 1, 8, .nilf⟩ := rfl
theorem td53 : tdOf ty 53 = .func := rfl
theorem sz53 : szOf ty 53 = 1 := rfl
theorem ty54 : ty 54 = some ⟨.func, 1, 8, .nilf⟩ := rfl
theorem td54 : tdOf ty 54 = .func := rfl
theorem sz54 : szOf ty 54 = 1 := rfl
theorem ty55 : ty 55 = some ⟨.func, 1, 8, .nilf⟩ := rfl
theorem td55 : tdOf ty 55 = .func := rfl
theorem sz55 : szOf ty 55 = 1 := rfl
theorem ty56 : ty 56 = some ⟨.func, 1, 8, .nilf⟩ := rfl
theorem td56 : tdOf ty 56 = .func := rfl
theorem sz56 : szOf ty 56 = 1 := rfl
theorem ty57 : ty 57 = some ⟨.func, 1, 8, .nilf⟩ := rfl
theorem td57 : tdOf ty 57 = .func := rfl
theorem sz57 : szOf ty 57 = 1 := rfl
theorem ty58 : ty 58 = some ⟨.func, 1, 8, .nilf⟩ := rfl
theorem td58 : tdOf ty 58 = .func := rfl
theorem sz58 : szOf ty 58 = 1 := rfl
theorem ty59 : ty 59 = some ⟨.slice 3, 1, 24, .nils⟩ := rfl
theorem td59 : tdOf ty 59 = .slice 3 := rfl
theorem sz59 : szOf ty 59 = 1 := rfl
theorem ty60 : ty 60 = some ⟨.struct [(0, 3), (1, 59)], 2, 32, .agg [.int .i64 0, .nils]⟩ := rfl
theorem td60 : tdOf ty 60 = .struct [(0, 3), (1, 59)] := rfl
theorem sz60 : szOf ty 60 = 2 := rfl
theorem ty61 : ty 61 = some ⟨.struct [(0, 3), (1, 59)], 2, 32, .agg [.int .i64 0, .nils]⟩ := rfl
theorem td61 : tdOf ty 61 = .struct [(0, 3), (1, 59)] := rfl
theorem sz61 : szOf ty 61 = 2 := rfl
theorem ty63 : ty 63 = some ⟨.func, 1, 8, .nilf⟩ := rfl
theorem td63 : tdOf ty 63 = .func := rfl
theorem sz63 : szOf ty 63 = 1 := rfl
theorem ty64 : ty 64 = some ⟨.func, 1, 8, .nilf⟩ := rfl
theorem td64 : tdOf ty 64 = .func := rfl
theorem sz64 : szOf ty 64 = 1 := rfl
theorem ty65 : ty 65 = some ⟨.func, 1, 8, .nilf⟩ := rfl
theorem td65 : tdOf ty 65 = .func := rfl
theorem sz65 : szOf ty 65 = 1 := rfl
theorem ty66 : ty 66 = some ⟨.func, 1, 8, .nilf⟩ := rfl
theorem td66 : tdOf ty 66 = .func := rfl
theorem sz66 : szOf ty 66 = 1 := rfl
theorem ty67 : ty 67 = some ⟨.func, 1, 8, .nilf⟩ := rfl
theorem td67 : tdOf ty 67 = .func := rfl
theorem sz67 : szOf ty 67 = 1 := rfl
theorem ty68 : ty 68 = some ⟨.func, 1, 8, .nilf⟩ := rfl
theorem td68 : tdOf ty 68 = .func := rfl
theorem sz68 : szOf ty 68 = 1 := rfl
theorem ty69 : ty 69 = some ⟨.func, 1, 8, .nilf⟩ := rfl
theorem td69 : tdOf ty 69 = .func := rfl
theorem sz69 : szOf ty 69 = 1 := rfl
theorem ty70 : ty 70 = some ⟨.func, 1, 8, .nilf⟩ := rfl
theorem td70 : tdOf ty 70 = .func := rfl
theorem sz70 : szOf ty 70 = 1 := rfl
theorem ty71 : ty 71 = some ⟨.func, 1, 8, .nilf⟩ := rfl
theorem td71 : tdOf ty 71 = .func := rfl
theorem sz71 : szOf ty 71 = 1 := rfl
theorem ty72 : ty 72 = some ⟨.arr 9 3, 9, 72, .agg [.int .i64 0, .int .i64 0, .int .i64 0, .int .i64 0, .int .i64 0, .int .i64 0, .int .i64 0, .int .i64 0, .int .i64 0]⟩ := rfl
theorem td72 : tdOf ty 72 = .arr 9 3 := rfl
theorem sz72 : szOf ty 72 = 9 := rfl
theorem ty73 : ty 73 = some ⟨.struct [(0, 3), (1, 3), (2, 72)], 11, 88, .agg [.int .i64 0, .int .i64 0, .int .i64 0, .int .i64 0, .int .i64 0, .int .i64 0, .int .i64 0, .int .i64 0, .int .i64 0, .int .i64 0, .int .i64 0]⟩ := rfl
theorem td73 : tdOf ty 73 = .struct [(0, 3), (1, 3), (2, 72)] := rfl
theorem sz73 : szOf ty 73 = 11 := rfl
theorem ty74 : ty 74 = some ⟨.struct [(0, 3), (1, 3), (2, 72)], 11, 88, .agg [.int .i64 0, .int .i64 0, .int .i64 0, .int .i64 0, .int .i64 0, .int .i64 0, .int .i64 0, .int .i64 0, .int .i64 0, .int .i64 0, .int .i64 0]⟩ := rfl
theorem td74 : tdOf ty 74 = .struct [(0, 3), (1, 3), (2, 72)] := rfl
theorem sz74 : szOf ty 74 = 11 := rfl
theorem ty75 : ty 75 = some ⟨.func, 1, 8, .nilf⟩ := rfl
theorem td75 : tdOf ty 75 = .func := rfl
theorem sz75 : szOf ty 75 = 1 := rfl
theorem ty76 : ty 76 = some ⟨.arr 64 48, 64, 512, .agg [.int .u64 0, .int .u64 0, .int .u64 0, .int .u64 0, .int .u64 0, .int .u64 0, .int .u64 0, .int .u64 0, .int .u64 0, .int .u64 0, .int .u64 0, .int .u64 0, .int .u64 0, .int .u64 0, .int .u64 0, .int .u64 0, .int .u64 0, .int .u64 0, .int .u64 0, .int .u64 0, .int .u64 0, .int .u64 0, .int .u64 0, .int .u64 0, .int .u64 0, .int .u64 0, .int .u64 0, .int .u64 0, .int .u64 0, .int .u64 0, .int .u64 0, .int .u64 0, .int .u64 0, .int .u64 0, .int .u64 0, .int .u64 0, .int .u64 0, .int .u64 0, .int .u64 0, .int .u64 0, .int .u64 0, .int .u64 0, .int .u64 0, .int .u64 0, .int .u64 0, .int .u64 0, .int .u64 0, .int .u64 0, .int .u64 0, .int .u64 0, .int .u64 0, .int .u64 0, .int .u64 0, .int .u64 0, .int .u64 0, .int .u64 0, .int .u64 0, .int .u64 0, .int .u64 0, .int .u64 0, .int .u64 0, .int .u64 0, .int .u64 0, .int .u64 0]⟩ := rfl
theorem td76 : tdOf ty 76 = .arr 64 48 := rfl
theorem sz76 : szOf ty 76 = 64 := rfl
theorem ty77 : ty 77 = some ⟨.struct [(0, 3), (1, 3), (2, 76), (66, 3), (67, 3)], 68, 544, .agg [.int .i64 0, .int .i64 0, .int .u64 0, .int .u64 0, .int .u64 0, .int .u64 0, .int .u64 0, .int .u64 0, .int .u64 0, .int .u64 0, .int .u64 0, .int .u64 0, .int .u64 0, .int .u64 0, .int .u64 0, .int .u64 0, .int .u64 0, .int .u64 0, .int .u64 0, .int .u64 0, .int .u64 0, .int .u64 0, .int .u64 0, .int .u64 0, .int .u64 0, .int .u64 0, .int .u64 0, .int .u64 0, .int .u64 0, .int .u64 0, .int .u64 0, .int .u64 0, .int .u64 0, .int .u64 0, .int .u64 0, .int .u64 0, .int .u64 0, .int .u64 0, .int .u64 0, .int .u64 0, .int .u64 0, .int .u64 0, .int .u64 0, .int .u64 0, .int .u64 0, .int .u64 0, .int .u64 0, .int .u64 0, .int .u64 0, .int .u64 0, .int .u64 0, .int .u64 0, .int .u64 0, .int .u64 0, .int .u64 0, .int .u64 0, .int .u64 0, .int .u64 0, .int .u64 0, .int .u64 0, .int .u64 0, .int .u64 0, .int .u64 0, .int .u64 0, .int .u64 0, .int .u64 0, .int .i64 0, .int .i64 0]⟩ := rfl
theorem td77 : tdOf ty 77 = .struct [(0, 3), (1, 3), (2, 76), (66, 3), (67, 3)] := rfl
theorem sz77 : szOf ty 77 = 68 := rfl
theorem ty78 : ty 78 = some ⟨.struct [(0, 3), (1, 3), (2, 76), (66, 3), (67, 3)], 68, 544, .agg [.int .i64 0, .int .i64 0, .int .u64 0, .int .u64 0, .int .u64 0, .int .u64 0, .int .u64 0, .int .u64 0, .int .u64 0, .int .u64 0, .int .u64 0, .int .u64 0, .int .u64 0, .int .u64 0, .int .u64 0, .int .u64 0, .int .u64 0, .int .u64 0, .int .u64 0, .int .u64 0, .int .u64 0, .int .u64 0, .int .u64 0, .int .u64 0, .int .u64 0, .int .u64 0, .int .u64 0, .int .u64 0, .int .u64 0, .int .u64 0, .int .u64 0, .int .u64 0, .int .u64 0, .int .u64 0, .int .u64 0, .int .u64 0, .int .u64 0, .int .u64 0, .int .u64 0, .int .u64 0, .int .u64 0, .int .u64 0, .int .u64 0, .int .u64 0, .int .u64 0, .int .u64 0, .int .u64 0, .int .u64 0, .int .u64 0, .int .u64 0, .int .u64 0, .int .u64 0, .int .u64 0, .int .u64 0, .int .u64 0, .int .u64 0, .int .u64 0, .int .u64 0, .int .u64 0, .int .u64 0, .int .u64 0, .int .u64 0, .int .u64 0, .int .u64 0, .int .u64 0, .int .u64 0, .int .i64 0, .int .i64 0]⟩ := rfl
theorem td78 : tdOf ty 78 = .struct [(0, 3), (1, 3), (2, 76), (66, 3), (67, 3)] := rfl
theorem sz78 : szOf ty 78 = 68 := rfl
theorem ty79 : ty 79 = some ⟨.ptr 83, 1, 8, .nilp⟩ := rfl
theorem td79 : tdOf ty 79 = .ptr 83 := rfl
theorem sz79 : szOf ty 79 = 1 := rfl
theorem ty80 : ty 80 = some ⟨.func, 1, 8, .nilf⟩ := rfl
theorem td80 : tdOf ty 80 = .func := rfl
theorem sz80 : szOf ty 80 = 1 := rfl
theorem ty81 : ty 81 = some ⟨.ptr 79, 1, 8, .nilp⟩ := rfl
theorem td81 : tdOf ty 81 = .ptr 79 := rfl
theorem sz81 : szOf ty 81 = 1 := rfl
theorem ty82 : ty 82 = some ⟨.struct [(0, 9), (1, 3), (2, 44), (3, 29)], 4, 48, .agg [.str ⟨#[]⟩, .int .i64 0, .int .i64 0, .nili]⟩ := rfl
theorem td82 : tdOf ty 82 = .struct [(0, 9), (1, 3), (2, 44), (3, 29)] := rfl
theorem sz82 : szOf ty 82 = 4 := rfl
theorem ty83 : ty 83 = some ⟨.struct [(0, 9), (1, 3), (2, 44), (3, 29)], 4, 48, .agg [.str ⟨#[]⟩, .int .i64 0, .int .i64 0, .nili]⟩ := rfl
theorem td83 : tdOf ty 83 = .struct [(0, 9), (1, 3), (2, 44), (3, 29)] := rfl
theorem sz83 : szOf ty 83 = 4 := rfl
theorem ty84 : ty 84 = some ⟨.func, 1, 8, .nilf⟩ := rfl
theorem td84 : tdOf ty 84 = .func := rfl
theorem sz84 : szOf ty 84 = 1 := rfl
theorem ty85 : ty 85 = some ⟨.func, 1, 8, .nilf⟩ := rfl
theorem td85 : tdOf ty 85 = .func := rfl
theorem sz85 : szOf ty 85 = 1 := rfl
theorem ty86 : ty 86 = some ⟨.func, 1, 8, .nilf⟩ := rfl
theorem td86 : tdOf ty 86 = .func := rfl
theorem sz86 : szOf ty 86 = 1 := rfl
theorem ty87 : ty 87 = some ⟨.func, 1, 8, .nilf⟩ := rfl
theorem td87 : tdOf ty 87 = .func := rfl
theorem sz87 : szOf ty 87 = 1 := rfl
theorem ty89 : ty 89 = some ⟨.int .u64, 1, 8, .int .u64 0⟩ := rfl
theorem td89 : tdOf ty 89 = .int .u64 := rfl
theorem sz89 : szOf ty 89 = 1 := rfl
theorem ty92 : ty 92 = some ⟨.func, 1, 8, .nilf⟩ := rfl
theorem td92 : tdOf ty 92 = .func := rfl
theorem sz92 : szOf ty 92 = 1 := rfl
theorem ty93 : ty 93 = some ⟨.iface, 1, 16, .nili⟩ := rfl
theorem td93 : tdOf ty 93 = .iface := rfl
theorem sz93 : szOf ty 93 = 1 := rfl
theorem ty94 : ty 94 = some ⟨.iface, 1, 16, .nili⟩ := rfl
theorem td94 : tdOf ty 94 = .iface := rfl
theorem sz94 : szOf ty 94 = 1 := rfl
theorem ty95 : ty 95 = some ⟨.func, 1, 8, .nilf⟩ := rfl
theorem td95 : tdOf ty 95 = .func := rfl
theorem sz95 : szOf ty 95 = 1 := rfl
theorem ty96 : ty 96 = some ⟨.int .u8, 1, 1, .int .u8 0⟩ := rfl
theorem td96 : tdOf ty 96 = .int .u8 := rfl
theorem sz96 : szOf ty 96 = 1 := rfl
theorem ty97 : ty 97 = some ⟨.func, 1, 8, .nilf⟩ := rfl
theorem td97 : tdOf ty 97 = .func := rfl
theorem sz97 : szOf ty 97 = 1 := rfl
theorem ty98 : ty 98 = some ⟨.func, 1, 8, .nilf⟩ := rfl
theorem td98 : tdOf ty 98 = .func := rfl
theorem sz98 : szOf ty 98 = 1 := rfl
theorem ty99 : ty 99 = some ⟨.func, 1, 8, .nilf⟩ := rfl
theorem td99 : tdOf ty 99 = .func := rfl
theorem sz99 : szOf ty 99 = 1 := rfl
theorem ty100 : ty 100 = some ⟨.struct [(0, 17)], 1, 8, .agg [.nilp]⟩ := rfl
theorem td100 : tdOf ty 100 = .struct [(0, 17)] := rfl
theorem sz100 : szOf ty 100 = 1 := rfl
theorem ty101 : ty 101 = some ⟨.struct [(0, 17)], 1, 8, .agg [.nilp]⟩ := rfl
theorem td101 : tdOf ty 101 = .struct [(0, 17)] := rfl
theorem sz101 : szOf ty 101 = 1 := rfl
theorem ty102 : ty 102 = some ⟨.ptr 132, 1, 8, .nilp⟩ := rfl
theorem td102 : tdOf ty 102 = .ptr 132 := rfl
theorem sz102 : szOf ty 102 = 1 := rfl
theorem ty103 : ty 103 = some ⟨.func, 1, 8, .nilf⟩ := rfl
theorem td103 : tdOf ty 103 = .func := rfl
theorem sz103 : szOf ty 103 = 1 := rfl
theorem ty104 : ty 104 = some ⟨.func, 1, 8, .nilf⟩ := rfl
theorem td104 : tdOf ty 104 = .func := rfl
theorem sz104 : szOf ty 104 = 1 := rfl
theorem ty105 : ty 105 = some ⟨.func, 1, 8, .nilf⟩ := rfl
theorem td105 : tdOf ty 105 = .func := rfl
theorem sz105 : szOf ty 105 = 1 := rfl
theorem ty106 : ty 106 = some ⟨.iface, 1, 16, .nili⟩ := rfl
theorem td106 : tdOf ty 106 = .iface := rfl
theorem sz106 : szOf ty 106 = 1 := rfl
theorem ty108 : ty 108 = some ⟨.func, 1, 8, .nilf⟩ := rfl
theorem td108 : tdOf ty 108 = .func := rfl
theorem sz108 : szOf ty 108 = 1 := rfl
theorem ty109 : ty 109 = some ⟨.iface, 1, 16, .nili⟩ := rfl
theorem td109 : tdOf ty 109 = .iface := rfl
theorem sz109 : szOf ty 109 = 1 := rfl
theorem ty110 : ty 110 = some ⟨.func, 1, 8, .nilf⟩ := rfl
theorem td110 : tdOf ty 110 = .func := rfl
theorem sz110 : szOf ty 110 = 1 := rfl
theorem ty111 : ty 111 = some ⟨.iface, 1, 16, .nili⟩ := rfl
theorem td111 : tdOf ty 111 = .iface := rfl
theorem sz111 : szOf ty 111 = 1 := rfl
theorem ty112 : ty 112 = some ⟨.slice 29, 1, 24, .nils⟩ := rfl
theorem td112 : tdOf ty 112 = .slice 29 := rfl
theorem sz112 : szOf ty 112 = 1 := rfl
theorem ty113 : ty 113 = some ⟨.func, 1, 8, .nilf⟩ := rfl
theorem td113 : tdOf ty 113 = .func := rfl
theorem sz113 : szOf ty 113 = 1 := rfl
theorem ty114 : ty 114 = some ⟨.func, 1, 8, .nilf⟩ := rfl
theorem td114 : tdOf ty 114 = .func := rfl
theorem sz114 : szOf ty 114 = 1 := rfl
theorem ty115 : ty 115 = some ⟨.struct [(0, 17), (1, 17), (2, 17), (3, 9)], 4, 40, .agg [.nilp, .nilp, .nilp, .str ⟨#[]⟩]⟩ := rfl
theorem td115 : tdOf ty 115 = .struct [(0, 17), (1, 17), (2, 17), (3, 9)] := rfl
theorem sz115 : szOf ty 115 = 4 := rfl
theorem ty116 : ty 116 = some ⟨.struct [(0, 17), (1, 17), (2, 17), (3, 9)], 4, 40, .agg [.nilp, .nilp, .nilp, .str ⟨#[]⟩]⟩ := rfl
theorem td116 : tdOf ty 116 = .struct [(0, 17), (1, 17), (2, 17), (3, 9)] := rfl
theorem sz116 : szOf ty 116 = 4 := rfl
theorem ty120 : ty 120 = some ⟨.func, 1, 8, .nilf⟩ := rfl
theorem td120 : tdOf ty 120 = .func := rfl
theorem sz120 : szOf ty 120 = 1 := rfl
theorem ty121 : ty 121 = some ⟨.int .u32, 1, 4, .int .u32 0⟩ := rfl
theorem td121 : tdOf ty 121 = .int .u32 := rfl
theorem sz121 : szOf ty 121 = 1 := rfl
theorem ty122 : ty 122 = some ⟨.int .u8, 1, 1, .int .u8 0⟩ := rfl
theorem td122 : tdOf ty 122 = .int .u8 := rfl
theorem sz122 : szOf ty 122 = 1 := rfl
theorem ty123 : ty 123 = some ⟨.func, 1, 8, .nilf⟩ := rfl
theorem td123 : tdOf ty 123 = .func := rfl
theorem sz123 : szOf ty 123 = 1 := rfl
theorem ty124 : ty 124 = some ⟨.ptr 5, 1, 8, .nilp⟩ := rfl
theorem td124 : tdOf ty 124 = .ptr 5 := rfl
theorem sz124 : szOf ty 124 = 1 := rfl
theorem ty125 : ty 125 = some ⟨.int .i32, 1, 4, .int .i32 0⟩ := rfl
theorem td125 : tdOf ty 125 = .int .i32 := rfl
theorem sz125 : szOf ty 125 = 1 := rfl
theorem ty126 : ty 126 = some ⟨.int .i32, 1, 4, .int .i32 0⟩ := rfl
theorem td126 : tdOf ty 126 = .int .i32 := rfl
theorem sz126 : szOf ty 126 = 1 := rfl
theorem ty127 : ty 127 = some ⟨.struct [(0, 12), (1, 12), (2, 121), (3, 122), (4, 5), (5, 5), (6, 96), (7, 123), (8, 124), (9, 125), (10, 126)], 11, 48, .agg [.int .u64 0, .int .u64 0, .int .u32 0, .int .u8 0, .int .u8 0, .int .u8 0, .int .u8 0, .nilf, .nilp, .int .i32 0, .int .i32 0]⟩ := rfl
theorem td127 : tdOf ty 127 = .struct [(0, 12), (1, 12), (2, 121), (3, 122), (4, 5), (5, 5), (6, 96), (7, 123), (8, 124), (9, 125), (10, 126)] := rfl
theorem sz127 : szOf ty 127 = 11 := rfl
theorem ty128 : ty 128 = some ⟨.struct [(0, 12), (1, 12), (2, 121), (3, 122), (4, 5), (5, 5), (6, 96), (7, 123), (8, 124), (9, 125), (10, 126)], 11, 48, .agg [.int .u64 0, .int .u64 0, .int .u32 0, .int .u8 0, .int .u8 0, .int .u8 0, .int .u8 0, .nilf, .nilp, .int .i32 0, .int .i32 0]⟩ := rfl
theorem td128 : tdOf ty 128 = .struct [(0, 12), (1, 12), (2, 121), (3, 122), (4, 5), (5, 5), (6, 96), (7, 123), (8, 124), (9, 125), (10, 126)] := rfl
theorem sz128 : szOf ty 128 = 11 := rfl
theorem ty129 : ty 129 = some ⟨.func, 1, 8, .nilf⟩ := rfl
theorem td129 : tdOf ty 129 = .func := rfl
theorem sz129 : szOf ty 129 = 1 := rfl
theorem ty130 : ty 130 = some ⟨.func, 1, 8, .nilf⟩ := rfl
theorem td130 : tdOf ty 130 = .func := rfl
theorem sz130 : szOf ty 130 = 1 := rfl
theorem ty131 : ty 131 = some ⟨.struct [(0, 9), (1, 96)], 2, 24, .agg [.str ⟨#[]⟩, .int .u8 0]⟩ := rfl
theorem td131 : tdOf ty 131 = .struct [(0, 9), (1, 96)] := rfl
theorem sz131 : szOf ty 131 = 2 := rfl
theorem ty132 : ty 132 = some ⟨.struct [(0, 9), (1, 96)], 2, 24, .agg [.str ⟨#[]⟩, .int .u8 0]⟩ := rfl
theorem td132 : tdOf ty 132 = .struct [(0, 9), (1, 96)] := rfl
theorem sz132 : szOf ty 132 = 2 := rfl
theorem ty133 : ty 133 = some ⟨.ptr 137, 1, 8, .nilp⟩ := rfl
theorem td133 : tdOf ty 133 = .ptr 137 := rfl
theorem sz133 : szOf ty 133 = 1 := rfl
theorem ty134 : ty 134 = some ⟨.func, 1, 8, .nilf⟩ := rfl
theorem td134 : tdOf ty 134 = .func := rfl
theorem sz134 : szOf ty 134 = 1 := rfl
theorem ty135 : ty 135 = some ⟨.int .u16, 1, 2, .int .u16 0⟩ := rfl
theorem td135 : tdOf ty 135 = .int .u16 := rfl
theorem sz135 : szOf ty 135 = 1 := rfl
theorem ty136 : ty 136 = some ⟨.struct [(0, 125), (1, 135), (2, 135), (3, 121), (4, 121)], 5, 16, .agg [.int .i32 0, .int .u16 0, .int .u16 0, .int .u32 0, .int .u32 0]⟩ := rfl
theorem td136 : tdOf ty 136 = .struct [(0, 125), (1, 135), (2, 135), (3, 121), (4, 121)] := rfl
theorem sz136 : szOf ty 136 = 5 := rfl
theorem ty137 : ty 137 = some ⟨.struct [(0, 125), (1, 135), (2, 135), (3, 121), (4, 121)], 5, 16, .agg [.int .i32 0, .int .u16 0, .int .u16 0, .int .u32 0, .int .u32 0]⟩ := rfl
theorem td137 : tdOf ty 137 = .struct [(0, 125), (1, 135), (2, 135), (3, 121), (4, 121)] := rfl
theorem sz137 : szOf ty 137 = 5 := rfl
theorem ty138 : ty 138 = some ⟨.slice 141, 1, 24, .nils⟩ := rfl
theorem td138 : tdOf ty 138 = .slice 141 := rfl
theorem sz138 : szOf ty 138 = 1 := rfl
theorem ty139 : ty 139 = some ⟨.int .i32, 1, 4, .int .i32 0⟩ := rfl
theorem td139 : tdOf ty 139 = .int .i32 := rfl
theorem sz139 : szOf ty 139 = 1 := rfl
theorem ty140 : ty 140 = some ⟨.struct [(0, 125), (1, 126), (2, 139), (3, 139)], 4, 16, .agg [.int .i32 0, .int .i32 0, .int .i32 0, .int .i32 0]⟩ := rfl
theorem td140 : tdOf ty 140 = .struct [(0, 125), (1, 126), (2, 139), (3, 139)] := rfl
theorem sz140 : szOf ty 140 = 4 := rfl
theorem ty141 : ty 141 = some ⟨.struct [(0, 125), (1, 126), (2, 139), (3, 139)], 4, 16, .agg [.int .i32 0, .int .i32 0, .int .i32 0, .int .i32 0]⟩ := rfl
theorem td141 : tdOf ty 141 = .struct [(0, 125), (1, 126), (2, 139), (3, 139)] := rfl
theorem sz141 : szOf ty 141 = 4 := rfl
theorem ty142 : ty 142 = some ⟨.ptr 29, 1, 8, .nilp⟩ := rfl
theorem td142 : tdOf ty 142 = .ptr 29 := rfl
theorem sz142 : szOf ty 142 = 1 := rfl
theorem ok1 : TiOk Tryd.prog 1 ⟨.func, 1, 8, .nilf⟩ := tiOk_mk (.nilFunc) ⟨_, _, _, Tryd.underlying1⟩ (by kernel_rfl) rfl rfl rfl (by simp [Value.cells, Value.oneCell'])
theorem ok2 : TiOk Tryd.prog 2 ⟨.int .i64, 1, 8, .int .i64 0⟩ := tiOk_mk (.int .i64 0) Tryd.underlying2 (by kernel_rfl) rfl rfl rfl (by simp [Value.cells, Value.oneCell'])
theorem ok3 : TiOk Tryd.prog 3 ⟨.int .i64, 1, 8, .int .i64 0⟩ := tiOk_mk (.int .i64 0) Tryd.underlying3 (by kernel_rfl) rfl rfl rfl (by simp [Value.cells, Value.oneCell'])
theorem ok4 : TiOk Tryd.prog 4 ⟨.bool, 1, 1, .bool false⟩ := tiOk_mk (.bool false) Tryd.underlying4 (by kernel_rfl) rfl rfl rfl (by simp [Value.cells, Value.oneCell'])
theorem ok5 : TiOk Tryd.prog 5 ⟨.int .u8, 1, 1, .int .u8 0⟩ := tiOk_mk (.int .u8 0) Tryd.underlying5 (by kernel_rfl) rfl rfl rfl (by simp [Value.cells, Value.oneCell'])
theorem ok6 : TiOk Tryd.prog 6 ⟨.int .u8, 1, 1, .int .u8 0⟩ := tiOk_mk (.int .u8 0) Tryd.underlying6 (by kernel_rfl) rfl rfl rfl (by simp [Value.cells, Value.oneCell'])
theorem ok7 : TiOk Tryd.prog 7 ⟨.struct [(0, 2), (1, 3), (2, 4), (3, 6)], 4, 24, .agg [.int .i64 0, .int .i64 0, .bool false, .int .u8 0]⟩ := tiOk_mk (.agg #[.int .i64 0, .int .i64 0, .bool false, .int .u8 0]) ⟨_, Tryd.underlying7, rfl⟩ (by kernel_rfl) rfl rfl rfl (by simp [Value.cells, Value.oneCell'])
theorem ok8 : TiOk Tryd.prog 8 ⟨.struct [(0, 2), (1, 3), (2, 4), (3, 6)], 4, 24, .agg [.int .i64 0, .int .i64 0, .bool false, .int .u8 0]⟩ := tiOk_mk (.agg #[.int .i64 0, .int .i64 0, .bool false, .int .u8 0]) ⟨_, Tryd.underlying8, rfl⟩ (by kernel_rfl) rfl rfl rfl (by simp [Value.cells, Value.oneCell'])
theorem ok9 : TiOk Tryd.prog 9 ⟨.str, 1, 16, .str ⟨#[]⟩⟩ := tiOk_mk (.string ⟨#[]⟩) Tryd.underlying9 (by kernel_rfl) rfl rfl rfl (by simp [Value.cells, Value.oneCell'])
theorem ok10 : TiOk Tryd.prog 10 ⟨.str, 1, 16, .str ⟨#[]⟩⟩ := tiOk_mk (.string ⟨#[]⟩) Tryd.underlying10 (by kernel_rfl) rfl rfl rfl (by simp [Value.cells, Value.oneCell'])
theorem ok11 : TiOk Tryd.prog 11 ⟨.str, 1, 16, .str ⟨#[]⟩⟩ := tiOk_mk (.string ⟨#[]⟩) Tryd.underlying11 (by kernel_rfl) rfl rfl rfl (by simp [Value.cells, Value.oneCell'])
theorem ok12 : TiOk Tryd.prog 12 ⟨.int .u64, 1, 8, .int .u64 0⟩ := tiOk_mk (.int .u64 0) Tryd.underlying12 (by kernel_rfl) rfl rfl rfl (by simp [Value.cells, Value.oneCell'])
theorem ok13 : TiOk Tryd.prog 13 ⟨.struct [(0, 9), (1, 12)], 2, 24, .agg [.str ⟨#[]⟩, .int .u64 0]⟩ := tiOk_mk (.agg #[.string ⟨#[]⟩, .int .u64 0]) ⟨_, Tryd.underlying13, rfl⟩ (by kernel_rfl) rfl rfl rfl (by simp [Value.cells, Value.oneCell'])
theorem ok14 : TiOk Tryd.prog 14 ⟨.struct [(0, 9), (1, 12)], 2, 24, .agg [.str ⟨#[]⟩, .int .u64 0]⟩ := tiOk_mk (.agg #[.string ⟨#[]⟩, .int .u64 0]) ⟨_, Tryd.underlying14, rfl⟩ (by kernel_rfl) rfl rfl rfl (by simp [Value.cells, Value.oneCell'])
theorem ok15 : TiOk Tryd.prog 15 ⟨.ptr 116, 1, 8, .nilp⟩ := tiOk_mk (.pointer none) Tryd.underlying15 (by kernel_rfl) rfl rfl rfl (by simp [Value.cells, Value.oneCell'])
theorem ok16 : TiOk Tryd.prog 16 ⟨.ptr 119, 1, 8, .nilp⟩ := tiOk_mk (.pointer none) Tryd.underlying16 (by kernel_rfl) rfl rfl rfl (by simp [Value.cells, Value.oneCell'])
theorem ok17 : TiOk Tryd.prog 17 ⟨.ptr 128, 1, 8, .nilp⟩ := tiOk_mk (.pointer none) Tryd.underlying17 (by kernel_rfl) rfl rfl rfl (by simp [Value.cells, Value.oneCell'])
theorem ok18 : TiOk Tryd.prog 18 ⟨.struct [(0, 17)], 1, 8, .agg [.nilp]⟩ := tiOk_mk (.agg #[.pointer none]) ⟨_, Tryd.underlying18, rfl⟩ (by kernel_rfl) rfl rfl rfl (by simp [Value.cells, Value.oneCell'])
theorem ok19 : TiOk Tryd.prog 19 ⟨.struct [(0, 17)], 1, 8, .agg [.nilp]⟩ := tiOk_mk (.agg #[.pointer none]) ⟨_, Tryd.underlying19, rfl⟩ (by kernel_rfl) rfl rfl rfl (by simp [Value.cells, Value.oneCell'])
theorem ok20 : TiOk Tryd.prog 20 ⟨.iface, 1, 16, .nili⟩ := tiOk_mk (.nilIface) ⟨_, Tryd.underlying20⟩ (by kernel_rfl) rfl rfl rfl (by simp [Value.cells, Value.oneCell'])
theorem ok21 : TiOk Tryd.prog 21 ⟨.int .i32, 1, 4, .int .i32 0⟩ := tiOk_mk (.int .i32 0) Tryd.underlying21 (by kernel_rfl) rfl rfl rfl (by simp [Value.cells, Value.oneCell'])
theorem ok22 : TiOk Tryd.prog 22 ⟨.func, 1, 8, .nilf⟩ := tiOk_mk (.nilFunc) ⟨_, _, _, Tryd.underlying22⟩ (by kernel_rfl) rfl rfl rfl (by simp [Value.cells, Value.oneCell'])
theorem ok23 : TiOk Tryd.prog 23 ⟨.func, 1, 8, .nilf⟩ := tiOk_mk (.nilFunc) ⟨_, _, _, Tryd.underlying23⟩ (by kernel_rfl) rfl rfl rfl (by simp [Value.cells, Value.oneCell'])
theorem ok24 : TiOk Tryd.prog 24 ⟨.func, 1, 8, .nilf⟩ := tiOk_mk (.nilFunc) ⟨_, _, _, Tryd.underlying24⟩ (by kernel_rfl) rfl rfl rfl (by simp [Value.cells, Value.oneCell'])
theorem ok25 : TiOk Tryd.prog 25 ⟨.func, 1, 8, .nilf⟩ := tiOk_mk (.nilFunc) ⟨_, _, _, Tryd.underlying25⟩ (by kernel_rfl) rfl rfl rfl (by simp [Value.cells, Value.oneCell'])
theorem ok26 : TiOk Tryd.prog 26 ⟨.slice 33, 1, 24, .nils⟩ := tiOk_mk (.slice none 0 0) Tryd.underlying26 (by kernel_rfl) rfl rfl rfl (by simp [Value.cells, Value.oneCell'])
theorem ok27 : TiOk Tryd.prog 27 ⟨.ptr 74, 1, 8, .nilp⟩ := tiOk_mk (.pointer none) Tryd.underlying27 (by kernel_rfl) rfl rfl rfl (by simp [Value.cells, Value.oneCell'])
theorem ok28 : TiOk Tryd.prog 28 ⟨.iface, 1, 16, .nili⟩ := tiOk_mk (.nilIface) ⟨_, Tryd.underlying28⟩ (by kernel_rfl) rfl rfl rfl (by simp [Value.cells, Value.oneCell'])
theorem ok29 : TiOk Tryd.prog 29 ⟨.iface, 1, 16, .nili⟩ := tiOk_mk (.nilIface) ⟨_, Tryd.underlying29⟩ (by kernel_rfl) rfl rfl rfl (by simp [Value.cells, Value.oneCell'])
theorem ok31 : TiOk Tryd.prog 31 ⟨.func, 1, 8, .nilf⟩ := tiOk_mk (.nilFunc) ⟨_, _, _, Tryd.underlying31⟩ (by kernel_rfl) rfl rfl rfl (by simp [Value.cells, Value.oneCell'])
theorem ok32 : TiOk Tryd.prog 32 ⟨.struct [(0, 3), (1, 3), (2, 3)], 3, 24, .agg [.int .i64 0, .int .i64 0, .int .i64 0]⟩ := tiOk_mk (.agg #[.int .i64 0, .int .i64 0, .int .i64 0]) ⟨_, Tryd.underlying32, rfl⟩ (by kernel_rfl) rfl rfl rfl (by simp [Value.cells, Value.oneCell'])
theorem ok33 : TiOk Tryd.prog 33 ⟨.struct [(0, 3), (1, 3), (2, 3)], 3, 24, .agg [.int .i64 0, .int .i64 0, .int .i64 0]⟩ := tiOk_mk (.agg #[.int .i64 0, .int .i64 0, .int .i64 0]) ⟨_, Tryd.underlying33, rfl⟩ (by kernel_rfl) rfl rfl rfl (by simp [Value.cells, Value.oneCell'])
theorem ok34 : TiOk Tryd.prog 34 ⟨.func, 1, 8, .nilf⟩ := tiOk_mk (.nilFunc) ⟨_, _, _, Tryd.underlying34⟩ (by kernel_rfl) rfl rfl rfl (by simp [Value.cells, Value.oneCell'])
theorem ok35 : TiOk Tryd.prog 35 ⟨.func, 1, 8, .nilf⟩ := tiOk_mk (.nilFunc) ⟨_, _, _, Tryd.underlying35⟩ (by kernel_rfl) rfl rfl rfl (by simp [Value.cells, Value.oneCell'])
theorem ok36 : TiOk Tryd.prog 36 ⟨.func, 1, 8, .nilf⟩ := tiOk_mk (.nilFunc) ⟨_, _, _, Tryd.underlying36⟩ (by kernel_rfl) rfl rfl rfl (by simp [Value.cells, Value.oneCell'])
theorem ok37 : TiOk Tryd.prog 37 ⟨.slice 50, 1, 24, .nils⟩ := tiOk_mk (.slice none 0 0) Tryd.underlying37 (by kernel_rfl) rfl rfl rfl (by simp [Value.cells, Value.oneCell'])
theorem ok38 : TiOk Tryd.prog 38 ⟨.ptr 78, 1, 8, .nilp⟩ := tiOk_mk (.pointer none) Tryd.underlying38 (by kernel_rfl) rfl rfl rfl (by simp [Value.cells, Value.oneCell'])
theorem ok40 : TiOk Tryd.prog 40 ⟨.func, 1, 8, .nilf⟩ := tiOk_mk (.nilFunc) ⟨_, _, _, Tryd.underlying40⟩ (by kernel_rfl) rfl rfl rfl (by simp [Value.cells, Value.oneCell'])
theorem ok41 : TiOk Tryd.prog 41 ⟨.slice 48, 1, 24, .nils⟩ := tiOk_mk (.slice none 0 0) Tryd.underlying41 (by kernel_rfl) rfl rfl rfl (by simp [Value.cells, Value.oneCell'])
theorem ok42 : TiOk Tryd.prog 42 ⟨.struct [(0, 3), (1, 3), (2, 41)], 3, 40, .agg [.int .i64 0, .int .i64 0, .nils]⟩ := tiOk_mk (.agg #[.int .i64 0, .int .i64 0, .slice none 0 0]) ⟨_, Tryd.underlying42, rfl⟩ (by kernel_rfl) rfl rfl rfl (by simp [Value.cells, Value.oneCell'])
theorem ok43 : TiOk Tryd.prog 43 ⟨.struct [(0, 3), (1, 3), (2, 41)], 3, 40, .agg [.int .i64 0, .int .i64 0, .nils]⟩ := tiOk_mk (.agg #[.int .i64 0, .int .i64 0, .slice none 0 0]) ⟨_, Tryd.underlying43, rfl⟩ (by kernel_rfl) rfl rfl rfl (by simp [Value.cells, Value.oneCell'])
theorem ok44 : TiOk Tryd.prog 44 ⟨.int .i64, 1, 8, .int .i64 0⟩ := tiOk_mk (.int .i64 0) Tryd.underlying44 (by kernel_rfl) rfl rfl rfl (by simp [Value.cells, Value.oneCell'])
theorem ok46 : TiOk Tryd.prog 46 ⟨.func, 1, 8, .nilf⟩ := tiOk_mk (.nilFunc) ⟨_, _, _, Tryd.underlying46⟩ (by kernel_rfl) rfl rfl rfl (by simp [Value.cells, Value.oneCell'])
theorem ok47 : TiOk Tryd.prog 47 ⟨.func, 1, 8, .nilf⟩ := tiOk_mk (.nilFunc) ⟨_, _, _, Tryd.underlying47⟩ (by kernel_rfl) rfl rfl rfl (by simp [Value.cells, Value.oneCell'])
theorem ok48 : TiOk Tryd.prog 48 ⟨.int .u64, 1, 8, .int .u64 0⟩ := tiOk_mk (.int .u64 0) Tryd.underlying48 (by kernel_rfl) rfl rfl rfl (by simp [Value.cells, Value.oneCell'])
theorem ok49 : TiOk Tryd.prog 49 ⟨.struct [(0, 48), (1, 5), (2, 4)], 3, 16, .agg [.int .u64 0, .int .u8 0, .bool false]⟩ := tiOk_mk (.agg #[.int .u64 0, .int .u8 0, .bool false]) ⟨_, Tryd.underlying49, rfl⟩ (by kernel_rfl) rfl rfl rfl (by simp [Value.cells, Value.oneCell'])
theorem ok50 : TiOk Tryd.prog 50 ⟨.struct [(0, 48), (1, 5), (2, 4)], 3, 16, .agg [.int .u64 0, .int .u8 0, .bool false]⟩ := tiOk_mk (.agg #[.int .u64 0, .int .u8 0, .bool false]) ⟨_, Tryd.underlying50, rfl⟩ (by kernel_rfl) rfl rfl rfl (by simp [Value.cells, Value.oneCell'])
theorem ok52 : TiOk Tryd.prog 52 ⟨.func, 1, 8, .nilf⟩ := tiOk_mk (.nilFunc) ⟨_, _, _, Tryd.underlying52⟩ (by kernel_rfl) rfl rfl rfl (by simp [Value.cells, Value.oneCell'])
theorem ok53 : TiOk Tryd.prog 53 ⟨.func, 1, 8, .nilf⟩ := tiOk_mk (.nilFunc) ⟨_, _, _, Tryd.underlying53⟩ (by kernel_rfl) rfl rfl rfl (by simp [Value.cells, Value.oneCell'])
theorem ok54 : TiOk Tryd.prog 54 ⟨.func, 1, 8, .nilf⟩ := tiOk_mk (.nilFunc) ⟨_, _, _, Tryd.underlying54⟩ (by kernel_rfl) rfl rfl rfl (by simp [Value.cells, Value.oneCell'])
theorem ok55 : TiOk Tryd.prog 55 ⟨.func, 1, 8, .nilf⟩ := tiOk_mk (.nilFunc) ⟨_, _, _, Tryd.underlying55⟩ (by kernel_rfl) rfl rfl rfl (by simp [Value.cells, Value.oneCell'])
theorem ok56 : TiOk Tryd.prog 56 ⟨.func, 1, 8, .nilf⟩ := tiOk_mk (.nilFunc) ⟨_, _, _, Tryd.underlying56⟩ (by kernel_rfl) rfl rfl rfl (by simp [Value.cells, Value.oneCell'])
theorem ok57 : TiOk Tryd.prog 57 ⟨.func, 1, 8, .nilf⟩ := tiOk_mk (.nilFunc) ⟨_, _, _, Tryd.underlying57⟩ (by kernel_rfl) rfl rfl rfl (by simp [Value.cells, Value.oneCell'])
theorem ok58 : TiOk Tryd.prog 58 ⟨.func, 1, 8, .nilf⟩ := tiOk_mk (.nilFunc) ⟨_, _, _, Tryd.underlying58⟩ (by kernel_rfl) rfl rfl rfl (by simp [Value.cells, Value.oneCell'])
theorem ok59 : TiOk Tryd.prog 59 ⟨.slice 3, 1, 24, .nils⟩ := tiOk_mk (.slice none 0 0) Tryd.underlying59 (by kernel_rfl) rfl rfl rfl (by simp [Value.cells, Value.oneCell'])
theorem ok60 : TiOk Tryd.prog 60 ⟨.struct [(0, 3), (1, 59)], 2, 32, .agg [.int .i64 0, .nils]⟩ := tiOk_mk (.agg #[.int .i64 0, .slice none 0 0]) ⟨_, Tryd.underlying60, rfl⟩ (by kernel_rfl) rfl rfl rfl (by simp [Value.cells, Value.oneCell'])
theorem ok61 : TiOk Tryd.prog 61 ⟨.struct [(0, 3), (1, 59)], 2, 32, .agg [.int .i64 0, .nils]⟩ := tiOk_mk (.agg #[.int .i64 0, .slice none 0 0]) ⟨_, Tryd.underlying61, rfl⟩ (by kernel_rfl) rfl rfl rfl (by simp [Value.cells, Value.oneCell'])
theorem ok63 : TiOk Tryd.prog 63 ⟨.func, 1, 8, .nilf⟩ := tiOk_mk (.nilFunc) ⟨_, _, _, Tryd.underlying63⟩ (by kernel_rfl) rfl rfl rfl (by simp [Value.cells, Value.oneCell'])
theorem ok64 : TiOk Tryd.prog 64 ⟨.func, 1, 8, .nilf⟩ := tiOk_mk (.nilFunc) ⟨_, _, _, Tryd.underlying64⟩ (by kernel_rfl) rfl rfl rfl (by simp [Value.cells, Value.oneCell'])
theorem ok65 : TiOk Tryd.prog 65 ⟨.func, 1, 8, .nilf⟩ := tiOk_mk (.nilFunc) ⟨_, _, _, Tryd.underlying65⟩ (by kernel_rfl) rfl rfl rfl (by simp [Value.cells, Value.oneCell'])
theorem ok66 : TiOk Tryd.prog 66 ⟨.func, 1, 8, .nilf⟩ := tiOk_mk (.nilFunc) ⟨_, _, _, Tryd.underlying66⟩ (by kernel_rfl) rfl rfl rfl (by simp [Value.cells, Value.oneCell'])
theorem ok67 : TiOk Tryd.prog 67 ⟨.func, 1, 8, .nilf⟩ := tiOk_mk (.nilFunc) ⟨_, _, _, Tryd.underlying67⟩ (by kernel_rfl) rfl rfl rfl (by simp [Value.cells, Value.oneCell'])
theorem ok68 : TiOk Tryd.prog 68 ⟨.func, 1, 8, .nilf⟩ := tiOk_mk (.nilFunc) ⟨_, _, _, Tryd.underlying68⟩ (by kernel_rfl) rfl rfl rfl (by simp [Value.cells, Value.oneCell'])
theorem ok69 : TiOk Tryd.prog 69 ⟨.func, 1, 8, .nilf⟩ := tiOk_mk (.nilFunc) ⟨_, _, _, Tryd.underlying69⟩ (by kernel_rfl) rfl rfl rfl (by simp [Value.cells, Value.oneCell'])
theorem ok70 : TiOk Tryd.prog 70 ⟨.func, 1, 8, .nilf⟩ := tiOk_mk (.nilFunc) ⟨_, _, _, Tryd.underlying70⟩ (by kernel_rfl) rfl rfl rfl (by simp [Value.cells, Value.oneCell'])
theorem ok71 : TiOk Tryd.prog 71 ⟨.func, 1, 8, .nilf⟩ := tiOk_mk (.nilFunc) ⟨_, _, _, Tryd.underlying71⟩ (by kernel_rfl) rfl rfl rfl (by simp [Value.cells, Value.oneCell'])
theorem ok72 : TiOk Tryd.prog 72 ⟨.arr 9 3, 9, 72, .agg [.int .i64 0, .int .i64 0, .int .i64 0, .int .i64 0, .int .i64 0, .int .i64 0, .int .i64 0, .int .i64 0, .int .i64 0]⟩ := tiOk_mk (.agg #[.int .i64 0, .int .i64 0, .int .i64 0, .int .i64 0, .int .i64 0, .int .i64 0, .int .i64 0, .int .i64 0, .int .i64 0]) Tryd.underlying72 (by kernel_rfl) rfl rfl rfl (by simp [Value.cells, Value.oneCell'])
theorem ok73 : TiOk Tryd.prog 73 ⟨.struct [(0, 3), (1, 3), (2, 72)], 11, 88, .agg [.int .i64 0, .int .i64 0, .int .i64 0, .int .i64 0, .int .i64 0, .int .i64 0, .int .i64 0, .int .i64 0, .int .i64 0, .int .i64 0, .int .i64 0]⟩ := tiOk_mk (.agg #[.int .i64 0, .int .i64 0, .int .i64 0, .int .i64 0, .int .i64 0, .int .i64 0, .int .i64 0, .int .i64 0, .int .i64 0, .int .i64 0, .int .i64 0]) ⟨_, Tryd.underlying73, rfl⟩ (by kernel_rfl) rfl rfl rfl (by simp [Value.cells, Value.oneCell'])
theorem ok74 : TiOk Tryd.prog 74 ⟨.struct [(0, 3), (1, 3), (2, 72)], 11, 88, .agg [.int .i64 0, .int .i64 0, .int .i64 0, .int .i64 0, .int .i64 0, .int .i64 0, .int .i64 0, .int .i64 0, .int .i64 0, .int .i64 0, .int .i64 0]⟩ := tiOk_mk (.agg #[.int .i64 0, .int .i64 0, .int .i64 0, .int .i64 0, .int .i64 0, .int .i64 0, .int .i64 0, .int .i64 0, .int .i64 0, .int .i64 0, .int .i64 0]) ⟨_, Tryd.underlying74, rfl⟩ (by kernel_rfl) rfl rfl rfl (by simp [Value.cells, Value.oneCell'])
theorem ok75 : TiOk Tryd.prog 75 ⟨.func, 1, 8, .nilf⟩ := tiOk_mk (.nilFunc) ⟨_, _, _, Tryd.underlying75⟩ (by kernel_rfl) rfl rfl rfl (by simp [Value.cells, Value.oneCell'])
theorem ok76 : TiOk Tryd.prog 76 ⟨.arr 64 48, 64, 512, .agg [.int .u64 0, .int .u64 0, .int .u64 0, .int .u64 0, .int .u64 0, .int .u64 0, .int .u64 0, .int .u64 0, .int .u64 0, .int .u64 0, .int .u64 0, .int .u64 0, .int .u64 0, .int .u64 0, .int .u64 0, .int .u64 0, .int .u64 0, .int .u64 0, .int .u64 0, .int .u64 0, .int .u64 0, .int .u64 0, .int .u64 0, .int .u64 0, .int .u64 0, .int .u64 0, .int .u64 0, .int .u64 0, .int .u64 0, .int .u64 0, .int .u64 0, .int .u64 0, .int .u64 0, .int .u64 0, .int .u64 0, .int .u64 0, .int .u64 0, .int .u64 0, .int .u64 0, .int .u64 0, .int .u64 0, .int .u64 0, .int .u64 0, .int .u64 0, .int .u64 0, .int .u64 0, .int .u64 0, .int .u64 0, .int .u64 0, .int .u64 0, .int .u64 0, .int .u64 0, .int .u64 0, .int .u64 0, .int .u64 0, .int .u64 0, .int .u64 0, .int .u64 0, .int .u64 0, .int .u64 0, .int .u64 0, .int .u64 0, .int .u64 0, .int .u64 0]⟩ := tiOk_mk (.agg #[.int .u64 0, .int .u64 0, .int .u64 0, .int .u64 0, .int .u64 0, .int .u64 0, .int .u64 0, .int .u64 0, .int .u64 0, .int .u64 0, .int .u64 0, .int .u64 0, .int .u64 0, .int .u64 0, .int .u64 0, .int .u64 0, .int .u64 0, .int .u64 0, .int .u64 0, .int .u64 0, .int .u64 0, .int .u64 0, .int .u64 0, .int .u64 0, .int .u64 0, .int .u64 0, .int .u64 0, .int .u64 0, .int .u64 0, .int .u64 0, .int .u64 0, .int .u64 0, .int .u64 0, .int .u64 0, .int .u64 0, .int .u64 0, .int .u64 0, .int .u64 0, .int .u64 0, .int .u64 0, .int .u64 0, .int .u64 0, .int .u64 0, .int .u64 0, .int .u64 0, .int .u64 0, .int .u64 0, .int .u64 0, .int .u64 0, .int .u64 0, .int .u64 0, .int .u64 0, .int .u64 0, .int .u64 0, .int .u64 0, .int .u64 0, .int .u64 0, .int .u64 0, .int .u64 0, .int .u64 0, .int .u64 0, .int .u64 0, .int .u64 0, .int .u64 0]) Tryd.underlying76 (by kernel_rfl) rfl rfl rfl (by simp [Value.cells, Value.oneCell'])
theorem ok77 : TiOk Tryd.prog 77 ⟨.struct [(0, 3), (1, 3), (2, 76), (66, 3), (67, 3)], 68, 544, .agg [.int .i64 0, .int .i64 0, .int .u64 0, .int .u64 0, .int .u64 0, .int .u64 0, .int .u64 0, .int .u64 0, .int .u64 0, .int .u64 0, .int .u64 0, .int .u64 0, .int .u64 0, .int .u64 0, .int .u64 0, .int .u64 0, .int .u64 0, .int .u64 0, .int .u64 0, .int .u64 0, .int .u64 0, .int .u64 0, .int .u64 0, .int .u64 0, .int .u64 0, .int .u64 0, .int .u64 0, .int .u64 0, .int .u64 0, .int .u64 0, .int .u64 0, .int .u64 0, .int .u64 0, .int .u64 0, .int .u64 0, .int .u64 0, .int .u64 0, .int .u64 0, .int .u64 0, .int .u64 0, .int .u64 0, .int .u64 0, .int .u64 0, .int .u64 0, .int .u64 0, .int .u64 0, .int .u64 0, .int .u64 0, .int .u64 0, .int .u64 0, .int .u64 0, .int .u64 0, .int .u64 0, .int .u64 0, .int .u64 0, .int .u64 0, .int .u64 0, .int .u64 0, .int .u64 0, .int .u64 0, .int .u64 0, .int .u64 0, .int .u64 0, .int .u64 0, .int .u64 0, .int .u64 0, .int .i64 0, .int .i64 0]⟩ := tiOk_mk (.agg #[.int .i64 0, .int .i64 0, .int .u64 0, .int .u64 0, .int .u64 0, .int .u64 0, .int .u64 0, .int .u64 0, .int .u64 0, .int .u64 0, .int .u64 0, .int .u64 0, .int .u64 0, .int .u64 0, .int .u64 0, .int .u64 0, .int .u64 0, .int .u64 0, .int .u64 0, .int .u64 0, .int .u64 0, .int .u64 0, .int .u64 0, .int .u64 0, .int .u64 0, .int .u64 0, .int .u64 0, .int .u64 0, .int .u64 0, .int .u64 0, .int .u64 0, .int .u64 0, .int .u64 0, .int .u64 0, .int .u64 0, .int .u64 0, .int .u64 0, .int .u64 0, .int .u64 0, .int .u64 0, .int .u64 0, .int .u64 0, .int .u64 0, .int .u64 0, .int .u64 0, .int .u64 0, .int .u64 0, .int .u64 0, .int .u64 0, .int .u64 0, .int .u64 0, .int .u64 0, .int .u64 0, .int .u64 0, .int .u64 0, .int .u64 0, .int .u64 0, .int .u64 0, .int .u64 0, .int .u64 0, .int .u64 0, .int .u64 0, .int .u64 0, .int .u64 0, .int .u64 0, .int .u64 0, .int .i64 0, .int .i64 0]) ⟨_, Tryd.underlying77, rfl⟩ (by kernel_rfl) rfl rfl rfl (by simp [Value.cells, Value.oneCell'])
theorem ok78 : TiOk Tryd.prog 78 ⟨.struct [(0, 3), (1, 3), (2, 76), (66, 3), (67, 3)], 68, 544, .agg [.int .i64 0, .int .i64 0, .int .u64 0, .int .u64 0, .int .u64 0, .int .u64 0, .int .u64 0, .int .u64 0, .int .u64 0, .int .u64 0, .int .u64 0, .int .u64 0, .int .u64 0, .int .u64 0, .int .u64 0, .int .u64 0, .int .u64 0, .int .u64 0, .int .u64 0, .int .u64 0, .int .u64 0, .int .u64 0, .int .u64 0, .int .u64 0, .int .u64 0, .int .u64 0, .int .u64 0, .int .u64 0, .int .u64 0, .int .u64 0, .int .u64 0, .int .u64 0, .int .u64 0, .int .u64 0, .int .u64 0, .int .u64 0, .int .u64 0, .int .u64 0, .int .u64 0, .int .u64 0, .int .u64 0, .int .u64 0, .int .u64 0, .int .u64 0, .int .u64 0, .int .u64 0, .int .u64 0, .int .u64 0, .int .u64 0, .int .u64 0, .int .u64 0, .int .u64 0, .int .u64 0, .int .u64 0, .int .u64 0, .int .u64 0, .int .u64 0, .int .u64 0, .int .u64 0, .int .u64 0, .int .u64 0, .int .u64 0, .int .u64 0, .int .u64 0, .int .u64 0, .int .u64 0, .int .i64 0, .int .i64 0]⟩ := tiOk_mk (.agg #[.int .i64 0, .int .i64 0, .int .u64 0, .int .u64 0, .int .u64 0, .int .u64 0, .int .u64 0, .int .u64 0, .int .u64 0, .int .u64 0, .int .u64 0, .int .u64 0, .int .u64 0, .int .u64 0, .int .u64 0, .int .u64 0, .int .u64 0, .int .u64 0, .int .u64 0, .int .u64 0, .int .u64 0, .int .u64 0, .int .u64 0, .int .u64 0, .int .u64 0, .int .u64 0, .int .u64 0, .int .u64 0, .int .u64 0, .int .u64 0, .int .u64 0, .int .u64 0, .int .u64 0, .int .u64 0, .int .u64 0, .int .u64 0, .int .u64 0, .int .u64 0, .int .u64 0, .int .u64 0, .int .u64 0, .int .u64 0, .int .u64 0, .int .u64 0, .int .u64 0, .int .u64 0, .int .u64 0, .int .u64 0, .int .u64 0, .int .u64 0, .int .u64 0, .int .u64 0, .int .u64 0, .int .u64 0, .int .u64 0, .int .u64 0, .int .u64 0, .int .u64 0, .int .u64 0, .int .u64 0, .int .u64 0, .int .u64 0, .int .u64 0, .int .u64 0, .int .u64 0, .int .u64 0, .int .i64 0, .int .i64 0]) ⟨_, Tryd.underlying78, rfl⟩ (by kernel_rfl) rfl rfl rfl (by simp [Value.cells, Value.oneCell'])
theorem ok79 : TiOk Tryd.prog 79 ⟨.ptr 83, 1, 8, .nilp⟩ := tiOk_mk (.pointer none) Tryd.underlying79 (by kernel_rfl) rfl rfl rfl (by simp [Value.cells, Value.oneCell'])
theorem ok80 : TiOk Tryd.prog 80 ⟨.func, 1, 8, .nilf⟩ := tiOk_mk (.nilFunc) ⟨_, _, _, Tryd.underlying80⟩ (by kernel_rfl) rfl rfl rfl (by simp [Value.cells, Value.oneCell'])
theorem ok81 : TiOk Tryd.prog 81 ⟨.ptr 79, 1, 8, .nilp⟩ := tiOk_mk (.pointer none) Tryd.underlying81 (by kernel_rfl) rfl rfl rfl (by simp [Value.cells, Value.oneCell'])
theorem ok82 : TiOk Tryd.prog 82 ⟨.struct [(0, 9), (1, 3), (2, 44), (3, 29)], 4, 48, .agg [.str ⟨#[]⟩, .int .i64 0, .int .i64 0, .nili]⟩ := tiOk_mk (.agg #[.string ⟨#[]⟩, .int .i64 0, .int .i64 0, .nilIface]) ⟨_, Tryd.underlying82, rfl⟩ (by kernel_rfl) rfl rfl rfl (by simp [Value.cells, Value.oneCell'])
theorem ok83 : TiOk Tryd.prog 83 ⟨.struct [(0, 9), (1, 3), (2, 44), (3, 29)], 4, 48, .agg [.str ⟨#[]⟩, .int .i64 0, .int .i64 0, .nili]⟩ := tiOk_mk (.agg #[.string ⟨#[]⟩, .int .i64 0, .int .i64 0, .nilIface]) ⟨_, Tryd.underlying83, rfl⟩ (by kernel_rfl) rfl rfl rfl (by simp [Value.cells, Value.oneCell'])
theorem ok84 : TiOk Tryd.prog 84 ⟨.func, 1, 8, .nilf⟩ := tiOk_mk (.nilFunc) ⟨_, _, _, Tryd.underlying84⟩ (by kernel_rfl) rfl rfl rfl (by simp [Value.cells, Value.oneCell'])
theorem ok85 : TiOk Tryd.prog 85 ⟨.func, 1, 8, .nilf⟩ := tiOk_mk (.nilFunc) ⟨_, _, _, Tryd.underlying85⟩ (by kernel_rfl) rfl rfl rfl (by simp [Value.cells, Value.oneCell'])
theorem ok86 : TiOk Tryd.prog 86 ⟨.func, 1, 8, .nilf⟩ := tiOk_mk (.nilFunc) ⟨_, _, _, Tryd.underlying86⟩ (by kernel_rfl) rfl rfl rfl (by simp [Value.cells, Value.oneCell'])
theorem ok87 : TiOk Tryd.prog 87 ⟨.func, 1, 8, .nilf⟩ := tiOk_mk (.nilFunc) ⟨_, _, _, Tryd.underlying87⟩ (by kernel_rfl) rfl rfl rfl (by simp [Value.cells, Value.oneCell'])
theorem ok89 : TiOk Tryd.prog 89 ⟨.int .u64, 1, 8, .int .u64 0⟩ := tiOk_mk (.int .u64 0) Tryd.underlying89 (by kernel_rfl) rfl rfl rfl (by simp [Value.cells, Value.oneCell'])
theorem ok92 : TiOk Tryd.prog 92 ⟨.func, 1, 8, .nilf⟩ := tiOk_mk (.nilFunc) ⟨_, _, _, Tryd.underlying92⟩ (by kernel_rfl) rfl rfl rfl (by simp [Value.cells, Value.oneCell'])
theorem ok93 : TiOk Tryd.prog 93 ⟨.iface, 1, 16, .nili⟩ := tiOk_mk (.nilIface) ⟨_, Tryd.underlying93⟩ (by kernel_rfl) rfl rfl rfl (by simp [Value.cells, Value.oneCell'])
theorem ok94 : TiOk Tryd.prog 94 ⟨.iface, 1, 16, .nili⟩ := tiOk_mk (.nilIface) ⟨_, Tryd.underlying94⟩ (by kernel_rfl) rfl rfl rfl (by simp [Value.cells, Value.oneCell'])
theorem ok95 : TiOk Tryd.prog 95 ⟨.func, 1, 8, .nilf⟩ := tiOk_mk (.nilFunc) ⟨_, _, _, Tryd.underlying95⟩ (by kernel_rfl) rfl rfl rfl (by simp [Value.cells, Value.oneCell'])
theorem ok96 : TiOk Tryd.prog 96 ⟨.int .u8, 1, 1, .int .u8 0⟩ := tiOk_mk (.int .u8 0) Tryd.underlying96 (by kernel_rfl) rfl rfl rfl (by simp [Value.cells, Value.oneCell'])
theorem ok97 : TiOk Tryd.prog 97 ⟨.func, 1, 8, .nilf⟩ := tiOk_mk (.nilFunc) ⟨_, _, _, Tryd.underlying97⟩ (by kernel_rfl) rfl rfl rfl (by simp [Value.cells, Value.oneCell'])
theorem ok98 : TiOk Tryd.prog 98 ⟨.func, 1, 8, .nilf⟩ := tiOk_mk (.nilFunc) ⟨_, _, _, Tryd.underlying98⟩ (by kernel_rfl) rfl rfl rfl (by simp [Value.cells, Value.oneCell'])
theorem ok99 : TiOk Tryd.prog 99 ⟨.func, 1, 8, .nilf⟩ := tiOk_mk (.nilFunc) ⟨_, _, _, Tryd.underlying99⟩ (by kernel_rfl) rfl rfl rfl (by simp [Value.cells, Value.oneCell'])
theorem ok100 : TiOk Tryd.prog 100 ⟨.struct [(0, 17)], 1, 8, .agg [.nilp]⟩ := tiOk_mk (.agg #[.pointer none]) ⟨_, Tryd.underlying100, rfl⟩ (by kernel_rfl) rfl rfl rfl (by simp [Value.cells, Value.oneCell'])
theorem ok101 : TiOk Tryd.prog 101 ⟨.struct [(0, 17)], 1, 8, .agg [.nilp]⟩ := tiOk_mk (.agg #[.pointer none]) ⟨_, Tryd.underlying101, rfl⟩ (by kernel_rfl) rfl rfl rfl (by simp [Value.cells, Value.oneCell'])
theorem ok102 : TiOk Tryd.prog 102 ⟨.ptr 132, 1, 8, .nilp⟩ := tiOk_mk (.pointer none) Tryd.underlying102 (by kernel_rfl) rfl rfl rfl (by simp [Value.cells, Value.oneCell'])
theorem ok103 : TiOk Tryd.prog 103 ⟨.func, 1, 8, .nilf⟩ := tiOk_mk (.nilFunc) ⟨_, _, _, Tryd.underlying103⟩ (by kernel_rfl) rfl rfl rfl (by simp [Value.cells, Value.oneCell'])
theorem ok104 : TiOk Tryd.prog 104 ⟨.func, 1, 8, .nilf⟩ := tiOk_mk (.nilFunc) ⟨_, _, _, Tryd.underlying104⟩ (by kernel_rfl) rfl rfl rfl (by simp [Value.cells, Value.oneCell'])
theorem ok105 : TiOk Tryd.prog 105 ⟨.func, 1, 8, .nilf⟩ := tiOk_mk (.nilFunc) ⟨_, _, _, Tryd.underlying105⟩ (by kernel_rfl) rfl rfl rfl (by simp [Value.cells, Value.oneCell'])
theorem ok106 : TiOk Tryd.prog 106 ⟨.iface, 1, 16, .nili⟩ := tiOk_mk (.nilIface) ⟨_, Tryd.underlying106⟩ (by kernel_rfl) rfl rfl rfl (by simp [Value.cells, Value.oneCell'])
theorem ok108 : TiOk Tryd.prog 108 ⟨.func, 1, 8, .nilf⟩ := tiOk_mk (.nilFunc) ⟨_, _, _, Tryd.underlying108⟩ (by kernel_rfl) rfl rfl rfl (by simp [Value.cells, Value.oneCell'])
theorem ok109 : TiOk Tryd.prog 109 ⟨.iface, 1, 16, .nili⟩ := tiOk_mk (.nilIface) ⟨_, Tryd.underlying109⟩ (by kernel_rfl) rfl rfl rfl (by simp [Value.cells, Value.oneCell'])
theorem ok110 : TiOk Tryd.prog 110 ⟨.func, 1, 8, .nilf⟩ := tiOk_mk (.nilFunc) ⟨_, _, _, Tryd.underlying110⟩ (by kernel_rfl) rfl rfl rfl (by simp [Value.cells, Value.oneCell'])
theorem ok111 : TiOk Tryd.prog 111 ⟨.iface, 1, 16, .nili⟩ := tiOk_mk (.nilIface) ⟨_, Tryd.underlying111⟩ (by kernel_rfl) rfl rfl rfl (by simp [Value.cells, Value.oneCell'])
theorem ok112 : TiOk Tryd.prog 112 ⟨.slice 29, 1, 24, .nils⟩ := tiOk_mk (.slice none 0 0) Tryd.underlying112 (by kernel_rfl) rfl rfl rfl (by simp [Value.cells, Value.oneCell'])
theorem ok113 : TiOk Tryd.prog 113 ⟨.func, 1, 8, .nilf⟩ := tiOk_mk (.nilFunc) ⟨_, _, _, Tryd.underlying113⟩ (by kernel_rfl) rfl rfl rfl (by simp [Value.cells, Value.oneCell'])
theorem ok114 : TiOk Tryd.prog 114 ⟨.func, 1, 8, .nilf⟩ := tiOk_mk (.nilFunc) ⟨_, _, _, Tryd.underlying114⟩ (by kernel_rfl) rfl rfl rfl (by simp [Value.cells, Value.oneCell'])
theorem ok115 : TiOk Tryd.prog 115 ⟨.struct [(0, 17), (1, 17), (2, 17), (3, 9)], 4, 40, .agg [.nilp, .nilp, .nilp, .str ⟨#[]⟩]⟩ := tiOk_mk (.agg #[.pointer none, .pointer none, .pointer none, .string ⟨#[]⟩]) ⟨_, Tryd.underlying115, rfl⟩ (by kernel_rfl) rfl rfl rfl (by simp [Value.cells, Value.oneCell'])
theorem ok116 : TiOk Tryd.prog 116 ⟨.struct [(0, 17), (1, 17), (2, 17), (3, 9)], 4, 40, .agg [.nilp, .nilp, .nilp, .str ⟨#[]⟩]⟩ := tiOk_mk (.agg #[.pointer none, .pointer none, .pointer none, .string ⟨#[]⟩]) ⟨_, Tryd.underlying116, rfl⟩ (by kernel_rfl) rfl rfl rfl (by simp [Value.cells, Value.oneCell'])
theorem ok120 : TiOk Tryd.prog 120 ⟨.func, 1, 8, .nilf⟩ := tiOk_mk (.nilFunc) ⟨_, _, _, Tryd.underlying120⟩ (by kernel_rfl) rfl rfl rfl (by simp [Value.cells, Value.oneCell'])
theorem ok121 : TiOk Tryd.prog 121 ⟨.int .u32, 1, 4, .int .u32 0⟩ := tiOk_mk (.int .u32 0) Tryd.underlying121 (by kernel_rfl) rfl rfl rfl (by simp [Value.cells, Value.oneCell'])
theorem ok122 : TiOk Tryd.prog 122 ⟨.int .u8, 1, 1, .int .u8 0⟩ := tiOk_mk (.int .u8 0) Tryd.underlying122 (by kernel_rfl) rfl rfl rfl (by simp [Value.cells, Value.oneCell'])
theorem ok123 : TiOk Tryd.prog 123 ⟨.func, 1, 8, .nilf⟩ := tiOk_mk (.nilFunc) ⟨_, _, _, Tryd.underlying123⟩ (by kernel_rfl) rfl rfl rfl (by simp [Value.cells, Value.oneCell'])
theorem ok124 : TiOk Tryd.prog 124 ⟨.ptr 5, 1, 8, .nilp⟩ := tiOk_mk (.pointer none) Tryd.underlying124 (by kernel_rfl) rfl rfl rfl (by simp [Value.cells, Value.oneCell'])
theorem ok125 : TiOk Tryd.prog 125 ⟨.int .i32, 1, 4, .int .i32 0⟩ := tiOk_mk (.int .i32 0) Tryd.underlying125 (by kernel_rfl) rfl rfl rfl (by simp [Value.cells, Value.oneCell'])
theorem ok126 : TiOk Tryd.prog 126 ⟨.int .i32, 1, 4, .int .i32 0⟩ := tiOk_mk (.int .i32 0) Tryd.underlying126 (by kernel_rfl) rfl rfl rfl (by simp [Value.cells, Value.oneCell'])
theorem ok127 : TiOk Tryd.prog 127 ⟨.struct [(0, 12), (1, 12), (2, 121), (3, 122), (4, 5), (5, 5), (6, 96), (7, 123), (8, 124), (9, 125), (10, 126)], 11, 48, .agg [.int .u64 0, .int .u64 0, .int .u32 0, .int .u8 0, .int .u8 0, .int .u8 0, .int .u8 0, .nilf, .nilp, .int .i32 0, .int .i32 0]⟩ := tiOk_mk (.agg #[.int .u64 0, .int .u64 0, .int .u32 0, .int .u8 0, .int .u8 0, .int .u8 0, .int .u8 0, .nilFunc, .pointer none, .int .i32 0, .int .i32 0]) ⟨_, Tryd.underlying127, rfl⟩ (by kernel_rfl) rfl rfl rfl (by simp [Value.cells, Value.oneCell'])
theorem ok128 : TiOk Tryd.prog 128 ⟨.struct [(0, 12), (1, 12), (2, 121), (3, 122), (4, 5), (5, 5), (6, 96), (7, 123), (8, 124), (9, 125), (10, 126)], 11, 48, .agg [.int .u64 0, .int .u64 0, .int .u32 0, .int .u8 0, .int .u8 0, .int .u8 0, .int .u8 0, .nilf, .nilp, .int .i32 0, .int .i32 0]⟩ := tiOk_mk (.agg #[.int .u64 0, .int .u64 0, .int .u32 0, .int .u8 0, .int .u8 0, .int .u8 0, .int .u8 0, .nilFunc, .pointer none, .int .i32 0, .int .i32 0]) ⟨_, Tryd.underlying128, rfl⟩ (by kernel_rfl) rfl rfl rfl (by simp [Value.cells, Value.oneCell'])
theorem ok129 : TiOk Tryd.prog 129 ⟨.func, 1, 8, .nilf⟩ := tiOk_mk (.nilFunc) ⟨_, _, _, Tryd.underlying129⟩ (by kernel_rfl) rfl rfl rfl (by simp [Value.cells, Value.oneCell'])
theorem ok130 : TiOk Tryd.prog 130 ⟨.func, 1, 8, .nilf⟩ := tiOk_mk (.nilFunc) ⟨_, _, _, Tryd.underlying130⟩ (by kernel_rfl) rfl rfl rfl (by simp [Value.cells, Value.oneCell'])
theorem ok131 : TiOk Tryd.prog 131 ⟨.struct [(0, 9), (1, 96)], 2, 24, .agg [.str ⟨#[]⟩, .int .u8 0]⟩ := tiOk_mk (.agg #[.string ⟨#[]⟩, .int .u8 0]) ⟨_, Tryd.underlying131, rfl⟩ (by kernel_rfl) rfl rfl rfl (by simp [Value.cells, Value.oneCell'])
theorem ok132 : TiOk Tryd.prog 132 ⟨.struct [(0, 9), (1, 96)], 2, 24, .agg [.str ⟨#[]⟩, .int .u8 0]⟩ := tiOk_mk (.agg #[.string ⟨#[]⟩, .int .u8 0]) ⟨_, Tryd.underlying132, rfl⟩ (by kernel_rfl) rfl rfl rfl (by simp [Value.cells, Value.oneCell'])
theorem ok133 : TiOk Tryd.prog 133 ⟨.ptr 137, 1, 8, .nilp⟩ := tiOk_mk (.pointer none) Tryd.underlying133 (by kernel_rfl) rfl rfl rfl (by simp [Value.cells, Value.oneCell'])
theorem ok134 : TiOk Tryd.prog 134 ⟨.func, 1, 8, .nilf⟩ := tiOk_mk (.nilFunc) ⟨_, _, _, Tryd.underlying134⟩ (by kernel_rfl) rfl rfl rfl (by simp [Value.cells, Value.oneCell'])
theorem ok135 : TiOk Tryd.prog 135 ⟨.int .u16, 1, 2, .int .u16 0⟩ := tiOk_mk (.int .u16 0) Tryd.underlying135 (by kernel_rfl) rfl rfl rfl (by simp [Value.cells, Value.oneCell'])
theorem ok136 : TiOk Tryd.prog 136 ⟨.struct [(0, 125), (1, 135), (2, 135), (3, 121), (4, 121)], 5, 16, .agg [.int .i32 0, .int .u16 0, .int .u16 0, .int .u32 0, .int .u32 0]⟩ := tiOk_mk (.agg #[.int .i32 0, .int .u16 0, .int .u16 0, .int .u32 0, .int .u32 0]) ⟨_, Tryd.underlying136, rfl⟩ (by kernel_rfl) rfl rfl rfl (by simp [Value.cells, Value.oneCell'])
theorem ok137 : TiOk Tryd.prog 137 ⟨.struct [(0, 125), (1, 135), (2, 135), (3, 121), (4, 121)], 5, 16, .agg [.int .i32 0, .int .u16 0, .int .u16 0, .int .u32 0, .int .u32 0]⟩ := tiOk_mk (.agg #[.int .i32 0, .int .u16 0, .int .u16 0, .int .u32 0, .int .u32 0]) ⟨_, Tryd.underlying137, rfl⟩ (by kernel_rfl) rfl rfl rfl (by simp [Value.cells, Value.oneCell'])
theorem ok138 : TiOk Tryd.prog 138 ⟨.slice 141, 1, 24, .nils⟩ := tiOk_mk (.slice none 0 0) Tryd.underlying138 (by kernel_rfl) rfl rfl rfl (by simp [Value.cells, Value.oneCell'])
theorem ok139 : TiOk Tryd.prog 139 ⟨.int .i32, 1, 4, .int .i32 0⟩ := tiOk_mk (.int .i32 0) Tryd.underlying139 (by kernel_rfl) rfl rfl rfl (by simp [Value.cells, Value.oneCell'])
theorem ok140 : TiOk Tryd.prog 140 ⟨.struct [(0, 125), (1, 126), (2, 139), (3, 139)], 4, 16, .agg [.int .i32 0, .int .i32 0, .int .i32 0, .int .i32 0]⟩ := tiOk_mk (.agg #[.int .i32 0, .int .i32 0, .int .i32 0, .int .i32 0]) ⟨_, Tryd.underlying140, rfl⟩ (by kernel_rfl) rfl rfl rfl (by simp [Value.cells, Value.oneCell'])
theorem ok141 : TiOk Tryd.prog 141 ⟨.struct [(0, 125), (1, 126), (2, 139), (3, 139)], 4, 16, .agg [.int .i32 0, .int .i32 0, .int .i32 0, .int .i32 0]⟩ := tiOk_mk (.agg #[.int .i32 0, .int .i32 0, .int .i32 0, .int .i32 0]) ⟨_, Tryd.underlying141, rfl⟩ (by kernel_rfl) rfl rfl rfl (by simp [Value.cells, Value.oneCell'])
theorem ok142 : TiOk Tryd.prog 142 ⟨.ptr 29, 1, 8, .nilp⟩ := tiOk_mk (.pointer none) Tryd.underlying142 (by kernel_rfl) rfl rfl rfl (by simp [Value.cells, Value.oneCell'])
theorem tk : TyOk Tryd.prog ty := by
  intro t i h
  unfold ty at h
  split at h
  · cases h; exact ok1
  · cases h; exact ok2
  · cases h; exact ok3
  · cases h; exact ok4
  · cases h; exact ok5
  · cases h; exact ok6
  · cases h; exact ok7
  · cases h; exact ok8
  · cases h; exact ok9
  · cases h; exact ok10
  · cases h; exact ok11
  · cases h; exact ok12
  · cases h; exact ok13
  · cases h; exact ok14
  · cases h; exact ok15
  · cases h; exact ok16
  · cases h; exact ok17
  · cases h; exact ok18
  · cases h; exact ok19
  · cases h; exact ok20
  · cases h; exact ok21
  · cases h; exact ok22
  · cases h; exact ok23
  · cases h; exact ok24
  · cases h; exact ok25
  · cases h; exact ok26
  · cases h; exact ok27
  · cases h; exact ok28
  · cases h; exact ok29
  · cases h; exact ok31
  · cases h; exact ok32
  · cases h; exact ok33
  · cases h; exact ok34
  · cases h; exact ok35
  · cases h; exact ok36
  · cases h; exact ok37
  · cases h; exact ok38
  · cases h; exact ok40
  · cases h; exact ok41
  · cases h; exact ok42
  · cases h; exact ok43
  · cases h; exact ok44
  · cases h; exact ok46
  · cases h; exact ok47
  · cases h; exact ok48
  · cases h; exact ok49
  · cases h; exact ok50
  · cases h; exact ok52
  · cases h; exact ok53
  · cases h; exact ok54
  · cases h; exact ok55
  · cases h; exact ok56
  · cases h; exact ok57
  · cases h; exact ok58
  · cases h; exact ok59
  · cases h; exact ok60
  · cases h; exact ok61
  · cases h; exact ok63
  · cases h; exact ok64
  · cases h; exact ok65
  · cases h; exact ok66
  · cases h; exact ok67
  · cases h; exact ok68
  · cases h; exact ok69
  · cases h; exact ok70
  · cases h; exact ok71
  · cases h; exact ok72
  · cases h; exact ok73
  · cases h; exact ok74
  · cases h; exact ok75
  · cases h; exact ok76
  · cases h; exact ok77
  · cases h; exact ok78
  · cases h; exact ok79
  · cases h; exact ok80
  · cases h; exact ok81
  · cases h; exact ok82
  · cases h; exact ok83
  · cases h; exact ok84
  · cases h; exact ok85
  · cases h; exact ok86
  · cases h; exact ok87
  · cases h; exact ok89
  · cases h; exact ok92
  · cases h; exact ok93
  · cases h; exact ok94
  · cases h; exact ok95
  · cases h; exact ok96
  · cases h; exact ok97
  · cases h; exact ok98
  · cases h; exact ok99
  · cases h; exact ok100
  · cases h; exact ok101
  · cases h; exact ok102
  · cases h; exact ok103
  · cases h; exact ok104
  · cases h; exact ok105
  · cases h; exact ok106
  · cases h; exact ok108
  · cases h; exact ok109
  · cases h; exact ok110
  · cases h; exact ok111
  · cases h; exact ok112
  · cases h; exact ok113
  · cases h; exact ok114
  · cases h; exact ok115
  · cases h; exact ok116
  · cases h; exact ok120
  · cases h; exact ok121
  · cases h; exact ok122
  · cases h; exact ok123
  · cases h; exact ok124
  · cases h; exact ok125
  · cases h; exact ok126
  · cases h; exact ok127
  · cases h; exact ok128
  · cases h; exact ok129
  · cases h; exact ok130
  · cases h; exact ok131
  · cases h; exact ok132
  · cases h; exact ok133
  · cases h; exact ok134
  · cases h; exact ok135
  · cases h; exact ok136
  · cases h; exact ok137
  · cases h; exact ok138
  · cases h; exact ok139
  · cases h; exact ok140
  · cases h; exact ok141
  · cases h; exact ok142
  · cases h
theorem mixed : Tryd.prog.follows .mixedOrders = true := by kernel_rfl
end Go.Proofs.YthjabhcbkbchjaaDoor
namespace Go.Proofs.YthjabhcbkbchjaaDoor
open Go Go.Va
set_option linter.unusedSimpArgs false
set_option linter.unusedVariables false
/-- Errors, as values: none; a fault, with what is under it. -/
inductive Err where
  | nil
  | fault (op : List (BitVec 8)) (at_ : Int) (code : Int) (under : Err)
  deriving DecidableEq
def Err.isNil : Err → Bool
  | .nil => true
  | _ => false
def eErr : Err → AV
  | .nil => .nili
  | .fault o a c u => .iface 79 (.fptr [eS o, eI a, eI c, eErr u] 0)
theorem eErr_cut (nl nt : Nat → Option Nat) : ∀ e, cutAV nl nt (eErr e) = eErr e
  | .nil => rfl
  | .fault o a c u => by simp only [eErr, cutAV, cutL, eErr_cut nl nt u, eS, eI]
theorem eErr_flat (e : Err) : flatAV (eErr e) = true := by cases e <;> rfl
theorem encErr : Enc ty 29 1 eErr := ⟨sz29, by decide, fun x => (by cases x <;> rfl), fun h => (by cases h), fun _ x => (by cases x <;> rfl), fun x => (by cases x <;> rfl), eErr_cut⟩
structure runtime_boundsError where
  x : Int
  y : Int
  signed : Bool
  code : BitVec 8
  deriving DecidableEq
def c_runtime_boundsError (x : runtime_boundsError) : List AV := [eI x.x, eI x.y, eB x.signed, (@eU .u8 8) x.code]
def e_runtime_boundsError (x : runtime_boundsError) : AV := .agg (c_runtime_boundsError x)
def z_runtime_boundsError : runtime_boundsError := ⟨(0 : Int), (0 : Int), false, 0#8⟩
theorem c_runtime_boundsError_cut (nl nt : Nat → Option Nat) (x : runtime_boundsError) : cutL nl nt (c_runtime_boundsError x) = c_runtime_boundsError x := by simp only [cutL, e_runtime_boundsError, c_runtime_boundsError, cutAV, (enc_i64 td2 sz2).cut nl nt, (enc_i64 td3 sz3).cut nl nt, (enc_b td4 sz4).cut nl nt, (enc_u td6 sz6).cut nl nt]
theorem enc7 : Enc ty 7 4 e_runtime_boundsError := ⟨sz7, by decide, fun _ => rfl, fun _ _ => rfl, fun h => (by cases h), fun _ => rfl, fun nl nt x => by simp only [e_runtime_boundsError, cutAV, c_runtime_boundsError_cut]⟩
theorem enc8 : Enc ty 8 4 e_runtime_boundsError := ⟨sz8, by decide, fun _ => rfl, fun _ _ => rfl, fun h => (by cases h), fun _ => rfl, fun nl nt x => by simp only [e_runtime_boundsError, cutAV, c_runtime_boundsError_cut]⟩
structure runtime_errorAddressString where
  msg : List (BitVec 8)
  addr : BitVec 64
  deriving DecidableEq
def c_runtime_errorAddressString (x : runtime_errorAddressString) : List AV := [eS x.msg, (@eU .u64 64) x.addr]
def e_runtime_errorAddressString (x : runtime_errorAddressString) : AV := .agg (c_runtime_errorAddressString x)
def z_runtime_errorAddressString : runtime_errorAddressString := ⟨([] : List (BitVec 8)), 0#64⟩
theorem c_runtime_errorAddressString_cut (nl nt : Nat → Option Nat) (x : runtime_errorAddressString) : cutL nl nt (c_runtime_errorAddressString x) = c_runtime_errorAddressString x := by simp only [cutL, e_runtime_errorAddressString, c_runtime_errorAddressString, cutAV, (enc_s td9 sz9).cut nl nt, (enc_u td12 sz12).cut nl nt]
theorem enc13 : Enc ty 13 2 e_runtime_errorAddressString := ⟨sz13, by decide, fun _ => rfl, fun _ _ => rfl, fun h => (by cases h), fun _ => rfl, fun nl nt x => by simp only [e_runtime_errorAddressString, cutAV, c_runtime_errorAddressString_cut]⟩
theorem enc14 : Enc ty 14 2 e_runtime_errorAddressString := ⟨sz14, by decide, fun _ => rfl, fun _ _ => rfl, fun h => (by cases h), fun _ => rfl, fun nl nt x => by simp only [e_runtime_errorAddressString, cutAV, c_runtime_errorAddressString_cut]⟩
structure butterylaw08_Op where
  Kind : Int
  Class : Int
  N : Int
  deriving DecidableEq
def c_butterylaw08_Op (x : butterylaw08_Op) : List AV := [eI x.Kind, eI x.Class, eI x.N]
def e_butterylaw08_Op (x : butterylaw08_Op) : AV := .agg (c_butterylaw08_Op x)
def z_butterylaw08_Op : butterylaw08_Op := ⟨(0 : Int), (0 : Int), (0 : Int)⟩
theorem c_butterylaw08_Op_cut (nl nt : Nat → Option Nat) (x : butterylaw08_Op) : cutL nl nt (c_butterylaw08_Op x) = c_butterylaw08_Op x := by simp only [cutL, e_butterylaw08_Op, c_butterylaw08_Op, cutAV, (enc_i64 td3 sz3).cut nl nt, (enc_i64 td3 sz3).cut nl nt, (enc_i64 td3 sz3).cut nl nt]
theorem enc32 : Enc ty 32 3 e_butterylaw08_Op := ⟨sz32, by decide, fun _ => rfl, fun _ _ => rfl, fun h => (by cases h), fun _ => rfl, fun nl nt x => by simp only [e_butterylaw08_Op, cutAV, c_butterylaw08_Op_cut]⟩
theorem enc33 : Enc ty 33 3 e_butterylaw08_Op := ⟨sz33, by decide, fun _ => rfl, fun _ _ => rfl, fun h => (by cases h), fun _ => rfl, fun nl nt x => by simp only [e_butterylaw08_Op, cutAV, c_butterylaw08_Op_cut]⟩
structure butteryref18_Policy where
  Chance : Int
  Limit : Int
  L : List (BitVec 64)
  deriving DecidableEq
def c_butteryref18_Policy (x : butteryref18_Policy) : List AV := [eI x.Chance, eI x.Limit, (eL 1 (@eU .u64 64)) x.L]
def e_butteryref18_Policy (x : butteryref18_Policy) : AV := .agg (c_butteryref18_Policy x)
def z_butteryref18_Policy : butteryref18_Policy := ⟨(0 : Int), (0 : Int), ([] : List (BitVec 64))⟩
theorem c_butteryref18_Policy_cut (nl nt : Nat → Option Nat) (x : butteryref18_Policy) : cutL nl nt (c_butteryref18_Policy x) = c_butteryref18_Policy x := by simp only [cutL, e_butteryref18_Policy, c_butteryref18_Policy, cutAV, (enc_i64 td3 sz3).cut nl nt, (enc_i64 td3 sz3).cut nl nt, (enc_l td41 sz41 (enc_u td48 sz48).cut).cut nl nt]
theorem enc42 : Enc ty 42 3 e_butteryref18_Policy := ⟨sz42, by decide, fun _ => rfl, fun _ _ => rfl, fun h => (by cases h), fun _ => rfl, fun nl nt x => by simp only [e_butteryref18_Policy, cutAV, c_butteryref18_Policy_cut]⟩
theorem enc43 : Enc ty 43 3 e_butteryref18_Policy := ⟨sz43, by decide, fun _ => rfl, fun _ _ => rfl, fun h => (by cases h), fun _ => rfl, fun nl nt x => by simp only [e_butteryref18_Policy, cutAV, c_butteryref18_Policy_cut]⟩
structure butterylaw18_Ask where
  Hash : BitVec 64
  Draw : BitVec 8
  Forget : Bool
  deriving DecidableEq
def c_butterylaw18_Ask (x : butterylaw18_Ask) : List AV := [(@eU .u64 64) x.Hash, (@eU .u8 8) x.Draw, eB x.Forget]
def e_butterylaw18_Ask (x : butterylaw18_Ask) : AV := .agg (c_butterylaw18_Ask x)
def z_butterylaw18_Ask : butterylaw18_Ask := ⟨0#64, 0#8, false⟩
theorem c_butterylaw18_Ask_cut (nl nt : Nat → Option Nat) (x : butterylaw18_Ask) : cutL nl nt (c_butterylaw18_Ask x) = c_butterylaw18_Ask x := by simp only [cutL, e_butterylaw18_Ask, c_butterylaw18_Ask, cutAV, (enc_u td48 sz48).cut nl nt, (enc_u td5 sz5).cut nl nt, (enc_b td4 sz4).cut nl nt]
theorem enc49 : Enc ty 49 3 e_butterylaw18_Ask := ⟨sz49, by decide, fun _ => rfl, fun _ _ => rfl, fun h => (by cases h), fun _ => rfl, fun nl nt x => by simp only [e_butterylaw18_Ask, cutAV, c_butterylaw18_Ask_cut]⟩
theorem enc50 : Enc ty 50 3 e_butterylaw18_Ask := ⟨sz50, by decide, fun _ => rfl, fun _ _ => rfl, fun h => (by cases h), fun _ => rfl, fun nl nt x => by simp only [e_butterylaw18_Ask, cutAV, c_butterylaw18_Ask_cut]⟩
structure butteryref08_Budget where
  Limit : Int
  L : List Int
  deriving DecidableEq
def c_butteryref08_Budget (x : butteryref08_Budget) : List AV := [eI x.Limit, (eL 1 eI) x.L]
def e_butteryref08_Budget (x : butteryref08_Budget) : AV := .agg (c_butteryref08_Budget x)
def z_butteryref08_Budget : butteryref08_Budget := ⟨(0 : Int), ([] : List Int)⟩
theorem c_butteryref08_Budget_cut (nl nt : Nat → Option Nat) (x : butteryref08_Budget) : cutL nl nt (c_butteryref08_Budget x) = c_butteryref08_Budget x := by simp only [cutL, e_butteryref08_Budget, c_butteryref08_Budget, cutAV, (enc_i64 td3 sz3).cut nl nt, (enc_l td59 sz59 (enc_i64 td3 sz3).cut).cut nl nt]
theorem enc60 : Enc ty 60 2 e_butteryref08_Budget := ⟨sz60, by decide, fun _ => rfl, fun _ _ => rfl, fun h => (by cases h), fun _ => rfl, fun nl nt x => by simp only [e_butteryref08_Budget, cutAV, c_butteryref08_Budget_cut]⟩
theorem enc61 : Enc ty 61 2 e_butteryref08_Budget := ⟨sz61, by decide, fun _ => rfl, fun _ _ => rfl, fun h => (by cases h), fun _ => rfl, fun nl nt x => by simp only [e_butteryref08_Budget, cutAV, c_butteryref08_Budget_cut]⟩
structure slab_Budget where
  limit : Int
  used : Int
  count : Vector Int 9
  deriving DecidableEq
def c_slab_Budget (x : slab_Budget) : List AV := [eI x.limit] ++ [eI x.used] ++ (cL eI x.count.toList)
def e_slab_Budget (x : slab_Budget) : AV := .agg (c_slab_Budget x)
def z_slab_Budget : slab_Budget := ⟨(0 : Int), (0 : Int), (Vector.replicate 9 (0 : Int))⟩
theorem c_slab_Budget_cut (nl nt : Nat → Option Nat) (x : slab_Budget) : cutL nl nt (c_slab_Budget x) = c_slab_Budget x := by simp only [c_slab_Budget, cutL, cutL_append, (enc_i64 td3 sz3).cut nl nt, (enc_i64 td3 sz3).cut nl nt, cut_cL (enc_i64 td3 sz3).cut nl nt]
theorem g_slab_Budget_limit (x : slab_Budget) : acut ty 3 (c_slab_Budget x) 0 = some (eI x.limit) := rfl
theorem s_slab_Budget_limit (x : slab_Budget) (y : Int) : repl (c_slab_Budget x) 0 (eI y).cells = c_slab_Budget { x with limit := y } := rfl
theorem g_slab_Budget_used (x : slab_Budget) : acut ty 3 (c_slab_Budget x) 1 = some (eI x.used) := rfl
theorem s_slab_Budget_used (x : slab_Budget) (y : Int) : repl (c_slab_Budget x) 1 (eI y).cells = c_slab_Budget { x with used := y } := rfl
def a_slab_Budget_count (x : slab_Budget) : List AV := ([eI x.limit]) ++ ([eI x.used])
def b_slab_Budget_count (x : slab_Budget) : List AV := []
theorem sp_slab_Budget_count (x : slab_Budget) : c_slab_Budget x = a_slab_Budget_count x ++ (cL eI x.count.toList ++ b_slab_Budget_count x) := by simp only [c_slab_Budget, a_slab_Budget_count, b_slab_Budget_count, List.append_assoc, List.nil_append, List.append_nil, List.cons_append]
theorem al_slab_Budget_count (x : slab_Budget) : (a_slab_Budget_count x).length = 2 := by simp [a_slab_Budget_count, cL_length (enc_i64 td3 sz3).len]
theorem ah_slab_Budget_count (x : slab_Budget) : (a_slab_Budget_count x ++ cL eI x.count.toList).length = 11 := by rw [List.length_append, al_slab_Budget_count, cL_length (enc_i64 td3 sz3).len, Vector.length_toList]
theorem cf_slab_Budget (x : slab_Budget) : (c_slab_Budget x).all flatAV = true := by
  have h0 : (cL eI x.count.toList).all flatAV = true := all_flat_cL (enc_i64 td3 sz3) _
  simp only [c_slab_Budget, List.all_append, h0]; rfl
theorem cl_slab_Budget (x : slab_Budget) : (c_slab_Budget x).length = 11 := by simp [c_slab_Budget, cL_length (enc_i64 td3 sz3).len]
structure admit_Policy where
  chance : Int
  limit : Int
  ring : Vector (BitVec 64) 64
  first_ : Int
  count : Int
  deriving DecidableEq
def c_admit_Policy (x : admit_Policy) : List AV := [eI x.chance] ++ [eI x.limit] ++ (cL (@eU .u64 64) x.ring.toList) ++ [eI x.first_] ++ [eI x.count]
def e_admit_Policy (x : admit_Policy) : AV := .agg (c_admit_Policy x)
def z_admit_Policy : admit_Policy := ⟨(0 : Int), (0 : Int), (Vector.replicate 64 0#64), (0 : Int), (0 : Int)⟩
theorem c_admit_Policy_cut (nl nt : Nat → Option Nat) (x : admit_Policy) : cutL nl nt (c_admit_Policy x) = c_admit_Policy x := by simp only [c_admit_Policy, cutL, cutL_append, (enc_i64 td3 sz3).cut nl nt, (enc_i64 td3 sz3).cut nl nt, cut_cL (enc_u td48 sz48).cut nl nt, (enc_i64 td3 sz3).cut nl nt, (enc_i64 td3 sz3).cut nl nt]
theorem g_admit_Policy_chance (x : admit_Policy) : acut ty 3 (c_admit_Policy x) 0 = some (eI x.chance) := rfl
theorem s_admit_Policy_chance (x : admit_Policy) (y : Int) : repl (c_admit_Policy x) 0 (eI y).cells = c_admit_Policy { x with chance := y } := rfl
theorem g_admit_Policy_limit (x : admit_Policy) : acut ty 3 (c_admit_Policy x) 1 = some (eI x.limit) := rfl
theorem s_admit_Policy_limit (x : admit_Policy) (y : Int) : repl (c_admit_Policy x) 1 (eI y).cells = c_admit_Policy { x with limit := y } := rfl
def a_admit_Policy_ring (x : admit_Policy) : List AV := ([eI x.chance]) ++ ([eI x.limit])
def b_admit_Policy_ring (x : admit_Policy) : List AV := ([eI x.first_]) ++ ([eI x.count])
theorem sp_admit_Policy_ring (x : admit_Policy) : c_admit_Policy x = a_admit_Policy_ring x ++ (cL (@eU .u64 64) x.ring.toList ++ b_admit_Policy_ring x) := by simp only [c_admit_Policy, a_admit_Policy_ring, b_admit_Policy_ring, List.append_assoc, List.nil_append, List.append_nil, List.cons_append]
theorem al_admit_Policy_ring (x : admit_Policy) : (a_admit_Policy_ring x).length = 2 := by simp [a_admit_Policy_ring, cL_length (enc_u td48 sz48).len]
theorem ah_admit_Policy_ring (x : admit_Policy) : (a_admit_Policy_ring x ++ cL (@eU .u64 64) x.ring.toList).length = 66 := by rw [List.length_append, al_admit_Policy_ring, cL_length (enc_u td48 sz48).len, Vector.length_toList]
theorem g_admit_Policy_first_ (x : admit_Policy) : acut ty 3 (c_admit_Policy x) 66 = some (eI x.first_) := by rw [sp_admit_Policy_ring, ← List.append_assoc]; exact acut_r (L := 66) (o := 0) (ah_admit_Policy_ring x) rfl
theorem s_admit_Policy_first_ (x : admit_Policy) (y : Int) : repl (c_admit_Policy x) 66 (eI y).cells = c_admit_Policy { x with first_ := y } := by rw [sp_admit_Policy_ring, sp_admit_Policy_ring, ← List.append_assoc, ← List.append_assoc]; exact (repl_r (L := 66) (o := 0) (ah_admit_Policy_ring x)).trans rfl
theorem g_admit_Policy_count (x : admit_Policy) : acut ty 3 (c_admit_Policy x) 67 = some (eI x.count) := by rw [sp_admit_Policy_ring, ← List.append_assoc]; exact acut_r (L := 66) (o := 1) (ah_admit_Policy_ring x) rfl
theorem s_admit_Policy_count (x : admit_Policy) (y : Int) : repl (c_admit_Policy x) 67 (eI y).cells = c_admit_Policy { x with count := y } := by rw [sp_admit_Policy_ring, sp_admit_Policy_ring, ← List.append_assoc, ← List.append_assoc]; exact (repl_r (L := 66) (o := 1) (ah_admit_Policy_ring x)).trans rfl
theorem cf_admit_Policy (x : admit_Policy) : (c_admit_Policy x).all flatAV = true := by
  have h0 : (cL (@eU .u64 64) x.ring.toList).all flatAV = true := all_flat_cL (enc_u td48 sz48) _
  simp only [c_admit_Policy, List.all_append, h0]; rfl
theorem cl_admit_Policy (x : admit_Policy) : (c_admit_Policy x).length = 68 := by simp [c_admit_Policy, cL_length (enc_u td48 sz48).len]
structure trouble_fault where
  op : List (BitVec 8)
  at_ : Int
  code : Int
  under : Err
  deriving DecidableEq
def c_trouble_fault (x : trouble_fault) : List AV := [eS x.op, eI x.at_, eI x.code, eErr x.under]
def e_trouble_fault (x : trouble_fault) : AV := .agg (c_trouble_fault x)
def z_trouble_fault : trouble_fault := ⟨([] : List (BitVec 8)), (0 : Int), (0 : Int), Err.nil⟩
theorem c_trouble_fault_cut (nl nt : Nat → Option Nat) (x : trouble_fault) : cutL nl nt (c_trouble_fault x) = c_trouble_fault x := by simp only [cutL, e_trouble_fault, c_trouble_fault, cutAV, (enc_s td9 sz9).cut nl nt, (enc_i64 td3 sz3).cut nl nt, (enc_i64 td44 sz44).cut nl nt, encErr.cut nl nt]
theorem enc82 : Enc ty 82 4 e_trouble_fault := ⟨sz82, by decide, fun _ => rfl, fun _ _ => rfl, fun h => (by cases h), fun x => (by simp only [e_trouble_fault, c_trouble_fault, AV.cells, List.all_cons, List.all_nil, eErr_flat]; rfl), fun nl nt x => by simp only [e_trouble_fault, cutAV, c_trouble_fault_cut]⟩
theorem enc83 : Enc ty 83 4 e_trouble_fault := ⟨sz83, by decide, fun _ => rfl, fun _ _ => rfl, fun h => (by cases h), fun x => (by simp only [e_trouble_fault, c_trouble_fault, AV.cells, List.all_cons, List.all_nil, eErr_flat]; rfl), fun nl nt x => by simp only [e_trouble_fault, cutAV, c_trouble_fault_cut]⟩
structure reflectlite_ValueError where
  Method : List (BitVec 8)
  Kind : BitVec 8
  deriving DecidableEq
def c_reflectlite_ValueError (x : reflectlite_ValueError) : List AV := [eS x.Method, (@eU .u8 8) x.Kind]
def e_reflectlite_ValueError (x : reflectlite_ValueError) : AV := .agg (c_reflectlite_ValueError x)
def z_reflectlite_ValueError : reflectlite_ValueError := ⟨([] : List (BitVec 8)), 0#8⟩
theorem c_reflectlite_ValueError_cut (nl nt : Nat → Option Nat) (x : reflectlite_ValueError) : cutL nl nt (c_reflectlite_ValueError x) = c_reflectlite_ValueError x := by simp only [cutL, e_reflectlite_ValueError, c_reflectlite_ValueError, cutAV, (enc_s td9 sz9).cut nl nt, (enc_u td96 sz96).cut nl nt]
theorem enc131 : Enc ty 131 2 e_reflectlite_ValueError := ⟨sz131, by decide, fun _ => rfl, fun _ _ => rfl, fun h => (by cases h), fun _ => rfl, fun nl nt x => by simp only [e_reflectlite_ValueError, cutAV, c_reflectlite_ValueError_cut]⟩
theorem enc132 : Enc ty 132 2 e_reflectlite_ValueError := ⟨sz132, by decide, fun _ => rfl, fun _ _ => rfl, fun h => (by cases h), fun _ => rfl, fun nl nt x => by simp only [e_reflectlite_ValueError, cutAV, c_reflectlite_ValueError_cut]⟩
structure abi_Method where
  Name : Int
  Mtyp : Int
  Ifn : Int
  Tfn : Int
  deriving DecidableEq
def c_abi_Method (x : abi_Method) : List AV := [(eK .i32) x.Name, (eK .i32) x.Mtyp, (eK .i32) x.Ifn, (eK .i32) x.Tfn]
def e_abi_Method (x : abi_Method) : AV := .agg (c_abi_Method x)
def z_abi_Method : abi_Method := ⟨(0 : Int), (0 : Int), (0 : Int), (0 : Int)⟩
theorem c_abi_Method_cut (nl nt : Nat → Option Nat) (x : abi_Method) : cutL nl nt (c_abi_Method x) = c_abi_Method x := by simp only [cutL, e_abi_Method, c_abi_Method, cutAV, (enc_i td125 sz125).cut nl nt, (enc_i td126 sz126).cut nl nt, (enc_i td139 sz139).cut nl nt, (enc_i td139 sz139).cut nl nt]
theorem enc140 : Enc ty 140 4 e_abi_Method := ⟨sz140, by decide, fun _ => rfl, fun _ _ => rfl, fun h => (by cases h), fun _ => rfl, fun nl nt x => by simp only [e_abi_Method, cutAV, c_abi_Method_cut]⟩
theorem enc141 : Enc ty 141 4 e_abi_Method := ⟨sz141, by decide, fun _ => rfl, fun _ _ => rfl, fun h => (by cases h), fun _ => rfl, fun nl nt x => by simp only [e_abi_Method, cutAV, c_abi_Method_cut]⟩
end Go.Proofs.YthjabhcbkbchjaaDoor
namespace Go.Proofs.YthjabhcbkbchjaaDoor
open Go Go.Va
set_option linter.unusedVariables false
set_option linter.unusedSimpArgs false
set_option maxRecDepth 20000
noncomputable def slab_Size (x0 : Int) : Option (Int) :=
  (
    lt (decide (x0 < (0 : Int))) fun v6 =>
    if v6 = true then
      some true
    else
      lt (decide (x0 ≥ (9 : Int))) fun v9 =>
      some v9
   : Option (Bool)).bind fun s1 =>
    if s1 = true then
      some (0 : Int)
    else
      ((sc x0).map fun m => shl64 (32 : Int) m).bind fun v13 =>
      some v13
end Go.Proofs.YthjabhcbkbchjaaDoor
namespace Go.Proofs.YthjabhcbkbchjaaDoor
open Go Go.Va
set_option linter.unusedVariables false
set_option linter.unusedSimpArgs false
set_option maxRecDepth 20000
noncomputable def slab_Class_b0 (x0 : Int) (c4 : Int) : Option ((Int) ⊕ (Unit ⊕ (Int))) :=
  lt (decide (c4 < (9 : Int))) fun v15 =>
  if v15 = true then
    (slab_Size c4).bind fun v18 =>
    lt (decide (x0 ≤ v18)) fun v20 =>
    if v20 = true then
      some (.inr (.inr c4))
    else
      lt (w64 (c4 + (1 : Int))) fun v24 =>
      some (.inl v24)
  else
    some (.inr (.inl ()))
noncomputable def slab_Class_l0 (x0 : Int) (s : Int) : Option (Unit ⊕ (Int)) := loopO (fun s => slab_Class_b0 x0 s) s
noncomputable def slab_Class (x0 : Int) : Option (Int) :=
  lt (decide (x0 < (0 : Int))) fun v2 =>
  if v2 = true then
    some (-1 : Int)
  else
    (slab_Class_l0 x0 (0 : Int)).bind fun o5 =>
      Sum.elim (fun s12 : Unit =>
        some (-1 : Int)
        ) (fun y => some y) o5
end Go.Proofs.YthjabhcbkbchjaaDoor
namespace Go.Proofs.YthjabhcbkbchjaaDoor
open Go Go.Va
set_option linter.unusedVariables false
set_option linter.unusedSimpArgs false
set_option maxRecDepth 20000
noncomputable def trouble_New (x0 : List (BitVec 8)) (x1 : Int) (x2 : Int) : Option (Err) :=
  lt (x2 == (0 : Int)) fun v2 =>
  if v2 = true then
    some Err.nil
  else
    lt ((⟨x0, x1, x2, Err.nil⟩ : trouble_fault)) fun v5 =>
    some (Err.fault v5.op v5.at_ v5.code v5.under)
end Go.Proofs.YthjabhcbkbchjaaDoor
namespace Go.Proofs.YthjabhcbkbchjaaDoor
open Go Go.Va
set_option linter.unusedVariables false
set_option linter.unusedSimpArgs false
set_option maxRecDepth 20000
noncomputable def slab_New (x0 : Int) : Option ((Option slab_Budget) × Err) :=
  (
    lt (decide (x0 < (1 : Int))) fun v6 =>
    if v6 = true then
      some true
    else
      lt (decide (x0 > (1099511627776 : Int))) fun v9 =>
      some v9
   : Option (Bool)).bind fun s1 =>
    if s1 = true then
      (trouble_New ([98#8, 117#8, 100#8, 103#8, 101#8, 116#8] : List (BitVec 8)) x0 (2 : Int)).bind fun v13 =>
      some (none, v13)
    else
      lt ((⟨x0, (0 : Int), (Vector.replicate 9 (0 : Int))⟩ : slab_Budget)) fun v15 =>
      some (some v15, Err.nil)
end Go.Proofs.YthjabhcbkbchjaaDoor
namespace Go.Proofs.YthjabhcbkbchjaaDoor
open Go Go.Va
set_option linter.unusedVariables false
set_option linter.unusedSimpArgs false
set_option maxRecDepth 20000
noncomputable def slab_Budget_Left (x0 : slab_Budget) : Option (Int) :=
  lt (w64 (x0.limit - x0.used)) fun v2 =>
  some v2
end Go.Proofs.YthjabhcbkbchjaaDoor
namespace Go.Proofs.YthjabhcbkbchjaaDoor
open Go Go.Va
set_option linter.unusedVariables false
set_option linter.unusedSimpArgs false
set_option maxRecDepth 20000
noncomputable def slab_Budget_Take (x0 : slab_Budget) (x1 : Int) : Option (Err × slab_Budget) :=
  (slab_Size x1).bind fun v2 =>
  lt (v2 == (0 : Int)) fun v4 =>
  if v4 = true then
    (trouble_New ([99#8, 108#8, 97#8, 115#8, 115#8] : List (BitVec 8)) x1 (2 : Int)).bind fun v7 =>
    some (v7, x0)
  else
    (slab_Budget_Left x0).bind fun v9 =>
    lt (decide (v2 > v9)) fun v11 =>
    if v11 = true then
      (trouble_New ([116#8, 97#8, 107#8, 101#8] : List (BitVec 8)) v2 (4 : Int)).bind fun v14 =>
      some (v14, x0)
    else
      lt (w64 (x0.used + v2)) fun v16 =>
      lt (({ x0 with used := v16 } : slab_Budget)) fun c18 =>
      (chk 9 x1).bind fun v21 =>
      (ixA 9 (c18.count).toList x1).bind fun v23 =>
      lt (w64 (v23 + (1 : Int))) fun v25 =>
      (chk 9 x1).bind fun v27 =>
      (updV (c18.count) x1 (fun _ => v25)).bind fun v29 =>
      lt (({ c18 with count := v29 } : slab_Budget)) fun c31 =>
      some (Err.nil, c31)
end Go.Proofs.YthjabhcbkbchjaaDoor
namespace Go.Proofs.YthjabhcbkbchjaaDoor
open Go Go.Va
set_option linter.unusedVariables false
set_option linter.unusedSimpArgs false
set_option maxRecDepth 20000
noncomputable def slab_Budget_Count (x0 : slab_Budget) (x1 : Int) : Option (Int) :=
  (slab_Size x1).bind fun v2 =>
  lt (v2 == (0 : Int)) fun v4 =>
  if v4 = true then
    some (0 : Int)
  else
    (chk 9 x1).bind fun v7 =>
    (ixA 9 (x0.count).toList x1).bind fun v9 =>
    some v9
end Go.Proofs.YthjabhcbkbchjaaDoor
namespace Go.Proofs.YthjabhcbkbchjaaDoor
open Go Go.Va
set_option linter.unusedVariables false
set_option linter.unusedSimpArgs false
set_option maxRecDepth 20000
noncomputable def slab_Budget_Used (x0 : slab_Budget) : Option (Int) :=
  some x0.used
end Go.Proofs.YthjabhcbkbchjaaDoor
namespace Go.Va
open Go Go.RowKit
set_option linter.unusedVariables false
set_option linter.unusedSimpArgs false

/-- What is known at a law's begin: what lies in memory. -/
def argG (w : World) : Ghost := ⟨fun b o => match w.cell? ⟨b, o, none⟩ with | some v => if v.oneCell' = true then some v else none | none => none, fun _ => none, fun _ => none, 0, fun _ => false⟩
theorem argG_fz {w : World} {b o : Nat} {v : Value} (h : w.cell? ⟨b, o, none⟩ = some v) (h1 : v.oneCell' = true) : (argG w).fz b o = some v := by
  simp [argG, h, h1]
theorem argG_inv (w : World) {gl : List (Addr × Value)} (hgl : ∀ p ∈ gl, w.cell? p.1 = some p.2) : Inv w (argG w) w ⟨[], [], gl⟩ := by
  refine ⟨Below.refl _ _, fun b o v h => ?_, fun id c h => by simp at h, fun id b o h => by simp [argG] at h, fun id b h => by simp [argG] at h, fun i j b h => by simp [argG] at h, fun t b top en h => by simp at h, fun t x h => by simp [argG] at h, fun t t' x x' h => by simp at h, Nat.le_refl _, fun b h => by simp [argG] at h, hgl⟩
  simp only [argG] at h
  split at h
  case h_2 => cases h
  rename_i u hu
  split at h
  case isFalse => cases h
  rename_i h1
  cases h
  exact ⟨hu, h1⟩
/-- THE BRIDGE. -/
theorem ACall.said {P : Program} {n : FuncId} {args : List AV} {vs : Array Value} {w : World} {gl : List (Addr × Value)} (hgl : ∀ p ∈ gl, w.cell? p.1 = some p.2) (hc : ACall P n args ⟨[], [], gl⟩ (fun a τ => a = eB true ∧ τ = ⟨[], [], gl⟩)) (hr : RelL (argG w) vs.toList args) :
    Calls P n vs w fun e w' => e = .returned (.bool true) ∧ Below w.heap.size w w' :=
  (hc.2 w (argG w) w vs (argG_inv w hgl) hr).mono fun e w' ⟨v, a, σ', G', h1, _, h3, h4, h5, _⟩ => by
    subst h5
    cases h4
    exact ⟨h1, h3.below⟩

/-- Data of a type, in memory, are values of a kind. -/
def Opens (P : Program) (t : TypeId) {α : Type} (e : α → AV) (wf : α → Prop) : Prop :=
  ∀ {H : Type} (enc : TypeId × Value → H) (w : World) (fuel : Nat) (cs : List Value) (x : DataW H × List MemPlace), DataW.trod enc P w 0 (fun _ => true) true fuel t cs = some x → ∃ y : α, wf y ∧ RelL (argG w) cs (e y).cells ∧ ∀ v ∈ cs, v.oneCell' = true
def wfI (k : IntKind) (n : Int) : Prop := k.min ≤ n ∧ n ≤ k.max
def wfL {α : Type} (wf : α → Prop) (l : List α) : Prop := l.length ≤ maxLen ∧ ∀ x ∈ l, wf x
def wfS (s : List (BitVec 8)) : Prop := s.length ≤ maxLen
def wfT {α : Type} (_ : α) : Prop := True
theorem wfI_i64 {n : Int} (h : wfI .i64 n) : -9223372036854775808 ≤ n ∧ n ≤ 9223372036854775807 := h
section
variable {P : Program} {Ty : TypeId → Option TI} {t E : TypeId}
theorem wf_iff {k : IntKind} {n : Int} (h : (Lit.int k n).wf = true) : wfI k n := by
  simp only [Lit.wf, Bool.and_eq_true, decide_eq_true_eq] at h; exact h
theorem opens_i {k : IntKind} (h : P.underlying t = some (.int k)) : Opens P t (eK k) (wfI k) := by
  intro H enc w fuel cs x hx
  obtain ⟨n, rfl, _, hw⟩ := DataW.trod_int h hx
  exact ⟨n, wf_iff hw, (RelL.nil _).cons (.int _ _), by simp [Value.oneCell']⟩
theorem opens_i64 (h : P.underlying t = some (.int .i64)) : Opens P t eI (wfI .i64) := opens_i h
theorem opens_u {k : IntKind} {m : Nat} (hs : k.signed = false) (hb : k.bits = m) (h : P.underlying t = some (.int k)) : Opens P t (@eU k m) wfT := by
  subst hb
  intro H enc w fuel cs x hx
  obtain ⟨n, rfl, _, hw⟩ := DataW.trod_int h hx
  have hw := wf_iff hw
  simp only [wfI, IntKind.min, IntKind.max, hs, Bool.false_eq_true, if_false] at hw
  refine ⟨BitVec.ofInt k.bits n, trivial, ?_, by simp [Value.oneCell']⟩
  have e : ((BitVec.ofInt k.bits n).toNat : Int) = n := by
    rw [BitVec.toNat_ofInt]
    have h2 : (2 : Int) ^ k.bits = ((2 ^ k.bits : Nat) : Int) := by simp
    rw [h2] at hw
    rw [Int.emod_eq_of_lt hw.1 (by omega), Int.toNat_of_nonneg hw.1]
  show RelL _ _ [AV.int k ((BitVec.ofInt k.bits n).toNat : Int)]
  rw [e]
  exact (RelL.nil _).cons (.int _ _)
theorem opens_b (h : P.underlying t = some .bool) : Opens P t eB wfT := by
  intro H enc w fuel cs x hx
  obtain ⟨b, rfl, _⟩ := DataW.trod_bool h hx
  exact ⟨b, trivial, (RelL.nil _).cons (.bool _), by simp [Value.oneCell']⟩
theorem opens_s (h : P.underlying t = some .string) : Opens P t eS wfS := by
  intro H enc w fuel cs x hx
  obtain ⟨s, rfl, _, hs⟩ := DataW.trod_string h hx
  refine ⟨s.data.toList.map (·.toBitVec), ?_, ?_, by simp [Value.oneCell']⟩
  · simpa [wfS] using hs
  · show RelL _ _ [AV.str _]
    rw [mkB_of]
    exact (RelL.nil _).cons (.str _)
theorem cellsOf_ty (hT : TyOk P Ty) {i : TI} (h : Ty t = some i) : P.cellsOf t = i.sz := by
  obtain ⟨_, ti, z, h1, h2, _⟩ := hT t i h
  simp [Program.cellsOf, h1, h2]
theorem cellsOf_sz (hT : TyOk P Ty) {sz : Nat} (h : szOf Ty t = sz) (h0 : sz ≠ 0) : P.cellsOf t = sz := by
  unfold szOf at h
  split at h
  · rename_i i hi; rw [cellsOf_ty hT hi, h]
  · exact absurd h.symm h0
theorem opens_l (hT : TyOk P Ty) {sz : Nat} {α : Type} {e : α → AV} {wf : α → Prop} (h : P.underlying t = some (.slice E)) (he : Enc Ty E sz e) (ho : Opens P E e wf) : Opens P t (eL sz e) (wfL wf) := by
  intro H enc w fuel cs x hx
  rcases DataW.trod_slice h hx with ⟨rfl, _⟩ | ⟨a, len, cap, elems, rest, n, _, rfl, _, _, hlc, hcm, hel, hat, _, _⟩
  · exact ⟨[], ⟨Nat.zero_le _, fun x hx => by cases hx⟩, (RelL.nil _).cons (.sl0 none 0 .no sz (Nat.zero_le _) (.inl rfl)), by simp [Value.oneCell']⟩
  · rw [cellsOf_sz hT he.ty he.pos] at hat
    have key : ∀ i, i < len → ∃ cs' y, w.cells? 0 (a.add (i * sz)) sz = some cs' ∧ wf y ∧ RelL (argG w) cs' (e y).cells ∧ ∀ v ∈ cs', v.oneCell' = true := fun i hi => by
      have h1 := hat i hi
      rw [List.getElem?_eq_getElem (by omega)] at h1
      obtain ⟨cs', h2, h3⟩ := Option.bind_eq_some_iff.1 h1
      obtain ⟨y, h4, h5, h6⟩ := ho enc w n cs' _ h3
      exact ⟨cs', y, h2, h4, h5, h6⟩
    -- the values, one by one
    have all : ∀ m, m ≤ len → ∃ ys : List α, ys.length = m ∧ (∀ y ∈ ys, wf y) ∧ ∀ (i : Nat) (y : α), ys[i]? = some y → ∃ cs', w.cells? 0 (a.add (i * sz)) sz = some cs' ∧ RelL (argG w) cs' (e y).cells ∧ ∀ v ∈ cs', v.oneCell' = true := by
      intro m
      induction m with
      | zero => exact fun _ => ⟨[], rfl, (fun y hy => by cases hy), fun i y hy => by simp at hy⟩
      | succ m ih =>
        intro hm
        obtain ⟨ys, h1, h2, h3⟩ := ih (by omega)
        obtain ⟨cs', y, k1, k2, k3, k4⟩ := key m (by omega)
        refine ⟨ys ++ [y], by simp [h1], fun z hz => ?_, fun i z hz => ?_⟩
        · rcases List.mem_append.1 hz with hz | hz
          · exact h2 z hz
          · simp at hz; subst hz; exact k2
        · rw [List.getElem?_append] at hz
          split at hz
          · exact h3 i z hz
          · rename_i hi
            have : i - ys.length = 0 := by
              rcases Nat.eq_zero_or_pos (i - ys.length) with h0 | h0
              · exact h0
              · rw [List.getElem?_eq_none (by simp; omega)] at hz; cases hz
            rw [this] at hz
            simp at hz
            subst hz
            rw [show i = m by omega]
            exact ⟨cs', k1, k3, k4⟩
    obtain ⟨ys, h1, h2, h3⟩ := all len (Nat.le_refl _)
    refine ⟨ys, ⟨by omega, h2⟩, (RelL.nil _).cons ?_, by simp [Value.oneCell']⟩
    have hz : ∀ z ∈ ys.map e, z.cells.length = sz := fun z hz => by obtain ⟨y, _, rfl⟩ := List.mem_map.1 hz; exact he.len y
    cases ys with
    | nil =>
      simp at h1
      subst h1
      exact .sl0 _ _ .no sz hcm (.inl rfl)
    | cons y0 ys0 =>
      have hsp : a.spot = none := by
        obtain ⟨cs', k1, _, _⟩ := h3 0 y0 rfl
        obtain ⟨_, k2, k3⟩ := World.cells?_some k1
        have := k3 0 (Nat.pos_of_ne_zero he.pos)
        rw [Nat.zero_mul] at this
        have e0 : (a.add 0).add 0 = a := by simp [Addr.add]
        rw [e0, List.getElem?_eq_getElem (by have := Nat.pos_of_ne_zero he.pos; omega)] at this
        exact World.cell?_spot this
      obtain ⟨b, o, sp⟩ := a
      simp only at hsp
      subst hsp
      have hl : ((y0 :: ys0).map e).length = len := by rw [List.length_map]; exact h1
      have hcell : ∀ (i : Nat) (z : AV) (j : Nat) (u : AV), ((y0 :: ys0).map e)[i]? = some z → z.cells[j]? = some u → ∃ v, w.cell? ⟨b, o + i * sz + j, none⟩ = some v ∧ v.oneCell' = true ∧ Rel (argG w) v u := by
        intro i z j u e1 e2
        rw [List.getElem?_map, Option.map_eq_some_iff] at e1
        obtain ⟨y, e1, rfl⟩ := e1
        obtain ⟨cs', k1, k2, k3⟩ := h3 i y e1
        obtain ⟨_, k4, k5⟩ := World.cells?_some k1
        obtain ⟨v, hv, hr⟩ := k2.get e2
        have hj : j < sz := by rw [← k4]; exact (List.getElem?_eq_some_iff.1 hv).1
        have := k5 j hj
        rw [Addr.add_lit, Addr.add_lit, hv] at this
        exact ⟨v, this, k3 v (List.mem_of_getElem? hv), hr⟩
      have key2 := Rel.sl (G := argG w) b o cap .no sz ((y0 :: ys0).map e) (fun i j => (w.cell? ⟨b, o + i * sz + j, none⟩).getD undef) (by rw [hl]; exact hlc) hcm hz (fun i z j u e1 e2 => by
        obtain ⟨v, k1, k2, k3⟩ := hcell i z j u e1 e2
        rw [k1]
        exact argG_fz k1 k2) (fun i z j u e1 e2 => by
        obtain ⟨v, k1, k2, k3⟩ := hcell i z j u e1 e2
        rw [k1]
        exact k3) trivial
      rw [hl] at key2
      exact key2
/-! ### structures -/
theorem rel_piece {G : Ghost} {cs : List Value} {o s : Nat} {a b : List AV} (h : RelL G ((cs.drop o).take s) a) (k : RelL G (cs.drop (o + s)) b) : RelL G (cs.drop o) (a ++ b) := by
  have := h.append k
  rw [← List.drop_drop, List.take_append_drop] at this
  exact this
theorem rel_end {G : Ghost} {cs : List Value} {n : Nat} (h : cs.length = n) : RelL G (cs.drop n) [] := by
  rw [List.drop_of_length_le (by omega)]; exact RelL.nil G
theorem one_piece {cs : List Value} {o s : Nat} (h : ∀ v ∈ (cs.drop o).take s, v.oneCell' = true) (k : ∀ v ∈ cs.drop (o + s), v.oneCell' = true) : ∀ v ∈ cs.drop o, v.oneCell' = true := by
  intro v hv
  rw [← List.take_append_drop s (cs.drop o), List.drop_drop] at hv
  rcases List.mem_append.1 hv with hv | hv
  · exact h v hv
  · exact k v hv
theorem one_end {cs : List Value} {n : Nat} (h : cs.length = n) : ∀ v ∈ cs.drop n, v.oneCell' = true := by
  rw [List.drop_of_length_le (by omega)]; intro v hv; cases hv
theorem opens_f {fs : Array Field} {α : Type} {e : α → AV} {wf : α → Prop} {H : Type} {enc : TypeId × Value → H} {w : World} {m : Nat} {cs : List Value} {xs : List (DataW H × List MemPlace)} (hx : ∀ (i : Nat) (f : Field), fs[i]? = some f → DataW.trod enc P w 0 (fun _ => true) true m f.type ((cs.drop f.offset).take (P.cellsOf f.type)) = xs[i]?) (hl : xs.length = fs.size)
    (i : Nat) {f : Field} {o s : Nat} (hf : fs[i]? = some f) (ht : Opens P f.type e wf) (ho : f.offset = o) (hs : P.cellsOf f.type = s) : ∃ y, wf y ∧ RelL (argG w) ((cs.drop o).take s) (e y).cells ∧ ∀ v ∈ (cs.drop o).take s, v.oneCell' = true := by
  subst ho; subst hs
  have h1 := hx i f hf
  have hi : i < fs.size := (Array.getElem?_eq_some_iff.1 hf).1
  rw [List.getElem?_eq_getElem (by omega)] at h1
  exact ht enc w m _ _ h1
/-- An argument, opened. -/
theorem Opens.arg {α : Type} {e : α → AV} {wf : α → Prop} (ho : Opens P t e wf) {sz : Nat} (he : Enc Ty t sz e) (hd : TdOk P t (tdOf Ty t)) {H : Type} {enc : TypeId × Value → H} {w : World} {r : Reach} {b0 : Nat} {v : Value} {d : DataW H} {ps : List MemPlace} (hval : Value.okWide P w r b0 t v) (h : DataW.Trod enc P w 0 (fun _ => true) true t v d ps) : ∃ y : α, wf y ∧ Rel (argG w) v (e y) := by
  obtain ⟨fuel, hf⟩ := h
  obtain ⟨y, h1, h2, _⟩ := ho enc w fuel _ _ hf
  refine ⟨y, h1, ?_⟩
  cases ha : isAggTD (tdOf Ty t) with
  | true =>
    have : ∃ cs, v = .agg cs := by
      cases htd : tdOf Ty t <;> rw [htd] at ha hd <;> simp [isAggTD] at ha
      · simp only [TdOk] at hd
        simp only [Value.okWide, hd] at hval
        obtain ⟨cs, h, _⟩ := hval; exact ⟨cs, h⟩
      · simp only [TdOk] at hd
        obtain ⟨fs, hd, _⟩ := hd
        simp only [Value.okWide, hd] at hval
        obtain ⟨cs, h, _⟩ := hval; exact ⟨cs, h⟩
    obtain ⟨cs, rfl⟩ := this
    rw [he.agg ha y]
    exact mkAgg (by simpa [Value.cells] using h2)
  | false =>
    rw [he.one ha y] at h2
    have hne : ∀ cs, v ≠ .agg cs := by
      rintro cs rfl
      have hl := h2.len
      simp only [Value.cells, List.length_singleton] at hl
      cases htd : tdOf Ty t <;> rw [htd] at ha hd <;> simp [isAggTD] at ha <;> simp only [TdOk] at hd
      case iface => obtain ⟨ms, hd⟩ := hd; simp [Value.okWide, hd, Cell.okWide, Cell.ok] at hval
      case func => obtain ⟨ps, rs, vv, hd⟩ := hd; simp [Value.okWide, hd, Cell.okWide, Cell.ok] at hval
      all_goals simp [Value.okWide, hd, Cell.okWide, Cell.ok] at hval
    have hc : v.cells.toList = [v] := by cases v <;> first | rfl | exact absurd rfl (hne _)
    rw [hc] at h2
    exact h2.at_ 0 v (e y) rfl rfl
end
end Go.Va
namespace Go.Va
open Go
set_option linter.unusedVariables false
set_option linter.unusedSimpArgs false

theorem loopO_up {S X : Type} {body : S → Option (S ⊕ X)} (g : Nat → S) (n : Nat) {x : X} (h : ∀ i, i < n → body (g i) = some (.inl (g (i + 1)))) (hx : body (g n) = some (.inr x)) : loopO body (g 0) = some x := by
  have key : ∀ k, k ≤ n → loopO body (g (n - k)) = some x := by
    intro k
    induction k with
    | zero => intro _; exact loopO_out hx
    | succ k ih =>
      intro hk
      rw [loopO_in (h (n - (k + 1)) (by omega)), show n - (k + 1) + 1 = n - k by omega]
      exact ih (by omega)
  have := key n (Nat.le_refl _)
  rwa [Nat.sub_self] at this
/-- What a round comes to that may leave. -/
def nx {S X : Type} (o : Option X) (s : S) : S ⊕ X := match o with | none => .inl s | some y => .inr y
/-- A loop that leaves early, at the first round that says so. -/
theorem loopO_find {S X : Type} {body : S → Option (S ⊕ X)} (g : Nat → S) (n : Nat) (f : Nat → Option X) {x : X} (h : ∀ i, i < n → body (g i) = some (nx (f i) (g (i + 1)))) (hx : body (g n) = some (.inr x)) : loopO body (g 0) = some (((List.range n).findSome? f).getD x) := by
  have key : ∀ k, k ≤ n → loopO body (g (n - k)) = some (((List.range' (n - k) k).findSome? f).getD x) := by
    intro k
    induction k with
    | zero => intro _; exact loopO_out hx
    | succ k ih =>
      intro hk
      rw [List.range'_succ, List.findSome?_cons]
      have h1 := h (n - (k + 1)) (by omega)
      cases hf : f (n - (k + 1)) with
      | none =>
        rw [hf] at h1
        rw [loopO_in (s' := g (n - (k + 1) + 1)) h1, show n - (k + 1) + 1 = n - k by omega]
        exact ih (by omega)
      | some y => rw [hf] at h1; exact loopO_out h1
  have := key n (Nat.le_refl _)
  rwa [Nat.sub_self, ← List.range_eq_range'] at this
theorem loopO_inv {S X : Type} {body : S → Option (S ⊕ X)} (I : S → Prop) (m : S → Nat) (Q : X → Prop) (h : ∀ s, I s → (∃ s', body s = some (.inl s') ∧ I s' ∧ m s' < m s) ∨ ∃ x, body s = some (.inr x) ∧ Q x) {s : S} (h0 : I s) : ∃ x, loopO body s = some x ∧ Q x := by
  generalize hk : m s = k
  induction k using Nat.strongRecOn generalizing s with
  | _ k ih =>
    rcases h s h0 with ⟨s', h1, h2, h3⟩ | ⟨x, h1, h2⟩
    · obtain ⟨x, k1, k2⟩ := ih (m s') (hk ▸ h3) h2 rfl
      exact ⟨x, by rw [loopO_in h1]; exact k1, k2⟩
    · exact ⟨x, loopO_out h1, h2⟩
/-- A loop that goes through a list. -/
theorem loopO_foldl {α σ X : Type} (l : List α) (f : σ → α → σ) (fin : σ → X) {body : σ × Int → Option ((σ × Int) ⊕ X)} (h1 : ∀ (s : σ) (i : Nat) (hi : i < l.length), body (s, (i : Int)) = some (.inl (f s l[i], ((i + 1 : Nat) : Int)))) (h2 : ∀ s, body (s, (l.length : Int)) = some (.inr (fin s))) (s0 : σ) : loopO body (s0, 0) = some (fin (l.foldl f s0)) := by
  have := loopO_up (body := body) (fun i => ((l.take i).foldl f s0, (i : Int))) l.length (x := fin (l.foldl f s0)) (fun i hi => by
    rw [h1 _ i hi, List.take_succ_eq_append_getElem hi, List.foldl_append]; rfl) (by rw [List.take_length]; exact h2 _)
  simpa using this
theorem loopO_foldl' {α σ X : Type} (l : List α) (f : σ → α → σ) (fin : σ → X) {body : Int × σ → Option ((Int × σ) ⊕ X)} (h1 : ∀ (s : σ) (i : Nat) (hi : i < l.length), body ((i : Int), s) = some (.inl (((i + 1 : Nat) : Int), f s l[i]))) (h2 : ∀ s, body ((l.length : Int), s) = some (.inr (fin s))) (s0 : σ) : loopO body (0, s0) = some (fin (l.foldl f s0)) := by
  have := loopO_up (body := body) (fun i => ((i : Int), (l.take i).foldl f s0)) l.length (x := fin (l.foldl f s0)) (fun i hi => by
    rw [h1 _ i hi, List.take_succ_eq_append_getElem hi, List.foldl_append]; rfl) (by rw [List.take_length]; exact h2 _)
  simpa using this
/-- A number of rounds. -/
theorem loopO_iter {σ X : Type} (n : Nat) (f : Nat → σ → σ) (fin : σ → X) {body : σ × Int → Option ((σ × Int) ⊕ X)} (h1 : ∀ (s : σ) (i : Nat), i < n → body (s, (i : Int)) = some (.inl (f i s, ((i + 1 : Nat) : Int)))) (h2 : ∀ s, body (s, (n : Int)) = some (.inr (fin s))) (s0 : σ) : loopO body (s0, 0) = some (fin ((List.range n).foldl (fun s i => f i s) s0)) := by
  have := loopO_up (body := body) (fun i => ((List.range i).foldl (fun s i => f i s) s0, (i : Int))) n (x := fin ((List.range n).foldl (fun s i => f i s) s0)) (fun i hi => by
    rw [h1 _ i hi, List.range_succ, List.foldl_append]; rfl) (h2 _)
  simpa using this

theorem ix_nat {α : Type} {l : List α} {i : Nat} (h : i < l.length) : ix l (i : Int) = some l[i] := by
  unfold ix
  rw [if_pos (by omega)]
  simp [h]
theorem ix_get {α : Type} (l : List α) (i : Nat) : ix l (i : Int) = l[i]? := by
  unfold ix
  rw [if_pos (by omega)]
  simp
theorem ix_none {α : Type} {l : List α} {i : Int} (h : i < 0 ∨ (l.length : Int) ≤ i) : ix l i = none := by
  unfold ix
  split
  · rw [List.getElem?_eq_none]; omega
  · rfl
theorem ixA_nat {α : Type} {l : List α} {n i : Nat} (hn : i < n) (h : i < l.length) : ixA n l (i : Int) = some l[i] := by
  unfold ixA
  rw [if_pos ⟨by omega, by omega⟩]
  simp [h]
theorem w64_nat {i : Nat} (h : i < 9223372036854775807) : w64 ((i : Int) + 1) = ((i + 1 : Nat) : Int) := by
  rw [w64_eq (by omega) (by omega)]; omega
theorem whole_eq {α : Type} {n : Nat} {l : List α} (h : l.length = n) : whole n l = some l := by simp [whole, h]
theorem stW_eq {α : Type} {n : Nat} {l y : List α} (h : l.length = n) (h2 : y.length = n) : stW n l y = some y := by simp [stW, whole, h, h2]
theorem app_eq {α : Type} {b : Nat} {l m : List α} (h : (l.length + m.length) * b ≤ 140737488355328) : app b l m = some (l ++ m) := by simp [app, h]
theorem cutTo_eq {α : Type} {l : List α} {n : Nat} (h : n ≤ l.length) : cutTo l (n : Int) = some (l.take n) := by
  unfold cutTo
  rw [if_pos ⟨by omega, by omega⟩]; simp
theorem cutFrom_eq {α : Type} {l : List α} {n : Nat} (h : n ≤ l.length) : cutFrom l (n : Int) = some (l.drop n) := by
  unfold cutFrom
  rw [if_pos ⟨by omega, by omega⟩]; simp
theorem cutO_eq {α : Type} {l : List α} {n m : Nat} (h : n ≤ m) (h2 : m ≤ l.length) : cutO l (n : Int) (m : Int) = some ((l.take m).drop n) := by
  unfold cutO
  rw [if_pos ⟨by omega, by omega, by omega⟩]; simp
theorem sc_eq {y : Int} (h : 0 ≤ y) : sc y = some y.toNat := by
  unfold sc; rw [if_neg (by omega)]
theorem dv_eq {y : Int} (h : y ≠ 0) : dv y = some y := by unfold dv; rw [if_neg h]
theorem dvU_eq {w : Nat} {y : BitVec w} (h : y ≠ 0#w) : dvU y = some y := by unfold dvU; rw [if_neg h]
theorem eqA_eq {α : Type} [DecidableEq α] {n : Nat} {x y : List α} (h : x.length = n) (h2 : y.length = n) : eqA n x y = some (x == y) := by simp [eqA, h, h2]
theorem map_len_foldl {α σ : Type} (P : σ → Prop) (f : σ → α → σ) (h : ∀ s a, P s → P (f s a)) : ∀ (l : List α) (s : σ), P s → P (l.foldl f s)
  | [], s, hs => hs
  | a :: l, s, hs => map_len_foldl P f h l _ (h s a hs)
end Go.Va
namespace Go.Proofs.YthjabhcbkbchjaaDoor
open Go Go.Va
set_option linter.unusedVariables false
set_option linter.unusedSimpArgs false
set_option maxRecDepth 20000
/-- The code of a fault: of the first one under it that has one. -/
def codeOf : Err → Int
  | .nil => 0
  | .fault o a c u => if c = 0 then codeOf u else c
def trouble_Of_b0 : Err → Option (Err ⊕ (Unit ⊕ Int))
  | .nil => some (.inr (.inl ()))
  | .fault o a c u => if (c != 0) = true then some (.inr (.inr c)) else some (.inl u)
def trouble_Of (x : Err) : Option Int := some (codeOf x)
theorem trouble_Of_l0 : ∀ x : Err, loopO trouble_Of_b0 x = some (if codeOf x = 0 then .inl () else .inr (codeOf x))
  | .nil => loopO_out rfl
  | .fault o a c u => by
    by_cases hc : c = 0
    · rw [loopO_in (s' := u) (by simp [trouble_Of_b0, hc]), trouble_Of_l0 u]; simp [codeOf, hc]
    · rw [loopO_out (x := .inr c) (by simp [trouble_Of_b0, hc])]; simp [codeOf, hc]
end Go.Proofs.YthjabhcbkbchjaaDoor
namespace Go.Proofs.YthjabhcbkbchjaaDoor
open Go Go.Va
set_option linter.unusedVariables false
set_option linter.unusedSimpArgs false
set_option maxRecDepth 20000
noncomputable def slab_Budget_Fits (x0 : slab_Budget) (x1 : Int) : Option (Bool) :=
  (slab_Class x1).bind fun v2 =>
  lt (decide (v2 ≥ (0 : Int))) fun v4 =>
  if v4 = true then
    (slab_Size v2).bind fun v7 =>
    lt (decide (v7 ≤ x0.limit)) fun v9 =>
    some v9
  else
    some false
end Go.Proofs.YthjabhcbkbchjaaDoor
namespace Go.Proofs.YthjabhcbkbchjaaDoor
open Go Go.Va
set_option linter.unusedVariables false
set_option linter.unusedSimpArgs false
set_option maxRecDepth 20000
noncomputable def butterylaw08_works : Option (Bool) :=
  (slab_New (100 : Int)).bind fun v2 =>
  Option.elim v2.1 (
    (slab_New (0 : Int)).bind fun v8 =>
    Option.elim v8.1 (
      some false
    ) (fun c9 =>
      some false
    )
  ) (fun c3 =>
    (slab_New (0 : Int)).bind fun v14 =>
    Option.elim v14.1 (
      lt (!Err.isNil v2.2) fun v20 =>
      if v20 = true then
        some false
      else
        (slab_Budget_Take c3 (1 : Int)).bind fun v23 =>
        (slab_Budget_Take v23.2 (1 : Int)).bind fun v25 =>
        (trouble_Of v14.2).bind fun v27 =>
        lt (v27 == (2 : Int)) fun v29 =>
        if v29 = true then
          lt (Err.isNil v23.1) fun v32 =>
          if v32 = true then
            (trouble_Of v25.1).bind fun v35 =>
            lt (v35 == (4 : Int)) fun v37 =>
            if v37 = true then
              (slab_Budget_Used v25.2).bind fun v40 =>
              lt (v40 == (64 : Int)) fun v42 =>
              if v42 = true then
                (slab_Budget_Left v25.2).bind fun v45 =>
                lt (v45 == (36 : Int)) fun v47 =>
                if v47 = true then
                  (slab_Class (33 : Int)).bind fun v50 =>
                  lt (v50 == (1 : Int)) fun v52 =>
                  if v52 = true then
                    (slab_Size (8 : Int)).bind fun v55 =>
                    lt (v55 == (8192 : Int)) fun v57 =>
                    if v57 = true then
                      (slab_Class (8193 : Int)).bind fun v60 =>
                      lt (v60 == (-1 : Int)) fun v62 =>
                      if v62 = true then
                        (slab_Budget_Fits v25.2 (64 : Int)).bind fun v65 =>
                        if v65 = true then
                          (slab_Budget_Fits v25.2 (65 : Int)).bind fun v68 =>
                          lt (!v68) fun v70 =>
                          if v70 = true then
                            (slab_Budget_Count v25.2 (1 : Int)).bind fun v73 =>
                            lt (v73 == (1 : Int)) fun v75 =>
                            some v75
                          else
                            some false
                        else
                          some false
                      else
                        some false
                    else
                      some false
                  else
                    some false
                else
                  some false
              else
                some false
            else
              some false
          else
            some false
        else
          some false
    ) (fun c15 =>
      lt (!Err.isNil v2.2) fun v77 =>
      if v77 = true then
        some false
      else
        (slab_Budget_Take c3 (1 : Int)).bind fun v80 =>
        (slab_Budget_Take v80.2 (1 : Int)).bind fun v82 =>
        (trouble_Of v14.2).bind fun v84 =>
        lt (v84 == (2 : Int)) fun v86 =>
        if v86 = true then
          lt (Err.isNil v80.1) fun v89 =>
          if v89 = true then
            (trouble_Of v82.1).bind fun v92 =>
            lt (v92 == (4 : Int)) fun v94 =>
            if v94 = true then
              (slab_Budget_Used v82.2).bind fun v97 =>
              lt (v97 == (64 : Int)) fun v99 =>
              if v99 = true then
                (slab_Budget_Left v82.2).bind fun v102 =>
                lt (v102 == (36 : Int)) fun v104 =>
                if v104 = true then
                  (slab_Class (33 : Int)).bind fun v107 =>
                  lt (v107 == (1 : Int)) fun v109 =>
                  if v109 = true then
                    (slab_Size (8 : Int)).bind fun v112 =>
                    lt (v112 == (8192 : Int)) fun v114 =>
                    if v114 = true then
                      (slab_Class (8193 : Int)).bind fun v117 =>
                      lt (v117 == (-1 : Int)) fun v119 =>
                      if v119 = true then
                        (slab_Budget_Fits v82.2 (64 : Int)).bind fun v122 =>
                        if v122 = true then
                          (slab_Budget_Fits v82.2 (65 : Int)).bind fun v125 =>
                          lt (!v125) fun v127 =>
                          if v127 = true then
                            (slab_Budget_Count v82.2 (1 : Int)).bind fun v130 =>
                            lt (v130 == (1 : Int)) fun v132 =>
                            some v132
                          else
                            some false
                        else
                          some false
                      else
                        some false
                    else
                      some false
                  else
                    some false
                else
                  some false
              else
                some false
            else
              some false
          else
            some false
        else
          some false
    )
  )
end Go.Proofs.YthjabhcbkbchjaaDoor
namespace Go.Proofs.YthjabhcbkbchjaaDoor
open Go Go.Va
set_option linter.unusedVariables false
set_option linter.unusedSimpArgs false
set_option maxRecDepth 20000
noncomputable def slab_Budget_Give (x0 : slab_Budget) (x1 : Int) : Option (Err × slab_Budget) :=
  (slab_Size x1).bind fun v2 =>
  lt (v2 == (0 : Int)) fun v4 =>
  if v4 = true then
    (trouble_New ([99#8, 108#8, 97#8, 115#8, 115#8] : List (BitVec 8)) x1 (2 : Int)).bind fun v7 =>
    some (v7, x0)
  else
    (chk 9 x1).bind fun v9 =>
    (ixA 9 (x0.count).toList x1).bind fun v11 =>
    lt (v11 == (0 : Int)) fun v13 =>
    if v13 = true then
      (trouble_New ([103#8, 105#8, 118#8, 101#8] : List (BitVec 8)) x1 (9 : Int)).bind fun v16 =>
      some (v16, x0)
    else
      lt (w64 (x0.used - v2)) fun v18 =>
      lt (({ x0 with used := v18 } : slab_Budget)) fun c20 =>
      (chk 9 x1).bind fun v23 =>
      (ixA 9 (c20.count).toList x1).bind fun v25 =>
      lt (w64 (v25 - (1 : Int))) fun v27 =>
      (chk 9 x1).bind fun v29 =>
      (updV (c20.count) x1 (fun _ => v27)).bind fun v31 =>
      lt (({ c20 with count := v31 } : slab_Budget)) fun c33 =>
      some (Err.nil, c33)
end Go.Proofs.YthjabhcbkbchjaaDoor
namespace Go.Proofs.YthjabhcbkbchjaaDoor
open Go Go.Va
set_option linter.unusedVariables false
set_option linter.unusedSimpArgs false
set_option maxRecDepth 20000
noncomputable def butteryref08_New (x0 : Int) : Option (butteryref08_Budget × Int) :=
  (
    lt (decide (x0 < (1 : Int))) fun v8 =>
    if v8 = true then
      some true
    else
      lt (decide (x0 > (1099511627776 : Int))) fun v11 =>
      some v11
   : Option (Bool)).bind fun s3 =>
    if s3 = true then
      some (((⟨(0 : Int), ([] : List Int)⟩ : butteryref08_Budget) : butteryref08_Budget), (2 : Int))
    else
      some (((⟨x0, ([] : List Int)⟩ : butteryref08_Budget) : butteryref08_Budget), (0 : Int))
end Go.Proofs.YthjabhcbkbchjaaDoor
namespace Go.Proofs.YthjabhcbkbchjaaDoor
open Go Go.Va
set_option linter.unusedVariables false
set_option linter.unusedSimpArgs false
set_option maxRecDepth 20000
noncomputable def butteryref08_Size_b0 (x0 : Int) (c12 : Int) (c13 : Int) : Option ((Int × Int) ⊕ (Int)) :=
  lt (decide (c13 < x0)) fun v24 =>
  if v24 = true then
    lt (w64 (c12 * (2 : Int))) fun v27 =>
    lt (w64 (c13 + (1 : Int))) fun v29 =>
    some (.inl (v27, v29))
  else
    some (.inr c12)
noncomputable def butteryref08_Size_l0 (x0 : Int) (s : Int × Int) : Option (Int) := loopO (fun s => butteryref08_Size_b0 x0 s.1 s.2) s
noncomputable def butteryref08_Size (x0 : Int) : Option (Int) :=
  (
    lt (decide (x0 < (0 : Int))) fun v6 =>
    if v6 = true then
      some true
    else
      lt (decide (x0 > (8 : Int))) fun v9 =>
      some v9
   : Option (Bool)).bind fun s1 =>
    if s1 = true then
      some (0 : Int)
    else
      (butteryref08_Size_l0 x0 ((32 : Int), (0 : Int))).bind fun s21 =>
        some s21
end Go.Proofs.YthjabhcbkbchjaaDoor
namespace Go.Proofs.YthjabhcbkbchjaaDoor
open Go Go.Va
set_option linter.unusedVariables false
set_option linter.unusedSimpArgs false
set_option maxRecDepth 20000
noncomputable def butteryref08_Used_b0 (x0 : butteryref08_Budget) (c1 : Int) (c2 : Int) : Option ((Int × Int) ⊕ (Int)) :=
  lt (((x0.L).length : Int)) fun v13 =>
  lt (decide (c2 < v13)) fun v15 =>
  if v15 = true then
    (ix x0.L c2).bind fun v18 =>
    (butteryref08_Size v18).bind fun v20 =>
    lt (w64 (c1 + v20)) fun v22 =>
    lt (w64 (c2 + (1 : Int))) fun v24 =>
    some (.inl (v22, v24))
  else
    some (.inr c1)
noncomputable def butteryref08_Used_l0 (x0 : butteryref08_Budget) (s : Int × Int) : Option (Int) := loopO (fun s => butteryref08_Used_b0 x0 s.1 s.2) s
noncomputable def butteryref08_Used (x0 : butteryref08_Budget) : Option (Int) :=
  (butteryref08_Used_l0 x0 ((0 : Int), (0 : Int))).bind fun s10 =>
    some s10
end Go.Proofs.YthjabhcbkbchjaaDoor
namespace Go.Proofs.YthjabhcbkbchjaaDoor
open Go Go.Va
set_option linter.unusedVariables false
set_option linter.unusedSimpArgs false
set_option maxRecDepth 20000
noncomputable def butteryref08_Take (x0 : butteryref08_Budget) (x1 : Int) : Option (butteryref08_Budget × Int) :=
  (butteryref08_Size x1).bind fun v4 =>
  lt (v4 == (0 : Int)) fun v6 =>
  if v6 = true then
    some ((x0 : butteryref08_Budget), (2 : Int))
  else
    (butteryref08_Size x1).bind fun v10 =>
    (butteryref08_Used x0).bind fun v12 =>
    lt (w64 (x0.Limit - v12)) fun v14 =>
    lt (decide (v10 > v14)) fun v16 =>
    if v16 = true then
      some ((x0 : butteryref08_Budget), (4 : Int))
    else
      (app 8 ([] : List Int) x0.L).bind fun v23 =>
      lt (([x1] : List Int)) fun v28 =>
      (app 8 (({ ((⟨x0.Limit, ([] : List Int)⟩ : butteryref08_Budget) : butteryref08_Budget) with L := v23 } : butteryref08_Budget).L) v28).bind fun v30 =>
      some ((({ ({ ((⟨x0.Limit, ([] : List Int)⟩ : butteryref08_Budget) : butteryref08_Budget) with L := v23 } : butteryref08_Budget) with L := v30 } : butteryref08_Budget) : butteryref08_Budget), (0 : Int))
end Go.Proofs.YthjabhcbkbchjaaDoor
namespace Go.Proofs.YthjabhcbkbchjaaDoor
open Go Go.Va
set_option linter.unusedVariables false
set_option linter.unusedSimpArgs false
set_option maxRecDepth 20000
noncomputable def butteryref08_Give_b0 (x0 : butteryref08_Budget) (x1 : Int) (c9 : Int) : Option ((Int) ⊕ (Unit ⊕ (butteryref08_Budget × Int))) :=
  lt (((x0.L).length : Int)) fun v20 =>
  lt (decide (c9 < v20)) fun v22 =>
  if v22 = true then
    (ix x0.L c9).bind fun v25 =>
    lt (v25 == x1) fun v27 =>
    if v27 = true then
      (cutTo x0.L c9).bind fun v33 =>
      (app 8 ([] : List Int) v33).bind fun v35 =>
      lt (w64 (c9 + (1 : Int))) fun v40 =>
      (cutFrom x0.L v40).bind fun v42 =>
      (app 8 (({ ((⟨x0.Limit, ([] : List Int)⟩ : butteryref08_Budget) : butteryref08_Budget) with L := v35 } : butteryref08_Budget).L) v42).bind fun v44 =>
      some (.inr (.inr ((({ ({ ((⟨x0.Limit, ([] : List Int)⟩ : butteryref08_Budget) : butteryref08_Budget) with L := v35 } : butteryref08_Budget) with L := v44 } : butteryref08_Budget) : butteryref08_Budget), (0 : Int))))
    else
      lt (w64 (c9 + (1 : Int))) fun v51 =>
      some (.inl v51)
  else
    some (.inr (.inl ()))
noncomputable def butteryref08_Give_l0 (x0 : butteryref08_Budget) (x1 : Int) (s : Int) : Option (Unit ⊕ (butteryref08_Budget × Int)) := loopO (fun s => butteryref08_Give_b0 x0 x1 s) s
noncomputable def butteryref08_Give (x0 : butteryref08_Budget) (x1 : Int) : Option (butteryref08_Budget × Int) :=
  (butteryref08_Size x1).bind fun v4 =>
  lt (v4 == (0 : Int)) fun v6 =>
  if v6 = true then
    some ((x0 : butteryref08_Budget), (2 : Int))
  else
    (butteryref08_Give_l0 x0 x1 (0 : Int)).bind fun o10 =>
      Sum.elim (fun s17 : Unit =>
        some ((x0 : butteryref08_Budget), (9 : Int))
        ) (fun y => some y) o10
end Go.Proofs.YthjabhcbkbchjaaDoor
namespace Go.Proofs.YthjabhcbkbchjaaDoor
open Go Go.Va
set_option linter.unusedVariables false
set_option linter.unusedSimpArgs false
set_option maxRecDepth 20000
noncomputable def slab_Many_slab_Budget_Take_b0 (x0 : Int) (x1 : Int) (v2 : Int) (c3 : Int) (c4 : slab_Budget) : Option ((Int × slab_Budget) ⊕ (slab_Budget ⊕ (Int × slab_Budget))) :=
  lt (decide (c3 < v2)) fun v15 =>
  if v15 = true then
    (slab_Budget_Take c4 x1).bind fun v18 =>
    lt (!Err.isNil v18.1) fun v20 =>
    if v20 = true then
      some (.inr (.inr (c3, v18.2)))
    else
      lt (w64 (c3 + (1 : Int))) fun v24 =>
      some (.inl (v24, v18.2))
  else
    some (.inr (.inl c4))
noncomputable def slab_Many_slab_Budget_Take_l0 (x0 : Int) (x1 : Int) (v2 : Int) (s : Int × slab_Budget) : Option (slab_Budget ⊕ (Int × slab_Budget)) := loopO (fun s => slab_Many_slab_Budget_Take_b0 x0 x1 v2 s.1 s.2) s
noncomputable def slab_Many_slab_Budget_Take (x0 : Int) (x1 : Int) (x2 : slab_Budget) : Option (Int × slab_Budget) :=
  lt ((if (0 : Int) > x0 then (0 : Int) else x0)) fun v2 =>
  (slab_Many_slab_Budget_Take_l0 x0 x1 v2 ((0 : Int), x2)).bind fun o5 =>
    Sum.elim (fun s12 : slab_Budget =>
      lt ((if (0 : Int) > x0 then (0 : Int) else x0)) fun v27 =>
      some (v27, s12)
      ) (fun y => some y) o5
end Go.Proofs.YthjabhcbkbchjaaDoor
namespace Go.Proofs.YthjabhcbkbchjaaDoor
open Go Go.Va
set_option linter.unusedVariables false
set_option linter.unusedSimpArgs false
set_option maxRecDepth 20000
noncomputable def slab_Budget_Fill (x0 : slab_Budget) (x1 : Int) (x2 : Int) : Option (Int × slab_Budget) :=
  (slab_Many_slab_Budget_Take x2 x1 x0).bind fun v2 =>
  some (v2.1, v2.2)
end Go.Proofs.YthjabhcbkbchjaaDoor
namespace Go.Proofs.YthjabhcbkbchjaaDoor
open Go Go.Va
set_option linter.unusedVariables false
set_option linter.unusedSimpArgs false
set_option maxRecDepth 20000
noncomputable def slab_Many_slab_Budget_Give_b0 (x0 : Int) (x1 : Int) (v2 : Int) (c3 : Int) (c4 : slab_Budget) : Option ((Int × slab_Budget) ⊕ (slab_Budget ⊕ (Int × slab_Budget))) :=
  lt (decide (c3 < v2)) fun v15 =>
  if v15 = true then
    (slab_Budget_Give c4 x1).bind fun v18 =>
    lt (!Err.isNil v18.1) fun v20 =>
    if v20 = true then
      some (.inr (.inr (c3, v18.2)))
    else
      lt (w64 (c3 + (1 : Int))) fun v24 =>
      some (.inl (v24, v18.2))
  else
    some (.inr (.inl c4))
noncomputable def slab_Many_slab_Budget_Give_l0 (x0 : Int) (x1 : Int) (v2 : Int) (s : Int × slab_Budget) : Option (slab_Budget ⊕ (Int × slab_Budget)) := loopO (fun s => slab_Many_slab_Budget_Give_b0 x0 x1 v2 s.1 s.2) s
noncomputable def slab_Many_slab_Budget_Give (x0 : Int) (x1 : Int) (x2 : slab_Budget) : Option (Int × slab_Budget) :=
  lt ((if (0 : Int) > x0 then (0 : Int) else x0)) fun v2 =>
  (slab_Many_slab_Budget_Give_l0 x0 x1 v2 ((0 : Int), x2)).bind fun o5 =>
    Sum.elim (fun s12 : slab_Budget =>
      lt ((if (0 : Int) > x0 then (0 : Int) else x0)) fun v27 =>
      some (v27, s12)
      ) (fun y => some y) o5
end Go.Proofs.YthjabhcbkbchjaaDoor
namespace Go.Proofs.YthjabhcbkbchjaaDoor
open Go Go.Va
set_option linter.unusedVariables false
set_option linter.unusedSimpArgs false
set_option maxRecDepth 20000
noncomputable def slab_Budget_Drain (x0 : slab_Budget) (x1 : Int) (x2 : Int) : Option (Int × slab_Budget) :=
  (slab_Many_slab_Budget_Give x2 x1 x0).bind fun v2 =>
  some (v2.1, v2.2)
end Go.Proofs.YthjabhcbkbchjaaDoor
namespace Go.Proofs.YthjabhcbkbchjaaDoor
open Go Go.Va
set_option linter.unusedVariables false
set_option linter.unusedSimpArgs false
set_option maxRecDepth 20000
noncomputable def slab_Budget_Limit (x0 : slab_Budget) : Option (Int) :=
  some x0.limit
end Go.Proofs.YthjabhcbkbchjaaDoor
namespace Go.Proofs.YthjabhcbkbchjaaDoor
open Go Go.Va
set_option linter.unusedVariables false
set_option linter.unusedSimpArgs false
set_option maxRecDepth 20000
noncomputable def butteryref08_Count_b0 (x0 : butteryref08_Budget) (x1 : Int) (c1 : Int) (c2 : Int) : Option ((Int × Int) ⊕ (Int)) :=
  lt (((x0.L).length : Int)) fun v13 =>
  lt (decide (c2 < v13)) fun v15 =>
  if v15 = true then
    (ix x0.L c2).bind fun v18 =>
    lt (v18 == x1) fun v20 =>
    if v20 = true then
      lt (w64 (c1 + (1 : Int))) fun v23 =>
      lt (w64 (c2 + (1 : Int))) fun v25 =>
      some (.inl (v23, v25))
    else
      lt (w64 (c2 + (1 : Int))) fun v27 =>
      some (.inl (c1, v27))
  else
    some (.inr c1)
noncomputable def butteryref08_Count_l0 (x0 : butteryref08_Budget) (x1 : Int) (s : Int × Int) : Option (Int) := loopO (fun s => butteryref08_Count_b0 x0 x1 s.1 s.2) s
noncomputable def butteryref08_Count (x0 : butteryref08_Budget) (x1 : Int) : Option (Int) :=
  (butteryref08_Count_l0 x0 x1 ((0 : Int), (0 : Int))).bind fun s10 =>
    some s10
end Go.Proofs.YthjabhcbkbchjaaDoor
namespace Go.Proofs.YthjabhcbkbchjaaDoor
open Go Go.Va
set_option linter.unusedVariables false
set_option linter.unusedSimpArgs false
set_option maxRecDepth 20000
noncomputable def butteryref08_Class_b0 (x0 : Int) (c1 : Int) : Option ((Int) ⊕ (Unit ⊕ (Int))) :=
  (
    lt (decide (c1 ≤ (8 : Int))) fun v16 =>
    if v16 = true then
      lt (decide (x0 ≥ (0 : Int))) fun v19 =>
      some v19
    else
      some false
   : Option (Bool)).bind fun s11 =>
    if s11 = true then
      (butteryref08_Size c1).bind fun v23 =>
      lt (decide (x0 ≤ v23)) fun v25 =>
      if v25 = true then
        some (.inr (.inr c1))
      else
        lt (w64 (c1 + (1 : Int))) fun v29 =>
        some (.inl v29)
    else
      some (.inr (.inl ()))
noncomputable def butteryref08_Class_l0 (x0 : Int) (s : Int) : Option (Unit ⊕ (Int)) := loopO (fun s => butteryref08_Class_b0 x0 s) s
noncomputable def butteryref08_Class (x0 : Int) : Option (Int) :=
  (butteryref08_Class_l0 x0 (0 : Int)).bind fun o2 =>
    Sum.elim (fun s9 : Unit =>
      some (-1 : Int)
      ) (fun y => some y) o2
end Go.Proofs.YthjabhcbkbchjaaDoor
namespace Go.Proofs.YthjabhcbkbchjaaDoor
open Go Go.Va
set_option linter.unusedVariables false
set_option linter.unusedSimpArgs false
set_option maxRecDepth 20000
noncomputable def butteryref08_Fits (x0 : butteryref08_Budget) (x1 : Int) : Option (Bool) :=
  (butteryref08_Class x1).bind fun v2 =>
  lt (decide (v2 ≥ (0 : Int))) fun v4 =>
  if v4 = true then
    (butteryref08_Class x1).bind fun v7 =>
    (butteryref08_Size v7).bind fun v9 =>
    lt (decide (v9 ≤ x0.Limit)) fun v11 =>
    some v11
  else
    some false
end Go.Proofs.YthjabhcbkbchjaaDoor
namespace Go.Proofs.YthjabhcbkbchjaaDoor
open Go Go.Va
set_option linter.unusedVariables false
set_option linter.unusedSimpArgs false
set_option maxRecDepth 20000
noncomputable def butterylaw08_SlabDoes_b1 (x1 : List butterylaw08_Op) (x2 : Int) (v15 : butteryref08_Budget × Int) (c34 : Int) (c62 : butterylaw08_Op) (c86 : Int) (c87 : Int) (c88 : butteryref08_Budget) : Option ((Int × Int × butteryref08_Budget) ⊕ (Int × butteryref08_Budget)) :=
  (
    lt (decide (c87 < c62.N)) fun v103 =>
    if v103 = true then
      lt (c86 == (0 : Int)) fun v106 =>
      some v106
    else
      some false
   : Option (Bool)).bind fun s98 =>
    if s98 = true then
      lt (c62.Kind == (2 : Int)) fun v110 =>
      (
        if v110 = true then
          (butteryref08_Take c88 c62.Class).bind fun v117 =>
          lt ((v117.1 : butteryref08_Budget)) fun c119 =>
          some (v117.2, c119)
        else
          (butteryref08_Give c88 c62.Class).bind fun v122 =>
          lt ((v122.1 : butteryref08_Budget)) fun c124 =>
          some (v122.2, c124)
       : Option (Int × butteryref08_Budget)).bind fun s111 =>
        lt (s111.1 == (0 : Int)) fun v128 =>
        if v128 = true then
          lt (w64 (c87 + (1 : Int))) fun v131 =>
          some (.inl (s111.1, v131, s111.2))
        else
          some (.inl (s111.1, c87, s111.2))
    else
      some (.inr (c87, c88))
noncomputable def butterylaw08_SlabDoes_l1 (x1 : List butterylaw08_Op) (x2 : Int) (v15 : butteryref08_Budget × Int) (c34 : Int) (c62 : butterylaw08_Op) (s : Int × Int × butteryref08_Budget) : Option (Int × butteryref08_Budget) := loopO (fun s => butterylaw08_SlabDoes_b1 x1 x2 v15 c34 c62 s.1 s.2.1 s.2.2) s
noncomputable def butterylaw08_SlabDoes_b0 (x1 : List butterylaw08_Op) (x2 : Int) (v15 : butteryref08_Budget × Int) (c34 : Int) : Option ((Int) ⊕ (Unit ⊕ (Bool))) :=
  (
    lt (((x1).length : Int)) fun v49 =>
    lt (decide (c34 < v49)) fun v51 =>
    if v51 = true then
      lt (v15.2 == (0 : Int)) fun v54 =>
      some v54
    else
      some false
   : Option (Bool)).bind fun s44 =>
    if s44 = true then
      (ix x1 c34).bind fun v58 =>
      lt ((v58 : butterylaw08_Op)) fun c62 =>
      lt (c62.Kind == (0 : Int)) fun v65 =>
      if v65 = true then
        (butteryref08_Take (v15.1 : butteryref08_Budget) c62.Class).bind fun v68 =>
        lt ((v68.1 : butteryref08_Budget)) fun c70 =>
        none
      else
        lt (c62.Kind == (1 : Int)) fun v73 =>
        if v73 = true then
          (butteryref08_Give (v15.1 : butteryref08_Budget) c62.Class).bind fun v76 =>
          lt ((v76.1 : butteryref08_Budget)) fun c78 =>
          none
        else
          lt (decide (c62.N > (50 : Int))) fun v81 =>
          if v81 = true then
            (butterylaw08_works).bind fun v84 =>
            some (.inr (.inr v84))
          else
            (butterylaw08_SlabDoes_l1 x1 x2 v15 c34 c62 ((0 : Int), (0 : Int), (v15.1 : butteryref08_Budget))).bind fun s96 =>
              (
                lt (c62.Kind == (2 : Int)) fun v138 =>
                if v138 = true then
                  none
                else
                  lt (c62.Kind == (3 : Int)) fun v141 =>
                  if v141 = true then
                    none
                  else
                    lt (c62.Kind != (2 : Int)) fun v144 =>
                    if v144 = true then
                      lt (c62.Kind != (3 : Int)) fun v147 =>
                      if v147 = true then
                        none
                      else
                        some (true, true)
                    else
                      some (false, false)
               : Option (Bool × Bool)).bind fun s133 =>
                none
    else
      some (.inr (.inl ()))
noncomputable def butterylaw08_SlabDoes_l0 (x1 : List butterylaw08_Op) (x2 : Int) (v15 : butteryref08_Budget × Int) (s : Int) : Option (Unit ⊕ (Bool)) := loopO (fun s => butterylaw08_SlabDoes_b0 x1 x2 v15 s) s
noncomputable def butterylaw08_SlabDoes_b3 (x1 : List butterylaw08_Op) (x2 : Int) (v154 : butteryref08_Budget × Int) (c173 : Int) (c175 : slab_Budget) (c203 : butterylaw08_Op) (c250 : Int) (c251 : Int) (c252 : butteryref08_Budget) : Option ((Int × Int × butteryref08_Budget) ⊕ (Int × butteryref08_Budget)) :=
  (
    lt (decide (c251 < c203.N)) fun v267 =>
    if v267 = true then
      lt (c250 == (0 : Int)) fun v270 =>
      some v270
    else
      some false
   : Option (Bool)).bind fun s262 =>
    if s262 = true then
      lt (c203.Kind == (2 : Int)) fun v274 =>
      (
        if v274 = true then
          (butteryref08_Take c252 c203.Class).bind fun v281 =>
          lt ((v281.1 : butteryref08_Budget)) fun c283 =>
          some (v281.2, c283)
        else
          (butteryref08_Give c252 c203.Class).bind fun v286 =>
          lt ((v286.1 : butteryref08_Budget)) fun c288 =>
          some (v286.2, c288)
       : Option (Int × butteryref08_Budget)).bind fun s275 =>
        lt (s275.1 == (0 : Int)) fun v292 =>
        if v292 = true then
          lt (w64 (c251 + (1 : Int))) fun v295 =>
          some (.inl (s275.1, v295, s275.2))
        else
          some (.inl (s275.1, c251, s275.2))
    else
      some (.inr (c251, c252))
noncomputable def butterylaw08_SlabDoes_l3 (x1 : List butterylaw08_Op) (x2 : Int) (v154 : butteryref08_Budget × Int) (c173 : Int) (c175 : slab_Budget) (c203 : butterylaw08_Op) (s : Int × Int × butteryref08_Budget) : Option (Int × butteryref08_Budget) := loopO (fun s => butterylaw08_SlabDoes_b3 x1 x2 v154 c173 c175 c203 s.1 s.2.1 s.2.2) s
noncomputable def butterylaw08_SlabDoes_b2 (x1 : List butterylaw08_Op) (x2 : Int) (v154 : butteryref08_Budget × Int) (c173 : Int) (c174 : butteryref08_Budget) (c175 : slab_Budget) : Option ((Int × butteryref08_Budget × slab_Budget) ⊕ ((butteryref08_Budget × slab_Budget) ⊕ (Bool))) :=
  (
    lt (((x1).length : Int)) fun v190 =>
    lt (decide (c173 < v190)) fun v192 =>
    if v192 = true then
      lt (v154.2 == (0 : Int)) fun v195 =>
      some v195
    else
      some false
   : Option (Bool)).bind fun s185 =>
    if s185 = true then
      (ix x1 c173).bind fun v199 =>
      lt ((v199 : butterylaw08_Op)) fun c203 =>
      lt (c203.Kind == (0 : Int)) fun v206 =>
      (
        if v206 = true then
          (butteryref08_Take c174 c203.Class).bind fun v213 =>
          lt ((v213.1 : butteryref08_Budget)) fun c215 =>
          (slab_Budget_Take c175 c203.Class).bind fun v218 =>
          (trouble_Of v218.1).bind fun v220 =>
          lt (v220 != v213.2) fun v222 =>
          if v222 = true then
            some (.inr (.inr (.inr false)))
          else
            some (.inl (c215, v218.2))
        else
          lt (c203.Kind == (1 : Int)) fun v227 =>
          if v227 = true then
            (butteryref08_Give c174 c203.Class).bind fun v230 =>
            lt ((v230.1 : butteryref08_Budget)) fun c232 =>
            (slab_Budget_Give c175 c203.Class).bind fun v235 =>
            (trouble_Of v235.1).bind fun v237 =>
            lt (v237 != v230.2) fun v239 =>
            if v239 = true then
              some (.inr (.inr (.inr false)))
            else
              some (.inl (c232, v235.2))
          else
            lt (decide (c203.N > (50 : Int))) fun v244 =>
            if v244 = true then
              (butterylaw08_works).bind fun v247 =>
              some (.inr (.inr (.inr v247)))
            else
              (butterylaw08_SlabDoes_l3 x1 x2 v154 c173 c175 c203 ((0 : Int), (0 : Int), c174)).bind fun s260 =>
                (
                  lt (c203.Kind == (2 : Int)) fun v302 =>
                  if v302 = true then
                    (slab_Budget_Fill c175 c203.Class c203.N).bind fun v305 =>
                    lt (v305.1 != s260.1) fun v307 =>
                    if v307 = true then
                      some (true, v305.2)
                    else
                      lt (c203.Kind == (3 : Int)) fun v310 =>
                      if v310 = true then
                        (slab_Budget_Drain v305.2 c203.Class c203.N).bind fun v313 =>
                        lt (v313.1 != s260.1) fun v315 =>
                        if v315 = true then
                          some (true, v313.2)
                        else
                          lt (c203.Kind != (2 : Int)) fun v318 =>
                          if v318 = true then
                            lt (c203.Kind != (3 : Int)) fun v321 =>
                            if v321 = true then
                              (slab_Many_slab_Budget_Give c203.N c203.Class v313.2).bind fun v324 =>
                              lt (v324.1 != s260.1) fun v326 =>
                              some (v326, v324.2)
                            else
                              some (false, v313.2)
                          else
                            some (false, v313.2)
                      else
                        lt (c203.Kind != (2 : Int)) fun v328 =>
                        if v328 = true then
                          lt (c203.Kind != (3 : Int)) fun v331 =>
                          if v331 = true then
                            (slab_Many_slab_Budget_Give c203.N c203.Class v305.2).bind fun v334 =>
                            lt (v334.1 != s260.1) fun v336 =>
                            some (v336, v334.2)
                          else
                            some (false, v305.2)
                        else
                          some (false, v305.2)
                  else
                    lt (c203.Kind == (3 : Int)) fun v338 =>
                    if v338 = true then
                      (slab_Budget_Drain c175 c203.Class c203.N).bind fun v341 =>
                      lt (v341.1 != s260.1) fun v343 =>
                      if v343 = true then
                        some (true, v341.2)
                      else
                        lt (c203.Kind != (2 : Int)) fun v346 =>
                        if v346 = true then
                          lt (c203.Kind != (3 : Int)) fun v349 =>
                          if v349 = true then
                            (slab_Many_slab_Budget_Give c203.N c203.Class v341.2).bind fun v352 =>
                            lt (v352.1 != s260.1) fun v354 =>
                            some (v354, v352.2)
                          else
                            some (false, v341.2)
                        else
                          some (false, v341.2)
                    else
                      lt (c203.Kind != (2 : Int)) fun v356 =>
                      if v356 = true then
                        lt (c203.Kind != (3 : Int)) fun v359 =>
                        if v359 = true then
                          (slab_Many_slab_Budget_Give c203.N c203.Class c175).bind fun v362 =>
                          lt (v362.1 != s260.1) fun v364 =>
                          some (v364, v362.2)
                        else
                          some (false, c175)
                      else
                        some (false, c175)
                 : Option (Bool × slab_Budget)).bind fun s297 =>
                  if s297.1 = true then
                    some (.inr (.inr (.inr false)))
                  else
                    some (.inl (s260.2, s297.2))
       : Option (butteryref08_Budget × slab_Budget ⊕ _)).bind fun o208 =>
        Sum.elim (fun s207 : butteryref08_Budget × slab_Budget =>
          (
            (slab_Budget_Used s207.2).bind fun v375 =>
            (butteryref08_Used s207.1).bind fun v377 =>
            lt (v375 != v377) fun v379 =>
            if v379 = true then
              some true
            else
              (slab_Budget_Left s207.2).bind fun v382 =>
              (slab_Budget_Used s207.2).bind fun v384 =>
              lt (w64 (s207.1.Limit - v384)) fun v386 =>
              lt (v382 != v386) fun v388 =>
              if v388 = true then
                some true
              else
                (slab_Budget_Limit s207.2).bind fun v391 =>
                lt (v391 != s207.1.Limit) fun v393 =>
                if v393 = true then
                  some true
                else
                  (slab_Budget_Count s207.2 c203.Class).bind fun v396 =>
                  (butteryref08_Count s207.1 c203.Class).bind fun v398 =>
                  lt (v396 != v398) fun v400 =>
                  if v400 = true then
                    some true
                  else
                    (slab_Budget_Fits s207.2 x2).bind fun v403 =>
                    (butteryref08_Fits s207.1 x2).bind fun v405 =>
                    lt (v403 != v405) fun v407 =>
                    some v407
           : Option (Bool)).bind fun s370 =>
            if s370 = true then
              some (.inr (.inr false))
            else
              lt (w64 (c173 + (1 : Int))) fun v412 =>
              some (.inl (v412, s207.1, s207.2))
          ) (fun y => some y) o208
    else
      some (.inr (.inl (c174, c175)))
noncomputable def butterylaw08_SlabDoes_l2 (x1 : List butterylaw08_Op) (x2 : Int) (v154 : butteryref08_Budget × Int) (s : Int × butteryref08_Budget × slab_Budget) : Option ((butteryref08_Budget × slab_Budget) ⊕ (Bool)) := loopO (fun s => butterylaw08_SlabDoes_b2 x1 x2 v154 s.1 s.2.1 s.2.2) s
noncomputable def butterylaw08_SlabDoes (x0 : Int) (x1 : List butterylaw08_Op) (x2 : Int) : Option (Bool) :=
  lt (((x1).length : Int)) fun v2 =>
  lt (decide (v2 > (60 : Int))) fun v4 =>
  if v4 = true then
    (butterylaw08_works).bind fun v7 =>
    some v7
  else
    (slab_New x0).bind fun v9 =>
    Option.elim v9.1 (
      (butteryref08_New x0).bind fun v15 =>
      (
        (trouble_Of v9.2).bind fun v24 =>
        lt (v24 != v15.2) fun v26 =>
        if v26 = true then
          some true
        else
          lt (v15.2 != (0 : Int)) fun v29 =>
          lt (true != v29) fun v31 =>
          some v31
       : Option (Bool)).bind fun s19 =>
        if s19 = true then
          some false
        else
          (butterylaw08_SlabDoes_l0 x1 x2 v15 (0 : Int)).bind fun o35 =>
            Sum.elim (fun s42 : Unit =>
              (butterylaw08_works).bind fun v152 =>
              some v152
              ) (fun y => some y) o35
    ) (fun c10 =>
      (butteryref08_New x0).bind fun v154 =>
      (
        (trouble_Of v9.2).bind fun v163 =>
        lt (v163 != v154.2) fun v165 =>
        if v165 = true then
          some true
        else
          lt (v154.2 != (0 : Int)) fun v168 =>
          lt (false != v168) fun v170 =>
          some v170
       : Option (Bool)).bind fun s158 =>
        if s158 = true then
          some false
        else
          (butterylaw08_SlabDoes_l2 x1 x2 v154 ((0 : Int), (v154.1 : butteryref08_Budget), c10)).bind fun o176 =>
            Sum.elim (fun s183 : butteryref08_Budget × slab_Budget =>
              (butterylaw08_works).bind fun v415 =>
              some v415
              ) (fun y => some y) o176
    )
end Go.Proofs.YthjabhcbkbchjaaDoor
namespace Go.Proofs.YthjabhcbkbchjaaDoor
open Go.RowKit Go.Extern.Stop Go.Stop Go.Extern
/-- errors.As(nil, target). -/
theorem as_nil (t : Value) (w : World) :
    Calls Tryd.prog 44 #[.nilIface, t] w fun e w' => e = .returned (.bool false) ∧ w' = w := by
  go_enter Tryd.func44, Tryd.ntmps44
  go_wp2
  go_ret
  exact ⟨rfl, rfl⟩

theorem Tryd.valueOf27 (t : Addr) (w : World) : (ReflectliteValue.unpack (.iface 81 (.pointer (some t)))).run Tryd.prog w
    = .ok (.agg #[.pointer (some ⟨1, 81, none⟩), .pointer (some ⟨w.heap.size, 0, none⟩), .int .u64 150]) (w.alloc (.cells #[.pointer (some t)] 81)) := by kernel_rfl
theorem Tryd.type27 (a : Addr) (w : World) : (ReflectliteValue.methodAny (ReflectliteValue.valueError "reflectlite.Value.Type" 0) (fun t _ _ _ => ReflectliteType.toType t) #[.agg #[.pointer (some ⟨1, 81, none⟩), .pointer (some a), .int .u64 150]]).run Tryd.prog w
    = .ok (.iface 101 (.agg #[.pointer (some ⟨1, 81, none⟩)])) w := by kernel_rfl
theorem Tryd.methodKind (h : Value) (w : World) : (Go.method 243 101 (.agg #[h]) "Kind").run Tryd.prog w = .ok (70, h) w := by kernel_rfl
theorem Tryd.kind27 (w : World) : ((ReflectliteType.abiMethod fun t => (fun a : Nat => Value.int IntKind.u8 (a : Int)) <$> Rtype.kind t) #[.pointer (some ⟨1, 81, none⟩)]).run Tryd.prog w = .ok (.int .u8 22) w := by kernel_rfl
theorem Tryd.kind25 (w : World) : ((ReflectliteType.abiMethod fun t => (fun a : Nat => Value.int IntKind.u8 (a : Int)) <$> Rtype.kind t) #[.pointer (some ⟨1, 79, none⟩)]).run Tryd.prog w = .ok (.int .u8 22) w := by kernel_rfl

theorem rlm (z : Sem Value) (f : TypeId → Addr → Nat → Nat → Sem Value) (v : Value) :
    ReflectliteValue.method z f #[v] = (do match ← ReflectliteValue.parts v with | none => z | some (t, a, fl) => f t a fl (fl % 32)) := rfl
theorem Tryd.parts27 (a : Addr) (w : World) : (ReflectliteValue.parts (.agg #[.pointer (some ⟨1, 81, none⟩), .pointer (some a), .int .u64 150])).run Tryd.prog w = .ok (some (81, a, 150)) w := by kernel_rfl
/-- (Value).IsNil at the Value of a **p.E that is not nil. -/
theorem Tryd.isNil27 (a p : Addr) (W : World) (ha : W.cell? a = some (.pointer (some p))) :
    (ReflectliteValue.method (ReflectliteValue.valueError "reflectlite.Value.IsNil" 0) ReflectliteValue.isNil #[.agg #[.pointer (some ⟨1, 81, none⟩), .pointer (some a), .int .u64 150]]).run Tryd.prog W = .ok (.bool false) W := by
  rw [rlm]
  simp only [Sem.run_bind, Tryd.parts27, Result.andThen]
  simp [ReflectliteValue.isNil, loadVar, isAgg, underlying, Tryd.underlying81, ha, Result.andThen]

theorem Tryd.methodElem (h : Value) (w : World) : (Go.method 243 101 (.agg #[h]) "Elem").run Tryd.prog w = .ok (81, .agg #[h]) w := by kernel_rfl
theorem Tryd.methodImplements (h : Value) (w : World) : (Go.method 243 101 (.agg #[h]) "Implements").run Tryd.prog w = .ok (82, .agg #[h]) w := by kernel_rfl
theorem Tryd.methodAssignableTo (h : Value) (w : World) : (Go.method 243 101 (.agg #[h]) "AssignableTo").run Tryd.prog w = .ok (79, .agg #[h]) w := by kernel_rfl
theorem Tryd.elem27 (w : World) : (ReflectliteType.method ReflectliteType.elem #[.agg #[.pointer (some ⟨1, 81, none⟩)]]).run Tryd.prog w = .ok (.iface 101 (.agg #[.pointer (some ⟨1, 79, none⟩)])) w := by kernel_rfl
theorem Tryd.implements25 (w : World) : (ReflectliteType.relation "Implements" ReflectliteType.implements_ #[.agg #[.pointer (some ⟨1, 79, none⟩)], .iface 101 (.agg #[.pointer (some ⟨1, 29, none⟩)])]).run Tryd.prog w = .ok (.bool true) w := by kernel_rfl
theorem Tryd.typeOf25 (v : Value) (w : World) : (ReflectliteType.typeOf #[.iface 79 v]).run Tryd.prog w = .ok (.iface 101 (.agg #[.pointer (some ⟨1, 79, none⟩)])) w := by kernel_rfl
theorem Tryd.assignable25 (w : World) : (ReflectliteType.relation "AssignableTo" ReflectliteType.assignableTo #[.agg #[.pointer (some ⟨1, 79, none⟩)], .iface 101 (.agg #[.pointer (some ⟨1, 79, none⟩)])]).run Tryd.prog w = .ok (.bool true) w := by kernel_rfl
theorem Tryd.valueOf25 (e : Addr) (w : World) : (ReflectliteValue.unpack (.iface 79 (.pointer (some e)))).run Tryd.prog w
    = .ok (.agg #[.pointer (some ⟨1, 79, none⟩), .pointer (some ⟨w.heap.size, 0, none⟩), .int .u64 150]) (w.alloc (.cells #[.pointer (some e)] 79)) := by kernel_rfl

theorem Tryd.elemOf27 (w : World) : (Rtype.elem? 81).run Tryd.prog w = .ok (some 79) w := by kernel_rfl
theorem Tryd.mk25 (p : Addr) (w : World) : (ReflectliteValue.mk 79 p ReflectliteValue.flagAddr).run Tryd.prog w = .ok (.agg #[.pointer (some ⟨1, 79, none⟩), .pointer (some p), .int .u64 406]) w := by kernel_rfl
/-- (Value).Elem at the Value of a **p.E that is not nil: the Value of the *p.E variable that it points to, addressable. -/
theorem Tryd.elemV27 (a p : Addr) (W : World) (ha : W.cell? a = some (.pointer (some p))) :
    (ReflectliteValue.method (ReflectliteValue.valueError "reflectlite.Value.Elem" 0) ReflectliteValue.elem #[.agg #[.pointer (some ⟨1, 81, none⟩), .pointer (some a), .int .u64 150]]).run Tryd.prog W
      = .ok (.agg #[.pointer (some ⟨1, 79, none⟩), .pointer (some p), .int .u64 406]) W := by
  rw [rlm]
  simp only [Sem.run_bind, Tryd.parts27, Result.andThen]
  simp [ReflectliteValue.elem, loadVar, isAgg, underlying, Tryd.underlying81, ha, Result.andThen, Tryd.elemOf27, Tryd.mk25]
theorem rls (v x : Value) : ReflectliteValue.set #[v, x] = (do
    let (some (dst, a, fl), some (src, b, _)) := (← ReflectliteValue.parts v, ← ReflectliteValue.parts x)
      | unsupported (.noEntry "extern/(internal/reflectlite.Value).Set.zeroValue")
    if fl / ReflectliteValue.flagAddr % 2 == 0 then unsupported (.noEntry "extern/(internal/reflectlite.Value).Set.unaddressable")
    let val ← loadVar src b
    if ← Rtype.directlyAssignable dst src then storeVar dst a val
    else if ← Rtype.implements dst src then
      if (← Rtype.kind src) == 20 then
        match val with
        | .nilIface => unsupported (.noEntry "extern/reflectlite: a nil value of one interface type handed on as a value of another")
        | _ => storeVar dst a val
      else storeVar dst a (.iface src val)
    else panicString ("reflectlite.Set: value of type " ++ (← Rtype.spelt src) ++ " is not assignable to type " ++ (← Rtype.spelt dst))
    pure (.tuple #[])) := rfl
theorem Tryd.parts25a (a : Addr) (w : World) : (ReflectliteValue.parts (.agg #[.pointer (some ⟨1, 79, none⟩), .pointer (some a), .int .u64 406])).run Tryd.prog w = .ok (some (79, a, 406)) w := by kernel_rfl
theorem Tryd.parts25 (a : Addr) (w : World) : (ReflectliteValue.parts (.agg #[.pointer (some ⟨1, 79, none⟩), .pointer (some a), .int .u64 150])).run Tryd.prog w = .ok (some (79, a, 150)) w := by kernel_rfl
theorem Tryd.direct25 (w : World) : (Rtype.directlyAssignable 79 79).run Tryd.prog w = .ok true w := by kernel_rfl
theorem Tryd.size25 (w : World) : (sizeOf 79).run Tryd.prog w = .ok 1 w := by kernel_rfl
/-- (Value).Set: the *p.E variable at 'ta' gets what the Value's own variable 'b' holds. -/
theorem Tryd.set25 (ta b e : Addr) (old : Value) (W : World) (hb : W.cell? b = some (.pointer (some e))) (ht : W.cell? ta = some old) (hf : W.frozen? ta = false) :
    (ReflectliteValue.set #[.agg #[.pointer (some ⟨1, 79, none⟩), .pointer (some ta), .int .u64 406], .agg #[.pointer (some ⟨1, 79, none⟩), .pointer (some b), .int .u64 150]]).run Tryd.prog W
      = .ok (.tuple #[]) (W.setCell ta (.pointer (some e))) := by
  rw [rls]
  simp only [Sem.run_bind, Tryd.parts25a, Tryd.parts25, Result.andThen]
  simp [ReflectliteValue.flagAddr, loadVar, isAgg, underlying, Tryd.underlying79, hb, Result.andThen, Tryd.direct25, storeVar, Value.cells, storeCells, Addr.add]
  rw [run_store Tryd.prog W ta _ _ (by rfl)]
  simp [ht, hf]

set_option maxHeartbeats 8000000 in
set_option maxRecDepth 100000 in
theorem as_hit (e t : Addr) (old : Value) (w : World) (hg : w.cell? ⟨0, 0, none⟩ = some (.iface 101 (.agg #[.pointer (some ⟨1, 29, none⟩)]))) (ht0 : w.cell? t = some old) (hf0 : w.frozen? t = false) :
    Calls Tryd.prog 44 #[.iface 79 (.pointer (some e)), .iface 81 (.pointer (some t))] w fun ev w' => ev = .returned (.bool true) ∧ w' = ((((w.alloc (.cells #[.pointer (some t)] 81)).alloc (.cells #[.pointer (some ⟨1, 81, none⟩), .pointer (some ⟨w.heap.size, 0, none⟩), .int .u64 150] 91)).alloc (.cells #[.pointer (some ⟨1, 81, none⟩), .pointer (some ⟨w.heap.size, 0, none⟩), .int .u64 150] 91)).alloc (.cells #[.pointer (some e)] 79)).setCell t (.pointer (some e)) := by
  have h6 := @run_callFunc_extern Tryd.prog 49 _ (fun args => ReflectliteValue.unpack (args.getD 0 (.tuple #[]))) Tryd.func49 (by kernel_rfl) (by kernel_rfl) (by kernel_rfl) (by kernel_rfl)
  have h7 := @run_callFunc_extern Tryd.prog 50 _ (ReflectliteValue.methodAny (ReflectliteValue.valueError "reflectlite.Value.Type" 0) (fun t _ _ _ => ReflectliteType.toType t)) Tryd.func50 (by kernel_rfl) (by kernel_rfl) (by kernel_rfl) (by kernel_rfl)
  have h8 := @run_callFunc_extern Tryd.prog 51 _ (ReflectliteValue.method (ReflectliteValue.valueError "reflectlite.Value.IsNil" 0) ReflectliteValue.isNil) Tryd.func51 (by kernel_rfl) (by kernel_rfl) (by kernel_rfl) (by kernel_rfl)
  have h27 := @run_callFunc_extern Tryd.prog 70 _ (ReflectliteType.abiMethod fun t => do pure (.int .u8 (← Rtype.kind t))) Tryd.func70 (by kernel_rfl) (by kernel_rfl) (by kernel_rfl) (by kernel_rfl)
  have h37 := @run_callFunc_extern Tryd.prog 81 _ (ReflectliteType.method ReflectliteType.elem) Tryd.func81 (by kernel_rfl) (by kernel_rfl) (by kernel_rfl) (by kernel_rfl)
  have h38 := @run_callFunc_extern Tryd.prog 82 _ (ReflectliteType.relation "Implements" ReflectliteType.implements_) Tryd.func82 (by kernel_rfl) (by kernel_rfl) (by kernel_rfl) (by kernel_rfl)
  have h10 := @run_callFunc_extern Tryd.prog 53 _ ReflectliteType.typeOf Tryd.func53 (by kernel_rfl) (by kernel_rfl) (by kernel_rfl) (by kernel_rfl)
  have h35 := @run_callFunc_extern Tryd.prog 79 _ (ReflectliteType.relation "AssignableTo" ReflectliteType.assignableTo) Tryd.func79 (by kernel_rfl) (by kernel_rfl) (by kernel_rfl) (by kernel_rfl)
  have h11 := @run_callFunc_extern Tryd.prog 54 _ (ReflectliteValue.method (ReflectliteValue.valueError "reflectlite.Value.Elem" 0) ReflectliteValue.elem) Tryd.func54 (by kernel_rfl) (by kernel_rfl) (by kernel_rfl) (by kernel_rfl)
  have h12 := @run_callFunc_extern Tryd.prog 55 _ ReflectliteValue.set Tryd.func55 (by kernel_rfl) (by kernel_rfl) (by kernel_rfl) (by kernel_rfl)
  have tO := Tryd.typeOf25
  have mA := Tryd.methodAssignableTo
  have a25 := Tryd.assignable25
  have v25 := Tryd.valueOf25
  have f6 := Tryd.valueOf27
  have f7 := Tryd.type27
  have mK := Tryd.methodKind
  have mE := Tryd.methodElem
  have mI := Tryd.methodImplements
  have k27 := Tryd.kind27
  have k25 := Tryd.kind25
  have e27 := Tryd.elem27
  have i25 := Tryd.implements25
  have n8 := Tryd.isNil27 ⟨w.heap.size, 0, none⟩ t ((w.alloc (.cells #[.pointer (some t)] 81)).alloc (.cells #[.pointer (some ⟨1, 81, none⟩), .pointer (some ⟨w.heap.size, 0, none⟩), .int .u64 150] 91)) (by simp)
  have hlt : 0 < w.heap.size := by
    rcases Nat.eq_zero_or_pos w.heap.size with h0 | h
    · simp [World.cell?, h0] at hg
    · exact h
  have hg2 : ((w.alloc (.cells #[.pointer (some t)] 81)).alloc (.cells #[.pointer (some ⟨1, 81, none⟩), .pointer (some ⟨w.heap.size, 0, none⟩), .int .u64 150] 91)).cell? ⟨0, 0, none⟩ = some (.iface 101 (.agg #[.pointer (some ⟨1, 29, none⟩)])) := by
    rw [World.cell?_alloc_lt _ _ ⟨0, 0, none⟩ (by simp), World.cell?_alloc_lt _ _ ⟨0, 0, none⟩ hlt]; exact hg
  have htl : t.block < w.heap.size := by
    rcases Nat.lt_or_ge t.block w.heap.size with h | h
    · exact h
    · simp [World.cell?, Array.getElem?_eq_none h] at ht0
  have el := Tryd.elemV27 ⟨w.heap.size, 0, none⟩ t (((w.alloc (.cells #[.pointer (some t)] 81)).alloc (.cells #[.pointer (some ⟨1, 81, none⟩), .pointer (some ⟨w.heap.size, 0, none⟩), .int .u64 150] 91)).alloc (.cells #[.pointer (some ⟨1, 81, none⟩), .pointer (some ⟨w.heap.size, 0, none⟩), .int .u64 150] 91)) (by rw [World.cell?_alloc_lt _ _ ⟨w.heap.size, 0, none⟩ (by simp; omega)]; simp)
  have st := Tryd.set25 t ⟨w.heap.size + 1 + 1 + 1, 0, none⟩ e old ((((w.alloc (.cells #[.pointer (some t)] 81)).alloc (.cells #[.pointer (some ⟨1, 81, none⟩), .pointer (some ⟨w.heap.size, 0, none⟩), .int .u64 150] 91)).alloc (.cells #[.pointer (some ⟨1, 81, none⟩), .pointer (some ⟨w.heap.size, 0, none⟩), .int .u64 150] 91)).alloc (.cells #[.pointer (some e)] 79))
    (by rw [World.cell?_alloc_at _ _ _ _ (by simp)]; rfl)
    (by rw [World.cell?_alloc_lt _ _ t (by simp; omega), World.cell?_alloc_lt _ _ t (by simp; omega), World.cell?_alloc_lt _ _ t (by simp; omega), World.cell?_alloc_lt _ _ t htl]; exact ht0)
    (by rw [World.frozen?_alloc_old _ _ t (by simp; omega), World.frozen?_alloc_old _ _ t (by simp; omega), World.frozen?_alloc_old _ _ t (by simp; omega), World.frozen?_alloc_old _ _ t (Nat.ne_of_lt htl)]; exact hf0)
  go_enter Tryd.func44, Tryd.ntmps44
  go_wp2
  refine wp_loop_rounds 1 ?_
  rw [rounds_succ]
  go_wp2
  go_ret
  exact ⟨rfl, rfl⟩
end Go.Proofs.YthjabhcbkbchjaaDoor
namespace Go.Proofs.YthjabhcbkbchjaaDoor
open Go Go.Va
set_option linter.unusedVariables false
set_option linter.unusedSimpArgs false
def gls : List (Addr × Value) := [(⟨0, 0, none⟩, .iface 101 (.agg #[.pointer (some ⟨1, 29, none⟩)]))]
section
variable {P : Program} {Ty : TypeId → Option TI} {fr : Nat → AV} {d : Option Tmp} {t : TypeId} {pos : String} {af : Array Edge} {g : Option (Nat × Bool)} {ox oy : Operand} {T T' : TypeId}
theorem o_err_eql (hT : TyOk P Ty) {x : Err} (ht : tdOf Ty T = .iface) (hx : aeval fr ox = eErr x) (hy : oy = .const .nilIface) : OpP P ⟨d, .binOp .eql T ox oy T', t, pos, af, g⟩ fr (eB x.isNil) := by
  subst hy
  refine OpP.of_aop' hT (mu := false) rfl (fun τ => ?_)
  have h2 : aeval fr (.const .nilIface) = .nili := rfl
  simp only [aop, hx, h2]
  cases x with
  | nil => simp [eErr, abin', abin, ht, isC, aeq, pairO, Err.isNil, eB]
  | fault o a c u => simp [eErr, abin', abin, ht, isC, aeq, pairO, Err.isNil, eB]
theorem o_err_neq (hT : TyOk P Ty) {x : Err} (ht : tdOf Ty T = .iface) (hx : aeval fr ox = eErr x) (hy : oy = .const .nilIface) : OpP P ⟨d, .binOp .neq T ox oy T', t, pos, af, g⟩ fr (eB (!x.isNil)) := by
  subst hy
  refine OpP.of_aop' hT (mu := false) rfl (fun τ => ?_)
  have h2 : aeval fr (.const .nilIface) = .nili := rfl
  simp only [aop, hx, h2]
  cases x with
  | nil => simp [eErr, abin', abin, ht, isC, aeq, pairO, Err.isNil, eB]
  | fault o a c u => simp [eErr, abin', abin, ht, isC, aeq, pairO, Err.isNil, eB]
end
/-- The pointer that an error holds. -/
def Err.ptr : Err → AV
  | .nil => .nilp
  | .fault o a c u => .fptr [eS o, eI a, eI c, eErr u] 0
theorem as_ok {x : Err} (hx : x.isNil = false) {σ : St} {id : Nat} (ho : σ.objs[id]? = some [.nilp]) (hg : σ.gl = gls) : ACall Tryd.prog 44 [eErr x, .iface 81 (.ref id 0)] σ (fun a τ => a = eB true ∧ τ = σ.puts [(id, [x.ptr])]) := by
  cases x with
  | nil => cases hx
  | fault o a c u =>
    refine ⟨⟨_, Tryd.func44, by decide, rfl⟩, fun w0 G w vs hI hr => ?_⟩
    obtain ⟨v0, h0, r0⟩ := hr.get (i := 0) rfl
    obtain ⟨v1, h1, r1⟩ := hr.get (i := 1) rfl
    have hvs : vs = #[v0, v1] := by
      obtain ⟨l⟩ := vs
      have hl := hr.len
      simp only [List.length_cons, List.length_nil] at hl h0 h1
      match l, hl, h0, h1 with
      | [x, y], _, h0, h1 => simp at h0 h1; subst h0; subst h1; rfl
    subst hvs
    simp only [eErr] at r0
    cases r0 with | iface _ v0 _ r0 =>
    cases r1 with | iface _ v1 _ r1 =>
    cases r0 with | fptr b o' off _ val hf hv =>
    cases r1 with | ref _ _ b1 hl =>
    obtain ⟨b2, T, cs, e1, e2, e3, e4, e5⟩ := hI.loc id _ ho
    rw [hl] at e1
    cases e1
    obtain ⟨u1, hu1, ru1⟩ := e4.get (i := 0) rfl
    have hcs : cs = #[.pointer none] := by
      obtain ⟨l⟩ := cs
      have hl := e4.len
      cases ru1
      simp only [List.length_cons, List.length_nil] at hl hu1
      match l, hl, hu1 with
      | [x], _, h0 => simp at h0; subst h0; rfl
    subst hcs
    have hglob := hI.below
    have hg0 : w0.cell? ⟨0, 0, none⟩ = some (.iface 101 (.agg #[.pointer (some ⟨1, 29, none⟩)])) := hI.gl _ (by rw [hg]; exact List.mem_singleton.2 rfl)
    have hg1 : w.cell? ⟨0, 0, none⟩ = some (.iface 101 (.agg #[.pointer (some ⟨1, 29, none⟩)])) := by
      have hb := World.block_lt_of_cell? w0 _ hg0
      simp only [World.cell?] at hg0 ⊢
      rw [hI.below.block _ hb]; exact hg0
    have hc : w.cell? ⟨b1, 0, none⟩ = some (.pointer none) := by simp [World.cell?, e3]
    have hfz : w.frozen? ⟨b1, 0, none⟩ = false := by simp [World.frozen?, e3]
    refine (as_hit ⟨b, o' + 0, none⟩ ⟨b1, 0, none⟩ (.pointer none) w hg1 hc hfz).mono ?_
    rintro e w' ⟨rfl, rfl⟩
    have k1 := hI.alloc_fz #[.pointer (some ⟨b1, 0, none⟩)] 81 (by simp [Value.oneCell']) (0, 0)
    have k2 := k1.2.alloc_fz #[.pointer (some ⟨1, 81, none⟩), .pointer (some ⟨w.heap.size, 0, none⟩), .int .u64 150] 91 (by simp [Value.oneCell']) (0, 0)
    have k3 := k2.2.alloc_fz #[.pointer (some ⟨1, 81, none⟩), .pointer (some ⟨w.heap.size, 0, none⟩), .int .u64 150] 91 (by simp [Value.oneCell']) (0, 0)
    have k4 := k3.2.alloc_fz #[.pointer (some ⟨b, o' + 0, none⟩)] 79 (by simp [Value.oneCell']) (0, 0)
    have hle := k1.1.trans (k2.1.trans (k3.1.trans k4.1))
    have hb1 : b1 < w.heap.size := (Array.getElem?_eq_some_iff.1 e3).1
    have e3' : ((((w.alloc (.cells #[.pointer (some ⟨b1, 0, none⟩)] 81)).alloc (.cells #[.pointer (some ⟨1, 81, none⟩), .pointer (some ⟨w.heap.size, 0, none⟩), .int .u64 150] 91)).alloc (.cells #[.pointer (some ⟨1, 81, none⟩), .pointer (some ⟨w.heap.size, 0, none⟩), .int .u64 150] 91)).alloc (.cells #[.pointer (some ⟨b, o' + 0, none⟩)] 79)).heap[b1]? = some (.cells #[.pointer none] T (0, 0)) := by
      rw [alloc_heap_lt _ (by simp; omega), alloc_heap_lt _ (by simp; omega), alloc_heap_lt _ (by simp; omega), alloc_heap_lt _ hb1]; exact e3
    have k5 := k4.2.set_loc (id := id) (new := #[.pointer (some ⟨b, o' + 0, none⟩)]) (cells := [.fptr [eS o, eI a, eI c, eErr u] 0]) (hle.loc _ _ hl) e2 e3' ((RelL.nil _).cons (.fptr b o' 0 _ val (fun j a h1 => hle.fz _ _ _ (hf j a h1)) (fun j a h1 => (hv j a h1).mono hle))) (by simp [Value.oneCell'])
    refine ⟨.bool true, eB true, _, _, rfl, hle, ?_, .bool true, rfl, rfl⟩
    have hset : ∀ W : World, W.heap[b1]? = some (.cells #[.pointer none] T (0, 0)) → W.setCell ⟨b1, 0, none⟩ (.pointer (some ⟨b, o' + 0, none⟩)) = W.setRow b1 #[.pointer (some ⟨b, o' + 0, none⟩)] := by
      intro W hW
      unfold World.setCell World.setRow
      congr 1
      apply Array.ext_getElem?
      intro i
      rw [Array.getElem?_modify, Array.getElem?_modify]
      by_cases hi : b1 = i
      · subst hi; simp [hW]
      · simp [hi]
    rw [hset _ e3']
    exact k5
end Go.Proofs.YthjabhcbkbchjaaDoor
namespace Go.Proofs.YthjabhcbkbchjaaDoor
open Go Go.Va
set_option linter.unusedVariables false
set_option linter.unusedSimpArgs false
set_option maxRecDepth 20000
theorem slab_Size_ok {x0 : Int} {r : Int} (H : slab_Size x0 = some r) (σ : St)  : ACall Tryd.prog 10 [(eI x0)] σ (fun a τ => a = eI r ∧ τ = σ) := by
  unfold slab_Size at H
  refine ACall.pure (acall_start tk Tryd.func10 (by decide) rfl (Nat.le_of_ble_eq_true rfl) ?_)
  have hH := Holds.init σ
  refine awp_seq ?_
  refine awp_region rfl ?_
  refine wpo_mv (a := (eI (0 : Int))) rfl rfl rfl (o_as tk rfl (Wk.refl _)) ?_
  refine wpo_nil ?_
  refine awp_seq ?_
  refine awp_seq ?_
  obtain ⟨s1, hs3, hj4⟩ := Option.bind_eq_some_iff.1 H
  refine awp_cutn (fun fr τ => WkF fr (fm [(0, (eI x0)), (8, (eB s1))]) ∧ Holds σ [] [] τ) ?_ ?_
  · rintro fr τ ⟨hfr, hH⟩
    have H10 := hj4
    refine AWP.fm [(0, (eI x0)), (8, (eB s1))] hfr ?_
    refine awp_if H10 rfl (fun H11 => ?_) (fun H11 => ?_)
    · refine awp_seq ?_
      refine awp_region rfl ?_
      refine wpo_mv (a := (eI (0 : Int))) rfl rfl rfl (o_as tk rfl (Wk.refl _)) ?_
      refine wpo_nil ?_
      refine awp_ret ?_
      obtain rfl := Option.some.inj H11
      exact ⟨_, (eI (0 : Int)), rfl, (.of_eq rfl), .of_eq ((enc_i64 td3 sz3).cut _ _ _), hH.noT⟩
    · refine awp_skip ?_
      refine awp_seq ?_
      refine awp_region rfl ?_
      refine wpo_mv (a := (eI x0)) rfl rfl rfl (o_mv tk rfl (Wk.refl _)) ?_
      refine wpo_bd H11 eI rfl rfl rfl (fun v13 hv => om_shl tk hv rfl rfl) fun v13 hv13 H12 => ?_
      refine wpo_mv (a := (eI v13)) rfl rfl rfl (o_as tk rfl (Wk.refl _)) ?_
      refine wpo_nil ?_
      refine awp_ret ?_
      obtain rfl := Option.some.inj H12
      exact ⟨_, (eI v13), rfl, (.of_eq rfl), .of_eq ((enc_i64 td3 sz3).cut _ _ _), hH.noT⟩
  · refine awp_region rfl ?_
    refine wpo_mv (a := (eI x0)) rfl rfl rfl (o_mv tk rfl (Wk.refl _)) ?_
    refine wpo_lt hs3 eB rfl rfl rfl (o_ar tk rfl rfl rfl) fun v6 H5 => ?_
    refine wpo_mv (a := (eB v6)) rfl rfl rfl (o_mv tk rfl (Wk.refl _)) ?_
    refine if_split H5 (fun hb H7 => ?_) (fun hb H7 => ?_)
    · subst hb
      refine wpo_skip rfl rfl rfl ?_
      refine wpo_skip rfl rfl rfl ?_
      refine wpo_mv (a := (eB true)) rfl rfl rfl (o_pick_t tk rfl rfl (Wk.refl _)) ?_
      refine wpo_nil ?_
      have e := Option.some.inj H7
      subst e
      exact ⟨(wkf_cons (.of_eq rfl) (wkf_cons (.of_eq rfl) (wkf_nil _))), hH⟩
    · subst hb
      refine wpo_mv (a := (eI x0)) rfl rfl rfl (o_mv tk rfl (Wk.refl _)) ?_
      refine wpo_lt H7 eB rfl rfl rfl (o_ar tk rfl rfl rfl) fun v9 H8 => ?_
      refine wpo_mv (a := (eB v9)) rfl rfl rfl (o_pick_f tk rfl rfl (Wk.refl _)) ?_
      refine wpo_nil ?_
      have e := Option.some.inj H8
      subst e
      exact ⟨(wkf_cons (.of_eq rfl) (wkf_cons (.of_eq rfl) (wkf_nil _))), hH⟩
end Go.Proofs.YthjabhcbkbchjaaDoor
namespace Go.Proofs.YthjabhcbkbchjaaDoor
open Go Go.Va
set_option linter.unusedVariables false
set_option linter.unusedSimpArgs false
set_option maxRecDepth 20000
theorem slab_Class_ok {x0 : Int} {r : Int} (H : slab_Class x0 = some r) (σ : St)  : ACall Tryd.prog 12 [(eI x0)] σ (fun a τ => a = eI r ∧ τ = σ) := by
  unfold slab_Class at H
  refine ACall.pure (acall_start tk Tryd.func12 (by decide) rfl (Nat.le_of_ble_eq_true rfl) ?_)
  have hH := Holds.init σ
  refine awp_seq ?_
  refine awp_region rfl ?_
  refine wpo_mv (a := (eI (0 : Int))) rfl rfl rfl (o_as tk rfl (Wk.refl _)) ?_
  refine wpo_nil ?_
  refine awp_seq ?_
  refine awp_seq ?_
  refine awp_region rfl ?_
  refine wpo_mv (a := (eI x0)) rfl rfl rfl (o_mv tk rfl (Wk.refl _)) ?_
  refine wpo_lt H eB rfl rfl rfl (o_ar tk rfl rfl rfl) fun v2 H1 => ?_
  refine wpo_nil ?_
  refine awp_if H1 rfl (fun H3 => ?_) (fun H3 => ?_)
  · refine awp_seq ?_
    refine awp_region rfl ?_
    refine wpo_mv (a := (eI (-1 : Int))) rfl rfl rfl (o_as tk rfl (Wk.refl _)) ?_
    refine wpo_nil ?_
    refine awp_ret ?_
    obtain rfl := Option.some.inj H3
    exact ⟨_, (eI (-1 : Int)), rfl, (.of_eq rfl), .of_eq ((enc_i64 td3 sz3).cut _ _ _), hH.noT⟩
  · refine awp_skip ?_
    refine awp_seq ?_
    refine awp_seq ?_
    refine awp_region rfl ?_
    refine wpo_mv (a := (eI (0 : Int))) rfl rfl rfl (o_mv tk rfl (Wk.refl _)) ?_
    refine wpo_nil ?_
    refine awp_block ?_
    obtain ⟨o5, hs6, hj7⟩ := Option.bind_eq_some_iff.1 H3
    refine awp_cutx 0 (fun fr τ => ∃ s12 : Unit, o5 = .inl s12 ∧ WkF fr (fm []) ∧ Holds σ [] [] τ) ?_ ?_
    · rintro fr τ ⟨s12, rfl, hfr, hH⟩
      have H25 := hj7
      simp only [Sum.elim_inl] at H25
      refine AWP.fm [] hfr ?_
      refine awp_seq ?_
      refine awp_region rfl ?_
      refine wpo_mv (a := (eI (-1 : Int))) rfl rfl rfl (o_as tk rfl (Wk.refl _)) ?_
      refine wpo_nil ?_
      refine awp_ret ?_
      obtain rfl := Option.some.inj H25
      exact ⟨_, (eI (-1 : Int)), rfl, (.of_eq rfl), .of_eq ((enc_i64 td3 sz3).cut _ _ _), hH.noT⟩
    · refine awp_loopO (body := fun s => slab_Class_b0 x0 s) hs6 (fun (s : Int) fr τ => WkF fr (fm [(0, (eI x0)), (6, (eI s))]) ∧ Holds σ [] [] τ) ⟨(wkf_cons (.of_eq rfl) (wkf_cons (.of_eq rfl) (wkf_nil _))), hH⟩ ?_
      rintro c4 fr τ y8 ⟨hfr, hH⟩ hb10 hy11
      have H13 : slab_Class_b0 x0 c4 = some y8 := hb10
      unfold slab_Class_b0 at H13
      refine AWP.fm [(0, (eI x0)), (6, (eI c4))] hfr ?_
      have hH : Holds σ [] [] τ := hH
      refine awp_seq ?_
      refine awp_region rfl ?_
      refine wpo_lt H13 eB rfl rfl rfl (o_ar tk rfl rfl rfl) fun v15 H14 => ?_
      refine wpo_nil ?_
      refine awp_seq ?_
      refine awp_if H14 rfl (fun H16 => ?_) (fun H16 => ?_)
      · refine awp_skip ?_
        refine awp_seq ?_
        refine awp_block ?_
        refine awp_seq ?_
        refine awp_region rfl ?_
        refine wpo_mv (a := (eI c4)) rfl rfl rfl (o_mv tk rfl (Wk.refl _)) ?_
        refine wpo_mv (a := (eI c4)) rfl rfl rfl (o_as tk rfl (Wk.refl _)) ?_
        refine wpo_nil ?_
        refine awp_seq ?_
        refine awp_region rfl ?_
        refine wpo_mv (a := (eI x0)) rfl rfl rfl (o_mv tk rfl (Wk.refl _)) ?_
        refine wpo_mv (a := (eI c4)) rfl rfl rfl (o_mv tk rfl (Wk.refl _)) ?_
        refine wpo_bd H16 eI rfl rfl rfl (fun v18 hv => OpP.of_call rfl rfl (.cons (.of_eq rfl) .nil) (slab_Size_ok hv)) fun v18 hv18 H17 => ?_
        refine wpo_lt H17 eB rfl rfl rfl (o_ar tk rfl rfl rfl) fun v20 H19 => ?_
        refine wpo_nil ?_
        refine awp_if H19 rfl (fun H21 => ?_) (fun H21 => ?_)
        · refine awp_seq ?_
          refine awp_region rfl ?_
          refine wpo_mv (a := (eI c4)) rfl rfl rfl (o_mv tk rfl (Wk.refl _)) ?_
          refine wpo_mv (a := (eI c4)) rfl rfl rfl (o_as tk rfl (Wk.refl _)) ?_
          refine wpo_nil ?_
          refine awp_ret ?_
          have hz := hy11 _ (inj_inr H21)
          refine ⟨⟨_, inj_inr H21⟩, ?_⟩
          rw [← hz] at hj7
          have H22 := (show some _ = some _ from hj7)
          obtain rfl := Option.some.inj H22
          exact ⟨_, (eI c4), rfl, (.of_eq rfl), .of_eq ((enc_i64 td3 sz3).cut _ _ _), hH.noT⟩
        · refine awp_skip ?_
          refine awp_region rfl ?_
          refine wpo_lt H21 eI rfl rfl rfl (o_ar tk rfl rfl rfl) fun v24 H23 => ?_
          refine wpo_mv (a := (eI v24)) rfl rfl rfl (o_mv tk rfl (Wk.refl _)) ?_
          refine wpo_nil ?_
          exact ⟨v24, inj_inl H23, (wkf_cons (.of_eq rfl) (wkf_cons (.of_eq rfl) (wkf_nil _))), hH⟩
      · refine awp_exit ?_
        have hz := hy11 _ (inj_inr H16)
        exact ⟨⟨_, inj_inr H16⟩, (), hz.symm, (wkf_nil _), hH⟩
end Go.Proofs.YthjabhcbkbchjaaDoor
namespace Go.Proofs.YthjabhcbkbchjaaDoor
open Go Go.Va
set_option linter.unusedVariables false
set_option linter.unusedSimpArgs false
set_option maxRecDepth 20000
theorem trouble_New_ok {x0 : List (BitVec 8)} {x1 : Int} {x2 : Int} {r : Err} (H : trouble_New x0 x1 x2 = some r) (σ : St)  : ACall Tryd.prog 42 [(eS x0), (eI x1), (eI x2)] σ (fun a τ => a = eErr r ∧ τ = σ) := by
  unfold trouble_New at H
  refine ACall.pure (acall_start tk Tryd.func42 (by decide) rfl (Nat.le_of_ble_eq_true rfl) ?_)
  have hH := Holds.init σ
  refine awp_seq ?_
  refine awp_region rfl ?_
  refine wpo_mv (a := (eErr Err.nil)) rfl rfl rfl (o_as tk rfl (Wk.refl _)) ?_
  refine wpo_nil ?_
  refine awp_seq ?_
  refine awp_seq ?_
  refine awp_region rfl ?_
  refine wpo_mv (a := (eI x2)) rfl rfl rfl (o_mv tk rfl (Wk.refl _)) ?_
  refine wpo_lt H eB rfl rfl rfl (o_ar tk rfl rfl rfl) fun v2 H1 => ?_
  refine wpo_nil ?_
  refine awp_if H1 rfl (fun H3 => ?_) (fun H3 => ?_)
  · refine awp_seq ?_
    refine awp_region rfl ?_
    refine wpo_mv (a := (eErr Err.nil)) rfl rfl rfl (o_as tk rfl (Wk.refl _)) ?_
    refine wpo_nil ?_
    refine awp_ret ?_
    obtain rfl := Option.some.inj H3
    exact ⟨_, (eErr Err.nil), rfl, (.of_eq rfl), .of_eq (encErr.cut _ _ _), hH.noT⟩
  · refine awp_skip ?_
    refine awp_seq ?_
    refine awp_region rfl ?_
    refine wpo_mv (a := (eS x0)) rfl rfl rfl (o_mv tk rfl (Wk.refl _)) ?_
    refine wpo_mv (a := (eI x1)) rfl rfl rfl (o_mv tk rfl (Wk.refl _)) ?_
    refine wpo_mv (a := (eI x2)) rfl rfl rfl (o_mv tk rfl (Wk.refl _)) ?_
    refine wpo_lt H3 e_trouble_fault rfl rfl rfl (o_c tk false rfl (fun _ => rfl)) fun v5 H4 => ?_
    refine wpo_mv (a := (.fptr (c_trouble_fault v5) 0)) rfl rfl rfl (o_boxf tk rfl (.of_eq rfl) (b := (e_trouble_fault v5)) (enc83.flat _)) ?_
    refine wpo_mv (a := (eErr (Err.fault v5.op v5.at_ v5.code v5.under))) rfl rfl rfl (o_c tk false rfl (fun _ => rfl)) ?_
    refine wpo_mv (a := (eErr (Err.fault v5.op v5.at_ v5.code v5.under))) rfl rfl rfl (o_as tk rfl (Wk.refl _)) ?_
    refine wpo_nil ?_
    refine awp_ret ?_
    obtain rfl := Option.some.inj H4
    exact ⟨_, (eErr (Err.fault v5.op v5.at_ v5.code v5.under)), rfl, (.of_eq rfl), .of_eq (encErr.cut _ _ _), hH.noT⟩
end Go.Proofs.YthjabhcbkbchjaaDoor
namespace Go.Proofs.YthjabhcbkbchjaaDoor
open Go Go.Va
set_option linter.unusedVariables false
set_option linter.unusedSimpArgs false
set_option maxRecDepth 20000
theorem slab_New_ok {x0 : Int} {r : (Option slab_Budget) × Err} (H : slab_New x0 = some r) (σ : St)  : ACall Tryd.prog 15 [(eI x0)] σ (fun a τ => NewO c_slab_Budget [eErr r.2] σ r.1 a τ) := by
  unfold slab_New at H
  refine ACall.newo (fun ρ κ => by simp only [cutL, encErr.cut ρ κ]) (fun c ρ κ => c_slab_Budget_cut ρ κ c) (acall_start tk Tryd.func15 (by decide) rfl (Nat.le_of_ble_eq_true rfl) ?_)
  have hH := Holds.init σ
  refine awp_seq ?_
  refine awp_region rfl ?_
  refine wpo_mv (a := .nilp) rfl rfl rfl (o_as tk rfl (Wk.refl _)) ?_
  refine wpo_mv (a := (eErr Err.nil)) rfl rfl rfl (o_as tk rfl (Wk.refl _)) ?_
  refine wpo_nil ?_
  refine awp_seq ?_
  refine awp_seq ?_
  obtain ⟨s1, hs3, hj4⟩ := Option.bind_eq_some_iff.1 H
  refine awp_cutn (fun fr τ => WkF fr (fm [(0, (eI x0)), (9, (eB s1))]) ∧ Holds σ [] [] τ) ?_ ?_
  · rintro fr τ ⟨hfr, hH⟩
    have H10 := hj4
    refine AWP.fm [(0, (eI x0)), (9, (eB s1))] hfr ?_
    refine awp_if H10 rfl (fun H11 => ?_) (fun H11 => ?_)
    · refine awp_seq ?_
      refine awp_region rfl ?_
      refine wpo_mv (a := (eI x0)) rfl rfl rfl (o_mv tk rfl (Wk.refl _)) ?_
      refine wpo_bd H11 eErr rfl rfl rfl (fun v13 hv => OpP.of_call rfl rfl (.cons (.of_eq rfl) (.cons (.of_eq rfl) (.cons (.of_eq rfl) .nil))) (trouble_New_ok hv)) fun v13 hv13 H12 => ?_
      refine wpo_mv (a := .nilp) rfl rfl rfl (o_as tk rfl (Wk.refl _)) ?_
      refine wpo_mv (a := (eErr v13)) rfl rfl rfl (o_as tk rfl (Wk.refl _)) ?_
      refine wpo_nil ?_
      refine awp_ret ?_
      obtain rfl := Option.some.inj H12
      exact ⟨_, .tup [.nilp, (eErr v13)], rfl, .of_eq rfl, NewE.none hH.noT⟩
    · refine awp_skip ?_
      refine awp_seq ?_
      refine awp_region rfl ?_
      refine wpo_mv (a := (eI x0)) rfl rfl rfl (o_mv tk rfl (Wk.refl _)) ?_
      refine wpo_lt H11 e_slab_Budget rfl rfl rfl (o_c tk false rfl (fun _ => rfl)) fun v15 H14 => ?_
      refine wpo_a (av := fun id => .ref id 0) rfl rfl rfl (h_box tk hH rfl (.of_eq rfl) (b := (e_slab_Budget v15)) (cf_slab_Budget _) (c_slab_Budget v15) rfl) fun id16 τ ⟨hH, n17⟩ => ?_
      refine wpo_mv (a := (.ref id16 0)) rfl rfl rfl (o_as tk rfl (Wk.refl _)) ?_
      refine wpo_mv (a := (eErr Err.nil)) rfl rfl rfl (o_as tk rfl (Wk.refl _)) ?_
      refine wpo_nil ?_
      refine awp_ret ?_
      obtain rfl := Option.some.inj H14
      exact ⟨_, .tup [.ref id16 0, (eErr Err.nil)], rfl, .of_eq rfl, NewE.some n17 hH.noT⟩
  · refine awp_region rfl ?_
    refine wpo_mv (a := (eI x0)) rfl rfl rfl (o_mv tk rfl (Wk.refl _)) ?_
    refine wpo_lt hs3 eB rfl rfl rfl (o_ar tk rfl rfl rfl) fun v6 H5 => ?_
    refine wpo_mv (a := (eB v6)) rfl rfl rfl (o_mv tk rfl (Wk.refl _)) ?_
    refine if_split H5 (fun hb H7 => ?_) (fun hb H7 => ?_)
    · subst hb
      refine wpo_skip rfl rfl rfl ?_
      refine wpo_skip rfl rfl rfl ?_
      refine wpo_mv (a := (eB true)) rfl rfl rfl (o_pick_t tk rfl rfl (Wk.refl _)) ?_
      refine wpo_nil ?_
      have e := Option.some.inj H7
      subst e
      exact ⟨(wkf_cons (.of_eq rfl) (wkf_cons (.of_eq rfl) (wkf_nil _))), hH⟩
    · subst hb
      refine wpo_mv (a := (eI x0)) rfl rfl rfl (o_mv tk rfl (Wk.refl _)) ?_
      refine wpo_lt H7 eB rfl rfl rfl (o_ar tk rfl rfl rfl) fun v9 H8 => ?_
      refine wpo_mv (a := (eB v9)) rfl rfl rfl (o_pick_f tk rfl rfl (Wk.refl _)) ?_
      refine wpo_nil ?_
      have e := Option.some.inj H8
      subst e
      exact ⟨(wkf_cons (.of_eq rfl) (wkf_cons (.of_eq rfl) (wkf_nil _))), hH⟩
end Go.Proofs.YthjabhcbkbchjaaDoor
namespace Go.Proofs.YthjabhcbkbchjaaDoor
open Go Go.Va
set_option linter.unusedVariables false
set_option linter.unusedSimpArgs false
set_option maxRecDepth 20000
theorem slab_Budget_Left_ok {x0 : slab_Budget} {r : Int} (H : slab_Budget_Left x0 = some r) (σ : St) {p0 : Nat} (h0 : σ.objs[p0]? = some (c_slab_Budget x0)) : ACall Tryd.prog 37 [(.ref p0 0)] σ (fun a τ => a = eI r ∧ τ = σ) := by
  unfold slab_Budget_Left at H
  refine ACall.pure (acall_start tk Tryd.func37 (by decide) rfl (Nat.le_of_ble_eq_true rfl) ?_)
  have hH := Holds.init σ
  have hH := hH.bring h0 (fun _ h => by cases h)
  refine awp_seq ?_
  refine awp_region rfl ?_
  refine wpo_mv (a := (eI (0 : Int))) rfl rfl rfl (o_as tk rfl (Wk.refl _)) ?_
  refine wpo_nil ?_
  refine awp_seq ?_
  refine awp_drawS mixed [] rfl (by decide +kernel) rfl rfl ?_
  refine wpdS_mv (a := (.ref p0 0)) rfl rfl rfl (o_mv tk rfl (Wk.refl _)) ?_
  refine wpdS_mv (a := (.ref p0 0)) rfl rfl rfl (o_c tk false rfl (fun _ => rfl)) ?_
  refine wpdS_mv (a := (.ref p0 0)) rfl rfl rfl (o_c tk false rfl (fun _ => rfl)) ?_
  refine wpdS_rd (a := (eI x0.limit)) rfl (by decide +kernel) rfl rfl (h_ld tk hH 0 rfl (g_slab_Budget_limit _) rfl) ?_
  refine wpdS_mv (a := (.ref p0 0)) rfl rfl rfl (o_mv tk rfl (Wk.refl _)) ?_
  refine wpdS_mv (a := (.ref p0 0)) rfl rfl rfl (o_c tk false rfl (fun _ => rfl)) ?_
  refine wpdS_mv (a := (.ref p0 1)) rfl rfl rfl (o_c tk false rfl (fun _ => rfl)) ?_
  refine wpdS_rd (a := (eI x0.used)) rfl (by decide +kernel) rfl rfl (h_ld tk hH 0 rfl (g_slab_Budget_used _) rfl) ?_
  refine wpdS_lt H eI rfl rfl rfl (o_ar tk rfl rfl rfl) fun v2 H1 => ?_
  refine wpdS_mv (a := (eI v2)) rfl rfl rfl (o_as tk rfl (Wk.refl _)) ?_
  refine wpdS_nil ?_
  refine awp_ret ?_
  obtain rfl := Option.some.inj H1
  exact ⟨_, (eI v2), rfl, (.of_eq rfl), .of_eq ((enc_i64 td3 sz3).cut _ _ _), (hH.noT.unbring h0)⟩
end Go.Proofs.YthjabhcbkbchjaaDoor
namespace Go.Proofs.YthjabhcbkbchjaaDoor
open Go Go.Va
set_option linter.unusedVariables false
set_option linter.unusedSimpArgs false
set_option maxRecDepth 20000
theorem slab_Budget_Take_ok {x0 : slab_Budget} {x1 : Int} {r : Err × slab_Budget} (H : slab_Budget_Take x0 x1 = some r) (σ : St) {p0 : Nat} (h0 : σ.objs[p0]? = some (c_slab_Budget x0)) : ACall Tryd.prog 16 [(.ref p0 0), (eI x1)] σ (fun a τ => a = eErr r.1 ∧ τ = σ.puts [(p0, (c_slab_Budget r.2))]) := by
  unfold slab_Budget_Take at H
  refine ACall.out [(p0, (c_slab_Budget r.2))] (by simp only [List.mem_cons, List.not_mem_nil, or_false]; rintro _ (rfl) ρ κ <;> exact c_slab_Budget_cut ρ κ _) (acall_start tk Tryd.func16 (by decide) rfl (Nat.le_of_ble_eq_true rfl) ?_)
  have hH := Holds.init σ
  have hH := hH.bring h0 (fun _ h => by cases h)
  refine awp_seq ?_
  refine awp_region rfl ?_
  refine wpo_mv (a := (eErr Err.nil)) rfl rfl rfl (o_as tk rfl (Wk.refl _)) ?_
  refine wpo_nil ?_
  refine awp_seq ?_
  refine awp_region rfl ?_
  refine wpo_mv (a := (eI x1)) rfl rfl rfl (o_mv tk rfl (Wk.refl _)) ?_
  refine wpo_bd H eI rfl rfl rfl (fun v2 hv => OpP.of_call rfl rfl (.cons (.of_eq rfl) .nil) (slab_Size_ok hv)) fun v2 hv2 H1 => ?_
  refine wpo_mv (a := (eI v2)) rfl rfl rfl (o_as tk rfl (Wk.refl _)) ?_
  refine wpo_nil ?_
  refine awp_seq ?_
  refine awp_block ?_
  refine awp_seq ?_
  refine awp_region rfl ?_
  refine wpo_mv (a := (eI v2)) rfl rfl rfl (o_mv tk rfl (Wk.refl _)) ?_
  refine wpo_lt H1 eB rfl rfl rfl (o_ar tk rfl rfl rfl) fun v4 H3 => ?_
  refine wpo_mv (a := (eB v4)) rfl rfl rfl (o_as tk rfl (Wk.refl _)) ?_
  refine wpo_nil ?_
  refine awp_if H3 rfl (fun H5 => ?_) (fun H5 => ?_)
  · refine awp_seq ?_
    refine awp_region rfl ?_
    refine wpo_mv (a := (eI x1)) rfl rfl rfl (o_mv tk rfl (Wk.refl _)) ?_
    refine wpo_bd H5 eErr rfl rfl rfl (fun v7 hv => OpP.of_call rfl rfl (.cons (.of_eq rfl) (.cons (.of_eq rfl) (.cons (.of_eq rfl) .nil))) (trouble_New_ok hv)) fun v7 hv7 H6 => ?_
    refine wpo_mv (a := (eErr v7)) rfl rfl rfl (o_as tk rfl (Wk.refl _)) ?_
    refine wpo_nil ?_
    refine awp_ret ?_
    obtain rfl := Option.some.inj H6
    exact ⟨_, (eErr v7), rfl, (.of_eq rfl), .of_eq (encErr.cut _ _ _), hH.noT⟩
  · refine awp_seq ?_
    refine awp_region rfl ?_
    refine wpo_mv (a := (eI v2)) rfl rfl rfl (o_mv tk rfl (Wk.refl _)) ?_
    refine wpo_mv (a := (.ref p0 0)) rfl rfl rfl (o_mv tk rfl (Wk.refl _)) ?_
    refine wpo_bdr H5 eI rfl rfl rfl (fun v9 hv => h_callr rfl rfl (.cons (.of_eq rfl) .nil) (slab_Budget_Left_ok hv _ (hH.at_ 0 rfl))) fun v9 hv9 H8 => ?_
    refine wpo_lt H8 eB rfl rfl rfl (o_ar tk rfl rfl rfl) fun v11 H10 => ?_
    refine wpo_mv (a := (eB v11)) rfl rfl rfl (o_as tk rfl (Wk.refl _)) ?_
    refine wpo_nil ?_
    refine awp_if H10 rfl (fun H12 => ?_) (fun H12 => ?_)
    · refine awp_seq ?_
      refine awp_region rfl ?_
      refine wpo_mv (a := (eI v2)) rfl rfl rfl (o_mv tk rfl (Wk.refl _)) ?_
      refine wpo_bd H12 eErr rfl rfl rfl (fun v14 hv => OpP.of_call rfl rfl (.cons (.of_eq rfl) (.cons (.of_eq rfl) (.cons (.of_eq rfl) .nil))) (trouble_New_ok hv)) fun v14 hv14 H13 => ?_
      refine wpo_mv (a := (eErr v14)) rfl rfl rfl (o_as tk rfl (Wk.refl _)) ?_
      refine wpo_nil ?_
      refine awp_ret ?_
      obtain rfl := Option.some.inj H13
      exact ⟨_, (eErr v14), rfl, (.of_eq rfl), .of_eq (encErr.cut _ _ _), hH.noT⟩
    · refine awp_skip ?_
      refine awp_seq ?_
      refine awp_region rfl ?_
      refine wpo_mv (a := (.ref p0 0)) rfl rfl rfl (o_mv tk rfl (Wk.refl _)) ?_
      refine wpo_mv (a := (.ref p0 0)) rfl rfl rfl (o_c tk false rfl (fun _ => rfl)) ?_
      refine wpo_mv (a := (.ref p0 1)) rfl rfl rfl (o_c tk false rfl (fun _ => rfl)) ?_
      refine wpo_rd (a := (eI x0.used)) rfl rfl rfl (h_ld tk hH 0 rfl (g_slab_Budget_used _) rfl) ?_
      refine wpo_mv (a := (eI v2)) rfl rfl rfl (o_mv tk rfl (Wk.refl _)) ?_
      refine wpo_lt H12 eI rfl rfl rfl (o_ar tk rfl rfl rfl) fun v16 H15 => ?_
      refine wpo_mv (a := (.ref p0 0)) rfl rfl rfl (o_c tk false rfl (fun _ => rfl)) ?_
      refine wpo_mv (a := (.ref p0 1)) rfl rfl rfl (o_c tk false rfl (fun _ => rfl)) ?_
      obtain ⟨c18, hc19, H17⟩ := lt_ex H15
      refine wpo_z rfl rfl (h_st tk hH 0 rfl ty3 (by simp) rfl rfl (.of_eq rfl) (b := (eI v16)) rfl rfl (by rw [cl_slab_Budget]; decide) (c_slab_Budget c18) (by rw [← hc19]; exact s_slab_Budget_used _ _)) fun τ hH => ?_
      refine wpo_nil ?_
      refine awp_seq ?_
      refine awp_drawS mixed [10] rfl (by decide +kernel) rfl rfl ?_
      refine wpdS_mv (a := (.ref p0 0)) rfl rfl rfl (o_mv tk rfl (Wk.refl _)) ?_
      refine wpdS_mv (a := (eI x1)) rfl rfl rfl (o_mv tk rfl (Wk.refl _)) ?_
      refine wpdS_mv (a := (.ref p0 0)) rfl rfl rfl (o_c tk false rfl (fun _ => rfl)) ?_
      refine wpdS_mv (a := (.ref p0 2)) rfl rfl rfl (o_c tk false rfl (fun _ => rfl)) ?_
      refine wpdS_bd H17 (fun _ => .ref p0 (2 + (x1 : Int).toNat * 1 + 0)) rfl rfl rfl (fun v21 hv => o_arrb tk hv td72 sz3 (by decide) rfl rfl) fun v21 hv21 H20 => ?_
      refine wpdS_bdr H20 (fun y => eI y) rfl (by decide +kernel) rfl rfl (fun v23 hv => h_ldb tk hH 0 hv rfl (sp_slab_Budget_count _) (al_slab_Budget_count _) (enc_i64 td3 sz3) (acut_enc (enc_i64 td3 sz3) rfl _) (by decide) rfl) fun v23 hv23 H22 => ?_
      refine wpdS_lt H22 eI rfl rfl rfl (o_ar tk rfl rfl rfl) fun v25 H24 => ?_
      refine wpdS_mv (a := (.ref p0 0)) rfl rfl rfl (o_c tk false rfl (fun _ => rfl)) ?_
      refine wpdS_mv (a := (.ref p0 2)) rfl rfl rfl (o_c tk false rfl (fun _ => rfl)) ?_
      refine wpdS_bd H24 (fun _ => .ref p0 (2 + (x1 : Int).toNat * 1 + 0)) rfl rfl rfl (fun v27 hv => o_arrb tk hv td72 sz3 (by decide) rfl rfl) fun v27 hv27 H26 => ?_
      obtain ⟨v29, hv30, H28⟩ := Option.bind_eq_some_iff.1 H26
      obtain ⟨c31, hc32, H33⟩ := lt_ex H28
      refine wpdS_z rfl rfl rfl (by rw [← hc32]; exact (h_stb tk hH 0 hv30 rfl (sp_slab_Budget_count _) (sp_slab_Budget_count { c18 with count := v29 }) (al_slab_Budget_count _) (enc_i64 td3 sz3) ty3 (by simp) rfl rfl (.of_eq rfl) (b := (eI v25)) rfl rfl (by decide) (fun _ => rfl))) fun τ (hH : Holds σ [(p0, (c_slab_Budget c31))] [] τ) => ?_
      refine wpdS_nil ?_
      refine awp_seq ?_
      refine awp_region rfl ?_
      refine wpo_mv (a := (eErr Err.nil)) rfl rfl rfl (o_as tk rfl (Wk.refl _)) ?_
      refine wpo_nil ?_
      refine awp_ret ?_
      obtain rfl := Option.some.inj H33
      exact ⟨_, (eErr Err.nil), rfl, (.of_eq rfl), .of_eq (encErr.cut _ _ _), hH.noT⟩
end Go.Proofs.YthjabhcbkbchjaaDoor
namespace Go.Proofs.YthjabhcbkbchjaaDoor
open Go Go.Va
set_option linter.unusedVariables false
set_option linter.unusedSimpArgs false
set_option maxRecDepth 20000
theorem slab_Budget_Count_ok {x0 : slab_Budget} {x1 : Int} {r : Int} (H : slab_Budget_Count x0 x1 = some r) (σ : St) {p0 : Nat} (h0 : σ.objs[p0]? = some (c_slab_Budget x0)) : ACall Tryd.prog 18 [(.ref p0 0), (eI x1)] σ (fun a τ => a = eI r ∧ τ = σ) := by
  unfold slab_Budget_Count at H
  refine ACall.pure (acall_start tk Tryd.func18 (by decide) rfl (Nat.le_of_ble_eq_true rfl) ?_)
  have hH := Holds.init σ
  have hH := hH.bring h0 (fun _ h => by cases h)
  refine awp_seq ?_
  refine awp_region rfl ?_
  refine wpo_mv (a := (eI (0 : Int))) rfl rfl rfl (o_as tk rfl (Wk.refl _)) ?_
  refine wpo_nil ?_
  refine awp_seq ?_
  refine awp_seq ?_
  refine awp_region rfl ?_
  refine wpo_mv (a := (eI x1)) rfl rfl rfl (o_mv tk rfl (Wk.refl _)) ?_
  refine wpo_bd H eI rfl rfl rfl (fun v2 hv => OpP.of_call rfl rfl (.cons (.of_eq rfl) .nil) (slab_Size_ok hv)) fun v2 hv2 H1 => ?_
  refine wpo_lt H1 eB rfl rfl rfl (o_ar tk rfl rfl rfl) fun v4 H3 => ?_
  refine wpo_nil ?_
  refine awp_if H3 rfl (fun H5 => ?_) (fun H5 => ?_)
  · refine awp_seq ?_
    refine awp_region rfl ?_
    refine wpo_mv (a := (eI (0 : Int))) rfl rfl rfl (o_as tk rfl (Wk.refl _)) ?_
    refine wpo_nil ?_
    refine awp_ret ?_
    obtain rfl := Option.some.inj H5
    exact ⟨_, (eI (0 : Int)), rfl, (.of_eq rfl), .of_eq ((enc_i64 td3 sz3).cut _ _ _), (hH.noT.unbring h0)⟩
  · refine awp_skip ?_
    refine awp_seq ?_
    refine awp_region rfl ?_
    refine wpo_mv (a := (.ref p0 0)) rfl rfl rfl (o_mv tk rfl (Wk.refl _)) ?_
    refine wpo_mv (a := (eI x1)) rfl rfl rfl (o_mv tk rfl (Wk.refl _)) ?_
    refine wpo_mv (a := (.ref p0 0)) rfl rfl rfl (o_c tk false rfl (fun _ => rfl)) ?_
    refine wpo_mv (a := (.ref p0 2)) rfl rfl rfl (o_c tk false rfl (fun _ => rfl)) ?_
    refine wpo_bd H5 (fun _ => .ref p0 (2 + (x1 : Int).toNat * 1 + 0)) rfl rfl rfl (fun v7 hv => o_arrb tk hv td72 sz3 (by decide) rfl rfl) fun v7 hv7 H6 => ?_
    refine wpo_bdr H6 (fun y => eI y) rfl rfl rfl (fun v9 hv => h_ldb tk hH 0 hv rfl (sp_slab_Budget_count _) (al_slab_Budget_count _) (enc_i64 td3 sz3) (acut_enc (enc_i64 td3 sz3) rfl _) (by decide) rfl) fun v9 hv9 H8 => ?_
    refine wpo_mv (a := (eI v9)) rfl rfl rfl (o_as tk rfl (Wk.refl _)) ?_
    refine wpo_nil ?_
    refine awp_ret ?_
    obtain rfl := Option.some.inj H8
    exact ⟨_, (eI v9), rfl, (.of_eq rfl), .of_eq ((enc_i64 td3 sz3).cut _ _ _), (hH.noT.unbring h0)⟩
end Go.Proofs.YthjabhcbkbchjaaDoor
namespace Go.Proofs.YthjabhcbkbchjaaDoor
open Go Go.Va
set_option linter.unusedVariables false
set_option linter.unusedSimpArgs false
set_option maxRecDepth 20000
theorem slab_Budget_Used_ok {x0 : slab_Budget} {r : Int} (H : slab_Budget_Used x0 = some r) (σ : St) {p0 : Nat} (h0 : σ.objs[p0]? = some (c_slab_Budget x0)) : ACall Tryd.prog 19 [(.ref p0 0)] σ (fun a τ => a = eI r ∧ τ = σ) := by
  unfold slab_Budget_Used at H
  refine ACall.pure (acall_start tk Tryd.func19 (by decide) rfl (Nat.le_of_ble_eq_true rfl) ?_)
  have hH := Holds.init σ
  have hH := hH.bring h0 (fun _ h => by cases h)
  refine awp_seq ?_
  refine awp_region rfl ?_
  refine wpo_mv (a := (eI (0 : Int))) rfl rfl rfl (o_as tk rfl (Wk.refl _)) ?_
  refine wpo_nil ?_
  refine awp_seq ?_
  refine awp_region rfl ?_
  refine wpo_mv (a := (.ref p0 0)) rfl rfl rfl (o_mv tk rfl (Wk.refl _)) ?_
  refine wpo_mv (a := (.ref p0 0)) rfl rfl rfl (o_c tk false rfl (fun _ => rfl)) ?_
  refine wpo_mv (a := (.ref p0 1)) rfl rfl rfl (o_c tk false rfl (fun _ => rfl)) ?_
  refine wpo_rd (a := (eI x0.used)) rfl rfl rfl (h_ld tk hH 0 rfl (g_slab_Budget_used _) rfl) ?_
  refine wpo_mv (a := (eI x0.used)) rfl rfl rfl (o_as tk rfl (Wk.refl _)) ?_
  refine wpo_nil ?_
  refine awp_ret ?_
  obtain rfl := Option.some.inj H
  exact ⟨_, (eI x0.used), rfl, (.of_eq rfl), .of_eq ((enc_i64 td3 sz3).cut _ _ _), (hH.noT.unbring h0)⟩
end Go.Proofs.YthjabhcbkbchjaaDoor
namespace Go.Proofs.YthjabhcbkbchjaaDoor
open Go Go.Va
set_option linter.unusedVariables false
set_option linter.unusedSimpArgs false
set_option maxRecDepth 20000
theorem trouble_Of_ok {x0 : Err} {r : Int} (H : trouble_Of x0 = some r) (σ : St) (hg : σ.gl = gls) : ACall Tryd.prog 23 [eErr x0] σ (fun a τ => a = eI r ∧ τ = σ) := by
  obtain rfl := Option.some.inj H
  refine ACall.pure (acall_start tk Tryd.func23 (by decide) rfl (Nat.le_of_ble_eq_true rfl) ?_)
  have hH := Holds.init σ
  refine awp_seq ?_
  refine awp_region rfl ?_
  refine wpo_mv (a := (eI (0 : Int))) rfl rfl rfl (o_as tk rfl (Wk.refl _)) ?_
  refine wpo_nil ?_
  refine awp_seq ?_
  refine awp_block ?_
  have hs := trouble_Of_l0 x0
  refine awp_cutx 0 (fun fr τ => codeOf x0 = 0 ∧ WkF fr (fm []) ∧ Holds σ [] [] τ) ?_ ?_
  · rintro fr τ ⟨h0, hfr, hH⟩
    refine AWP.fm [] hfr ?_
    refine awp_seq ?_
    refine awp_region rfl ?_
    refine wpo_mv (a := (eI 0)) rfl rfl rfl (o_as tk rfl (Wk.refl _)) ?_
    refine wpo_nil ?_
    refine awp_ret ?_
    rw [h0]
    exact ⟨_, (eI 0), rfl, (.of_eq rfl), .of_eq rfl, hH.noT⟩
  · refine awp_loopO (body := trouble_Of_b0) hs (fun (s : Err) fr τ => WkF fr (fm [(0, eErr s)]) ∧ Holds σ [] [] τ) ⟨(wkf_cons (.of_eq rfl) (wkf_nil _)), hH⟩ ?_
    rintro c1 fr τ y ⟨hfr, hH⟩ hb hy
    refine AWP.fm [(0, eErr c1)] hfr ?_
    cases c1 with
    | nil =>
      refine awp_seq ?_
      refine awp_seq ?_
      refine awp_region rfl ?_
      refine wpo_mv (a := eErr .nil) rfl rfl rfl (o_mv tk rfl (Wk.refl _)) ?_
      refine wpo_mv (a := eB false) rfl rfl rfl (o_err_neq (x := .nil) tk rfl rfl rfl) ?_
      refine wpo_nil ?_
      refine awp_false rfl ?_
      refine awp_exit ?_
      have hb : some (Sum.inr (Sum.inl ())) = some y := hb
      have hz := hy _ (Option.some.inj hb).symm
      refine ⟨⟨_, (Option.some.inj hb).symm⟩, ?_, (wkf_nil _), hH⟩
      split at hz
      · assumption
      · cases hz
    | fault o a c u =>
      refine awp_seq ?_
      refine awp_seq ?_
      refine awp_region rfl ?_
      refine wpo_mv (a := eErr (.fault o a c u)) rfl rfl rfl (o_mv tk rfl (Wk.refl _)) ?_
      refine wpo_mv (a := eB true) rfl rfl rfl (o_err_neq (x := .fault o a c u) tk rfl rfl rfl) ?_
      refine wpo_nil ?_
      refine awp_true rfl ?_
      refine awp_skip ?_
      refine awp_block ?_
      refine awp_seq ?_
      refine awp_region rfl ?_
      refine wpo_a (av := fun id => .ref id 0) rfl rfl rfl (h_alloc tk hH ty79 [.nilp] rfl) fun id τ ⟨hH, hn⟩ => ?_
      refine wpo_nil ?_
      refine awp_seq ?_
      refine awp_seq ?_
      refine awp_region rfl ?_
      refine wpo_mv (a := eErr (.fault o a c u)) rfl rfl rfl (o_mv tk rfl (Wk.refl _)) ?_
      refine wpo_mv (a := .iface 81 (.ref id 0)) rfl rfl rfl (o_c tk false rfl (fun _ => rfl)) ?_
      refine wpo_cb (α := Unit) (z := some ()) (k := fun _ => some ()) (r := ()) rfl (fun _ _ => eB true) rfl rfl rfl (fun v hv => h_call1 hH [(0, (id, [(Err.fault o a c u).ptr]))] ⟨⟨_, rfl⟩, trivial⟩ rfl rfl (.cons (.of_eq rfl) (.cons (.of_eq rfl) .nil)) (as_ok (x := .fault o a c u) rfl (hH.at_ 0 rfl) (hH.gl.trans hg))) fun _ _ τ _ _ hH => ?_
      refine wpo_mv (a := eB false) rfl rfl rfl (o_un tk rfl rfl) ?_
      refine wpo_nil ?_
      refine awp_false rfl ?_
      refine awp_skip ?_
      refine awp_seq ?_
      refine awp_seq ?_
      refine awp_region rfl ?_
      refine wpo_rd (a := (Err.fault o a c u).ptr) rfl rfl rfl (h_ld tk hH 0 rfl rfl rfl) ?_
      refine wpo_mv (a := (Err.fault o a c u).ptr) rfl rfl rfl (o_c tk false rfl (fun _ => rfl)) ?_
      refine wpo_mv (a := .fptr [eS o, eI a, eI c, eErr u] 2) rfl rfl rfl (o_c tk false rfl (fun _ => rfl)) ?_
      refine wpo_mv (a := eI c) rfl rfl rfl (o_ld tk rfl rfl) ?_
      refine wpo_mv (a := eB (c != 0)) rfl rfl rfl (o_ar tk rfl rfl rfl) ?_
      refine wpo_nil ?_
      have hb : (if (c != 0) = true then some (.inr (.inr c)) else some (.inl u)) = some y := hb
      refine awp_if hb rfl (fun hb => ?_) (fun hb => ?_)
      · refine awp_seq ?_
        refine awp_region rfl ?_
        refine wpo_rd (a := (Err.fault o a c u).ptr) rfl rfl rfl (h_ld tk hH 0 rfl rfl rfl) ?_
        refine wpo_mv (a := (Err.fault o a c u).ptr) rfl rfl rfl (o_c tk false rfl (fun _ => rfl)) ?_
        refine wpo_mv (a := .fptr [eS o, eI a, eI c, eErr u] 2) rfl rfl rfl (o_c tk false rfl (fun _ => rfl)) ?_
        refine wpo_mv (a := eI c) rfl rfl rfl (o_ld tk rfl rfl) ?_
        refine wpo_mv (a := eI c) rfl rfl rfl (o_as tk rfl (Wk.refl _)) ?_
        refine wpo_nil ?_
        refine awp_ret ?_
        have hz := hy _ (Option.some.inj hb).symm
        refine ⟨⟨_, (Option.some.inj hb).symm⟩, ?_⟩
        have hc : codeOf x0 = c := by
          split at hz
          · cases hz
          · exact Sum.inr.inj hz.symm
        rw [hc]
        exact ⟨_, (eI c), rfl, (.of_eq rfl), .of_eq rfl, (hH.noT.drop hn)⟩
      · refine awp_skip ?_
        refine awp_region rfl ?_
        refine wpo_rd (a := (Err.fault o a c u).ptr) rfl rfl rfl (h_ld tk hH 0 rfl rfl rfl) ?_
        refine wpo_mv (a := (Err.fault o a c u).ptr) rfl rfl rfl (o_c tk false rfl (fun _ => rfl)) ?_
        refine wpo_mv (a := .fptr [eS o, eI a, eI c, eErr u] 3) rfl rfl rfl (o_c tk false rfl (fun _ => rfl)) ?_
        refine wpo_mv (a := eErr u) rfl rfl rfl (o_ld tk rfl (by cases u <;> rfl)) ?_
        refine wpo_mv (a := eErr u) rfl rfl rfl (o_as tk rfl (Wk.refl _)) ?_
        refine wpo_nil ?_
        exact ⟨u, (Option.some.inj hb).symm, (wkf_cons (.of_eq rfl) (wkf_nil _)), hH.drop hn⟩
end Go.Proofs.YthjabhcbkbchjaaDoor
namespace Go.Proofs.YthjabhcbkbchjaaDoor
open Go Go.Va
set_option linter.unusedVariables false
set_option linter.unusedSimpArgs false
set_option maxRecDepth 20000
theorem slab_Budget_Fits_ok {x0 : slab_Budget} {x1 : Int} {r : Bool} (H : slab_Budget_Fits x0 x1 = some r) (σ : St) {p0 : Nat} (h0 : σ.objs[p0]? = some (c_slab_Budget x0)) : ACall Tryd.prog 40 [(.ref p0 0), (eI x1)] σ (fun a τ => a = eB r ∧ τ = σ) := by
  unfold slab_Budget_Fits at H
  refine ACall.pure (acall_start tk Tryd.func40 (by decide) rfl (Nat.le_of_ble_eq_true rfl) ?_)
  have hH := Holds.init σ
  have hH := hH.bring h0 (fun _ h => by cases h)
  refine awp_seq ?_
  refine awp_region rfl ?_
  refine wpo_mv (a := (eB false)) rfl rfl rfl (o_as tk rfl (Wk.refl _)) ?_
  refine wpo_nil ?_
  refine awp_seq ?_
  refine awp_region rfl ?_
  refine wpo_mv (a := (eI x1)) rfl rfl rfl (o_mv tk rfl (Wk.refl _)) ?_
  refine wpo_bd H eI rfl rfl rfl (fun v2 hv => OpP.of_call rfl rfl (.cons (.of_eq rfl) .nil) (slab_Class_ok hv)) fun v2 hv2 H1 => ?_
  refine wpo_mv (a := (eI v2)) rfl rfl rfl (o_as tk rfl (Wk.refl _)) ?_
  refine wpo_nil ?_
  refine awp_seq ?_
  refine awp_drawS mixed [] rfl (by decide +kernel) rfl rfl ?_
  refine wpdS_mv (a := (eI v2)) rfl rfl rfl (o_mv tk rfl (Wk.refl _)) ?_
  refine wpdS_lt H1 eB rfl rfl rfl (o_ar tk rfl rfl rfl) fun v4 H3 => ?_
  refine wpdS_mv (a := (eB v4)) rfl rfl rfl (o_mv tk rfl (Wk.refl _)) ?_
  refine if_split H3 (fun hb H5 => ?_) (fun hb H5 => ?_)
  · subst hb
    refine wpdS_mv (a := (eI v2)) rfl rfl rfl (o_mv tk rfl (Wk.refl _)) ?_
    refine wpdS_bd H5 eI rfl rfl rfl (fun v7 hv => OpP.of_call rfl rfl (.cons (.of_eq rfl) .nil) (slab_Size_ok hv)) fun v7 hv7 H6 => ?_
    refine wpdS_mv (a := (.ref p0 0)) rfl rfl rfl (o_mv tk rfl (Wk.refl _)) ?_
    refine wpdS_mv (a := (.ref p0 0)) rfl rfl rfl (o_c tk false rfl (fun _ => rfl)) ?_
    refine wpdS_mv (a := (.ref p0 0)) rfl rfl rfl (o_c tk false rfl (fun _ => rfl)) ?_
    refine wpdS_rd (a := (eI x0.limit)) rfl (by decide +kernel) rfl rfl (h_ld tk hH 0 rfl (g_slab_Budget_limit _) rfl) ?_
    refine wpdS_lt H6 eB rfl rfl rfl (o_ar tk rfl rfl rfl) fun v9 H8 => ?_
    refine wpdS_mv (a := (eB v9)) rfl rfl rfl (o_pick_t tk rfl rfl (Wk.refl _)) ?_
    refine wpdS_mv (a := (eB v9)) rfl rfl rfl (o_as tk rfl (Wk.refl _)) ?_
    refine wpdS_nil ?_
    refine awp_ret ?_
    obtain rfl := Option.some.inj H8
    exact ⟨_, (eB v9), rfl, (.of_eq rfl), .of_eq ((enc_b td4 sz4).cut _ _ _), (hH.noT.unbring h0)⟩
  · subst hb
    refine wpdS_skip rfl rfl rfl ?_
    refine wpdS_skip rfl rfl rfl ?_
    refine wpdS_skip rfl rfl rfl ?_
    refine wpdS_skip rfl rfl rfl ?_
    refine wpdS_skip rfl rfl rfl ?_
    refine wpdS_skip rfl rfl rfl ?_
    refine wpdS_skip rfl rfl rfl ?_
    refine wpdS_mv (a := (eB false)) rfl rfl rfl (o_pick_f tk rfl rfl (Wk.refl _)) ?_
    refine wpdS_mv (a := (eB false)) rfl rfl rfl (o_as tk rfl (Wk.refl _)) ?_
    refine wpdS_nil ?_
    refine awp_ret ?_
    obtain rfl := Option.some.inj H5
    exact ⟨_, (eB false), rfl, (.of_eq rfl), .of_eq ((enc_b td4 sz4).cut _ _ _), (hH.noT.unbring h0)⟩
end Go.Proofs.YthjabhcbkbchjaaDoor
